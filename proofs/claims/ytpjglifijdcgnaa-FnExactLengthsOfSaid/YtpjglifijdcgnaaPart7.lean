/- Words in a table: l11Elements, elementTable, l11Lead, applied; IsIdentityWord. guards: -/
import Derived.Test.YtpjglifijdcgnaaPart6
import Derived.Test.YtpjglifijdcgnaaPart4
import Derived.Test.YtpjglifijdcgnaaProg
import Derived.Test.YtpjglifijdcgnaaPart1
import Derived.RegionTactic
import Derived.Maps.AppendAt
namespace Go.Proofs.Ytpjglifijdcgnaa
open Go.RowKit

abbrev wRo (W : List Int) : Ch := ⟨false, 2, 1, .vals (ivals W)⟩
theorem cosTab_leads {ng : Nat} {rels ws : List (List Int)} (h : Good ng rels ws) (hf : (runC ng rels ws).2.2 = false) : Leads (cosTab ((ng : Int), rels) ws) (cosN ((ng : Int), rels) ws) := by
  refine ⟨fun k hk => cosTab_row (by rw [cosTab_len] at hk; exact hk), fun k hk x hx => ?_⟩
  rw [cosTab_len] at hk
  have hF := full_run h.rl h.wl hf
  rw [cosTab_nat]
  rw [cosN_nat] at hx ⊢
  have := tableC_entry hF hx hk
  have he : iget (lget (tableC ng (runC ng rels ws).1 (runC ng rels ws).2.1) k) x = tabC (runC ng rels ws).1 (runC ng rels ws).2.1 (numbered ng (runC ng rels ws).1 (runC ng rels ws).2.1) k x := by
    simp [tableC, lget, iget, hk, hx, tabC]
  rw [he]
  exact this
theorem smallOk_run {ng : Nat} {rels ws : List (List Int)} (hs : smallOk ((ng : Int), rels) ws = true) : (runC ng rels ws).2.2 = false ∧ cosN ((ng : Int), rels) ws ≤ 400 := by
  unfold smallOk at hs; rw [cosX_nat] at hs; simpa using hs
theorem tabLoop_grow {ng : Nat} {im : List (List Int)} {less : List Int} (hF : Full ng im less) : ∀ (f i : Nat) (s : NSt), TOK less.length less s → NGrow s (tabLoop ng im less f i s)
  | 0, _, s, _ => NGrow.refl s
  | f + 1, i, s, h => by
    unfold tabLoop
    split
    · rename_i hlt
      obtain ⟨h1, h2, _⟩ := tabRow_ok hF h hlt ng (Nat.le_refl _)
      exact NGrow.trans h2 (tabLoop_grow hF f (i + 1) _ h1)
    · exact NGrow.refl s
theorem numbered_grow {ng : Nat} {im : List (List Int)} {less : List Int} (hF : Full ng im less) : NGrow (tabStart less.length) (numbered ng im less) := tabLoop_grow hF _ _ _ (tabStart_ok hF)
theorem cosN_pos {ng : Nat} {rels ws : List (List Int)} (h : Good ng rels ws) (hf : (runC ng rels ws).2.2 = false) : 0 < cosN ((ng : Int), rels) ws := by
  rw [cosN_nat]
  have hF := full_run h.rl h.wl hf
  obtain ⟨hk, _⟩ := numbered_ok hF
  have hF0 := hF.pos
  rcases Nat.eq_zero_or_pos (numbered ng (runC ng rels ws).1 (runC ng rels ws).2.1).1.length with h0 | h0
  · exfalso
    have g1 : NGrow (tabStart (runC ng rels ws).2.1.length) (numbered ng (runC ng rels ws).1 (runC ng rels ws).2.1) := numbered_grow hF
    have := g1.len
    simp [tabStart] at this
    omega
  · exact h0

section
variable {η : Env} {ω : Own?} {w : World} {ins : List (Nm × Ch)}
theorem rdE {x i : Nat} {own : Bool} {E F : Nat} {zss : List (List Int)} {v : Value} (hm : Mem η ω w (fun x => lk x ins)) (hx : lk x ins = some ⟨own, E, 1, .rows F (irows zss) []⟩) (hi : i < zss.length) (hv : Den1 η (.esl x i 0 (lget zss i).length) v) (hn : (lget zss i).length ≤ 17592186044416) : ∃ ao c, v = .slice ao (lget zss i).length c ∧ Ints w ao (lget zss i).length (lget zss i) := by
  obtain ⟨h, h1, h2, h3⟩ := hm.1 x _ hx
  obtain ⟨ao, rfl, h4, _⟩ := hv.2 h h1
  have h3 : Vec own ω w (x, none) h E (irows zss).length (cellsOK η ω w own x (.rows F (irows zss) [])) := h3
  obtain ⟨b', o', u', g1, g2, g3, g4⟩ := h3.get (j := i) (by rw [irows_len]; exact hi)
  obtain ⟨k1, k2, k3⟩ := g4 (by simp) (ivals (lget zss i)) (irows_get hi)
  rw [h4 rfl]
  refine ⟨_, _, rfl, rfl, hn, fun h0 => ?_⟩
  obtain ⟨b2, o2, u2, m1, _, _⟩ := k3.get (j := 0) (by rw [ivals_len]; exact h0)
  refine ⟨b2, o2, m1, fun j hj => ?_⟩
  obtain ⟨b3, o3, u3, n1, n2, n3⟩ := k3.get (j := j) (by rw [ivals_len]; exact hj)
  rw [m1] at n1; injection n1 with n1; injection n1 with n1 n1'; subst n1 n1'
  rw [ivals_get hj] at n3
  rw [n2, ← n3]
end
theorem three_of {us : List Value} {u0 u1 u2 : Value} (hl : us.length = 3) (g0 : us[0]? = some u0) (g1 : us[1]? = some u1) (g2 : us[2]? = some u2) : us = [u0, u1, u2] := by
  match us, hl with
  | [p, q, r], _ => simp at g0 g1 g2; rw [g0, g1, g2]
theorem specLead_fc (T : List (List Int)) (W : List Int) (x m n : Nat) (hn : T.length = n) (hT : Leads T m) (hx : x < m) (hm4 : m ≤ 1000000) (hn4 : n ≤ 1000000) (hW : ∀ z ∈ W, 0 ≤ z ∧ z < T.length) (hWl : W.length ≤ 1000000000) :
    FC Try.prog 54 [(1005, imRo T), (1004, wRo W)] [o1 (.sl 1005 0 n), vv (I6 x), o1 (.sl 1004 0 W.length)] [] (vv (I6 (leadL T x W))) [] :=
  fc_of_calls fun w η ω us hm ⟨hl, ha⟩ => by
    subst hn
    obtain ⟨u0, g0, d0⟩ := ha 0 _ rfl
    obtain ⟨u1, g1, d1⟩ := ha 1 _ rfl
    obtain ⟨u2, g2, d2⟩ := ha 2 _ rfl
    have d1 : u1 = I6 x := d1
    subst d1
    obtain ⟨ao, c, rfl, hi⟩ := rdSS (x := 1005) (zss := T) hm rfl d0 (by omega) fun zs hz => by
      obtain ⟨j, hj, rfl⟩ := List.getElem_of_mem hz
      rw [← lget_lt hj, hT.len j hj]; omega
    obtain ⟨ao', c', rfl, hi'⟩ := rdS (x := 1004) (zs := W) hm rfl d2 (by omega)
    rw [three_of hl g0 g1 g2]
    refine (specLead_any ao _ c T ao' _ c' W x m w hi hi' hx hT hW).mono ?_
    rintro e w' ⟨rfl, rfl⟩
    exact ⟨rfl, Below.refl _ _⟩
theorem specLeadE_fc (T ws : List (List Int)) (i : Nat) (x m n : Nat) (hn : T.length = n) (hT : Leads T m) (hx : x < m) (hm4 : m ≤ 1000000) (hn4 : n ≤ 1000000) (hi0 : i < ws.length) (hW : ∀ z ∈ lget ws i, 0 ≤ z ∧ z < T.length) (hWl : (lget ws i).length ≤ 1000000000) :
    FC Try.prog 54 [(1005, imRo T), (1002, rowsRo ws)] [o1 (.sl 1005 0 n), vv (I6 x), o1 (.esl 1002 i 0 (lget ws i).length)] [] (vv (I6 (leadL T x (lget ws i)))) [] :=
  fc_of_calls fun w η ω us hm ⟨hl, ha⟩ => by
    subst hn
    obtain ⟨u0, g0, d0⟩ := ha 0 _ rfl
    obtain ⟨u1, g1, d1⟩ := ha 1 _ rfl
    obtain ⟨u2, g2, d2⟩ := ha 2 _ rfl
    have d1 : u1 = I6 x := d1
    subst d1
    obtain ⟨ao, c, rfl, hi⟩ := rdSS (x := 1005) (zss := T) hm rfl d0 (by omega) fun zs hz => by
      obtain ⟨j, hj, rfl⟩ := List.getElem_of_mem hz
      rw [← lget_lt hj, hT.len j hj]; omega
    obtain ⟨ao', c', rfl, hi'⟩ := rdE (x := 1002) (zss := ws) hm rfl hi0 d2 (by omega)
    rw [three_of hl g0 g1 g2]
    refine (specLead_any ao _ c T ao' _ c' _ x m w hi hi' hx hT hW).mono ?_
    rintro e w' ⟨rfl, rfl⟩
    exact ⟨rfl, Below.refl _ _⟩
theorem implLead_fc (T : List (List Int)) (W : List Int) (x m n : Nat) (hn : T.length = n) (hT : Leads T m) (hx : x < m) (hm4 : m ≤ 1000000) (hn4 : n ≤ 1000000) (hW : ∀ z ∈ W, 0 ≤ z ∧ z < T.length) (hWl : W.length ≤ 1000000000) :
    FC Try.prog 56 [(1005, imRo T), (1004, wRo W)] [o1 (.sl 1005 0 n), o1 (.sl 1004 0 W.length), vv (I6 x)] [] (vv (I6 (leadL T x W))) [] :=
  fc_of_calls fun w η ω us hm ⟨hl, ha⟩ => by
    subst hn
    obtain ⟨u0, g0, d0⟩ := ha 0 _ rfl
    obtain ⟨u1, g1, d1⟩ := ha 1 _ rfl
    obtain ⟨u2, g2, d2⟩ := ha 2 _ rfl
    have d2 : u2 = I6 x := d2
    subst d2
    obtain ⟨ao, c, rfl, hi⟩ := rdSS (x := 1005) (zss := T) hm rfl d0 (by omega) fun zs hz => by
      obtain ⟨j, hj, rfl⟩ := List.getElem_of_mem hz
      rw [← lget_lt hj, hT.len j hj]; omega
    obtain ⟨ao', c', rfl, hi'⟩ := rdS (x := 1004) (zs := W) hm rfl d1 (by omega)
    rw [three_of hl g0 g1 g2]
    refine (applied_any ao _ c T ao' _ c' W x m w hi hi' hx hT hW).mono ?_
    rintro e w' ⟨rfl, rfl⟩
    exact ⟨rfl, Below.refl _ _⟩
theorem implLeadE_fc (T ws : List (List Int)) (i : Nat) (x m n : Nat) (hn : T.length = n) (hT : Leads T m) (hx : x < m) (hm4 : m ≤ 1000000) (hn4 : n ≤ 1000000) (hi0 : i < ws.length) (hW : ∀ z ∈ lget ws i, 0 ≤ z ∧ z < T.length) (hWl : (lget ws i).length ≤ 1000000000) :
    FC Try.prog 56 [(1005, imRo T), (1002, rowsRo ws)] [o1 (.sl 1005 0 n), o1 (.esl 1002 i 0 (lget ws i).length), vv (I6 x)] [] (vv (I6 (leadL T x (lget ws i)))) [] :=
  fc_of_calls fun w η ω us hm ⟨hl, ha⟩ => by
    subst hn
    obtain ⟨u0, g0, d0⟩ := ha 0 _ rfl
    obtain ⟨u1, g1, d1⟩ := ha 1 _ rfl
    obtain ⟨u2, g2, d2⟩ := ha 2 _ rfl
    have d2 : u2 = I6 x := d2
    subst d2
    obtain ⟨ao, c, rfl, hi⟩ := rdSS (x := 1005) (zss := T) hm rfl d0 (by omega) fun zs hz => by
      obtain ⟨j, hj, rfl⟩ := List.getElem_of_mem hz
      rw [← lget_lt hj, hT.len j hj]; omega
    obtain ⟨ao', c', rfl, hi'⟩ := rdE (x := 1002) (zss := ws) hm rfl hi0 d1 (by omega)
    rw [three_of hl g0 g1 g2]
    refine (applied_any ao _ c T ao' _ c' _ x m w hi hi' hx hT hW).mono ?_
    rintro e w' ⟨rfl, rfl⟩
    exact ⟨rfl, Below.refl _ _⟩
theorem specIs_fc (g : Int) (rels : List (List Int)) (h1 : Fit rels) : FC Try.prog 76 [(1003, rowsRo rels)] [pA g rels.length] [] (vv (.bool (isPres (g, rels)))) [] :=
  fc_of_calls fun w η ω us hm ⟨hl, ha⟩ => by
    obtain ⟨u0, g0, d0⟩ := ha 0 _ rfl
    have hp := rdP (x := 1003) (zss := rels) hm rfl d0 (by have := h1.1; omega) fun zs hz => by have := h1.2 zs hz; omega
    rw [one_of hl g0]
    exact spec11Is_any w hp
theorem specWord_fc (g : Int) (W : List Int) (hg0 : 0 ≤ g) (hg1 : g ≤ 1000) (hW : W.length ≤ 4398046511104) : FC Try.prog 81 [(1004, wRo W)] [vv (I6 g), o1 (.sl 1004 0 W.length)] [] (vv (.bool (isWordTo (g - 1) W))) [] :=
  fc_of_calls fun w η ω us hm ⟨hl, ha⟩ => by
    obtain ⟨u0, g0, d0⟩ := ha 0 _ rfl
    obtain ⟨u1, g1, d1⟩ := ha 1 _ rfl
    have d0 : u0 = I6 g := d0
    subst d0
    obtain ⟨ao', c', rfl, hi'⟩ := rdS (x := 1004) (zs := W) hm rfl d1 (by omega)
    rw [two_of hl g0 g1]
    refine (spec11Word_any g ao' _ c' W w hi' hg0 hg1).mono ?_
    first | (rintro e w' ⟨rfl, rfl⟩; exact ⟨rfl, Below.refl _ _⟩) | (rintro e w' ⟨rfl, hb⟩; exact ⟨rfl, hb⟩)
theorem implWord_fc (g : Int) (W : List Int) (hg0 : 0 ≤ g) (hg1 : g ≤ 1000) (hW : W.length ≤ 4398046511104) : FC Try.prog 70 [(1004, wRo W)] [o1 (.sl 1004 0 W.length), vv (I6 g)] [] (vv (.bool (isWordTo (g - 1) W))) [] :=
  fc_of_calls fun w η ω us hm ⟨hl, ha⟩ => by
    obtain ⟨u0, g0, d0⟩ := ha 0 _ rfl
    obtain ⟨u1, g1, d1⟩ := ha 1 _ rfl
    have d1 : u1 = I6 g := d1
    subst d1
    obtain ⟨ao', c', rfl, hi'⟩ := rdS (x := 1004) (zs := W) hm rfl d0 (by omega)
    rw [two_of hl g0 g1]
    refine (isLetters_any g ao' _ c' W w hi' hg0 hg1).mono ?_
    first | (rintro e w' ⟨rfl, rfl⟩; exact ⟨rfl, Below.refl _ _⟩) | (rintro e w' ⟨rfl, hb⟩; exact ⟨rfl, hb⟩)

def elOk (d : PresD) (W : List Int) : Prop := isPres d = true ∧ isWordTo (d.1 - 1) W = true ∧ smallOk d [] = true
def elC (d : PresD) (W : List Int) : Int := if isPres d = true then (if isWordTo (d.1 - 1) W = true then (if smallOk d [] = true then 0 else 3) else 2) else 1
theorem good_nil {g : Int} {rels : List (List Int)} (h : isPres (g, rels) = true) : ∃ ng : Nat, g = (ng : Int) ∧ Good ng rels [] := good_of (by rw [withOk_nil]; exact h)

set_option maxRecDepth 100000 in
set_option maxHeartbeats 1000000 in
theorem specEl_yes {ng : Nat} {rels : List (List Int)} {W : List Int} (h1 : Fit rels) (h2 : W.length ≤ 4398046511104) (hG : Good ng rels []) (hk : elOk ((ng : Int), rels) W) :
    FC Try.prog 53 [(1004, wRo W), (1003, rowsRo rels)] [pA ng rels.length, o1 (.sl 1004 0 W.length)] [(1005, imOw (cosTab ((ng : Int), rels) []))] (.tup [.one (.sl 1005 0 ng), .one (.val (I6 0))]) [] := by
  obtain ⟨k1, k2, k3⟩ := hk
  have hI := specIs_fc ng rels h1
  rw [k1] at hI
  have hW := specWord_fc ng W (by omega) (by have := hG.hi; omega) h2
  rw [k2] at hW
  have hS := (specSmall_yes hG k3).nilW
  refine fc_enter (nt := 20) Try.func53 rfl rfl (by simp) fun w0 ω0 => ?_
  (refine goes_seq ?_; refine goes_region ?_; apply run_step rfl; (exact stp_box rfl rfl rfl rfl); apply run_step rfl; (exact stp_assign rfl rfl); apply run_step rfl; (exact stp_assign rfl rfl); refine run_nil ?_; refine fin_seq ?_; refine goes_seq ?_; refine goes_block ?_; refine goes_seq ?_; refine goes_region ?_; apply run_step rfl; (exact stp_loadAgg rfl rfl rfl rfl rfl rfl (by as_aux_lemma => kernel_rfl)); apply run_step rfl; (apply call_gate 76; exact stp_callR hI (by as_aux_lemma => kernel_rfl) rfl rfl ⟨⟨.inl rfl, .inl rfl, trivial⟩, trivial⟩ ⟨⟨_, rfl, .inl rfl⟩, trivial⟩ rfl rfl); apply run_step rfl; (exact stp_not rfl rfl); apply run_step rfl; (exact stp_assign rfl rfl); refine run_nil ?_; refine fin_seq ?_)
  refine goes_cond rfl (fun e => by cases e) (fun _ => ?_)
  (refine goes_seq ?_; refine goes_region ?_; apply run_step rfl; (exact stp_fieldAddr (d := 0) rfl rfl rfl (by as_aux_lemma => kernel_rfl)); apply run_step rfl; (exact stp_loadF rfl (by as_aux_lemma => kernel_rfl) rfl rfl rfl rfl); apply run_step rfl; (exact stp_move rfl rfl); apply run_step rfl; (apply call_gate 81; exact stp_callR hW (by as_aux_lemma => kernel_rfl) rfl rfl ⟨rfl, rfl, trivial⟩ ⟨⟨_, rfl, .inl rfl⟩, trivial⟩ rfl rfl); apply run_step rfl; (exact stp_not rfl rfl); apply run_step rfl; (exact stp_assign rfl rfl); refine run_nil ?_; refine fin_seq ?_)
  refine goes_cond rfl (fun e => by cases e) (fun _ => ?_)
  (refine goes_skip ?_; refine fin_block ?_; refine fin_seq ?_; refine goes_seq ?_; refine goes_region ?_; apply run_step rfl; (exact stp_loadAgg rfl rfl rfl rfl rfl rfl (by as_aux_lemma => kernel_rfl)); apply run_step rfl; (apply call_gate 59; exact stp_callN hS (by as_aux_lemma => kernel_rfl) rfl rfl ⟨⟨.inl rfl, .inl rfl, trivial⟩, rfl, trivial⟩ ⟨⟨_, rfl, .inl rfl⟩, trivial⟩ rfl rfl rfl); apply run_step rfl; (exact stp_extract rfl rfl rfl); apply run_step rfl; (exact stp_extract rfl rfl rfl); apply run_step rfl; (exact stp_assign rfl rfl); apply run_step rfl; (exact stp_assign rfl rfl); refine run_nil ?_; refine fin_seq ?_; refine goes_ret ?_)
  exact fin_ret2 (.inl rfl) rfl (.tmp rfl) (.tmp rfl) ⟨rfl, trivial⟩ trivial
set_option maxRecDepth 100000 in
set_option maxHeartbeats 1000000 in
theorem specEl_no {g : Int} {rels : List (List Int)} {W : List Int} (h1 : Fit rels) (h2 : W.length ≤ 4398046511104) (hk : ¬ elOk (g, rels) W) :
    FC Try.prog 53 [(1004, wRo W), (1003, rowsRo rels)] [pA g rels.length, o1 (.sl 1004 0 W.length)] [] (.tup [.one (.val (.slice none 0 0)), .one (.val (I6 (elC (g, rels) W)))]) [] := by
  have hI := specIs_fc g rels h1
  refine fc_enter (nt := 20) Try.func53 rfl rfl (by simp) fun w0 ω0 => ?_
  unfold elC
  by_cases k1 : isPres (g, rels) = true
  · obtain ⟨ng, rfl, hG⟩ := good_nil k1
    rw [k1] at hI
    rw [if_pos k1]
    have hW := specWord_fc ng W (by omega) (by have := hG.hi; omega) h2
    (refine goes_seq ?_; refine goes_region ?_; apply run_step rfl; (exact stp_box rfl rfl rfl rfl); apply run_step rfl; (exact stp_assign rfl rfl); apply run_step rfl; (exact stp_assign rfl rfl); refine run_nil ?_; refine fin_seq ?_; refine goes_seq ?_; refine goes_block ?_; refine goes_seq ?_; refine goes_region ?_; apply run_step rfl; (exact stp_loadAgg rfl rfl rfl rfl rfl rfl (by as_aux_lemma => kernel_rfl)); apply run_step rfl; (apply call_gate 76; exact stp_callR hI (by as_aux_lemma => kernel_rfl) rfl rfl ⟨⟨.inl rfl, .inl rfl, trivial⟩, trivial⟩ ⟨⟨_, rfl, .inl rfl⟩, trivial⟩ rfl rfl); apply run_step rfl; (exact stp_not rfl rfl); apply run_step rfl; (exact stp_assign rfl rfl); refine run_nil ?_; refine fin_seq ?_)
    refine goes_cond rfl (fun e => by cases e) (fun _ => ?_)
    by_cases k2 : isWordTo ((ng : Int) - 1) W = true
    · rw [k2] at hW
      have k3 : ¬ smallOk ((ng : Int), rels) [] = true := fun h => hk ⟨k1, k2, h⟩
      rw [if_pos k2, if_neg k3]
      have hS := (specSmall_no hG k3).nilW
      (refine goes_seq ?_; refine goes_region ?_; apply run_step rfl; (exact stp_fieldAddr (d := 0) rfl rfl rfl (by as_aux_lemma => kernel_rfl)); apply run_step rfl; (exact stp_loadF rfl (by as_aux_lemma => kernel_rfl) rfl rfl rfl rfl); apply run_step rfl; (exact stp_move rfl rfl); apply run_step rfl; (apply call_gate 81; exact stp_callR hW (by as_aux_lemma => kernel_rfl) rfl rfl ⟨rfl, rfl, trivial⟩ ⟨⟨_, rfl, .inl rfl⟩, trivial⟩ rfl rfl); apply run_step rfl; (exact stp_not rfl rfl); apply run_step rfl; (exact stp_assign rfl rfl); refine run_nil ?_; refine fin_seq ?_)
      refine goes_cond rfl (fun e => by cases e) (fun _ => ?_)
      (refine goes_skip ?_; refine fin_block ?_; refine fin_seq ?_; refine goes_seq ?_; refine goes_region ?_; apply run_step rfl; (exact stp_loadAgg rfl rfl rfl rfl rfl rfl (by as_aux_lemma => kernel_rfl)); apply run_step rfl; (apply call_gate 59; exact stp_callR hS (by as_aux_lemma => kernel_rfl) rfl rfl ⟨⟨.inl rfl, .inl rfl, trivial⟩, rfl, trivial⟩ ⟨⟨_, rfl, .inl rfl⟩, trivial⟩ rfl rfl); apply run_step rfl; (exact stp_extract rfl rfl rfl); apply run_step rfl; (exact stp_extract rfl rfl rfl); apply run_step rfl; (exact stp_assign rfl rfl); apply run_step rfl; (exact stp_assign rfl rfl); refine run_nil ?_; refine fin_seq ?_; refine goes_ret ?_)
      exact fin_ret2 (.inl rfl) rfl (.tmp rfl) (.tmp rfl) trivial trivial
    · rw [if_neg k2]
      have k2' : isWordTo ((ng : Int) - 1) W = false := by simpa using k2
      rw [k2'] at hW
      (refine goes_seq ?_; refine goes_region ?_; apply run_step rfl; (exact stp_fieldAddr (d := 0) rfl rfl rfl (by as_aux_lemma => kernel_rfl)); apply run_step rfl; (exact stp_loadF rfl (by as_aux_lemma => kernel_rfl) rfl rfl rfl rfl); apply run_step rfl; (exact stp_move rfl rfl); apply run_step rfl; (apply call_gate 81; exact stp_callR hW (by as_aux_lemma => kernel_rfl) rfl rfl ⟨rfl, rfl, trivial⟩ ⟨⟨_, rfl, .inl rfl⟩, trivial⟩ rfl rfl); apply run_step rfl; (exact stp_not rfl rfl); apply run_step rfl; (exact stp_assign rfl rfl); refine run_nil ?_; refine fin_seq ?_)
      refine goes_cond rfl (fun _ => ?_) (fun e => by cases e)
      (refine goes_seq ?_; refine goes_region ?_; apply run_step rfl; (exact stp_assign rfl rfl); apply run_step rfl; (exact stp_assign rfl rfl); refine run_nil ?_; refine fin_seq ?_; refine goes_ret ?_; refine fin_ret_block ?_; refine fin_ret_then ?_)
      exact fin_ret2 (.inl rfl) rfl (.tmp rfl) (.tmp rfl) trivial trivial
  · have k1' : isPres (g, rels) = false := by simpa using k1
    rw [k1'] at hI
    rw [if_neg k1]
    (refine goes_seq ?_; refine goes_region ?_; apply run_step rfl; (exact stp_box rfl rfl rfl rfl); apply run_step rfl; (exact stp_assign rfl rfl); apply run_step rfl; (exact stp_assign rfl rfl); refine run_nil ?_; refine fin_seq ?_; refine goes_seq ?_; refine goes_block ?_; refine goes_seq ?_; refine goes_region ?_; apply run_step rfl; (exact stp_loadAgg rfl rfl rfl rfl rfl rfl (by as_aux_lemma => kernel_rfl)); apply run_step rfl; (apply call_gate 76; exact stp_callR hI (by as_aux_lemma => kernel_rfl) rfl rfl ⟨⟨.inl rfl, .inl rfl, trivial⟩, trivial⟩ ⟨⟨_, rfl, .inl rfl⟩, trivial⟩ rfl rfl); apply run_step rfl; (exact stp_not rfl rfl); apply run_step rfl; (exact stp_assign rfl rfl); refine run_nil ?_; refine fin_seq ?_)
    refine goes_cond rfl (fun _ => ?_) (fun e => by cases e)
    (refine goes_seq ?_; refine goes_region ?_; apply run_step rfl; (exact stp_assign rfl rfl); apply run_step rfl; (exact stp_assign rfl rfl); refine run_nil ?_; refine fin_seq ?_; refine goes_ret ?_; refine fin_ret_block ?_; refine fin_ret_then ?_)
    exact fin_ret2 (.inl rfl) rfl (.tmp rfl) (.tmp rfl) trivial trivial

set_option maxRecDepth 100000 in
set_option maxHeartbeats 1000000 in
theorem implEl_yes {ng : Nat} {rels : List (List Int)} {W : List Int} (h1 : Fit rels) (h2 : W.length ≤ 4398046511104) (hG : Good ng rels []) (hk : elOk ((ng : Int), rels) W) :
    FC Try.prog 55 [(1004, wRo W), (1003, rowsRo rels)] [pA ng rels.length, o1 (.sl 1004 0 W.length)] [(1005, imOw (cosTab ((ng : Int), rels) []))] (.tup [.one (.sl 1005 0 ng), .one (.val (I6 0))]) [] := by
  obtain ⟨k1, k2, k3⟩ := hk
  have hI := isPres_fc ng rels h1
  rw [k1] at hI
  have hW := implWord_fc ng W (by omega) (by have := hG.hi; omega) h2
  rw [k2] at hW
  have hS := (implSmall_yes hG k3).nilW
  refine fc_enter (nt := 20) Try.func55 rfl rfl (by simp) fun w0 ω0 => ?_
  (refine goes_seq ?_; refine goes_region ?_; apply run_step rfl; (exact stp_box rfl rfl rfl rfl); apply run_step rfl; (exact stp_assign rfl rfl); apply run_step rfl; (exact stp_assign rfl rfl); refine run_nil ?_; refine fin_seq ?_; refine goes_seq ?_; refine goes_block ?_; refine goes_seq ?_; refine goes_region ?_; apply run_step rfl; (exact stp_loadAgg rfl rfl rfl rfl rfl rfl (by as_aux_lemma => kernel_rfl)); apply run_step rfl; (apply call_gate 46; exact stp_callR hI (by as_aux_lemma => kernel_rfl) rfl rfl ⟨⟨.inl rfl, .inl rfl, trivial⟩, trivial⟩ ⟨⟨_, rfl, .inl rfl⟩, trivial⟩ rfl rfl); apply run_step rfl; (exact stp_not rfl rfl); apply run_step rfl; (exact stp_assign rfl rfl); refine run_nil ?_; refine fin_seq ?_)
  refine goes_cond rfl (fun e => by cases e) (fun _ => ?_)
  (refine goes_seq ?_; refine goes_region ?_; apply run_step rfl; (exact stp_move rfl rfl); apply run_step rfl; (exact stp_fieldAddr (d := 0) rfl rfl rfl (by as_aux_lemma => kernel_rfl)); apply run_step rfl; (exact stp_loadF rfl (by as_aux_lemma => kernel_rfl) rfl rfl rfl rfl); apply run_step rfl; (apply call_gate 70; exact stp_callR hW (by as_aux_lemma => kernel_rfl) rfl rfl ⟨rfl, rfl, trivial⟩ ⟨⟨_, rfl, .inl rfl⟩, trivial⟩ rfl rfl); apply run_step rfl; (exact stp_not rfl rfl); apply run_step rfl; (exact stp_assign rfl rfl); refine run_nil ?_; refine fin_seq ?_)
  refine goes_cond rfl (fun e => by cases e) (fun _ => ?_)
  (refine goes_skip ?_; refine fin_block ?_; refine fin_seq ?_; refine goes_seq ?_; refine goes_region ?_; apply run_step rfl; (exact stp_loadAgg rfl rfl rfl rfl rfl rfl (by as_aux_lemma => kernel_rfl)); apply run_step rfl; (apply call_gate 60; exact stp_callN hS (by as_aux_lemma => kernel_rfl) rfl rfl ⟨⟨.inl rfl, .inl rfl, trivial⟩, rfl, trivial⟩ ⟨⟨_, rfl, .inl rfl⟩, trivial⟩ rfl rfl rfl); apply run_step rfl; (exact stp_extract rfl rfl rfl); apply run_step rfl; (exact stp_extract rfl rfl rfl); apply run_step rfl; (exact stp_assign rfl rfl); apply run_step rfl; (exact stp_assign rfl rfl); refine run_nil ?_; refine fin_seq ?_; refine goes_ret ?_)
  exact fin_ret2 (.inl rfl) rfl (.tmp rfl) (.tmp rfl) ⟨rfl, trivial⟩ trivial
set_option maxRecDepth 100000 in
set_option maxHeartbeats 1000000 in
theorem implEl_no {g : Int} {rels : List (List Int)} {W : List Int} (h1 : Fit rels) (h2 : W.length ≤ 4398046511104) (hk : ¬ elOk (g, rels) W) :
    FC Try.prog 55 [(1004, wRo W), (1003, rowsRo rels)] [pA g rels.length, o1 (.sl 1004 0 W.length)] [] (.tup [.one (.val (.slice none 0 0)), .one (.val (I6 (elC (g, rels) W)))]) [] := by
  have hI := isPres_fc g rels h1
  refine fc_enter (nt := 20) Try.func55 rfl rfl (by simp) fun w0 ω0 => ?_
  unfold elC
  by_cases k1 : isPres (g, rels) = true
  · obtain ⟨ng, rfl, hG⟩ := good_nil k1
    rw [k1] at hI
    rw [if_pos k1]
    have hW := implWord_fc ng W (by omega) (by have := hG.hi; omega) h2
    (refine goes_seq ?_; refine goes_region ?_; apply run_step rfl; (exact stp_box rfl rfl rfl rfl); apply run_step rfl; (exact stp_assign rfl rfl); apply run_step rfl; (exact stp_assign rfl rfl); refine run_nil ?_; refine fin_seq ?_; refine goes_seq ?_; refine goes_block ?_; refine goes_seq ?_; refine goes_region ?_; apply run_step rfl; (exact stp_loadAgg rfl rfl rfl rfl rfl rfl (by as_aux_lemma => kernel_rfl)); apply run_step rfl; (apply call_gate 46; exact stp_callR hI (by as_aux_lemma => kernel_rfl) rfl rfl ⟨⟨.inl rfl, .inl rfl, trivial⟩, trivial⟩ ⟨⟨_, rfl, .inl rfl⟩, trivial⟩ rfl rfl); apply run_step rfl; (exact stp_not rfl rfl); apply run_step rfl; (exact stp_assign rfl rfl); refine run_nil ?_; refine fin_seq ?_)
    refine goes_cond rfl (fun e => by cases e) (fun _ => ?_)
    by_cases k2 : isWordTo ((ng : Int) - 1) W = true
    · rw [k2] at hW
      have k3 : ¬ smallOk ((ng : Int), rels) [] = true := fun h => hk ⟨k1, k2, h⟩
      rw [if_pos k2, if_neg k3]
      have hS := (implSmall_no hG k3).nilW
      (refine goes_seq ?_; refine goes_region ?_; apply run_step rfl; (exact stp_move rfl rfl); apply run_step rfl; (exact stp_fieldAddr (d := 0) rfl rfl rfl (by as_aux_lemma => kernel_rfl)); apply run_step rfl; (exact stp_loadF rfl (by as_aux_lemma => kernel_rfl) rfl rfl rfl rfl); apply run_step rfl; (apply call_gate 70; exact stp_callR hW (by as_aux_lemma => kernel_rfl) rfl rfl ⟨rfl, rfl, trivial⟩ ⟨⟨_, rfl, .inl rfl⟩, trivial⟩ rfl rfl); apply run_step rfl; (exact stp_not rfl rfl); apply run_step rfl; (exact stp_assign rfl rfl); refine run_nil ?_; refine fin_seq ?_)
      refine goes_cond rfl (fun e => by cases e) (fun _ => ?_)
      (refine goes_skip ?_; refine fin_block ?_; refine fin_seq ?_; refine goes_seq ?_; refine goes_region ?_; apply run_step rfl; (exact stp_loadAgg rfl rfl rfl rfl rfl rfl (by as_aux_lemma => kernel_rfl)); apply run_step rfl; (apply call_gate 60; exact stp_callR hS (by as_aux_lemma => kernel_rfl) rfl rfl ⟨⟨.inl rfl, .inl rfl, trivial⟩, rfl, trivial⟩ ⟨⟨_, rfl, .inl rfl⟩, trivial⟩ rfl rfl); apply run_step rfl; (exact stp_extract rfl rfl rfl); apply run_step rfl; (exact stp_extract rfl rfl rfl); apply run_step rfl; (exact stp_assign rfl rfl); apply run_step rfl; (exact stp_assign rfl rfl); refine run_nil ?_; refine fin_seq ?_; refine goes_ret ?_)
      exact fin_ret2 (.inl rfl) rfl (.tmp rfl) (.tmp rfl) trivial trivial
    · rw [if_neg k2]
      have k2' : isWordTo ((ng : Int) - 1) W = false := by simpa using k2
      rw [k2'] at hW
      (refine goes_seq ?_; refine goes_region ?_; apply run_step rfl; (exact stp_move rfl rfl); apply run_step rfl; (exact stp_fieldAddr (d := 0) rfl rfl rfl (by as_aux_lemma => kernel_rfl)); apply run_step rfl; (exact stp_loadF rfl (by as_aux_lemma => kernel_rfl) rfl rfl rfl rfl); apply run_step rfl; (apply call_gate 70; exact stp_callR hW (by as_aux_lemma => kernel_rfl) rfl rfl ⟨rfl, rfl, trivial⟩ ⟨⟨_, rfl, .inl rfl⟩, trivial⟩ rfl rfl); apply run_step rfl; (exact stp_not rfl rfl); apply run_step rfl; (exact stp_assign rfl rfl); refine run_nil ?_; refine fin_seq ?_)
      refine goes_cond rfl (fun _ => ?_) (fun e => by cases e)
      (refine goes_seq ?_; refine goes_region ?_; apply run_step rfl; (exact stp_assign rfl rfl); apply run_step rfl; (exact stp_assign rfl rfl); refine run_nil ?_; refine fin_seq ?_; refine goes_ret ?_; refine fin_ret_block ?_; refine fin_ret_then ?_)
      exact fin_ret2 (.inl rfl) rfl (.tmp rfl) (.tmp rfl) trivial trivial
  · have k1' : isPres (g, rels) = false := by simpa using k1
    rw [k1'] at hI
    rw [if_neg k1]
    (refine goes_seq ?_; refine goes_region ?_; apply run_step rfl; (exact stp_box rfl rfl rfl rfl); apply run_step rfl; (exact stp_assign rfl rfl); apply run_step rfl; (exact stp_assign rfl rfl); refine run_nil ?_; refine fin_seq ?_; refine goes_seq ?_; refine goes_block ?_; refine goes_seq ?_; refine goes_region ?_; apply run_step rfl; (exact stp_loadAgg rfl rfl rfl rfl rfl rfl (by as_aux_lemma => kernel_rfl)); apply run_step rfl; (apply call_gate 46; exact stp_callR hI (by as_aux_lemma => kernel_rfl) rfl rfl ⟨⟨.inl rfl, .inl rfl, trivial⟩, trivial⟩ ⟨⟨_, rfl, .inl rfl⟩, trivial⟩ rfl rfl); apply run_step rfl; (exact stp_not rfl rfl); apply run_step rfl; (exact stp_assign rfl rfl); refine run_nil ?_; refine fin_seq ?_)
    refine goes_cond rfl (fun _ => ?_) (fun e => by cases e)
    (refine goes_seq ?_; refine goes_region ?_; apply run_step rfl; (exact stp_assign rfl rfl); apply run_step rfl; (exact stp_assign rfl rfl); refine run_nil ?_; refine fin_seq ?_; refine goes_ret ?_; refine fin_ret_block ?_; refine fin_ret_then ?_)
    exact fin_ret2 (.inl rfl) rfl (.tmp rfl) (.tmp rfl) trivial trivial

def idR (d : PresD) (W : List Int) : Bool := if elC d W = 0 then leadL (cosTab d []) 0 W == 0 else false
theorem elC_ok {d : PresD} {W : List Int} (h : elOk d W) : elC d W = 0 := by unfold elC; rw [if_pos h.1, if_pos h.2.1, if_pos h.2.2]
theorem elC_no {d : PresD} {W : List Int} (h : ¬ elOk d W) : elC d W ≠ 0 := by
  unfold elC
  split
  · split
    · split
      · exact fun _ => h ⟨by assumption, by assumption, by assumption⟩
      · decide
    · decide
  · decide
theorem word_of {ng : Nat} {rels : List (List Int)} {W : List Int} (hk : elOk ((ng : Int), rels) W) : (∀ z ∈ W, 0 ≤ z ∧ z < (cosTab ((ng : Int), rels) []).length) ∧ W.length ≤ 1000000000 := by
  have := isWordTo_spec (ng := ng) rfl hk.2.1
  refine ⟨fun z hz => ?_, by omega⟩
  rw [cosTab_len]; exact this.1 z hz
set_option maxRecDepth 100000 in
set_option maxHeartbeats 1000000 in
theorem specId_fc (g : Int) (rels : List (List Int)) (W : List Int) (h1 : Fit rels) (h2 : W.length ≤ 4398046511104) :
    FC Try.prog 23 [(1004, wRo W), (1003, rowsRo rels)] [pA g rels.length, o1 (.sl 1004 0 W.length)] [] (.tup [.one (.val (.bool (idR (g, rels) W))), .one (.val (I6 (elC (g, rels) W)))]) [] := by
  refine fc_enter (nt := 21) Try.func23 rfl rfl (by simp) fun w0 ω0 => ?_
  by_cases hk : elOk (g, rels) W
  · obtain ⟨ng, rfl, hG⟩ := good_nil hk.1
    have hE := specEl_yes h1 h2 hG hk
    have hs := smallOk_run hk.2.2
    have hw := word_of hk
    have hL : FC Try.prog 54 [(1005, imRo (cosTab ((ng : Int), rels) [])), (1004, wRo W)] [o1 (.sl 1005 0 ng), vv (I6 (0 : Nat)), o1 (.sl 1004 0 W.length)] [] (vv (I6 (leadL (cosTab ((ng : Int), rels) []) (0 : Nat) W))) [] :=
      specLead_fc _ W 0 _ ng (cosTab_len _ _ _) (cosTab_leads hG hs.1) (cosN_pos hG hs.1) (by omega) (by have := hG.hi; omega) hw.1 hw.2
    have hc := elC_ok hk
    unfold idR
    rw [hc, if_pos rfl]
    generalize cosTab ((ng : Int), rels) [] = T at *
    (refine goes_seq ?_; refine goes_region ?_; apply run_step rfl; (exact stp_box rfl rfl rfl rfl); apply run_step rfl; (exact stp_assign rfl rfl); apply run_step rfl; (exact stp_assign rfl rfl); refine run_nil ?_; refine fin_seq ?_; refine goes_seq ?_; refine goes_region ?_; apply run_step rfl; (exact stp_loadAgg rfl rfl rfl rfl rfl rfl (by as_aux_lemma => kernel_rfl)); apply run_step rfl; (exact stp_move rfl rfl); apply run_step rfl; (apply call_gate 53; exact stp_callN hE (by as_aux_lemma => kernel_rfl) rfl rfl ⟨⟨.inl rfl, .inl rfl, trivial⟩, rfl, trivial⟩ ⟨⟨_, rfl, .inl rfl⟩, ⟨_, rfl, .inl rfl⟩, trivial⟩ rfl rfl rfl); apply run_step rfl; (exact stp_move rfl rfl); apply run_step rfl; (exact stp_extract rfl rfl rfl); apply run_step rfl; (exact stp_extract rfl rfl rfl); apply run_step rfl; (exact stp_assign rfl rfl); apply run_step rfl; (exact stp_assign rfl rfl); refine run_nil ?_; refine fin_seq ?_; refine goes_seq ?_; refine goes_seq ?_; refine goes_region ?_; apply run_step rfl; (exact stp_move rfl rfl); apply run_step rfl; (exact stp_bin rfl rfl rfl rfl); refine run_nil ?_; refine fin_seq ?_)
    refine goes_cond rfl (fun e => by cases e) (fun _ => ?_)
    (refine goes_skip ?_; refine fin_seq ?_; refine goes_seq ?_; refine goes_region ?_; apply run_step rfl; (exact stp_move rfl rfl); apply run_step rfl; (exact stp_move rfl rfl); apply run_step rfl; (apply call_gate 54; exact stp_callR hL (by as_aux_lemma => kernel_rfl) rfl rfl ⟨rfl, rfl, rfl, trivial⟩ ⟨⟨_, rfl, .inr rfl⟩, ⟨_, rfl, .inl rfl⟩, trivial⟩ rfl rfl); apply run_step rfl; (exact stp_bin rfl rfl rfl rfl); apply run_step rfl; (exact stp_assign rfl rfl); apply run_step rfl; (exact stp_assign rfl rfl); refine run_nil ?_; refine fin_seq ?_; refine goes_ret ?_)
    exact fin_ret2 (.inl rfl) rfl (.tmp rfl) (.tmp rfl) trivial trivial
  · have hE := specEl_no h1 h2 hk
    have hc := elC_no hk
    unfold idR
    rw [if_neg hc]
    (refine goes_seq ?_; refine goes_region ?_; apply run_step rfl; (exact stp_box rfl rfl rfl rfl); apply run_step rfl; (exact stp_assign rfl rfl); apply run_step rfl; (exact stp_assign rfl rfl); refine run_nil ?_; refine fin_seq ?_; refine goes_seq ?_; refine goes_region ?_; apply run_step rfl; (exact stp_loadAgg rfl rfl rfl rfl rfl rfl (by as_aux_lemma => kernel_rfl)); apply run_step rfl; (exact stp_move rfl rfl); apply run_step rfl; (apply call_gate 53; exact stp_callR hE (by as_aux_lemma => kernel_rfl) rfl rfl ⟨⟨.inl rfl, .inl rfl, trivial⟩, rfl, trivial⟩ ⟨⟨_, rfl, .inl rfl⟩, ⟨_, rfl, .inl rfl⟩, trivial⟩ rfl rfl); apply run_step rfl; (exact stp_move rfl rfl); apply run_step rfl; (exact stp_extract rfl rfl rfl); apply run_step rfl; (exact stp_extract rfl rfl rfl); apply run_step rfl; (exact stp_assign rfl rfl); apply run_step rfl; (exact stp_assign rfl rfl); refine run_nil ?_; refine fin_seq ?_; refine goes_seq ?_; refine goes_seq ?_; refine goes_region ?_; apply run_step rfl; (exact stp_move rfl rfl); apply run_step rfl; (exact stp_bin rfl rfl rfl rfl); refine run_nil ?_; refine fin_seq ?_)
    refine goes_cond rfl (fun _ => ?_) (fun e => ?_)
    · (refine goes_seq ?_; refine goes_region ?_; apply run_step rfl; (exact stp_move rfl rfl); apply run_step rfl; (exact stp_assign rfl rfl); apply run_step rfl; (exact stp_assign rfl rfl); refine run_nil ?_; refine fin_seq ?_; refine goes_ret ?_; refine fin_ret_then ?_)
      exact fin_ret2 (.inl rfl) rfl (.tmp rfl) (.tmp rfl) trivial trivial
    · exfalso; simp at e; exact hc e
set_option maxRecDepth 100000 in
set_option maxHeartbeats 1000000 in
theorem implId_fc (g : Int) (rels : List (List Int)) (W : List Int) (h1 : Fit rels) (h2 : W.length ≤ 4398046511104) :
    FC Try.prog 25 [(1004, wRo W), (1003, rowsRo rels)] [pA g rels.length, o1 (.sl 1004 0 W.length)] [] (.tup [.one (.val (.bool (idR (g, rels) W))), .one (.val (I6 (elC (g, rels) W)))]) [] := by
  refine fc_enter (nt := 23) Try.func25 rfl rfl (by simp) fun w0 ω0 => ?_
  by_cases hk : elOk (g, rels) W
  · obtain ⟨ng, rfl, hG⟩ := good_nil hk.1
    have hE := implEl_yes h1 h2 hG hk
    have hs := smallOk_run hk.2.2
    have hw := word_of hk
    have hL : FC Try.prog 56 [(1005, imRo (cosTab ((ng : Int), rels) [])), (1004, wRo W)] [o1 (.sl 1005 0 ng), o1 (.sl 1004 0 W.length), vv (I6 (0 : Nat))] [] (vv (I6 (leadL (cosTab ((ng : Int), rels) []) (0 : Nat) W))) [] :=
      implLead_fc _ W 0 _ ng (cosTab_len _ _ _) (cosTab_leads hG hs.1) (cosN_pos hG hs.1) (by omega) (by have := hG.hi; omega) hw.1 hw.2
    have hc := elC_ok hk
    unfold idR
    rw [hc, if_pos rfl]
    generalize cosTab ((ng : Int), rels) [] = T at *
    (refine goes_seq ?_; refine goes_region ?_; apply run_step rfl; (exact stp_box rfl rfl rfl rfl); apply run_step rfl; (exact stp_assign rfl rfl); apply run_step rfl; (exact stp_assign rfl rfl); refine run_nil ?_; refine fin_seq ?_; refine goes_seq ?_; refine goes_region ?_; apply run_step rfl; (exact stp_loadAgg rfl rfl rfl rfl rfl rfl (by as_aux_lemma => kernel_rfl)); apply run_step rfl; (exact stp_move rfl rfl); apply run_step rfl; (first | (apply call_gate 55; exact stp_callN hE (by as_aux_lemma => kernel_rfl) rfl rfl ⟨⟨.inl rfl, .inl rfl, trivial⟩, rfl, trivial⟩ ⟨⟨_, rfl, .inl rfl⟩, ⟨_, rfl, .inl rfl⟩, trivial⟩ rfl rfl rfl) | (apply call_gate 56; exact stp_callR hL (by as_aux_lemma => kernel_rfl) rfl rfl ⟨rfl, rfl, rfl, trivial⟩ ⟨⟨_, rfl, .inr rfl⟩, ⟨_, rfl, .inl rfl⟩, trivial⟩ rfl rfl)); apply run_step rfl; (exact stp_move rfl rfl); apply run_step rfl; (exact stp_extract rfl rfl rfl); apply run_step rfl; (exact stp_extract rfl rfl rfl); apply run_step rfl; (exact stp_assign rfl rfl); apply run_step rfl; (exact stp_assign rfl rfl); refine run_nil ?_; refine fin_seq ?_; refine goes_seq ?_; refine goes_region ?_; apply run_step rfl; (exact stp_move rfl rfl); apply run_step rfl; (exact stp_bin rfl rfl rfl rfl); apply run_step rfl; (exact stp_move rfl rfl); apply run_gYes rfl rfl rfl; (exact stp_move rfl rfl); apply run_gYes rfl rfl rfl; (exact stp_move rfl rfl); apply run_gYes rfl rfl rfl; (first | (apply call_gate 55; exact stp_callN hE (by as_aux_lemma => kernel_rfl) rfl rfl ⟨⟨.inl rfl, .inl rfl, trivial⟩, rfl, trivial⟩ ⟨⟨_, rfl, .inl rfl⟩, ⟨_, rfl, .inl rfl⟩, trivial⟩ rfl rfl rfl) | (apply call_gate 56; exact stp_callR hL (by as_aux_lemma => kernel_rfl) rfl rfl ⟨rfl, rfl, rfl, trivial⟩ ⟨⟨_, rfl, .inr rfl⟩, ⟨_, rfl, .inl rfl⟩, trivial⟩ rfl rfl)); apply run_gYes rfl rfl rfl; (exact stp_bin rfl rfl rfl rfl); apply run_step rfl; (exact stp_pickT rfl rfl rfl); apply run_step rfl; (exact stp_move rfl rfl); apply run_step rfl; (exact stp_assign rfl rfl); apply run_step rfl; (exact stp_assign rfl rfl); refine run_nil ?_; refine fin_seq ?_; refine goes_ret ?_)
    exact fin_ret2 (.inl rfl) rfl (.tmp rfl) (.tmp rfl) trivial trivial
  · have hE := implEl_no h1 h2 hk
    have hc := elC_no hk
    unfold idR
    rw [if_neg hc]
    (refine goes_seq ?_; refine goes_region ?_; apply run_step rfl; (exact stp_box rfl rfl rfl rfl); apply run_step rfl; (exact stp_assign rfl rfl); apply run_step rfl; (exact stp_assign rfl rfl); refine run_nil ?_; refine fin_seq ?_; refine goes_seq ?_; refine goes_region ?_; apply run_step rfl; (exact stp_loadAgg rfl rfl rfl rfl rfl rfl (by as_aux_lemma => kernel_rfl)); apply run_step rfl; (exact stp_move rfl rfl); apply run_step rfl; (apply call_gate 55; exact stp_callR hE (by as_aux_lemma => kernel_rfl) rfl rfl ⟨⟨.inl rfl, .inl rfl, trivial⟩, rfl, trivial⟩ ⟨⟨_, rfl, .inl rfl⟩, ⟨_, rfl, .inl rfl⟩, trivial⟩ rfl rfl); apply run_step rfl; (exact stp_move rfl rfl); apply run_step rfl; (exact stp_extract rfl rfl rfl); apply run_step rfl; (exact stp_extract rfl rfl rfl); apply run_step rfl; (exact stp_assign rfl rfl); apply run_step rfl; (exact stp_assign rfl rfl); refine run_nil ?_; refine fin_seq ?_; refine goes_seq ?_; refine goes_region ?_; apply run_step rfl; (exact stp_move rfl rfl); apply run_step rfl; (exact stp_bin rfl rfl rfl rfl); apply run_step rfl; (exact stp_move rfl rfl))
    refine run_bool 16 rfl (fun e => ?_) (fun e => ?_)
    · exfalso; simp at e; exact hc e
    · (apply run_gNo rfl rfl rfl rfl rfl; apply run_gNo rfl rfl rfl rfl rfl; apply run_gNo rfl rfl rfl rfl rfl; apply run_gNo rfl rfl rfl rfl rfl; apply run_step rfl; (exact stp_pickF rfl rfl rfl); apply run_step rfl; (exact stp_move rfl rfl); apply run_step rfl; (exact stp_assign rfl rfl); apply run_step rfl; (exact stp_assign rfl rfl); refine run_nil ?_; refine fin_seq ?_; refine goes_ret ?_)
      exact fin_ret2 (.inl rfl) rfl (.tmp rfl) (.tmp rfl) trivial trivial

/-! in words -/
theorem len_of {E : Nat} {w : World} {lo hi : Nat} {v : Value} {zs : List Int} (h : OwnS E w lo hi v zs) : zs.length ≤ 4398046511104 := by
  obtain ⟨⟨ao, n, c, rfl, ho⟩, _⟩ := h
  have h1 := ho.len
  rw [List.length_map] at h1
  have h2 := ho.2
  omega
theorem callPS {f : FuncId} {outs : List (Nm × Ch)} {res : AV} {d : PresD} {W : List Int} (hf : Fit d.2 → W.length ≤ 4398046511104 → FC Try.prog f [(1004, wRo W), (1003, rowsRo d.2)] [pA d.1 d.2.length, o1 (.sl 1004 0 W.length)] outs res []) {E1 E E' : Nat} {w : World} {lo hi lo' hi' : Nat} {v v' : Value} (h : OwP E1 E w lo hi v d) (h' : OwnS E' w lo' hi' v' W) :
    Calls Try.prog f #[v, v'] w fun e w' => ∃ v η ω, e = .returned v ∧ Den η res v ∧ Mem η ω w' (fun x => lk x outs) ∧ Below w.heap.size w w' ∧ ∀ b, b < w.heap.size → ω b = none := by
  obtain ⟨u, rfl, hs⟩ := ofP h
  obtain ⟨hd, r, rfl, hv⟩ := ofSS 1003 37 2 hs
  obtain ⟨hd', r', rfl, hv'⟩ := ofS 1004 2 h'.1
  exact (hf (fit_of hs) (len_of h')).call (l := [(1004, (wRo W, hd', r')), (1003, (rowsRo d.2, hd, r))]) (us := [_, _]) (fun p hp => by simp at hp; rcases hp with rfl | rfl; exact hv'; exact hv) rfl
    (denL2 (denP (den_sl (q := (rowsRo d.2, hd, r)) rfl)) (den_sl (q := (wRo W, hd', r')) rfl))
theorem api_specId {E1 E E' : Nat} {lo hi lo' hi' : Nat} {v v' : Value} {d : PresD} {W : List Int} (w : World) (h : OwP E1 E w lo hi v d) (h' : OwnS E' w lo' hi' v' W) :
    Calls Try.prog 23 #[v, v'] w fun e w' => e = .returned (.tuple #[.bool (idR d W), .int .i64 (elC d W)]) ∧ Below w.heap.size w w' := two_vals (callPS (fun k1 k2 => specId_fc d.1 d.2 W k1 k2) h h')
theorem api_implId {E1 E E' : Nat} {lo hi lo' hi' : Nat} {v v' : Value} {d : PresD} {W : List Int} (w : World) (h : OwP E1 E w lo hi v d) (h' : OwnS E' w lo' hi' v' W) :
    Calls Try.prog 25 #[v, v'] w fun e w' => e = .returned (.tuple #[.bool (idR d W), .int .i64 (elC d W)]) ∧ Below w.heap.size w w' := two_vals (callPS (fun k1 k2 => implId_fc d.1 d.2 W k1 k2) h h')
end Go.Proofs.Ytpjglifijdcgnaa

/- IsNormalSubgroup. -/
namespace Go.Proofs.Ytpjglifijdcgnaa
open Go.RowKit

def fixAllB (T ws : List (List Int)) (n : Nat) : Bool := (List.range ws.length).all fun i => (List.range n).all fun c => leadL T ((c : Nat) : Int) (lget ws i) == (c : Int)
theorem fixAllB_iff {T ws : List (List Int)} {n : Nat} : fixAllB T ws n = true ↔ ∀ i, i < ws.length → ∀ c, c < n → leadL T ((c : Nat) : Int) (lget ws i) = (c : Int) := by
  unfold fixAllB
  simp only [List.all_eq_true, List.mem_range, beq_iff_eq]
def nrR (d : PresD) (ws : List (List Int)) : Bool := if ctC d ws = 0 then fixAllB (cosTab d ws) ws (cosN d ws) else false
theorem ctC_ok {d : PresD} {ws : List (List Int)} (h : withOk d ws = true ∧ smallOk d ws = true) : ctC d ws = 0 := by unfold ctC; rw [if_pos h.1, if_pos h.2]
theorem ctC_no {d : PresD} {ws : List (List Int)} (h : ¬ (withOk d ws = true ∧ smallOk d ws = true)) : ctC d ws ≠ 0 := by
  unfold ctC
  split
  · split
    · exact fun _ => h ⟨by assumption, by assumption⟩
    · decide
  · decide

set_option maxRecDepth 100000 in
set_option maxHeartbeats 2000000 in
theorem specNr_fc (g : Int) (rels ws : List (List Int)) (h1 : Fit rels) (h2 : Fit ws) :
    FC Try.prog 34 [(1002, rowsRo ws), (1003, rowsRo rels)] [pA g rels.length, o1 (.sl 1002 0 ws.length)] [] (.tup [.one (.val (.bool (nrR (g, rels) ws))), .one (.val (I6 (ctC (g, rels) ws)))]) [] := by
  refine fc_enter (nt := 42) Try.func34 rfl rfl (by simp) fun w0 ω0 => ?_
  by_cases hk : withOk (g, rels) ws = true ∧ smallOk (g, rels) ws = true
  · obtain ⟨ng, rfl, hG⟩ := good_of hk.1
    have hE := specCT_yes ng rels ws h1 h2 hk.1 hG hk.2
    have hs := smallOk_run hk.2
    have hL : ∀ i x, i < ws.length → x < cosN ((ng : Int), rels) ws → FC Try.prog 54 [(1005, imRo (cosTab ((ng : Int), rels) ws)), (1002, rowsRo ws)] [o1 (.sl 1005 0 ng), vv (I6 x), o1 (.esl 1002 i 0 (lget ws i).length)] [] (vv (I6 (leadL (cosTab ((ng : Int), rels) ws) x (lget ws i)))) [] := fun i x hi hx =>
      specLeadE_fc _ ws i x _ ng (cosTab_len _ _ _) (cosTab_leads hG hs.1) hx (by omega) (by have := hG.hi; omega) hi (by rw [cosTab_len]; exact hG.wl _ (lget_mem hi)) (hG.wn _ (lget_mem hi))
    have hc := ctC_ok hk
    unfold nrR
    rw [hc, if_pos rfl]
    have hlen : (irows (cosTab ((ng : Int), rels) ws)).length = ng := by rw [irows_len, cosTab_len]
    have hpos := hG.pos
    have hr0 : (lget (cosTab ((ng : Int), rels) ws) 0).length = cosN ((ng : Int), rels) ws := cosTab_row hpos
    have hrow : (irows (cosTab ((ng : Int), rels) ws))[0]? = some (ivals (lget (cosTab ((ng : Int), rels) ws) 0)) := irows_get (by rw [← irows_len, hlen]; exact hpos)
    have hN := hs.2
    have hwl := hG.w
    generalize cosN ((ng : Int), rels) ws = N at *
    generalize cosTab ((ng : Int), rels) ws = T at *
    (refine goes_seq ?_; refine goes_region ?_; apply run_step rfl; (exact stp_box rfl rfl rfl rfl); apply run_step rfl; (exact stp_assign rfl rfl); apply run_step rfl; (exact stp_assign rfl rfl); refine run_nil ?_; refine fin_seq ?_; refine goes_seq ?_; refine goes_region ?_; apply run_step rfl; (exact stp_loadAgg rfl rfl rfl rfl rfl rfl (by as_aux_lemma => kernel_rfl)); apply run_step rfl; (exact stp_move rfl rfl); apply run_step rfl; (apply call_gate 29; exact stp_callN hE (by as_aux_lemma => kernel_rfl) rfl rfl ⟨⟨.inl rfl, .inl rfl, trivial⟩, rfl, trivial⟩ ⟨⟨_, rfl, .inl rfl⟩, ⟨_, rfl, .inl rfl⟩, trivial⟩ rfl rfl rfl); apply run_step rfl; (exact stp_move rfl rfl); apply run_step rfl; (exact stp_extract rfl rfl rfl); apply run_step rfl; (exact stp_extract rfl rfl rfl); apply run_step rfl; (exact stp_assign rfl rfl); apply run_step rfl; (exact stp_assign rfl rfl); refine run_nil ?_; refine fin_seq ?_; refine goes_seq ?_; refine goes_seq ?_; refine goes_region ?_; apply run_step rfl; (exact stp_move rfl rfl); apply run_step rfl; (exact stp_bin rfl rfl rfl rfl); refine run_nil ?_; refine fin_seq ?_)
    refine goes_cond rfl (fun e => by cases e) (fun _ => ?_)
    (refine goes_skip ?_; refine fin_seq ?_; refine goes_seq ?_; refine goes_seq ?_; refine goes_region ?_; apply run_step rfl; (exact stp_assign rfl rfl); refine run_nil ?_; refine fin_seq ?_; refine goes_block ?_)
    refine goes_loop (fun i : Nat => St.of [(1, o1 (.sl 1002 0 ws.length)), (6, o1 (.sl 1005 0 ng)), (8, vv (I6 i))] [(1005, imOw T), (1002, rowsRo ws)]) (fun i => i ≤ ws.length ∧ ∀ j, j < i → ∀ c, c < N → leadL T ((c : Nat) : Int) (lget ws j) = (c : Int)) (fun i => ws.length - i) 0 ⟨Nat.zero_le _, fun j hj => by omega⟩ (Wk.of ⟨rfl, rfl, rfl, trivial⟩ ⟨rfl, rfl, trivial⟩ trivial) ?_
    rintro i ⟨hi, hfix⟩
    (refine goes_seq ?_; refine goes_seq ?_; refine goes_region ?_; apply run_step rfl; (exact stp_move rfl rfl); apply run_step rfl; (exact stp_move rfl rfl); apply run_step rfl; (exact stp_len rfl rfl rfl (by as_aux_lemma => kernel_rfl)); apply run_step rfl; (exact stp_bin rfl rfl rfl rfl); refine run_nil ?_; refine fin_seq ?_)
    refine goes_if rfl (fun hlt => ?_) (fun hlt => ?_)
    · have hlt' : i < ws.length := by omega
      have hroww : (irows ws)[i]? = some (ivals (lget ws i)) := irows_get hlt'
      (refine goes_skip ?_; refine fin_seq ?_; refine goes_seq ?_; refine goes_block ?_; refine goes_seq ?_; refine goes_region ?_; apply run_step rfl; (exact stp_assign rfl rfl); refine run_nil ?_; refine fin_seq ?_; refine goes_block ?_)
      refine goes_loop (fun c : Nat => St.of [(1, o1 (.sl 1002 0 ws.length)), (6, o1 (.sl 1005 0 ng)), (8, vv (I6 i)), (9, vv (I6 c))] [(1005, imOw T), (1002, rowsRo ws)]) (fun c => c ≤ N ∧ ∀ x, x < c → leadL T ((x : Nat) : Int) (lget ws i) = (x : Int)) (fun c => N - c) 0 ⟨Nat.zero_le _, fun x hx => by omega⟩ (Wk.of ⟨rfl, rfl, rfl, rfl, trivial⟩ ⟨rfl, rfl, trivial⟩ trivial) ?_
      rintro c ⟨hcN, hfx⟩
      (refine goes_seq ?_; refine goes_seq ?_; refine goes_region ?_; apply run_step rfl; (exact stp_move rfl rfl); apply run_step rfl; (exact stp_move rfl rfl); apply run_step rfl; (exact stp_ix (j := 0) rfl rfl rfl rfl rfl (by as_aux_lemma => kernel_rfl) rfl hpos (Nat.le_of_eq hlen.symm)); apply run_step rfl; (exact stp_loadR rfl (by as_aux_lemma => kernel_rfl) rfl rfl rfl (by first | assumption | exact ivals_get (by assumption) | exact irows_get (by assumption) | exact ivals_get (by omega) | exact irows_get (by omega) | rfl) (by first | exact ivals_len _ | assumption | rfl)); apply run_step rfl; (exact stp_len rfl rfl rfl (by as_aux_lemma => kernel_rfl)); apply run_step rfl; (exact stp_bin rfl rfl rfl rfl); refine run_nil ?_; refine fin_seq ?_)
      refine goes_if rfl (fun hcl => ?_) (fun hcl => ?_)
      · have hcl' : c < N := by omega
        have hLc := hL i c hlt' hcl'
        (refine goes_skip ?_; refine fin_seq ?_; refine goes_seq ?_; refine goes_block ?_; refine goes_seq ?_; refine goes_region ?_; apply run_step rfl; (exact stp_move rfl rfl); apply run_step rfl; (exact stp_move rfl rfl); apply run_step rfl; (exact stp_move rfl rfl); apply run_step rfl; (exact stp_move rfl rfl); apply run_step rfl; (exact stp_ix rfl rfl rfl rfl rfl (by as_aux_lemma => kernel_rfl) (by first | rfl | exact (Int.toNat_of_nonneg (by omega)).symm) (by first | assumption | omega | (simp; omega)) (by first | exact Nat.le_refl _ | exact Nat.le_of_eq (ivals_len _).symm | exact Nat.le_of_eq (irows_len _).symm | (refine Nat.le_trans ?_ (Nat.le_of_eq (ivals_len _).symm); (first | omega | (simp; done) | (simp; omega))) | (refine Nat.le_trans ?_ (Nat.le_of_eq (irows_len _).symm); (first | omega | (simp; done) | (simp; omega))))); apply run_step rfl; (exact stp_loadR rfl (by as_aux_lemma => kernel_rfl) rfl rfl rfl (by first | assumption | exact ivals_get (by assumption) | exact irows_get (by assumption) | exact ivals_get (by omega) | exact irows_get (by omega) | rfl) (by first | exact ivals_len _ | assumption | rfl)); apply run_step rfl; (apply call_gate 54; exact stp_callR hLc (by as_aux_lemma => kernel_rfl) rfl rfl ⟨rfl, rfl, rfl, trivial⟩ ⟨⟨_, rfl, .inr rfl⟩, ⟨_, rfl, .inl rfl⟩, trivial⟩ rfl rfl); apply run_step rfl; (exact stp_move rfl rfl); apply run_step rfl; (exact stp_bin rfl rfl rfl rfl); refine run_nil ?_; refine fin_seq ?_)
        refine goes_cond rfl (fun hne => ?_) (fun hne => ?_)
        · have hne' : leadL T (c : Int) (lget ws i) ≠ (c : Int) := by simpa using hne
          have hno : fixAllB T ws N = false := by rw [← Bool.not_eq_true]; exact fun h => hne' (fixAllB_iff.1 h i hlt' c hcl')
          rw [hno]
          (refine goes_seq ?_; refine goes_region ?_; apply run_step rfl; (exact stp_assign rfl rfl); apply run_step rfl; (exact stp_assign rfl rfl); refine run_nil ?_; refine fin_seq ?_; refine goes_ret ?_; refine fin_ret_block ?_; refine fin_ret_then ?_; refine fin_ret_then ?_; refine fin_ret_block ?_; refine fin_ret_block ?_; refine fin_ret_then ?_; refine fin_ret_then ?_; refine fin_ret_block ?_; refine fin_ret_then ?_)
          exact fin_ret2 (.inl rfl) rfl (.tmp rfl) (.tmp rfl) trivial trivial
        · have heq : leadL T (c : Int) (lget ws i) = (c : Int) := by simpa using hne
          (refine goes_skip ?_; refine fin_block ?_; refine fin_seq ?_; refine goes_region ?_; apply run_step rfl; (exact stp_move rfl rfl); apply run_step rfl; (exact stp_add rfl rfl rfl (by first | exact IntWalk.i64_in _ (by omega) | rfl)); apply run_step rfl; (exact stp_assign rfl rfl); refine run_nil ?_)
          exact fin_round (c + 1) ⟨hcl', fun x hx => by
            by_cases e : x = c
            · subst e; exact heq
            · exact hfx x (by omega)⟩ (by omega) (Wk.of ⟨rfl, rfl, rfl, rfl, trivial⟩ ⟨rfl, rfl, trivial⟩ trivial)
      · obtain rfl : c = N := by omega
        (refine goes_exit ?_; refine fin_exit_then ?_; refine fin_exit_then ?_; refine fin_exit_eq ?_; refine fin_block ?_; refine fin_seq ?_; refine goes_region ?_; apply run_step rfl; (exact stp_move rfl rfl); apply run_step rfl; (exact stp_add rfl rfl rfl (by first | exact IntWalk.i64_in _ (by omega) | rfl)); apply run_step rfl; (exact stp_assign rfl rfl); refine run_nil ?_)
        exact fin_round (i + 1) ⟨hlt', fun j hj => by
          by_cases e : j = i
          · subst e; exact hfx
          · exact hfix j (by omega)⟩ (by omega) (Wk.of ⟨rfl, rfl, rfl, trivial⟩ ⟨rfl, rfl, trivial⟩ trivial)
    · obtain rfl : i = ws.length := by omega
      have hyes : fixAllB T ws N = true := fixAllB_iff.2 hfix
      rw [hyes]
      (refine goes_exit ?_; refine fin_exit_then ?_; refine fin_exit_then ?_; refine fin_exit_eq ?_; refine fin_seq ?_; refine goes_seq ?_; refine goes_region ?_; apply run_step rfl; (exact stp_assign rfl rfl); apply run_step rfl; (exact stp_assign rfl rfl); refine run_nil ?_; refine fin_seq ?_; refine goes_ret ?_)
      exact fin_ret2 (.inl rfl) rfl (.tmp rfl) (.tmp rfl) trivial trivial
  · have hE := specCT_no g rels ws h1 h2 hk
    have hc := ctC_no hk
    unfold nrR
    rw [if_neg hc]
    (refine goes_seq ?_; refine goes_region ?_; apply run_step rfl; (exact stp_box rfl rfl rfl rfl); apply run_step rfl; (exact stp_assign rfl rfl); apply run_step rfl; (exact stp_assign rfl rfl); refine run_nil ?_; refine fin_seq ?_; refine goes_seq ?_; refine goes_region ?_; apply run_step rfl; (exact stp_loadAgg rfl rfl rfl rfl rfl rfl (by as_aux_lemma => kernel_rfl)); apply run_step rfl; (exact stp_move rfl rfl); apply run_step rfl; (apply call_gate 29; exact stp_callR hE (by as_aux_lemma => kernel_rfl) rfl rfl ⟨⟨.inl rfl, .inl rfl, trivial⟩, rfl, trivial⟩ ⟨⟨_, rfl, .inl rfl⟩, ⟨_, rfl, .inl rfl⟩, trivial⟩ rfl rfl); apply run_step rfl; (exact stp_move rfl rfl); apply run_step rfl; (exact stp_extract rfl rfl rfl); apply run_step rfl; (exact stp_extract rfl rfl rfl); apply run_step rfl; (exact stp_assign rfl rfl); apply run_step rfl; (exact stp_assign rfl rfl); refine run_nil ?_; refine fin_seq ?_; refine goes_seq ?_; refine goes_seq ?_; refine goes_region ?_; apply run_step rfl; (exact stp_move rfl rfl); apply run_step rfl; (exact stp_bin rfl rfl rfl rfl); refine run_nil ?_; refine fin_seq ?_)
    refine goes_cond rfl (fun _ => ?_) (fun e => ?_)
    · (refine goes_seq ?_; refine goes_region ?_; apply run_step rfl; (exact stp_move rfl rfl); apply run_step rfl; (exact stp_assign rfl rfl); apply run_step rfl; (exact stp_assign rfl rfl); refine run_nil ?_; refine fin_seq ?_; refine goes_ret ?_; refine fin_ret_then ?_)
      exact fin_ret2 (.inl rfl) rfl (.tmp rfl) (.tmp rfl) trivial trivial
    · exfalso; simp at e; exact hc e

set_option maxRecDepth 100000 in
set_option maxHeartbeats 2000000 in
theorem implNr_fc (g : Int) (rels ws : List (List Int)) (h1 : Fit rels) (h2 : Fit ws) :
    FC Try.prog 35 [(1002, rowsRo ws), (1003, rowsRo rels)] [pA g rels.length, o1 (.sl 1002 0 ws.length)] [] (.tup [.one (.val (.bool (nrR (g, rels) ws))), .one (.val (I6 (ctC (g, rels) ws)))]) [] := by
  have hC := implCode_fc g rels ws h1 h2
  refine fc_enter (nt := 48) Try.func35 rfl rfl (by simp) fun w0 ω0 => ?_
  by_cases hok : withOk (g, rels) ws = true
  · obtain ⟨ng, rfl, hG⟩ := good_of hok
    rw [withC_ok hok] at hC
    (refine goes_seq ?_; refine goes_region ?_; apply run_step rfl; (exact stp_box rfl rfl rfl rfl); apply run_step rfl; (exact stp_assign rfl rfl); apply run_step rfl; (exact stp_assign rfl rfl); refine run_nil ?_; refine fin_seq ?_; refine goes_seq ?_; refine goes_seq ?_; refine goes_region ?_; apply run_step rfl; (exact stp_loadAgg rfl rfl rfl rfl rfl rfl (by as_aux_lemma => kernel_rfl)); apply run_step rfl; (exact stp_move rfl rfl); apply run_step rfl; (apply call_gate 52; exact stp_callR hC (by as_aux_lemma => kernel_rfl) rfl rfl ⟨⟨.inl rfl, .inl rfl, trivial⟩, rfl, trivial⟩ ⟨⟨_, rfl, .inl rfl⟩, ⟨_, rfl, .inl rfl⟩, trivial⟩ rfl rfl); apply run_step rfl; (exact stp_assign rfl rfl); refine run_nil ?_; refine fin_seq ?_; refine goes_seq ?_; refine goes_region ?_; apply run_step rfl; (exact stp_move rfl rfl); apply run_step rfl; (exact stp_bin rfl rfl rfl rfl); refine run_nil ?_; refine fin_seq ?_)
    refine goes_cond rfl (fun e => by cases e) (fun _ => ?_)
    by_cases hsm : smallOk ((ng : Int), rels) ws = true
    · have hE := implSmall_yes hG hsm
      have hs := smallOk_run hsm
      have hL : ∀ i x, i < ws.length → x < cosN ((ng : Int), rels) ws → FC Try.prog 56 [(1005, imRo (cosTab ((ng : Int), rels) ws)), (1002, rowsRo ws)] [o1 (.sl 1005 0 ng), o1 (.esl 1002 i 0 (lget ws i).length), vv (I6 x)] [] (vv (I6 (leadL (cosTab ((ng : Int), rels) ws) x (lget ws i)))) [] := fun i x hi hx =>
        implLeadE_fc _ ws i x _ ng (cosTab_len _ _ _) (cosTab_leads hG hs.1) hx (by omega) (by have := hG.hi; omega) hi (by rw [cosTab_len]; exact hG.wl _ (lget_mem hi)) (hG.wn _ (lget_mem hi))
      have hc := ctC_ok ⟨hok, hsm⟩
      unfold nrR
      rw [hc, if_pos rfl]
      have hlen : (irows (cosTab ((ng : Int), rels) ws)).length = ng := by rw [irows_len, cosTab_len]
      have hpos := hG.pos
      have hr0 : (lget (cosTab ((ng : Int), rels) ws) 0).length = cosN ((ng : Int), rels) ws := cosTab_row hpos
      have hrow : (irows (cosTab ((ng : Int), rels) ws))[0]? = some (ivals (lget (cosTab ((ng : Int), rels) ws) 0)) := irows_get (by rw [← irows_len, hlen]; exact hpos)
      have hN := hs.2
      have hwl := hG.w
      have hSz : FC Try.prog 48 [] [o1 (.esl 1005 0 0 (lget (cosTab ((ng : Int), rels) ws) 0).length)] [] (vv (I6 (cosN ((ng : Int), rels) ws))) [] := by
        have := sizeE_fc 1005 0 (lget (cosTab ((ng : Int), rels) ws) 0).length
        rwa [hr0] at this ⊢
      generalize cosN ((ng : Int), rels) ws = N at *
      generalize cosTab ((ng : Int), rels) ws = T at *
      (refine goes_skip ?_; refine fin_seq ?_; refine goes_seq ?_; refine goes_region ?_; apply run_step rfl; (exact stp_loadAgg rfl rfl rfl rfl rfl rfl (by as_aux_lemma => kernel_rfl)); apply run_step rfl; (exact stp_move rfl rfl); apply run_step rfl; (apply call_gate 60; exact stp_callN hE (by as_aux_lemma => kernel_rfl) rfl rfl ⟨⟨.inl rfl, .inl rfl, trivial⟩, rfl, trivial⟩ ⟨⟨_, rfl, .inl rfl⟩, ⟨_, rfl, .inl rfl⟩, trivial⟩ rfl rfl rfl); apply run_step rfl; (exact stp_move rfl rfl); apply run_step rfl; (exact stp_extract rfl rfl rfl); apply run_step rfl; (exact stp_extract rfl rfl rfl); apply run_step rfl; (exact stp_assign rfl rfl); apply run_step rfl; (exact stp_assign rfl rfl); refine run_nil ?_; refine fin_seq ?_; refine goes_seq ?_; refine goes_seq ?_; refine goes_region ?_; apply run_step rfl; (exact stp_move rfl rfl); apply run_step rfl; (exact stp_bin rfl rfl rfl rfl); refine run_nil ?_; refine fin_seq ?_)
      refine goes_cond rfl (fun e => by cases e) (fun _ => ?_)
      (refine goes_skip ?_; refine fin_seq ?_; refine goes_seq ?_; refine goes_seq ?_; refine goes_region ?_; apply run_step rfl; (exact stp_move rfl rfl); apply run_step rfl; (exact stp_len rfl rfl rfl (by as_aux_lemma => kernel_rfl)); apply run_step rfl; (exact stp_move rfl rfl); refine run_nil ?_; refine fin_seq ?_; refine goes_block ?_)
      refine goes_loop (fun i : Nat => St.of [(7, o1 (.sl 1005 0 ng)), (27, o1 (.sl 1002 0 ws.length)), (28, vv (I6 ws.length)), (29, vv (I6 i))] [(1005, imOw T), (1002, rowsRo ws)]) (fun i => i ≤ ws.length ∧ ∀ j, j < i → ∀ c, c < N → leadL T ((c : Nat) : Int) (lget ws j) = (c : Int)) (fun i => ws.length - i) 0 ⟨Nat.zero_le _, fun j hj => by omega⟩ (Wk.of ⟨rfl, rfl, rfl, rfl, trivial⟩ ⟨rfl, rfl, trivial⟩ trivial) ?_
      rintro i ⟨hi, hfix⟩
      (refine goes_seq ?_; refine goes_region ?_; apply run_step rfl; (exact stp_bin rfl rfl rfl rfl); refine run_nil ?_; refine fin_seq ?_; refine goes_seq ?_)
      refine goes_if rfl (fun hlt => ?_) (fun hlt => ?_)
      · have hlt' : i < ws.length := by omega
        have hroww : (irows ws)[i]? = some (ivals (lget ws i)) := irows_get hlt'
        (refine goes_skip ?_; refine fin_seq ?_; refine goes_seq ?_; refine goes_block ?_; refine goes_seq ?_; refine goes_region ?_; apply run_step rfl; (exact stp_ix rfl rfl rfl rfl rfl (by as_aux_lemma => kernel_rfl) (by first | rfl | exact (Int.toNat_of_nonneg (by omega)).symm) (by first | assumption | omega | (simp; omega)) (by first | exact Nat.le_refl _ | exact Nat.le_of_eq (ivals_len _).symm | exact Nat.le_of_eq (irows_len _).symm | (refine Nat.le_trans ?_ (Nat.le_of_eq (ivals_len _).symm); (first | omega | (simp; done) | (simp; omega))) | (refine Nat.le_trans ?_ (Nat.le_of_eq (irows_len _).symm); (first | omega | (simp; done) | (simp; omega))))); apply run_step rfl; (exact stp_loadR rfl (by as_aux_lemma => kernel_rfl) rfl rfl rfl (by first | assumption | exact ivals_get (by assumption) | exact irows_get (by assumption) | exact ivals_get (by omega) | exact irows_get (by omega) | rfl) (by first | exact ivals_len _ | assumption | rfl)); apply run_step rfl; (exact stp_assign rfl rfl); refine run_nil ?_; refine fin_seq ?_; refine goes_seq ?_; refine goes_region ?_; apply run_step rfl; (exact stp_move rfl rfl); apply run_step rfl; (first | exact stp_ix (j := 0) rfl rfl rfl rfl rfl (by as_aux_lemma => kernel_rfl) rfl hpos (Nat.le_of_eq hlen.symm) | (apply call_gate 48; exact stp_callR hSz (by as_aux_lemma => kernel_rfl) rfl rfl ⟨rfl, trivial⟩ trivial rfl rfl)); apply run_step rfl; (exact stp_loadR rfl (by as_aux_lemma => kernel_rfl) rfl rfl rfl (by first | assumption | exact ivals_get (by assumption) | exact irows_get (by assumption) | exact ivals_get (by omega) | exact irows_get (by omega) | rfl) (by first | exact ivals_len _ | assumption | rfl)); apply run_step rfl; (first | exact stp_ix (j := 0) rfl rfl rfl rfl rfl (by as_aux_lemma => kernel_rfl) rfl hpos (Nat.le_of_eq hlen.symm) | (apply call_gate 48; exact stp_callR hSz (by as_aux_lemma => kernel_rfl) rfl rfl ⟨rfl, trivial⟩ trivial rfl rfl)); apply run_step rfl; (exact stp_move rfl rfl); refine run_nil ?_; refine fin_seq ?_; refine goes_block ?_)
        refine goes_loop (fun c : Nat => St.of [(7, o1 (.sl 1005 0 ng)), (27, o1 (.sl 1002 0 ws.length)), (28, vv (I6 ws.length)), (29, vv (I6 i)), (10, o1 (.esl 1002 i 0 (lget ws i).length)), (36, vv (I6 N)), (37, vv (I6 c))] [(1005, imOw T), (1002, rowsRo ws)]) (fun c => c ≤ N ∧ ∀ x, x < c → leadL T ((x : Nat) : Int) (lget ws i) = (x : Int)) (fun c => N - c) 0 ⟨Nat.zero_le _, fun x hx => by omega⟩ (Wk.of ⟨rfl, rfl, rfl, rfl, rfl, rfl, rfl, trivial⟩ ⟨rfl, rfl, trivial⟩ trivial) ?_
        rintro c ⟨hcN, hfx⟩
        (refine goes_seq ?_; refine goes_region ?_; apply run_step rfl; (exact stp_bin rfl rfl rfl rfl); refine run_nil ?_; refine fin_seq ?_; refine goes_seq ?_)
        refine goes_if rfl (fun hcl => ?_) (fun hcl => ?_)
        · have hcl' : c < N := by omega
          have hLc := hL i c hlt' hcl'
          (refine goes_skip ?_; refine fin_seq ?_; refine goes_seq ?_; refine goes_block ?_; refine goes_seq ?_; refine goes_region ?_; apply run_step rfl; (exact stp_move rfl rfl); apply run_step rfl; (exact stp_assign rfl rfl); refine run_nil ?_; refine fin_seq ?_; refine goes_seq ?_; refine goes_region ?_; apply run_step rfl; (exact stp_move rfl rfl); apply run_step rfl; (exact stp_move rfl rfl); apply run_step rfl; (exact stp_move rfl rfl); apply run_step rfl; (apply call_gate 56; exact stp_callR hLc (by as_aux_lemma => kernel_rfl) rfl rfl ⟨rfl, rfl, rfl, trivial⟩ ⟨⟨_, rfl, .inr rfl⟩, ⟨_, rfl, .inl rfl⟩, trivial⟩ rfl rfl); apply run_step rfl; (exact stp_move rfl rfl); apply run_step rfl; (exact stp_bin rfl rfl rfl rfl); refine run_nil ?_; refine fin_seq ?_)
          refine goes_cond rfl (fun hne => ?_) (fun hne => ?_)
          · have hne' : leadL T (c : Int) (lget ws i) ≠ (c : Int) := by simpa using hne
            have hno : fixAllB T ws N = false := by rw [← Bool.not_eq_true]; exact fun h => hne' (fixAllB_iff.1 h i hlt' c hcl')
            rw [hno]
            (refine goes_seq ?_; refine goes_region ?_; apply run_step rfl; (exact stp_assign rfl rfl); apply run_step rfl; (exact stp_assign rfl rfl); refine run_nil ?_; refine fin_seq ?_; refine goes_ret ?_; refine fin_ret_block ?_; refine fin_ret_then ?_; refine fin_ret_then ?_; refine fin_ret_block ?_; refine fin_ret_block ?_; refine fin_ret_then ?_; refine fin_ret_then ?_; refine fin_ret_block ?_; refine fin_ret_then ?_)
            exact fin_ret2 (.inl rfl) rfl (.tmp rfl) (.tmp rfl) trivial trivial
          · have heq : leadL T (c : Int) (lget ws i) = (c : Int) := by simpa using hne
            (refine goes_skip ?_; refine fin_block ?_; refine fin_seq ?_; refine goes_region ?_; apply run_step rfl; (exact stp_add rfl rfl rfl (by first | exact IntWalk.i64_in _ (by omega) | rfl)); apply run_step rfl; (exact stp_move rfl rfl); refine run_nil ?_)
            exact fin_round (c + 1) ⟨hcl', fun x hx => by
              by_cases e : x = c
              · subst e; exact heq
              · exact hfx x (by omega)⟩ (by omega) (Wk.of ⟨rfl, rfl, rfl, rfl, rfl, rfl, rfl, trivial⟩ ⟨rfl, rfl, trivial⟩ trivial)
        · obtain rfl : c = N := by omega
          (refine goes_exit ?_; refine fin_exit_then ?_; refine fin_exit_then ?_; refine fin_exit_eq ?_; refine fin_block ?_; refine fin_seq ?_; refine goes_region ?_; apply run_step rfl; (exact stp_add rfl rfl rfl (by first | exact IntWalk.i64_in _ (by omega) | rfl)); apply run_step rfl; (exact stp_move rfl rfl); refine run_nil ?_)
          exact fin_round (i + 1) ⟨hlt', fun j hj => by
            by_cases e : j = i
            · subst e; exact hfx
            · exact hfix j (by omega)⟩ (by omega) (Wk.of ⟨rfl, rfl, rfl, rfl, trivial⟩ ⟨rfl, rfl, trivial⟩ trivial)
      · obtain rfl : i = ws.length := by omega
        have hyes : fixAllB T ws N = true := fixAllB_iff.2 hfix
        rw [hyes]
        (refine goes_exit ?_; refine fin_exit_then ?_; refine fin_exit_then ?_; refine fin_exit_eq ?_; refine fin_seq ?_; refine goes_seq ?_; refine goes_region ?_; apply run_step rfl; (exact stp_assign rfl rfl); apply run_step rfl; (exact stp_assign rfl rfl); refine run_nil ?_; refine fin_seq ?_; refine goes_ret ?_)
        exact fin_ret2 (.inl rfl) rfl (.tmp rfl) (.tmp rfl) trivial trivial
    · have hE := implSmall_no hG hsm
      have hc : ctC ((ng : Int), rels) ws = 3 := by unfold ctC; rw [if_pos hok, if_neg hsm]
      unfold nrR
      rw [hc, if_neg (by decide)]
      (refine goes_skip ?_; refine fin_seq ?_; refine goes_seq ?_; refine goes_region ?_; apply run_step rfl; (exact stp_loadAgg rfl rfl rfl rfl rfl rfl (by as_aux_lemma => kernel_rfl)); apply run_step rfl; (exact stp_move rfl rfl); apply run_step rfl; (apply call_gate 60; exact stp_callR hE (by as_aux_lemma => kernel_rfl) rfl rfl ⟨⟨.inl rfl, .inl rfl, trivial⟩, rfl, trivial⟩ ⟨⟨_, rfl, .inl rfl⟩, ⟨_, rfl, .inl rfl⟩, trivial⟩ rfl rfl); apply run_step rfl; (exact stp_move rfl rfl); apply run_step rfl; (exact stp_extract rfl rfl rfl); apply run_step rfl; (exact stp_extract rfl rfl rfl); apply run_step rfl; (exact stp_assign rfl rfl); apply run_step rfl; (exact stp_assign rfl rfl); refine run_nil ?_; refine fin_seq ?_; refine goes_seq ?_; refine goes_seq ?_; refine goes_region ?_; apply run_step rfl; (exact stp_move rfl rfl); apply run_step rfl; (exact stp_bin rfl rfl rfl rfl); refine run_nil ?_; refine fin_seq ?_)
      refine goes_cond rfl (fun _ => ?_) (fun e => by cases e)
      (refine goes_seq ?_; refine goes_region ?_; apply run_step rfl; (exact stp_move rfl rfl); apply run_step rfl; (exact stp_assign rfl rfl); apply run_step rfl; (exact stp_assign rfl rfl); refine run_nil ?_; refine fin_seq ?_; refine goes_ret ?_; refine fin_ret_then ?_)
      exact fin_ret2 (.inl rfl) rfl (.tmp rfl) (.tmp rfl) trivial trivial
  · rw [withC_no hok] at hC
    have hc : ctC (g, rels) ws = 1 := by unfold ctC; rw [if_neg hok]
    unfold nrR
    rw [hc, if_neg (by decide)]
    (refine goes_seq ?_; refine goes_region ?_; apply run_step rfl; (exact stp_box rfl rfl rfl rfl); apply run_step rfl; (exact stp_assign rfl rfl); apply run_step rfl; (exact stp_assign rfl rfl); refine run_nil ?_; refine fin_seq ?_; refine goes_seq ?_; refine goes_seq ?_; refine goes_region ?_; apply run_step rfl; (exact stp_loadAgg rfl rfl rfl rfl rfl rfl (by as_aux_lemma => kernel_rfl)); apply run_step rfl; (exact stp_move rfl rfl); apply run_step rfl; (apply call_gate 52; exact stp_callR hC (by as_aux_lemma => kernel_rfl) rfl rfl ⟨⟨.inl rfl, .inl rfl, trivial⟩, rfl, trivial⟩ ⟨⟨_, rfl, .inl rfl⟩, ⟨_, rfl, .inl rfl⟩, trivial⟩ rfl rfl); apply run_step rfl; (exact stp_assign rfl rfl); refine run_nil ?_; refine fin_seq ?_; refine goes_seq ?_; refine goes_region ?_; apply run_step rfl; (exact stp_move rfl rfl); apply run_step rfl; (exact stp_bin rfl rfl rfl rfl); refine run_nil ?_; refine fin_seq ?_)
    refine goes_cond rfl (fun _ => ?_) (fun e => by cases e)
    (refine goes_seq ?_; refine goes_region ?_; apply run_step rfl; (exact stp_move rfl rfl); apply run_step rfl; (exact stp_assign rfl rfl); apply run_step rfl; (exact stp_assign rfl rfl); refine run_nil ?_; refine fin_seq ?_; refine goes_ret ?_; refine fin_ret_then ?_)
    exact fin_ret2 (.inl rfl) rfl (.tmp rfl) (.tmp rfl) trivial trivial
theorem api_specNr {E1 E E1' E' : Nat} {lo hi lo' hi' : Nat} {v v' : Value} {d : PresD} {ws : List (List Int)} (w : World) (h : OwP E1 E w lo hi v d) (h' : OwSS E1' E' w lo' hi' v' ws) :
    Calls Try.prog 34 #[v, v'] w fun e w' => e = .returned (.tuple #[.bool (nrR d ws), .int .i64 (ctC d ws)]) ∧ Below w.heap.size w w' := two_vals (callPW (fun k1 k2 => specNr_fc d.1 d.2 ws k1 k2) h h')
theorem api_implNr {E1 E E1' E' : Nat} {lo hi lo' hi' : Nat} {v v' : Value} {d : PresD} {ws : List (List Int)} (w : World) (h : OwP E1 E w lo hi v d) (h' : OwSS E1' E' w lo' hi' v' ws) :
    Calls Try.prog 35 #[v, v'] w fun e w' => e = .returned (.tuple #[.bool (nrR d ws), .int .i64 (ctC d ws)]) ∧ Below w.heap.size w w' := two_vals (callPW (fun k1 k2 => implNr_fc d.1 d.2 ws k1 k2) h h')
end Go.Proofs.Ytpjglifijdcgnaa

/- Shortest words to all cosets, on lists. No program in sight. -/
namespace Go.Proofs.Ytpjglifijdcgnaa

def bat (bs : List Bool) (k : Nat) : Bool := bs.getD k false
theorem bat_set {bs : List Bool} {i j : Nat} {b : Bool} : bat (bs.set i b) j = if i = j ∧ i < bs.length then b else bat bs j := by
  simp only [bat, List.getD_eq_getElem?_getD, List.getElem?_set]
  by_cases h : i = j
  · subst h
    by_cases h2 : i < bs.length
    · simp [h2]
    · simp [h2]
  · simp [h]
def bcnt (bs : List Bool) : Nat := (bs.filter fun b => b).length
theorem bcnt_le (bs : List Bool) : bcnt bs ≤ bs.length := List.length_filter_le _ _
theorem bcnt_set : ∀ (l : List Bool) (d : Nat), d < l.length → bat l d = false → bcnt (l.set d true) = bcnt l + 1
  | [], d, h, _ => by simp at h
  | x :: r, 0, _, h => by
    have h : x = false := by simpa [bat] using h
    simp [bcnt, h]
  | x :: r, d + 1, hd, h => by
    have ih := bcnt_set r d (by simpa using hd) (by simpa [bat] using h)
    unfold bcnt at ih ⊢
    simp only [List.set_cons_succ, List.filter_cons]
    split
    · simp only [List.length_cons]; omega
    · exact ih
/-- the words, which cosets are met, the queue -/
abbrev BSt := List (List Int) × List Bool × List Int
def bTo (T : List (List Int)) (c g : Nat) : Nat := (iget (lget T g) c).toNat
def bVisit (s : BSt) (c g d : Nat) : BSt := if bat s.2.1 d = true then s else (s.1.set d (lget s.1 c ++ [(g : Int)]), s.2.1.set d true, s.2.2 ++ [(d : Int)])
def bStep (T : List (List Int)) (c : Nat) (s : BSt) (g : Nat) : BSt := bVisit s c g (bTo T c g)
def bRow (T : List (List Int)) (ng c : Nat) (s : BSt) : BSt := (List.range ng).foldl (bStep T c) s
def bLoop (T : List (List Int)) (ng : Nat) : Nat → Nat → BSt → BSt
  | 0, _, s => s
  | f + 1, i, s => if i < s.2.2.length then bLoop T ng f (i + 1) (bRow T ng (iget s.2.2 i).toNat s) else s
def bStart (n : Nat) : BSt := (List.replicate n [], (List.replicate n false).set 0 true, [0])
def bfs (T : List (List Int)) (ng n : Nat) : BSt := bLoop T ng (n + 1) 0 (bStart n)

structure BOK (n : Nat) (s : BSt) : Prop where
  l1 : s.1.length = n
  l2 : s.2.1.length = n
  q : ∀ k, k < s.2.2.length → ∃ d : Nat, iget s.2.2 k = (d : Int) ∧ d < n ∧ bat s.2.1 d = true
  cnt : bcnt s.2.1 = s.2.2.length
  cov : ∀ d, d < n → bat s.2.1 d = true → ∃ k, k < s.2.2.length ∧ iget s.2.2 k = (d : Int)
  emp : ∀ d, d < n → bat s.2.1 d = false → lget s.1 d = []
  len : ∀ d, (lget s.1 d).length < s.2.2.length
theorem BOK.le {n : Nat} {s : BSt} (h : BOK n s) : s.2.2.length ≤ n := by
  have := bcnt_le s.2.1; rw [h.cnt, h.l2] at this; exact this
structure BGrow (n : Nat) (s s' : BSt) : Prop where
  len : s.2.2.length ≤ s'.2.2.length
  pre : ∀ k, k < s.2.2.length → iget s'.2.2 k = iget s.2.2 k
  met : ∀ d, d < n → bat s.2.1 d = true → bat s'.2.1 d = true ∧ lget s'.1 d = lget s.1 d
theorem BGrow.refl (n : Nat) (s : BSt) : BGrow n s s := ⟨Nat.le_refl _, fun _ _ => rfl, fun _ _ h => ⟨h, rfl⟩⟩
theorem BGrow.trans {n : Nat} {a b c : BSt} (h : BGrow n a b) (k : BGrow n b c) : BGrow n a c :=
  ⟨Nat.le_trans h.len k.len, fun i hi => (k.pre i (Nat.lt_of_lt_of_le hi h.len)).trans (h.pre i hi), fun d hd hm =>
    have h1 := h.met d hd hm
    have h2 := k.met d hd h1.1
    ⟨h2.1, h2.2.trans h1.2⟩⟩
theorem bVisit_ok {n c g d : Nat} {s : BSt} (h : BOK n s) (hd : d < n) : BOK n (bVisit s c g d) := by
  unfold bVisit
  split
  · exact h
  · rename_i hm
    have hm : bat s.2.1 d = false := by simpa using hm
    refine ⟨by rw [List.length_set]; exact h.l1, by rw [List.length_set]; exact h.l2, fun k hk => ?_, ?_, fun e he hb => ?_, fun e he hb => ?_, fun e => ?_⟩
    · dsimp only at hk ⊢
      by_cases e : k < s.2.2.length
      · obtain ⟨d', h1, h2, h3⟩ := h.q k e
        refine ⟨d', by rw [iget_app_lt e]; exact h1, h2, ?_⟩
        rw [bat_set]; split
        · rfl
        · exact h3
      · obtain rfl : k = s.2.2.length := by simp at hk; omega
        exact ⟨d, iget_app_eq, hd, by rw [bat_set, if_pos ⟨rfl, by rw [h.l2]; exact hd⟩]⟩
    · dsimp only; rw [bcnt_set _ _ (by rw [h.l2]; exact hd) hm, h.cnt]; simp
    · dsimp only at hb ⊢
      by_cases e2 : d = e
      · subst e2; exact ⟨s.2.2.length, by simp, iget_app_eq⟩
      · rw [bat_set, if_neg (fun h => e2 h.1)] at hb
        obtain ⟨k, h1, h2⟩ := h.cov e he hb
        exact ⟨k, by rw [List.length_append]; omega, by rw [iget_app_lt h1]; exact h2⟩
    · dsimp only at hb ⊢
      rw [bat_set] at hb
      split at hb
      · cases hb
      · rename_i hne
        rw [lget_set, if_neg (fun h' => hne ⟨h'.1, by rw [h.l2]; exact hd⟩)]
        exact h.emp e he hb
    · dsimp only
      rw [lget_set, List.length_append]
      have h1 := h.len c
      have h2 := h.len e
      split
      · simp; omega
      · simp; omega
theorem bVisit_grow {n c g d : Nat} {s : BSt} (h : BOK n s) : BGrow n s (bVisit s c g d) := by
  unfold bVisit
  split
  · exact BGrow.refl n s
  · rename_i hm
    refine ⟨by simp, fun k hk => iget_app_lt hk, fun e he hb => ?_⟩
    have hne : d ≠ e := fun e' => by subst e'; exact hm hb
    dsimp only
    rw [bat_set, if_neg (fun h => hne h.1), lget_set, if_neg (fun h => hne h.1)]
    exact ⟨hb, rfl⟩
section
variable {T : List (List Int)} {ng n : Nat}
theorem bTo_lt (hT : Leads T n) {c g : Nat} (hc : c < n) (hg : g < T.length) : bTo T c g < n ∧ iget (lget T g) c = (bTo T c g : Int) := by
  have := hT.within g hg c hc
  unfold bTo; omega
theorem bRow_ok (hT : Leads T n) (hng : T.length = ng) {c : Nat} (hc : c < n) {s : BSt} (h : BOK n s) : ∀ m, m ≤ ng → BOK n ((List.range m).foldl (bStep T c) s) ∧ BGrow n s ((List.range m).foldl (bStep T c) s)
  | 0, _ => ⟨h, BGrow.refl n s⟩
  | m + 1, hm => by
    obtain ⟨h1, h2⟩ := bRow_ok hT hng hc h m (by omega)
    rw [List.range_succ, List.foldl_append]
    exact ⟨bVisit_ok h1 (bTo_lt hT hc (by omega)).1, h2.trans (bVisit_grow h1)⟩
theorem bLoop_ok (hT : Leads T n) (hng : T.length = ng) : ∀ (f i : Nat) (s : BSt), BOK n s → BOK n (bLoop T ng f i s) ∧ BGrow n s (bLoop T ng f i s)
  | 0, _, s, h => ⟨h, BGrow.refl n s⟩
  | f + 1, i, s, h => by
    unfold bLoop
    split
    · rename_i hi
      obtain ⟨d, h1, h2, _⟩ := h.q i hi
      obtain ⟨k1, k2⟩ := bRow_ok hT hng (c := (iget s.2.2 i).toNat) (by omega) h ng (Nat.le_refl _)
      obtain ⟨m1, m2⟩ := bLoop_ok hT hng f (i + 1) _ k1
      exact ⟨m1, k2.trans m2⟩
    · exact ⟨h, BGrow.refl n s⟩
theorem bLoop_step {f i : Nat} {s : BSt} (h : i < s.2.2.length) : bLoop T ng (f + 1) i s = bLoop T ng f (i + 1) (bRow T ng (iget s.2.2 i).toNat s) := by rw [bLoop, if_pos h]
theorem bStart_ok (hn : 0 < n) : BOK n (bStart n) := by
  refine ⟨by simp [bStart], by simp [bStart], fun k hk => ?_, ?_, fun d hd hb => ?_, fun d hd _ => ?_, fun d => ?_⟩
  · obtain rfl : k = 0 := by simp [bStart] at hk; omega
    exact ⟨0, rfl, hn, by show bat ((List.replicate n false).set 0 true) 0 = true; rw [bat_set, if_pos ⟨rfl, by simpa using hn⟩]⟩
  · show bcnt ((List.replicate n false).set 0 true) = 1
    rw [bcnt_set _ _ (by simpa using hn) (by unfold bat; cases n <;> rfl)]
    simp [bcnt]
  · have hb : bat ((List.replicate n false).set 0 true) d = true := hb
    rw [bat_set] at hb
    split at hb
    · rename_i e; exact ⟨0, by simp [bStart], by rw [← e.1]; rfl⟩
    · simp [bat, hd] at hb
  · show lget (List.replicate n []) d = []
    simp [lget, hd]
  · show (lget (List.replicate n ([] : List Int)) d).length < 1
    by_cases h : d < n
    · simp [lget, h]
    · simp [lget, h]
end
/-- whether a word is too long -/
def tooLong (W : List (List Int)) : Bool := W.any fun w => decide (64 < w.length)
theorem tooLong_at {n : Nat} {s : BSt} (h : BOK n s) (hl : tooLong s.1 = true) : ∃ i, i < s.2.2.length ∧ 64 < (lget s.1 (iget s.2.2 i).toNat).length := by
  unfold tooLong at hl
  rw [List.any_eq_true] at hl
  obtain ⟨w, hw, hlen⟩ := hl
  have hlen : 64 < w.length := of_decide_eq_true hlen
  obtain ⟨d, hd, rfl⟩ := List.getElem_of_mem hw
  have hdn : d < n := by rw [← h.l1]; exact hd
  have hw2 : lget s.1 d = s.1[d] := lget_lt hd
  cases hb : bat s.2.1 d with
  | false =>
    have := h.emp d hdn hb
    rw [hw2] at this; rw [this] at hlen; simp at hlen
  | true =>
    obtain ⟨k, k1, k2⟩ := h.cov d hdn hb
    exact ⟨k, k1, by rw [k2, Int.toNat_natCast, hw2]; exact hlen⟩
theorem tooLong_of {W : List (List Int)} {d : Nat} (h : 64 < (lget W d).length) : tooLong W = true := by
  unfold tooLong
  rw [List.any_eq_true]
  have hd : d < W.length := by
    rcases Nat.lt_or_ge d W.length with h1 | h1
    · exact h1
    · simp [lget, h1] at h
  exact ⟨lget W d, lget_mem hd, by simpa using h⟩
def bvals (bs : List Bool) : List Value := bs.map Value.bool
theorem bvals_len (bs : List Bool) : (bvals bs).length = bs.length := by simp [bvals]
theorem bvals_get {bs : List Bool} {k : Nat} (h : k < bs.length) : (bvals bs)[k]? = some (.bool (bat bs k)) := by simp [bvals, bat, h]
theorem bvals_set (bs : List Bool) (k : Nat) (b : Bool) : (bvals bs).set k (.bool b) = bvals (bs.set k b) := by simp [bvals, List.map_set]
theorem bvals_rep (n : Nat) : bvals (List.replicate n false) = List.replicate n (.bool false) := by simp [bvals]
end Go.Proofs.Ytpjglifijdcgnaa

/- Coset enumeration: each generator leads back; words lead back after some times. No program in sight. -/
namespace Go.Proofs.Ytpjglifijdcgnaa

theorem root_root {less : List Int} (h : Down less) {c : Nat} (hc : c < less.length) : root less (root less c) = root less c := root_of (root_fix h c hc).1
theorem root_set {less : List Int} (h : Down less) {lo hi : Nat} (hlt : lo < hi) (hh : hi < less.length) (hl0 : iget less lo = (lo : Int)) (hh0 : iget less hi = (hi : Int)) : ∀ c, c < less.length → root (less.set hi (lo : Int)) c = if root less c = hi then lo else root less c := by
  have hd := down_set h (lo := lo) (hi := hi) (by omega)
  have hlo : iget (less.set hi (lo : Int)) lo = (lo : Int) := by rw [iget_set, if_neg (by omega)]; exact hl0
  intro c
  induction c using Nat.strongRecOn with
  | _ c ih =>
    intro hc
    by_cases e : iget less c = (c : Int)
    · rw [root_of e]
      by_cases e2 : c = hi
      · subst e2
        rw [if_pos rfl]
        have h1 : iget (less.set c (lo : Int)) c = (lo : Int) := by rw [iget_set, if_pos ⟨rfl, hh⟩]
        rw [root_step hd (by rw [List.length_set]; exact hc) (by rw [h1]; omega), h1, Int.toNat_natCast]
        exact root_of hlo
      · rw [if_neg e2]
        exact root_of (by rw [iget_set, if_neg (by omega)]; exact e)
    · have hb := h c hc
      have hne : c ≠ hi := fun e2 => by subst e2; exact e hh0
      have h1 : iget (less.set hi (lo : Int)) c = iget less c := by rw [iget_set, if_neg (by omega)]
      rw [root_step hd (by rw [List.length_set]; exact hc) (by rw [h1]; exact e), h1, root_step h hc e]
      exact ih _ (by omega) (by omega)
theorem root_app {less : List Int} (h : Down less) : ∀ c, c < less.length → root (less ++ [(less.length : Int)]) c = root less c := by
  have hd : Down (less ++ [(less.length : Int)]) := fun c hc => by
    by_cases e : c < less.length
    · rw [iget_app_lt e]; exact h c e
    · obtain rfl : c = less.length := by simp at hc; omega
      rw [iget_app_eq]; omega
  intro c
  induction c using Nat.strongRecOn with
  | _ c ih =>
    intro hc
    have h1 : iget (less ++ [(less.length : Int)]) c = iget less c := iget_app_lt hc
    by_cases e : iget less c = (c : Int)
    · rw [root_of e, root_of (h1.trans e)]
    · have hb := h c hc
      rw [root_step hd (by simp; omega) (by rw [h1]; exact e), h1, root_step h hc e]
      exact ih _ (by omega) (by omega)

/-- equal, as far as the identifications and the queue say -/
inductive Eqv (less : List Int) (q : List (Int × Int)) : Nat → Nat → Prop where
  | refl (a : Nat) : Eqv less q a a
  | symm {a b : Nat} (h : Eqv less q a b) : Eqv less q b a
  | trans {a b c : Nat} (h : Eqv less q a b) (k : Eqv less q b c) : Eqv less q a c
  | root (a : Nat) (h : a < less.length) : Eqv less q a (root less a)
  | pair (p : Int × Int) (h : p ∈ q) : Eqv less q p.1.toNat p.2.toNat
theorem Eqv.mono {less less' : List Int} {q q' : List (Int × Int)} (h1 : ∀ a, a < less.length → Eqv less' q' a (Proofs.Ytpjglifijdcgnaa.root less a)) (h2 : ∀ p ∈ q, Eqv less' q' p.1.toNat p.2.toNat) {a b : Nat} (h : Eqv less q a b) : Eqv less' q' a b := by
  induction h with
  | refl a => exact .refl a
  | symm _ ih => exact .symm ih
  | trans _ _ ih1 ih2 => exact .trans ih1 ih2
  | root a h => exact h1 a h
  | pair p h => exact h2 p h
theorem Eqv.root_eq {less : List Int} (hd : Down less) {a b : Nat} (h : Eqv less [] a b) : Proofs.Ytpjglifijdcgnaa.root less a = Proofs.Ytpjglifijdcgnaa.root less b := by
  induction h with
  | refl a => rfl
  | symm _ ih => exact ih.symm
  | trans _ _ ih1 ih2 => exact ih1.trans ih2
  | root a h => exact (root_root hd h).symm
  | pair p h => simp at h
/-- where a live coset leads, there its generator leads back -/
def Back (ng : Nat) (im : List (List Int)) (less : List Int) (q : List (Int × Int)) : Prop :=
  ∀ c g, c < less.length → iget less c = (c : Int) → g < ng → 0 ≤ ent im c g → 0 ≤ ent im (root less (ent im c g).toNat) g ∧ Eqv less q (ent im (root less (ent im c g).toNat) g).toNat c
theorem mergeUp_spec {ng lo hi : Nat} {im : List (List Int)} {less : List Int} {q : List (Int × Int)} (h : WF ng im less) (hlo : lo < im.length) (hne : lo ≠ hi) : ∀ g, g ≤ ng →
    (∀ c k, (c ≠ lo ∨ g ≤ k) → ent (mergeUp lo hi (im, q) g).1 c k = ent im c k) ∧ (∀ k, k < g → ent (mergeUp lo hi (im, q) g).1 lo k = if ent im hi k < 0 then ent im lo k else if 0 ≤ ent im lo k then ent im lo k else ent im hi k) ∧
    (∀ p ∈ q, p ∈ (mergeUp lo hi (im, q) g).2) ∧ (∀ k, k < g → 0 ≤ ent im hi k → 0 ≤ ent im lo k → (ent im hi k, ent im lo k) ∈ (mergeUp lo hi (im, q) g).2) ∧ ((mergeUp lo hi (im, q) g).1.length = im.length ∧ ∀ c, (lget (mergeUp lo hi (im, q) g).1 c).length = (lget im c).length)
  | 0, _ => ⟨fun _ _ _ => rfl, fun k hk => by omega, fun _ h => h, fun k hk => by omega, rfl, fun _ => rfl⟩
  | g + 1, hg => by
    obtain ⟨h1, h2, h3, h4, h5, h6⟩ := mergeUp_spec h hlo hne g (by omega) (q := q)
    have ehi : ent (mergeUp lo hi (im, q) g).1 hi g = ent im hi g := h1 hi g (.inl (fun e => hne e.symm))
    have elo : ent (mergeUp lo hi (im, q) g).1 lo g = ent im lo g := h1 lo g (.inr (Nat.le_refl _))
    simp only [mergeUp, stepG, ehi, elo]
    split
    · rename_i hn
      refine ⟨fun c k hk => h1 c k (hk.imp id fun h => by omega), fun k hk => ?_, h3, fun k hk a b => ?_, h5, h6⟩
      · by_cases e : k = g
        · subst e; rw [elo, if_pos hn]
        · exact h2 k (by omega)
      · by_cases e : k = g
        · subst e; omega
        · exact h4 k (by omega) a b
    · rename_i hn
      split
      · rename_i hp
        refine ⟨fun c k hk => h1 c k (hk.imp id fun h => by omega), fun k hk => ?_, fun p hp' => by simp [h3 p hp'], fun k hk a b => ?_, h5, h6⟩
        · by_cases e : k = g
          · subst e; rw [elo, if_neg hn, if_pos hp]
          · exact h2 k (by omega)
        · by_cases e : k = g
          · subst e; simp
          · simp [h4 k (by omega) a b]
      · rename_i hp
        have hlen : lo < (mergeUp lo hi (im, q) g).1.length := by rw [h5]; exact hlo
        have hrow : g < (lget (mergeUp lo hi (im, q) g).1 lo).length := by rw [h6, h.row lo hlo]; omega
        refine ⟨fun c k hk => ?_, fun k hk => ?_, h3, fun k hk a b => ?_, by rw [rset_len]; exact h5, fun c => by rw [rset_row]; exact h6 c⟩
        · dsimp only
          rw [ent_rset hlen hrow, if_neg (by rcases hk with hk | hk <;> omega)]
          exact h1 c k (hk.imp id fun h => by omega)
        · dsimp only
          rw [ent_rset hlen hrow]
          by_cases e : k = g
          · subst e; rw [if_pos ⟨rfl, rfl⟩, if_neg hn, if_neg hp]
          · rw [if_neg (by omega)]; exact h2 k (by omega)
        · by_cases e : k = g
          · subst e; omega
          · exact h4 k (by omega) a b
theorem Back.merge {ng lo hi : Nat} {im : List (List Int)} {less : List Int} {p : Int × Int} {q : List (Int × Int)} (h : WF ng im less) (hB : Back ng im less (p :: q)) (hp : p.1.toNat < less.length ∧ p.2.toNat < less.length) (hlt : lo < hi) (hhi : hi < less.length) (hl0 : iget less lo = (lo : Int)) (hh0 : iget less hi = (hi : Int))
    (hr : (root less p.1.toNat = lo ∧ root less p.2.toNat = hi) ∨ (root less p.1.toNat = hi ∧ root less p.2.toNat = lo)) : Back ng (mergeUp lo hi (im, q) ng).1 (less.set hi (lo : Int)) (mergeUp lo hi (im, q) ng).2 := by
  have hil : lo < im.length := by rw [h.len]; omega
  obtain ⟨m1, m2, m3, m4, _⟩ := mergeUp_spec (q := q) h hil (by omega : lo ≠ hi) ng (Nat.le_refl _)
  have hrs := root_set h.down hlt hhi hl0 hh0
  have hd := down_set h.down (lo := lo) (hi := hi) (by omega)
  generalize (mergeUp lo hi (im, q) ng).1 = im' at *
  generalize (mergeUp lo hi (im, q) ng).2 = q' at *
  have hlh : Eqv (less.set hi (lo : Int)) q' hi lo := by
    have := Eqv.root (less := less.set hi (lo : Int)) (q := q') hi (by rw [List.length_set]; exact hhi)
    rwa [hrs hi hhi, root_of hh0, if_pos rfl] at this
  have hroot : ∀ a, a < less.length → Eqv (less.set hi (lo : Int)) q' a (root less a) := fun a ha => by
    have := Eqv.root (less := less.set hi (lo : Int)) (q := q') a (by rw [List.length_set]; exact ha)
    rw [hrs a ha] at this
    by_cases e : root less a = hi
    · rw [if_pos e] at this; rw [e]; exact this.trans hlh.symm
    · rwa [if_neg e] at this
  have hmono : ∀ {a b : Nat}, Eqv less (p :: q) a b → Eqv (less.set hi (lo : Int)) q' a b := fun hab => by
    refine Eqv.mono hroot (fun x hx => ?_) hab
    rcases List.mem_cons.1 hx with rfl | hx
    · have k1 := hroot _ hp.1
      have k2 := hroot _ hp.2
      rcases hr with ⟨r1, r2⟩ | ⟨r1, r2⟩
      · rw [r1] at k1; rw [r2] at k2; exact k1.trans (hlh.symm.trans k2.symm)
      · rw [r1] at k1; rw [r2] at k2; exact k1.trans (hlh.trans k2.symm)
    · exact .pair x (m3 x hx)
  -- the row of lo now
  have elo : ∀ g, g < ng → (0 ≤ ent im lo g → ent im' lo g = ent im lo g) ∧ (0 ≤ ent im hi g → 0 ≤ ent im' lo g ∧ Eqv (less.set hi (lo : Int)) q' (ent im' lo g).toNat (ent im hi g).toNat) := fun g hg => by
    have e := m2 g hg
    refine ⟨fun h0 => ?_, fun h0 => ?_⟩
    · rw [e]; split <;> first | rfl | rw [if_pos h0]
    · by_cases h1 : 0 ≤ ent im lo g
      · rw [e, if_neg (by omega), if_pos h1]
        exact ⟨h1, (Eqv.pair _ (m4 g hg h0 h1)).symm⟩
      · rw [e, if_neg (by omega), if_neg h1]
        exact ⟨h0, .refl _⟩
  -- where a root's entry is now
  have key : ∀ r g, r < less.length → g < ng → 0 ≤ ent im r g → 0 ≤ ent im' (if r = hi then lo else r) g ∧ Eqv (less.set hi (lo : Int)) q' (ent im' (if r = hi then lo else r) g).toNat (ent im r g).toNat := fun r g hr' hg h0 => by
    by_cases e : r = hi
    · subst e; rw [if_pos rfl]; exact (elo g hg).2 h0
    · rw [if_neg e]
      by_cases e2 : r = lo
      · subst e2; rw [(elo g hg).1 h0]; exact ⟨h0, .refl _⟩
      · rw [m1 r g (.inl e2)]; exact ⟨h0, .refl _⟩
  intro c g hc hlive hg h0
  rw [List.length_set] at hc
  have hch : c ≠ hi := fun e => by subst e; rw [iget_set, if_pos ⟨rfl, hhi⟩] at hlive; omega
  have hlv : iget less c = (c : Int) := by rw [iget_set, if_neg (fun e => hch e.1.symm)] at hlive; exact hlive
  -- the entry comes of c itself, or of hi
  have src : (0 ≤ ent im c g ∧ ent im' c g = ent im c g) ∨ (c = lo ∧ ent im c g < 0 ∧ 0 ≤ ent im hi g ∧ ent im' c g = ent im hi g) := by
    by_cases e : c = lo
    · subst e
      have e' := m2 g hg
      by_cases h1 : 0 ≤ ent im c g
      · exact .inl ⟨h1, (elo g hg).1 h1⟩
      · right
        rw [e'] at h0 ⊢
        split at h0
        · omega
        · rename_i h2
          rw [if_neg h2, if_neg h1]
          exact ⟨rfl, by omega, by omega, rfl⟩
    · rw [m1 c g (.inl e)] at h0
      exact .inl ⟨h0, m1 c g (.inl e)⟩
  have hcl : c < im.length := by rw [h.len]; exact hc
  rcases src with ⟨h1, h2⟩ | ⟨rfl, h1, h2, h3⟩
  · rw [h2]
    obtain ⟨k1, k2⟩ := hB c g hc hlv hg h1
    have hel := h.ent c g hcl hg
    have hrl := root_lt h.down (c := (ent im c g).toNat) (by omega)
    rw [hrs _ (by omega)]
    obtain ⟨k3, k4⟩ := key _ g hrl hg k1
    exact ⟨k3, k4.trans (hmono k2)⟩
  · rw [h3]
    obtain ⟨k1, k2⟩ := hB hi g hhi hh0 hg h2
    have hel := h.ent hi g (by rw [h.len]; exact hhi) hg
    have hrl := root_lt h.down (c := (ent im hi g).toNat) (by omega)
    rw [hrs _ (by omega)]
    obtain ⟨k3, k4⟩ := key _ g hrl hg k1
    exact ⟨k3, (k4.trans (hmono k2)).trans hlh⟩
theorem Back.less_q {ng : Nat} {im : List (List Int)} {less : List Int} {q q' : List (Int × Int)} (hB : Back ng im less q) (hq : ∀ p ∈ q, Eqv less q' p.1.toNat p.2.toNat) : Back ng im less q' := fun c g hc hl hg h0 => by
  obtain ⟨k1, k2⟩ := hB c g hc hl hg h0
  exact ⟨k1, k2.mono (fun a ha => .root a ha) hq⟩
theorem identLoop_back {ng n : Nat} : ∀ (f : Nat) (im : List (List Int)) (less : List Int) (q : List (Int × Int)), WF ng im less → less.length = n → QOK n q → fuel ng less q ≤ f → Back ng im less q → Back ng (identLoop ng f im less q).1 (identLoop ng f im less q).2 []
  | 0, im, less, q, h, hn, hq, hf, hB => by
    have : q = [] := List.eq_nil_of_length_eq_zero (by unfold fuel at hf; omega)
    subst this; exact hB
  | f + 1, im, less, [], h, hn, hq, hf, hB => hB
  | f + 1, im, less, p :: q, h, hn, hq, hf, hB => by
    have hp := hq p (by simp)
    have hq' : QOK less.length q := fun x hx => hn ▸ hq x (by simp [hx])
    have hr1 := root_fix h.down p.1.toNat (by omega)
    have hr2 := root_fix h.down p.2.toNat (by omega)
    have hfu : fuel ng less (p :: q) = fuel ng less q + 1 := by unfold fuel; simp; omega
    simp only [identLoop]
    split
    · rename_i he
      refine identLoop_back f im less q h hn (fun x hx => hq x (by simp [hx])) (by omega) (hB.less_q fun x hx => ?_)
      rcases List.mem_cons.1 hx with rfl | hx
      · have k1 := Eqv.root (less := less) (q := q) x.1.toNat (by omega)
        have k2 := Eqv.root (less := less) (q := q) x.2.toNat (by omega)
        rw [he] at k1; exact k1.trans k2.symm
      · exact .pair x hx
    · rename_i hne
      have hid := ident_merge h (hn ▸ hq) hne
      unfold mergeSt at hid
      obtain ⟨_, w1, w2, w3⟩ := hid
      have hroots : iget less (min (root less p.1.toNat) (root less p.2.toNat)) = ((min (root less p.1.toNat) (root less p.2.toNat) : Nat) : Int) ∧ iget less (max (root less p.1.toNat) (root less p.2.toNat)) = ((max (root less p.1.toNat) (root less p.2.toNat) : Nat) : Int) := by
        rcases Nat.le_total (root less p.1.toNat) (root less p.2.toNat) with h5 | h5
        · rw [Nat.min_eq_left h5, Nat.max_eq_right h5]; exact ⟨hr1.1, hr2.1⟩
        · rw [Nat.min_eq_right h5, Nat.max_eq_left h5]; exact ⟨hr2.1, hr1.1⟩
      have hbk := hB.merge h (by omega) (lo := min (root less p.1.toNat) (root less p.2.toNat)) (hi := max (root less p.1.toNat) (root less p.2.toNat)) (by omega) (by omega) hroots.1 hroots.2 (by
        rcases Nat.le_total (root less p.1.toNat) (root less p.2.toNat) with h5 | h5
        · left; rw [Nat.min_eq_left h5, Nat.max_eq_right h5]; exact ⟨rfl, rfl⟩
        · right; rw [Nat.min_eq_right h5, Nat.max_eq_left h5]; exact ⟨rfl, rfl⟩)
      exact identLoop_back f _ _ _ w1 (by rw [List.length_set]; exact hn) (hn ▸ w2) (by omega) hbk
theorem ident_back {ng : Nat} {im : List (List Int)} {less : List Int} {p : Int × Int} (h : WF ng im less) (hq : QOK less.length [p]) (hB : Back ng im less []) : Back ng (ident ng im less [p]).1 (ident ng im less [p]).2 [] :=
  identLoop_back _ im less [p] h rfl hq (Nat.le_refl _) (hB.less_q fun x hx => by simp at hx)

section
variable {ng : Nat} {im : List (List Int)} {less : List Int}
theorem Back.fix (hB : Back ng im less []) (h : WF ng im less) {c g : Nat} (hc : c < less.length) (hl : iget less c = (c : Int)) (hg : g < ng) (h0 : 0 ≤ ent im c g) : 0 ≤ ent im (root less (ent im c g).toNat) g ∧ root less (ent im (root less (ent im c g).toNat) g).toNat = c := by
  obtain ⟨k1, k2⟩ := hB c g hc hl hg h0
  exact ⟨k1, (k2.root_eq h.down).trans (root_of hl)⟩
theorem Back.of (h : ∀ c g, c < less.length → iget less c = (c : Int) → g < ng → 0 ≤ ent im c g → 0 ≤ ent im (root less (ent im c g).toNat) g ∧ root less (ent im (root less (ent im c g).toNat) g).toNat = c) (hw : WF ng im less) : Back ng im less [] := fun c g hc hl hg h0 => by
  obtain ⟨k1, k2⟩ := h c g hc hl hg h0
  refine ⟨k1, ?_⟩
  have he := hw.ent c g (by rw [hw.len]; exact hc) hg
  have hrl := root_lt hw.down (c := (ent im c g).toNat) (by omega)
  have he2 := hw.ent (root less (ent im c g).toNat) g (by rw [hw.len]; exact hrl) hg
  have := Eqv.root (less := less) (q := []) (ent im (root less (ent im c g).toNat) g).toNat (by omega)
  rwa [k2] at this
/-- two cosets become images of each other -/
theorem Back.link (hB : Back ng im less []) (hw : WF ng im less) {c d g : Nat} (hc : c < less.length) (hd : d < less.length) (hlc : iget less c = (c : Int)) (hld : iget less d = (d : Int)) (hg : g < ng) (h1 : ent im c g < 0) (h2 : ent im d g < 0) : Back ng (rset (rset im d g (c : Int)) c g (d : Int)) less [] := by
  have hl := hw.len
  have w1 := hw.set_im (c := d) (g := g) (z := (c : Int)) (by omega) hg (by omega)
  have w2 := w1.set_im (c := c) (g := g) (z := (d : Int)) (by rw [rset_len]; omega) hg (by omega)
  have ee : ∀ a k, ent (rset (rset im d g (c : Int)) c g (d : Int)) a k = if c = a ∧ g = k then (d : Int) else if d = a ∧ g = k then (c : Int) else ent im a k := fun a k => by
    rw [ent_rset (by rw [rset_len]; omega) (by rw [rset_row, hw.row c (by omega)]; exact hg), ent_rset (by omega) (by rw [hw.row d (by omega)]; exact hg)]
  refine Back.of (fun a k ha hla hk h0 => ?_) w2
  have e0 := ee a k
  by_cases e1 : c = a ∧ g = k
  · obtain ⟨rfl, rfl⟩ := e1
    rw [if_pos ⟨rfl, rfl⟩] at e0
    rw [e0, Int.toNat_natCast, root_of hld]
    have e3 := ee d g
    by_cases e2 : c = d
    · subst e2; rw [if_pos ⟨rfl, rfl⟩] at e3; rw [e3, Int.toNat_natCast]; exact ⟨by omega, root_of hlc⟩
    · rw [if_neg (fun h => e2 h.1), if_pos ⟨rfl, rfl⟩] at e3; rw [e3, Int.toNat_natCast]; exact ⟨by omega, root_of hlc⟩
  · rw [if_neg e1] at e0
    by_cases e2 : d = a ∧ g = k
    · obtain ⟨rfl, rfl⟩ := e2
      rw [if_pos ⟨rfl, rfl⟩] at e0
      rw [e0, Int.toNat_natCast, root_of hlc]
      have e3 := ee c g
      rw [if_pos ⟨rfl, rfl⟩] at e3
      rw [e3, Int.toNat_natCast]; exact ⟨by omega, root_of hld⟩
    · rw [if_neg e2] at e0
      rw [e0] at h0 ⊢
      obtain ⟨k1, k2⟩ := hB.fix hw ha hla hk h0
      have n1 : ¬ (c = root less (ent im a k).toNat ∧ g = k) := fun h => by rw [← h.1, ← h.2] at k1; omega
      have n2 : ¬ (d = root less (ent im a k).toNat ∧ g = k) := fun h => by rw [← h.1, ← h.2] at k1; omega
      have e3 := ee (root less (ent im a k).toNat) k
      rw [if_neg n1, if_neg n2] at e3
      rw [e3]
      exact ⟨k1, k2⟩
theorem Back.app (hB : Back ng im less []) (hw : WF ng im less) : Back ng (im ++ [List.replicate ng (-1)]) (less ++ [(less.length : Int)]) [] := by
  have hl := hw.len
  have hra := root_app hw.down
  refine Back.of (fun a k ha hla hk h0 => ?_) hw.app
  by_cases e : a < less.length
  · have e1 : ∀ b, b < less.length → ent (im ++ [List.replicate ng (-1)]) b k = ent im b k := fun b hb => by unfold ent; rw [lget_app_lt (by omega)]
    rw [e1 a e] at h0 ⊢
    rw [iget_app_lt e] at hla
    obtain ⟨k1, k2⟩ := hB.fix hw e hla hk h0
    have he := hw.ent a k (by omega) hk
    have hrl := root_lt hw.down (c := (ent im a k).toNat) (by omega)
    have he2 := hw.ent (root less (ent im a k).toNat) k (by omega) hk
    rw [hra _ (by omega), e1 _ hrl, hra _ (by omega)]
    exact ⟨k1, k2⟩
  · obtain rfl : a = less.length := by simp at ha; omega
    exfalso
    unfold ent at h0
    rw [← hl, lget_app_eq, iget_rep hk] at h0
    omega
theorem Back.next (hB : Back ng im less []) (hw : WF ng im less) {c g : Nat} (hc : c < less.length) (hlc : iget less c = (c : Int)) (hg : g < ng) (hn : less.length ≤ 2000) :
    Back ng (nextC ng im less c g).1 (nextC ng im less c g).2.1 [] ∧ ((nextC ng im less c g).2.2.1 = false → iget (nextC ng im less c g).2.1 (nextC ng im less c g).2.2.2 = ((nextC ng im less c g).2.2.2 : Int)) ∧ (∀ a, a < less.length → iget (nextC ng im less c g).2.1 a = iget less a) := by
  unfold nextC
  split
  · rename_i h0
    have he := hw.ent c g (by rw [hw.len]; exact hc) hg
    exact ⟨hB, fun _ => (root_fix hw.down _ (by omega)).1, fun _ _ => rfl⟩
  · rename_i h0
    split
    · exact ⟨hB, (fun h => nomatch h), fun _ _ => rfl⟩
    · have hl := hw.len
      have b1 := hB.app hw
      have w1 := hw.app
      refine ⟨?_, fun _ => iget_app_eq, fun a ha => iget_app_lt ha⟩
      have hcc : c < (less ++ [(less.length : Int)]).length := by simp; omega
      have := b1.link w1 (c := less.length) (d := c) (g := g) (by simp) hcc iget_app_eq (by rw [iget_app_lt hc]; exact hlc) hg (by unfold ent; rw [← hl, lget_app_eq, iget_rep hg]; omega) (by unfold ent at h0 ⊢; rw [lget_app_lt (by omega)]; omega)
      exact this
end
theorem goC_back {ng n0 : Nat} : ∀ (w : List Nat) (s : List (List Int) × List Int × Bool × Nat), GoOK ng n0 s → Back ng s.1 s.2.1 [] → (s.2.2.1 = false → iget s.2.1 s.2.2.2 = (s.2.2.2 : Int)) → (∀ g ∈ w, g < ng) →
    Back ng (goC ng s w).1 (goC ng s w).2.1 [] ∧ ((goC ng s w).2.2.1 = false → iget (goC ng s w).2.1 (goC ng s w).2.2.2 = ((goC ng s w).2.2.2 : Int)) ∧ (∀ a, a < s.2.1.length → iget (goC ng s w).2.1 a = iget s.2.1 a)
  | [], s, h, hB, hl, _ => ⟨hB, hl, fun _ _ => rfl⟩
  | g :: r, s, h, hB, hl, hg => by
    unfold goC
    split
    · exact ⟨hB, hl, fun _ _ => rfl⟩
    · rename_i hf
      obtain ⟨b1, b2, b3⟩ := hB.next h.wf h.d (hl (by simpa using hf)) (hg g (by simp)) h.hi
      obtain ⟨h1, h2, h3, h4, _⟩ := nextC_ok h.wf h.d (hg g (by simp)) h.hi
      obtain ⟨c1, c2, c3⟩ := goC_back (n0 := n0) r _ ⟨h1, Nat.le_trans h.lo h2, h3, h4⟩ b1 b2 fun x hx => hg x (by simp [hx])
      exact ⟨c1, c2, fun a ha => (c3 a (by omega)).trans (b3 a ha)⟩
theorem closeC_back {ng : Nat} {im : List (List Int)} {less : List Int} {c : Nat} {w : List Nat} (h : WF ng im less) (hB : Back ng im less []) (hc : c < less.length) (hl : iget less c = (c : Int)) (hn : less.length ≤ 2000) (hg : ∀ g ∈ w, g < ng) : Back ng (closeC ng im less c w).1 (closeC ng im less c w).2.1 [] := by
  unfold closeC
  cases hw : w.getLast? with
  | none => exact hB
  | some g =>
    have hgl : g < ng := hg g (List.mem_of_getLast? hw)
    have ok := goC_ok (n0 := less.length) w.dropLast (im, less, false, c) ⟨h, Nat.le_refl _, hn, hc⟩ fun x hx => hg x (List.dropLast_subset _ hx)
    obtain ⟨b1, b2, b3⟩ := goC_back (n0 := less.length) w.dropLast (im, less, false, c) ⟨h, Nat.le_refl _, hn, hc⟩ hB (fun _ => hl) fun x hx => hg x (List.dropLast_subset _ hx)
    generalize goC ng (im, less, false, c) w.dropLast = s at *
    have hcs : c < s.2.1.length := Nat.lt_of_lt_of_le hc ok.lo
    have hlc : iget s.2.1 c = (c : Int) := (b3 c hc).trans hl
    dsimp only
    split
    · exact b1
    · rename_i hf
      have e1 := image_lt ok.wf ok.d hgl
      have e2 := image_lt ok.wf hcs hgl
      have hd := ok.d
      split
      · rename_i he
        exact ident_back ok.wf (fun p hp => by simp at hp; subst hp; exact ⟨⟨he, e1⟩, by omega, by dsimp only; omega⟩) b1
      · rename_i he
        split
        · rename_i hf
          exact ident_back ok.wf (fun p hp => by simp at hp; subst hp; exact ⟨⟨hf, e2⟩, by omega, by dsimp only; omega⟩) b1
        · rename_i hf2
          refine b1.link ok.wf hcs hd hlc (b2 (by simpa using hf)) hgl ?_ ?_
          · unfold image at hf2; split at hf2 <;> omega
          · unfold image at he; split at he <;> omega
/-- well formed, and generators lead back -/
def BK (ng n : Nat) (s : CSt) : Prop := CloseOK ng n s ∧ Back ng s.1 s.2.1 []
theorem close0_back {ng n : Nat} {s : CSt} {w : List Int} (h : BK ng n s) (hn : 0 < n) (hw : Letters ng w) : BK ng n (close0 ng s w) := by
  refine ⟨close0_ok h.1 hn hw, ?_⟩
  have h0 : 0 < s.2.1.length := Nat.lt_of_lt_of_le hn h.1.lo
  unfold close0
  split
  · exact h.2
  · exact closeC_back h.1.wf h.2 h0 (by have := h.1.wf.down 0 h0; omega) h.1.hi hw.nat
theorem close1_back {ng n c : Nat} {s : CSt} {w : List Int} (h : BK ng n s) (hn : c < n) (hw : Letters ng w) : BK ng n (close1 ng c s w) := by
  refine ⟨close1_ok h.1 hn hw, ?_⟩
  unfold close1
  split
  · rename_i hl
    exact closeC_back h.1.wf h.2 (Nat.lt_of_lt_of_le hn h.1.lo) (by unfold liveC at hl; simp at hl; exact hl.1) h.1.hi hw.nat
  · exact h.2
theorem next1_back {ng n c g : Nat} {s : CSt} (h : BK ng n s) (hn : c < n) (hg : g < ng) : BK ng n (next1 ng c s g) := by
  refine ⟨next1_ok h.1 hn hg, ?_⟩
  unfold next1
  split
  · rename_i hl
    exact (h.2.next h.1.wf (Nat.lt_of_lt_of_le hn h.1.lo) (by unfold liveC at hl; simp at hl; exact hl.1) hg h.1.hi).1
  · exact h.2
theorem foldl_back {α : Type} {ng n : Nat} {f : CSt → α → CSt} {p : α → Prop} (hf : ∀ s x, BK ng n s → p x → BK ng n (f s x)) : ∀ (l : List α) (s : CSt), BK ng n s → (∀ x ∈ l, p x) → BK ng n (l.foldl f s)
  | [], s, h, _ => h
  | x :: r, s, h, hp => foldl_back hf r _ (hf s x h (hp x (by simp))) fun y hy => hp y (by simp [hy])
theorem coset1_back {ng n c : Nat} {rels : List (List Int)} {s : CSt} (h : BK ng n s) (hn : c < n) (hr : ∀ w ∈ rels, Letters ng w) : BK ng n (coset1 ng rels c s) :=
  foldl_back (p := fun g => g < ng) (fun s g h hg => next1_back h hn hg) _ _ (foldl_back (p := Letters ng) (fun s w h hw => close1_back h hn hw) _ _ h hr) fun g hg => List.mem_range.1 hg
theorem outer_back {ng n : Nat} {rels : List (List Int)} (hr : ∀ w ∈ rels, Letters ng w) : ∀ (f c : Nat) (s : CSt), BK ng n s → BK ng n (outer ng rels f c s)
  | 0, _, s, h => h
  | f + 1, c, s, h => by
    unfold outer
    split
    · rename_i hc
      have := coset1_back (n := s.2.1.length) ⟨⟨h.1.wf, Nat.le_refl _, h.1.hi⟩, h.2⟩ hc.1 hr
      exact outer_back hr f _ _ ⟨this.1.le h.1.lo, this.2⟩
    · exact h
theorem startC_back (ng : Nat) : BK ng 1 (startC ng) := ⟨startC_ok ng, fun c g hc _ hg h0 => by
  exfalso
  obtain rfl : c = 0 := by simp [startC] at hc; omega
  simp [startC, ent, lget, iget, hg] at h0⟩
theorem runC_back {ng : Nat} {rels words : List (List Int)} (hr : ∀ w ∈ rels, Letters ng w) (hw : ∀ w ∈ words, Letters ng w) : BK ng 1 (runC ng rels words) :=
  outer_back hr _ _ _ (foldl_back (p := Letters ng) (fun s w h hw => close0_back h (by omega) hw) _ _ (startC_back ng) hw)
theorem image_back {ng : Nat} {im : List (List Int)} {less : List Int} (hF : Full ng im less) (hB : Back ng im less []) {c g : Nat} (hc : c < less.length) (hl : iget less c = (c : Int)) (hg : g < ng) : image im less (image im less c g).toNat g = (c : Int) := by
  have h0 := hF.full c hc hl g hg
  obtain ⟨k1, k2⟩ := hB.fix hF.wf hc hl hg h0
  have e : image im less c g = (root less (ent im c g).toNat : Nat) := by unfold image; rw [if_neg (by omega)]
  rw [e, Int.toNat_natCast]
  unfold image
  rw [if_neg (by omega), k2]

/-- the numbers lead back to the cosets -/
def NBack (n : Nat) (s : NSt) : Prop := ∀ d, d < n → 0 ≤ iget s.2 d → iget s.1 (iget s.2 d).toNat = (d : Int)
theorem visit_nback {n : Nat} {less : List Int} {s : NSt} {d : Nat} (h : TOK n less s) (hb : NBack n s) (hd : d < n) : NBack n (visit s d) := by
  unfold visit
  split
  · rename_i hn
    intro e he h0
    dsimp only at h0 ⊢
    rw [iget_set] at h0 ⊢
    split
    · rename_i h1; rw [Int.toNat_natCast, iget_app_eq, h1.1]
    · rename_i h1
      rw [if_neg h1] at h0
      rw [iget_app_lt (by have := h.num e he h0; omega)]
      exact hb e he h0
  · exact hb
theorem row_nback {ng : Nat} {im : List (List Int)} {less : List Int} (hF : Full ng im less) {i : Nat} {s : NSt} (h : TOK less.length less s) (hb : NBack less.length s) (hi : i < s.1.length) : ∀ m, m ≤ ng → NBack less.length ((List.range m).foldl (visitG im less i) s)
  | 0, _ => hb
  | m + 1, hm => by
    have ih := row_nback hF h hb hi m (by omega)
    obtain ⟨h1, h2, _⟩ := tabRow_ok hF h hi m (by omega)
    rw [List.range_succ, List.foldl_append]
    generalize (List.range m).foldl (visitG im less i) s = t at *
    obtain ⟨d, k1, k2, k3, _⟩ := h1.live i (Nat.lt_of_lt_of_le hi h2.len)
    obtain ⟨e, e1, e2, _⟩ := hF.image k2 k3 (g := m) (by omega)
    show NBack less.length (visitG im less i t m)
    unfold visitG
    rw [k1, Int.toNat_natCast, e1, Int.toNat_natCast]
    exact visit_nback h1 ih e2
theorem loop_nback {ng : Nat} {im : List (List Int)} {less : List Int} (hF : Full ng im less) : ∀ (f i : Nat) (s : NSt), TOK less.length less s → NBack less.length s → NBack less.length (tabLoop ng im less f i s)
  | 0, i, s, _, hb => hb
  | f + 1, i, s, h, hb => by
    unfold tabLoop
    split
    · rename_i hlt
      exact loop_nback hF f (i + 1) _ (tabRow_ok hF h hlt ng (Nat.le_refl _)).1 (row_nback hF h hb hlt ng (Nat.le_refl _))
    · exact hb
theorem numbered_nback {ng : Nat} {im : List (List Int)} {less : List Int} (hF : Full ng im less) : NBack less.length (numbered ng im less) :=
  loop_nback hF _ _ _ (tabStart_ok hF) fun d hd h0 => by
    have hp := hF.pos
    have h0 : 0 ≤ iget ((List.replicate less.length (-1)).set 0 0) d := h0
    show iget [0] (iget ((List.replicate less.length (-1)).set 0 0) d).toNat = _
    rw [iget_set] at h0 ⊢
    split
    · rename_i h1; rw [← h1.1]; rfl
    · rename_i h1; rw [if_neg h1, iget_rep hd] at h0; omega
/-- the entry of the table -/
def tEnt (ng : Nat) (im : List (List Int)) (less : List Int) (k g : Nat) : Int := iget (numbered ng im less).2 (image im less (iget (numbered ng im less).1 k).toNat g).toNat
theorem tEnt_back {ng : Nat} {im : List (List Int)} {less : List Int} (hF : Full ng im less) (hB : Back ng im less []) {k g : Nat} (hk : k < (numbered ng im less).1.length) (hg : g < ng) : tEnt ng im less (tEnt ng im less k g).toNat g = (k : Int) := by
  obtain ⟨h, hs⟩ := numbered_ok hF
  obtain ⟨d, h1, h2, h3, h4⟩ := h.live k hk
  obtain ⟨e, e1, e2, e3⟩ := hF.image h2 h3 hg
  have h0 := hs k hk g hg
  have hn := numbered_nback hF e e2
  have hi := image_back hF hB h2 h3 hg
  unfold tEnt
  rw [h1, Int.toNat_natCast, e1, Int.toNat_natCast] at h0 ⊢
  rw [e1, Int.toNat_natCast] at hi
  rw [hn h0, Int.toNat_natCast, hi, Int.toNat_natCast, h4]
end Go.Proofs.Ytpjglifijdcgnaa

/- Orders of words: l11Order, periodOf; OrderOfElement. -/
namespace Go.Proofs.Ytpjglifijdcgnaa
open Go.RowKit

/-- each list of the table is its own inverse -/
def Invol (T : List (List Int)) (m : Nat) : Prop := ∀ g, g < T.length → ∀ x, x < m → iget (lget T g) (iget (lget T g) x).toNat = (x : Int)
theorem leadL_inj {T : List (List Int)} {m : Nat} (hT : Leads T m) (hI : Invol T m) : ∀ (W : List Int), (∀ z ∈ W, 0 ≤ z ∧ z < T.length) → ∀ x y : Int, 0 ≤ x ∧ x < m → 0 ≤ y ∧ y < m → leadL T x W = leadL T y W → x = y
  | [], _, x, y, _, _, h => h
  | g :: r, hW, x, y, hx, hy, h => by
    have hg := hW g (by simp)
    have e := leadL_inj hT hI r (fun z hz => hW z (by simp [hz])) (iget (lget T g.toNat) x.toNat) (iget (lget T g.toNat) y.toNat) (hT.within g.toNat (by omega) x.toNat (by omega)) (hT.within g.toNat (by omega) y.toNat (by omega)) h
    have e1 := hI g.toNat (by omega) x.toNat (by omega)
    have e2 := hI g.toNat (by omega) y.toNat (by omega)
    rw [e] at e1
    omega
/-- where a word leads 0, k times -/
def orbN (T : List (List Int)) (W : List Int) : Nat → Nat
  | 0 => 0
  | k + 1 => (leadL T (orbN T W k : Nat) W).toNat
section
variable {T : List (List Int)} {W : List Int} {m : Nat}
theorem orbN_lt (hT : Leads T m) (hm : 0 < m) (hW : ∀ z ∈ W, 0 ≤ z ∧ z < T.length) : ∀ k, orbN T W k < m
  | 0 => hm
  | k + 1 => by
    have := orbN_lt hT hm hW k
    have := hT.lead (c := (orbN T W k : Nat)) (by omega) hW
    unfold orbN; omega
theorem orbN_lead (hT : Leads T m) (hm : 0 < m) (hW : ∀ z ∈ W, 0 ≤ z ∧ z < T.length) (k : Nat) : leadL T (orbN T W k : Nat) W = (orbN T W (k + 1) : Nat) := by
  have := orbN_lt hT hm hW k
  have := hT.lead (c := (orbN T W k : Nat)) (by omega) hW
  show _ = (((leadL T (orbN T W k : Nat) W).toNat : Nat) : Int)
  omega
theorem orbN_back (hT : Leads T m) (hI : Invol T m) (hm : 0 < m) (hW : ∀ z ∈ W, 0 ≤ z ∧ z < T.length) : ∀ i d, orbN T W i = orbN T W (i + d) → orbN T W d = 0
  | 0, d, h => by rw [Nat.zero_add] at h; exact h.symm
  | i + 1, d, h => by
    have h1 := orbN_lt hT hm hW i
    have h2 := orbN_lt hT hm hW (i + d)
    have e : leadL T (orbN T W i : Nat) W = leadL T (orbN T W (i + d) : Nat) W := by
      rw [orbN_lead hT hm hW, orbN_lead hT hm hW, h, show i + d + 1 = i + 1 + d by omega]
    have := leadL_inj hT hI W hW _ _ (by omega) (by omega) e
    exact orbN_back hT hI hm hW i d (by omega)
end
theorem pigeon : ∀ (m n : Nat) (f : Nat → Nat), (∀ i, i < n → f i < m) → (∀ i j, i < n → j < n → f i = f j → i = j) → n ≤ m
  | 0, n, f, h, _ => by
    rcases Nat.eq_zero_or_pos n with e | e
    · omega
    · have := h 0 e; omega
  | m + 1, 0, f, _, _ => Nat.zero_le _
  | m + 1, n + 1, f, h, hi => by
    have := pigeon m n (fun i => if f i = m then f n else f i) (fun i hin => by
      have h1 := h i (by omega)
      have h2 := h n (by omega)
      have h3 := hi i n (by omega) (by omega)
      split <;> omega) (fun i j hin hjn e => by
      have h3 := hi i n (by omega) (by omega)
      have h4 := hi j n (by omega) (by omega)
      have h5 := hi i j (by omega) (by omega)
      split at e <;> split at e <;> omega)
    omega
def ordR (T : List (List Int)) (W : List Int) (m : Nat) : Int := match (List.range m).find? (fun k => orbN T W (k + 1) == 0) with
  | some k => ((k + 1 : Nat) : Int)
  | none => 0
theorem ord_spec {T : List (List Int)} {W : List Int} {m : Nat} (hT : Leads T m) (hI : Invol T m) (hm : 0 < m) (hW : ∀ z ∈ W, 0 ≤ z ∧ z < T.length) : ∃ p : Nat, ordR T W m = (p : Int) ∧ 1 ≤ p ∧ p ≤ m ∧ orbN T W p = 0 ∧ ∀ j, 1 ≤ j → j < p → orbN T W j ≠ 0 := by
  unfold ordR
  cases hf : (List.range m).find? (fun k => orbN T W (k + 1) == 0) with
  | some k =>
    rw [List.find?_range_eq_some] at hf
    obtain ⟨h1, h2, h3⟩ := hf
    rw [List.mem_range] at h2
    refine ⟨k + 1, rfl, by omega, by omega, by simpa using h1, fun j hj hjk => ?_⟩
    have := h3 (j - 1) (by omega)
    rw [show j - 1 + 1 = j by omega] at this
    simpa using this
  | none =>
    exfalso
    rw [List.find?_eq_none] at hf
    have hne : ∀ d, 1 ≤ d → d ≤ m → orbN T W d ≠ 0 := fun d h1 h2 => by
      have := hf (d - 1) (List.mem_range.2 (by omega))
      rw [show d - 1 + 1 = d by omega] at this
      simpa using this
    have := pigeon m (m + 1) (orbN T W) (fun i _ => orbN_lt hT hm hW i) (fun i j hi hj e => by
      rcases Nat.lt_trichotomy i j with h | h | h
      · exact absurd (orbN_back hT hI hm hW i (j - i) (by rw [show i + (j - i) = j by omega]; exact e)) (hne _ (by omega) (by omega))
      · exact h
      · exact absurd (orbN_back hT hI hm hW j (i - j) (by rw [show j + (i - j) = i by omega]; exact e.symm)) (hne _ (by omega) (by omega)))
    omega
theorem cosTab_invol {ng : Nat} {rels ws : List (List Int)} (h : Good ng rels ws) (hf : (runC ng rels ws).2.2 = false) : Invol (cosTab ((ng : Int), rels) ws) (cosN ((ng : Int), rels) ws) := fun k hk x hx => by
  rw [cosTab_len] at hk
  have hF := full_run h.rl h.wl hf
  rw [cosTab_nat]
  rw [cosN_nat] at hx
  have hr := tableC_entry hF hx hk
  have hb := tEnt_back hF (runC_back h.rl h.wl).2 hx hk
  have he : ∀ y, y < (numbered ng (runC ng rels ws).1 (runC ng rels ws).2.1).1.length → iget (lget (tableC ng (runC ng rels ws).1 (runC ng rels ws).2.1) k) y = tEnt ng (runC ng rels ws).1 (runC ng rels ws).2.1 y k := fun y hy => by
    simp [tableC, lget, iget, hk, hy, tEnt]
  have hr : 0 ≤ tEnt ng (runC ng rels ws).1 (runC ng rels ws).2.1 x k ∧ tEnt ng (runC ng rels ws).1 (runC ng rels ws).2.1 x k < _ := hr
  rw [he x hx, he _ (by omega)]
  exact hb

set_option maxRecDepth 100000 in
set_option maxHeartbeats 1000000 in
theorem specOrder_fc (T : List (List Int)) (W : List Int) (m n : Nat) (hn : T.length = n) (hT : Leads T m) (hI : Invol T m) (hm : 0 < m) (hm4 : m ≤ 1000000) (hn4 : n ≤ 1000000) (hW : ∀ z ∈ W, 0 ≤ z ∧ z < T.length) (hWl : W.length ≤ 1000000000) :
    FC Try.prog 57 [(1005, imRo T), (1004, wRo W)] [o1 (.sl 1005 0 n), o1 (.sl 1004 0 W.length)] [] (vv (I6 (ordR T W m))) [] := by
  obtain ⟨p, hp0, hp1, hp2, hp3, hp4⟩ := ord_spec hT hI hm hW
  have hL : ∀ k, FC Try.prog 54 [(1005, imRo T), (1004, wRo W)] [o1 (.sl 1005 0 n), vv (I6 (orbN T W k : Nat)), o1 (.sl 1004 0 W.length)] [] (vv (I6 (orbN T W (k + 1) : Nat))) [] := fun k => by
    have := specLead_fc T W (orbN T W k) m n hn hT (orbN_lt hT hm hW k) hm4 hn4 hW hWl
    rwa [orbN_lead hT hm hW] at this
  have hL0 : FC Try.prog 54 [(1005, imRo T), (1004, wRo W)] [o1 (.sl 1005 0 n), vv (I6 0), o1 (.sl 1004 0 W.length)] [] (vv (I6 (orbN T W 1 : Nat))) [] := hL 0
  refine fc_enter (nt := 19) Try.func57 rfl rfl (by simp) fun w0 ω0 => ?_
  (refine goes_seq ?_; refine goes_region ?_; apply run_step rfl; (exact stp_assign rfl rfl); refine run_nil ?_; refine fin_seq ?_; refine goes_seq ?_; refine goes_region ?_; apply run_step rfl; (exact stp_assign rfl rfl); refine run_nil ?_; refine fin_seq ?_; refine goes_seq ?_; refine goes_seq ?_; refine goes_region ?_; apply run_step rfl; (exact stp_move rfl rfl); apply run_step rfl; (exact stp_move rfl rfl); apply run_step rfl; (apply call_gate 54; exact stp_callR hL0 (by as_aux_lemma => kernel_rfl) rfl rfl ⟨rfl, rfl, rfl, trivial⟩ ⟨⟨_, rfl, .inl rfl⟩, ⟨_, rfl, .inl rfl⟩, trivial⟩ rfl rfl); apply run_step rfl; (exact stp_assign rfl rfl); refine run_nil ?_; refine fin_seq ?_; refine goes_block ?_)
  refine goes_loop (fun k : Nat => St.of [(0, o1 (.sl 1005 0 n)), (1, o1 (.sl 1004 0 W.length)), (5, vv (I6 (k : Nat))), (6, vv (I6 (orbN T W k : Nat)))] [(1005, imRo T), (1004, wRo W)]) (fun k => 1 ≤ k ∧ k ≤ p) (fun k => p - k) 1 ⟨Nat.le_refl _, hp1⟩ (Wk.of ⟨rfl, rfl, rfl, rfl, trivial⟩ ⟨rfl, rfl, trivial⟩ trivial) ?_
  rintro k ⟨hk1, hk2⟩
  have hLk := hL k
  (refine goes_seq ?_; refine goes_seq ?_; refine goes_region ?_; apply run_step rfl; (exact stp_move rfl rfl); apply run_step rfl; (exact stp_bin rfl rfl rfl rfl); refine run_nil ?_; refine fin_seq ?_)
  refine goes_cond rfl (fun hne => ?_) (fun hne => ?_)
  · have hlt : k < p := by
      rcases Nat.lt_or_ge k p with h | h
      · exact h
      · exfalso
        obtain rfl : k = p := by omega
        simp [hp3] at hne
    (refine goes_skip ?_; refine fin_seq ?_; refine goes_seq ?_; refine goes_block ?_; refine goes_region ?_; apply run_step rfl; (exact stp_move rfl rfl); apply run_step rfl; (exact stp_move rfl rfl); apply run_step rfl; (exact stp_move rfl rfl); apply run_step rfl; (apply call_gate 54; exact stp_callR hLk (by as_aux_lemma => kernel_rfl) rfl rfl ⟨rfl, rfl, rfl, trivial⟩ ⟨⟨_, rfl, .inl rfl⟩, ⟨_, rfl, .inl rfl⟩, trivial⟩ rfl rfl); apply run_step rfl; (exact stp_assign rfl rfl); refine run_nil ?_; refine fin_block ?_; refine fin_seq ?_; refine goes_region ?_; apply run_step rfl; (exact stp_move rfl rfl); apply run_step rfl; (exact stp_add rfl rfl rfl (by first | exact IntWalk.i64_in _ (by omega) | rfl)); apply run_step rfl; (exact stp_assign rfl rfl); refine run_nil ?_)
    exact fin_round (k + 1) ⟨by omega, hlt⟩ (by omega) (Wk.of ⟨rfl, rfl, rfl, rfl, trivial⟩ ⟨rfl, rfl, trivial⟩ trivial)
  · have h0 : orbN T W k = 0 := by simpa using hne
    obtain rfl : k = p := by
      rcases Nat.lt_or_ge k p with h | h
      · exact absurd h0 (hp4 k hk1 h)
      · omega
    rw [hp0]
    (refine goes_exit ?_; refine fin_exit_then ?_; refine fin_exit_then ?_; refine fin_exit_eq ?_; refine fin_seq ?_; refine goes_seq ?_; refine goes_region ?_; apply run_step rfl; (exact stp_move rfl rfl); apply run_step rfl; (exact stp_assign rfl rfl); refine run_nil ?_; refine fin_seq ?_; refine goes_ret ?_)
    exact fin_ret1 (.inl rfl) rfl (.tmp rfl) trivial trivial
set_option maxRecDepth 100000 in
set_option maxHeartbeats 1000000 in
theorem implOrder_fc (T : List (List Int)) (W : List Int) (m n : Nat) (hn : T.length = n) (hT : Leads T m) (hI : Invol T m) (hm : 0 < m) (hm4 : m ≤ 1000000) (hn4 : n ≤ 1000000) (hW : ∀ z ∈ W, 0 ≤ z ∧ z < T.length) (hWl : W.length ≤ 1000000000) :
    FC Try.prog 58 [(1005, imRo T), (1004, wRo W)] [o1 (.sl 1005 0 n), o1 (.sl 1004 0 W.length)] [] (vv (I6 (ordR T W m))) [] := by
  obtain ⟨p, hp0, hp1, hp2, hp3, hp4⟩ := ord_spec hT hI hm hW
  have hL : ∀ k, FC Try.prog 56 [(1005, imRo T), (1004, wRo W)] [o1 (.sl 1005 0 n), o1 (.sl 1004 0 W.length), vv (I6 (orbN T W k : Nat))] [] (vv (I6 (orbN T W (k + 1) : Nat))) [] := fun k => by
    have := implLead_fc T W (orbN T W k) m n hn hT (orbN_lt hT hm hW k) hm4 hn4 hW hWl
    rwa [orbN_lead hT hm hW] at this
  have hL0 : FC Try.prog 56 [(1005, imRo T), (1004, wRo W)] [o1 (.sl 1005 0 n), o1 (.sl 1004 0 W.length), vv (I6 0)] [] (vv (I6 (orbN T W 1 : Nat))) [] := hL 0
  refine fc_enter (nt := 19) Try.func58 rfl rfl (by simp) fun w0 ω0 => ?_
  (refine goes_seq ?_; refine goes_region ?_; apply run_step rfl; (exact stp_assign rfl rfl); refine run_nil ?_; refine fin_seq ?_; refine goes_seq ?_; refine goes_region ?_; apply run_step rfl; (exact stp_assign rfl rfl); refine run_nil ?_; refine fin_seq ?_; refine goes_seq ?_; refine goes_seq ?_; refine goes_region ?_; apply run_step rfl; (exact stp_move rfl rfl); apply run_step rfl; (exact stp_move rfl rfl); apply run_step rfl; (apply call_gate 56; exact stp_callR hL0 (by as_aux_lemma => kernel_rfl) rfl rfl ⟨rfl, rfl, rfl, trivial⟩ ⟨⟨_, rfl, .inl rfl⟩, ⟨_, rfl, .inl rfl⟩, trivial⟩ rfl rfl); apply run_step rfl; (exact stp_assign rfl rfl); refine run_nil ?_; refine fin_seq ?_; refine goes_block ?_)
  refine goes_loop (fun k : Nat => St.of [(0, o1 (.sl 1005 0 n)), (1, o1 (.sl 1004 0 W.length)), (5, vv (I6 (k : Nat))), (6, vv (I6 (orbN T W k : Nat)))] [(1005, imRo T), (1004, wRo W)]) (fun k => 1 ≤ k ∧ k ≤ p) (fun k => p - k) 1 ⟨Nat.le_refl _, hp1⟩ (Wk.of ⟨rfl, rfl, rfl, rfl, trivial⟩ ⟨rfl, rfl, trivial⟩ trivial) ?_
  rintro k ⟨hk1, hk2⟩
  have hLk := hL k
  (refine goes_seq ?_; refine goes_seq ?_; refine goes_region ?_; apply run_step rfl; (exact stp_move rfl rfl); apply run_step rfl; (exact stp_bin rfl rfl rfl rfl); refine run_nil ?_; refine fin_seq ?_)
  refine goes_cond rfl (fun hne => ?_) (fun hne => ?_)
  · have hlt : k < p := by
      rcases Nat.lt_or_ge k p with h | h
      · exact h
      · exfalso
        obtain rfl : k = p := by omega
        simp [hp3] at hne
    (refine goes_skip ?_; refine fin_seq ?_; refine goes_seq ?_; refine goes_block ?_; refine goes_region ?_; apply run_step rfl; (exact stp_move rfl rfl); apply run_step rfl; (exact stp_add rfl rfl rfl (by first | exact IntWalk.i64_in _ (by omega) | rfl)); apply run_step rfl; (exact stp_assign rfl rfl); refine run_nil ?_; refine fin_block ?_; refine fin_seq ?_; refine goes_region ?_; apply run_step rfl; (exact stp_move rfl rfl); apply run_step rfl; (exact stp_move rfl rfl); apply run_step rfl; (exact stp_move rfl rfl); apply run_step rfl; (apply call_gate 56; exact stp_callR hLk (by as_aux_lemma => kernel_rfl) rfl rfl ⟨rfl, rfl, rfl, trivial⟩ ⟨⟨_, rfl, .inl rfl⟩, ⟨_, rfl, .inl rfl⟩, trivial⟩ rfl rfl); apply run_step rfl; (exact stp_assign rfl rfl); refine run_nil ?_)
    exact fin_round (k + 1) ⟨by omega, hlt⟩ (by omega) (Wk.of ⟨rfl, rfl, rfl, rfl, trivial⟩ ⟨rfl, rfl, trivial⟩ trivial)
  · have h0 : orbN T W k = 0 := by simpa using hne
    obtain rfl : k = p := by
      rcases Nat.lt_or_ge k p with h | h
      · exact absurd h0 (hp4 k hk1 h)
      · omega
    rw [hp0]
    (refine goes_exit ?_; refine fin_exit_then ?_; refine fin_exit_then ?_; refine fin_exit_eq ?_; refine fin_seq ?_; refine goes_seq ?_; refine goes_region ?_; apply run_step rfl; (exact stp_move rfl rfl); apply run_step rfl; (exact stp_assign rfl rfl); refine run_nil ?_; refine fin_seq ?_; refine goes_ret ?_)
    exact fin_ret1 (.inl rfl) rfl (.tmp rfl) trivial trivial

def oeR (d : PresD) (W : List Int) : Int := if elC d W = 0 then ordR (cosTab d []) W (cosN d []) else 0
set_option maxRecDepth 100000 in
set_option maxHeartbeats 1000000 in
theorem specOE_fc (g : Int) (rels : List (List Int)) (W : List Int) (h1 : Fit rels) (h2 : W.length ≤ 4398046511104) :
    FC Try.prog 27 [(1004, wRo W), (1003, rowsRo rels)] [pA g rels.length, o1 (.sl 1004 0 W.length)] [] (.tup [.one (.val (I6 (oeR (g, rels) W))), .one (.val (I6 (elC (g, rels) W)))]) [] := by
  refine fc_enter (nt := 20) Try.func27 rfl rfl (by simp) fun w0 ω0 => ?_
  by_cases hk : elOk (g, rels) W
  · obtain ⟨ng, rfl, hG⟩ := good_nil hk.1
    have hE := specEl_yes h1 h2 hG hk
    have hs := smallOk_run hk.2.2
    have hw := word_of hk
    have hL := specOrder_fc _ W _ ng (cosTab_len _ _ _) (cosTab_leads hG hs.1) (cosTab_invol hG hs.1) (cosN_pos hG hs.1) (by omega) (by have := hG.hi; omega) hw.1 hw.2
    have hc := elC_ok hk
    unfold oeR
    rw [hc, if_pos rfl]
    generalize cosN ((ng : Int), rels) [] = N at *
    generalize cosTab ((ng : Int), rels) [] = T at *
    (refine goes_seq ?_; refine goes_region ?_; apply run_step rfl; (exact stp_box rfl rfl rfl rfl); apply run_step rfl; (exact stp_assign rfl rfl); apply run_step rfl; (exact stp_assign rfl rfl); refine run_nil ?_; refine fin_seq ?_; refine goes_seq ?_; refine goes_region ?_; apply run_step rfl; (exact stp_loadAgg rfl rfl rfl rfl rfl rfl (by as_aux_lemma => kernel_rfl)); apply run_step rfl; (exact stp_move rfl rfl); apply run_step rfl; (apply call_gate 53; exact stp_callN hE (by as_aux_lemma => kernel_rfl) rfl rfl ⟨⟨.inl rfl, .inl rfl, trivial⟩, rfl, trivial⟩ ⟨⟨_, rfl, .inl rfl⟩, ⟨_, rfl, .inl rfl⟩, trivial⟩ rfl rfl rfl); apply run_step rfl; (exact stp_move rfl rfl); apply run_step rfl; (exact stp_extract rfl rfl rfl); apply run_step rfl; (exact stp_extract rfl rfl rfl); apply run_step rfl; (exact stp_assign rfl rfl); apply run_step rfl; (exact stp_assign rfl rfl); refine run_nil ?_; refine fin_seq ?_; refine goes_seq ?_; refine goes_seq ?_; refine goes_region ?_; apply run_step rfl; (exact stp_move rfl rfl); apply run_step rfl; (exact stp_bin rfl rfl rfl rfl); refine run_nil ?_; refine fin_seq ?_)
    refine goes_cond rfl (fun e => by cases e) (fun _ => ?_)
    (refine goes_skip ?_; refine fin_seq ?_; refine goes_seq ?_; refine goes_region ?_; apply run_step rfl; (exact stp_move rfl rfl); apply run_step rfl; (exact stp_move rfl rfl); apply run_step rfl; (apply call_gate 57; exact stp_callR hL (by as_aux_lemma => kernel_rfl) rfl rfl ⟨rfl, rfl, trivial⟩ ⟨⟨_, rfl, .inr rfl⟩, ⟨_, rfl, .inl rfl⟩, trivial⟩ rfl rfl); apply run_step rfl; (exact stp_assign rfl rfl); apply run_step rfl; (exact stp_assign rfl rfl); refine run_nil ?_; refine fin_seq ?_; refine goes_ret ?_)
    exact fin_ret2 (.inl rfl) rfl (.tmp rfl) (.tmp rfl) trivial trivial
  · have hE := specEl_no h1 h2 hk
    have hc := elC_no hk
    unfold oeR
    rw [if_neg hc]
    (refine goes_seq ?_; refine goes_region ?_; apply run_step rfl; (exact stp_box rfl rfl rfl rfl); apply run_step rfl; (exact stp_assign rfl rfl); apply run_step rfl; (exact stp_assign rfl rfl); refine run_nil ?_; refine fin_seq ?_; refine goes_seq ?_; refine goes_region ?_; apply run_step rfl; (exact stp_loadAgg rfl rfl rfl rfl rfl rfl (by as_aux_lemma => kernel_rfl)); apply run_step rfl; (exact stp_move rfl rfl); apply run_step rfl; (apply call_gate 53; exact stp_callR hE (by as_aux_lemma => kernel_rfl) rfl rfl ⟨⟨.inl rfl, .inl rfl, trivial⟩, rfl, trivial⟩ ⟨⟨_, rfl, .inl rfl⟩, ⟨_, rfl, .inl rfl⟩, trivial⟩ rfl rfl); apply run_step rfl; (exact stp_move rfl rfl); apply run_step rfl; (exact stp_extract rfl rfl rfl); apply run_step rfl; (exact stp_extract rfl rfl rfl); apply run_step rfl; (exact stp_assign rfl rfl); apply run_step rfl; (exact stp_assign rfl rfl); refine run_nil ?_; refine fin_seq ?_; refine goes_seq ?_; refine goes_seq ?_; refine goes_region ?_; apply run_step rfl; (exact stp_move rfl rfl); apply run_step rfl; (exact stp_bin rfl rfl rfl rfl); refine run_nil ?_; refine fin_seq ?_)
    refine goes_cond rfl (fun _ => ?_) (fun e => ?_)
    · (refine goes_seq ?_; refine goes_region ?_; apply run_step rfl; (exact stp_move rfl rfl); apply run_step rfl; (exact stp_assign rfl rfl); apply run_step rfl; (exact stp_assign rfl rfl); refine run_nil ?_; refine fin_seq ?_; refine goes_ret ?_; refine fin_ret_then ?_)
      exact fin_ret2 (.inl rfl) rfl (.tmp rfl) (.tmp rfl) trivial trivial
    · exfalso; simp at e; exact hc e
set_option maxRecDepth 100000 in
set_option maxHeartbeats 1000000 in
theorem implOE_fc (g : Int) (rels : List (List Int)) (W : List Int) (h1 : Fit rels) (h2 : W.length ≤ 4398046511104) :
    FC Try.prog 28 [(1004, wRo W), (1003, rowsRo rels)] [pA g rels.length, o1 (.sl 1004 0 W.length)] [] (.tup [.one (.val (I6 (oeR (g, rels) W))), .one (.val (I6 (elC (g, rels) W)))]) [] := by
  refine fc_enter (nt := 20) Try.func28 rfl rfl (by simp) fun w0 ω0 => ?_
  by_cases hk : elOk (g, rels) W
  · obtain ⟨ng, rfl, hG⟩ := good_nil hk.1
    have hE := implEl_yes h1 h2 hG hk
    have hs := smallOk_run hk.2.2
    have hw := word_of hk
    have hL := implOrder_fc _ W _ ng (cosTab_len _ _ _) (cosTab_leads hG hs.1) (cosTab_invol hG hs.1) (cosN_pos hG hs.1) (by omega) (by have := hG.hi; omega) hw.1 hw.2
    have hc := elC_ok hk
    unfold oeR
    rw [hc, if_pos rfl]
    generalize cosN ((ng : Int), rels) [] = N at *
    generalize cosTab ((ng : Int), rels) [] = T at *
    (refine goes_seq ?_; refine goes_region ?_; apply run_step rfl; (exact stp_box rfl rfl rfl rfl); apply run_step rfl; (exact stp_assign rfl rfl); apply run_step rfl; (exact stp_assign rfl rfl); refine run_nil ?_; refine fin_seq ?_; refine goes_seq ?_; refine goes_region ?_; apply run_step rfl; (exact stp_loadAgg rfl rfl rfl rfl rfl rfl (by as_aux_lemma => kernel_rfl)); apply run_step rfl; (exact stp_move rfl rfl); apply run_step rfl; (apply call_gate 55; exact stp_callN hE (by as_aux_lemma => kernel_rfl) rfl rfl ⟨⟨.inl rfl, .inl rfl, trivial⟩, rfl, trivial⟩ ⟨⟨_, rfl, .inl rfl⟩, ⟨_, rfl, .inl rfl⟩, trivial⟩ rfl rfl rfl); apply run_step rfl; (exact stp_move rfl rfl); apply run_step rfl; (exact stp_extract rfl rfl rfl); apply run_step rfl; (exact stp_extract rfl rfl rfl); apply run_step rfl; (exact stp_assign rfl rfl); apply run_step rfl; (exact stp_assign rfl rfl); refine run_nil ?_; refine fin_seq ?_; refine goes_seq ?_; refine goes_seq ?_; refine goes_region ?_; apply run_step rfl; (exact stp_move rfl rfl); apply run_step rfl; (exact stp_bin rfl rfl rfl rfl); refine run_nil ?_; refine fin_seq ?_)
    refine goes_cond rfl (fun e => by cases e) (fun _ => ?_)
    (refine goes_skip ?_; refine fin_seq ?_; refine goes_seq ?_; refine goes_region ?_; apply run_step rfl; (exact stp_move rfl rfl); apply run_step rfl; (exact stp_move rfl rfl); apply run_step rfl; (apply call_gate 58; exact stp_callR hL (by as_aux_lemma => kernel_rfl) rfl rfl ⟨rfl, rfl, trivial⟩ ⟨⟨_, rfl, .inr rfl⟩, ⟨_, rfl, .inl rfl⟩, trivial⟩ rfl rfl); apply run_step rfl; (exact stp_assign rfl rfl); apply run_step rfl; (exact stp_assign rfl rfl); refine run_nil ?_; refine fin_seq ?_; refine goes_ret ?_)
    exact fin_ret2 (.inl rfl) rfl (.tmp rfl) (.tmp rfl) trivial trivial
  · have hE := implEl_no h1 h2 hk
    have hc := elC_no hk
    unfold oeR
    rw [if_neg hc]
    (refine goes_seq ?_; refine goes_region ?_; apply run_step rfl; (exact stp_box rfl rfl rfl rfl); apply run_step rfl; (exact stp_assign rfl rfl); apply run_step rfl; (exact stp_assign rfl rfl); refine run_nil ?_; refine fin_seq ?_; refine goes_seq ?_; refine goes_region ?_; apply run_step rfl; (exact stp_loadAgg rfl rfl rfl rfl rfl rfl (by as_aux_lemma => kernel_rfl)); apply run_step rfl; (exact stp_move rfl rfl); apply run_step rfl; (apply call_gate 55; exact stp_callR hE (by as_aux_lemma => kernel_rfl) rfl rfl ⟨⟨.inl rfl, .inl rfl, trivial⟩, rfl, trivial⟩ ⟨⟨_, rfl, .inl rfl⟩, ⟨_, rfl, .inl rfl⟩, trivial⟩ rfl rfl); apply run_step rfl; (exact stp_move rfl rfl); apply run_step rfl; (exact stp_extract rfl rfl rfl); apply run_step rfl; (exact stp_extract rfl rfl rfl); apply run_step rfl; (exact stp_assign rfl rfl); apply run_step rfl; (exact stp_assign rfl rfl); refine run_nil ?_; refine fin_seq ?_; refine goes_seq ?_; refine goes_seq ?_; refine goes_region ?_; apply run_step rfl; (exact stp_move rfl rfl); apply run_step rfl; (exact stp_bin rfl rfl rfl rfl); refine run_nil ?_; refine fin_seq ?_)
    refine goes_cond rfl (fun _ => ?_) (fun e => ?_)
    · (refine goes_seq ?_; refine goes_region ?_; apply run_step rfl; (exact stp_move rfl rfl); apply run_step rfl; (exact stp_assign rfl rfl); apply run_step rfl; (exact stp_assign rfl rfl); refine run_nil ?_; refine fin_seq ?_; refine goes_ret ?_; refine fin_ret_then ?_)
      exact fin_ret2 (.inl rfl) rfl (.tmp rfl) (.tmp rfl) trivial trivial
    · exfalso; simp at e; exact hc e
theorem api_specOE {E1 E E' : Nat} {lo hi lo' hi' : Nat} {v v' : Value} {d : PresD} {W : List Int} (w : World) (h : OwP E1 E w lo hi v d) (h' : OwnS E' w lo' hi' v' W) :
    Calls Try.prog 27 #[v, v'] w fun e w' => e = .returned (.tuple #[.int .i64 (oeR d W), .int .i64 (elC d W)]) ∧ Below w.heap.size w w' := two_vals (callPS (fun k1 k2 => specOE_fc d.1 d.2 W k1 k2) h h')
theorem api_implOE {E1 E E' : Nat} {lo hi lo' hi' : Nat} {v v' : Value} {d : PresD} {W : List Int} (w : World) (h : OwP E1 E w lo hi v d) (h' : OwnS E' w lo' hi' v' W) :
    Calls Try.prog 28 #[v, v'] w fun e w' => e = .returned (.tuple #[.int .i64 (oeR d W), .int .i64 (elC d W)]) ∧ Below w.heap.size w w' := two_vals (callPS (fun k1 k2 => implOE_fc d.1 d.2 W k1 k2) h h')
end Go.Proofs.Ytpjglifijdcgnaa

/- Lengths of shortest words: all cosets are met; distances; how many have each length. No program in sight. -/
namespace Go.Proofs.Ytpjglifijdcgnaa

/-- each coset but the first one was met as the image of one before it -/
def NPar (ng : Nat) (im : List (List Int)) (less : List Int) (s : NSt) : Prop := ∀ k, 1 ≤ k → k < s.1.length → ∃ i g, i < k ∧ g < ng ∧ image im less (iget s.1 i).toNat g = iget s.1 k
theorem row_npar {ng : Nat} {im : List (List Int)} {less : List Int} (hF : Full ng im less) {i : Nat} {s : NSt} (h : TOK less.length less s) (hb : NPar ng im less s) (hi : i < s.1.length) : ∀ m, m ≤ ng → NPar ng im less ((List.range m).foldl (visitG im less i) s)
  | 0, _ => hb
  | m + 1, hm => by
    have ih := row_npar hF h hb hi m (by omega)
    obtain ⟨h1, h2, _⟩ := tabRow_ok hF h hi m (by omega)
    rw [List.range_succ, List.foldl_append]
    generalize (List.range m).foldl (visitG im less i) s = t at *
    have hit : i < t.1.length := Nat.lt_of_lt_of_le hi h2.len
    obtain ⟨d, k1, k2, k3, _⟩ := h1.live i hit
    obtain ⟨e, e1, e2, _⟩ := hF.image k2 k3 (g := m) (by omega)
    show NPar ng im less (visitG im less i t m)
    unfold visitG
    rw [k1, Int.toNat_natCast, e1, Int.toNat_natCast]
    unfold visit
    split
    · intro k hk1 hk2
      dsimp only at hk2 ⊢
      by_cases ek : k < t.1.length
      · obtain ⟨j, g, j1, j2, j3⟩ := ih k hk1 ek
        exact ⟨j, g, j1, j2, by rw [iget_app_lt (by omega), iget_app_lt ek]; exact j3⟩
      · obtain rfl : k = t.1.length := by simp at hk2; omega
        exact ⟨i, m, hit, by omega, by rw [iget_app_lt hit, iget_app_eq, k1, Int.toNat_natCast, e1]⟩
    · exact ih
theorem loop_npar {ng : Nat} {im : List (List Int)} {less : List Int} (hF : Full ng im less) : ∀ (f i : Nat) (s : NSt), TOK less.length less s → NPar ng im less s → NPar ng im less (tabLoop ng im less f i s)
  | 0, i, s, _, hb => hb
  | f + 1, i, s, h, hb => by
    unfold tabLoop
    split
    · rename_i hlt
      exact loop_npar hF f (i + 1) _ (tabRow_ok hF h hlt ng (Nat.le_refl _)).1 (row_npar hF h hb hlt ng (Nat.le_refl _))
    · exact hb
theorem cosTab_parent {ng : Nat} {rels ws : List (List Int)} (h : Good ng rels ws) (hf : (runC ng rels ws).2.2 = false) : ∀ k, 1 ≤ k → k < cosN ((ng : Int), rels) ws → ∃ i g, i < k ∧ g < ng ∧ bTo (cosTab ((ng : Int), rels) ws) i g = k := fun k hk1 hk2 => by
  have hF := full_run h.rl h.wl hf
  rw [cosTab_nat]
  rw [cosN_nat] at hk2
  obtain ⟨hT, _⟩ := numbered_ok hF
  have hp : NPar ng (runC ng rels ws).1 (runC ng rels ws).2.1 (numbered ng (runC ng rels ws).1 (runC ng rels ws).2.1) := loop_npar hF _ _ _ (tabStart_ok hF) fun k h1 h2 => by simp [tabStart] at h2; omega
  obtain ⟨i, g, i1, i2, i3⟩ := hp k hk1 hk2
  obtain ⟨d, d1, _, _, d4⟩ := hT.live k hk2
  refine ⟨i, g, i1, i2, ?_⟩
  have he : iget (lget (tableC ng (runC ng rels ws).1 (runC ng rels ws).2.1) g) i = tEnt ng (runC ng rels ws).1 (runC ng rels ws).2.1 i g := by
    simp [tableC, lget, iget, i2, show i < (numbered ng (runC ng rels ws).1 (runC ng rels ws).2.1).1.length by omega, tEnt]
  unfold bTo
  rw [he]
  unfold tEnt
  rw [i3, d1, Int.toNat_natCast, d4, Int.toNat_natCast]

section
variable {T : List (List Int)} {ng n : Nat}
def BSeen (T : List (List Int)) (ng i : Nat) (s : BSt) : Prop := ∀ k, k < i → ∀ g, g < ng → bat s.2.1 (bTo T (iget s.2.2 k).toNat g) = true
theorem bVisit_met {s : BSt} {c g d : Nat} (h : BOK n s) (hd : d < n) : bat (bVisit s c g d).2.1 d = true := by
  unfold bVisit
  split
  · assumption
  · dsimp only; rw [bat_set, if_pos ⟨rfl, by rw [h.l2]; exact hd⟩]
theorem bRow_met (hT : Leads T n) (hng : T.length = ng) {c : Nat} (hc : c < n) {s : BSt} (h : BOK n s) : ∀ m, m ≤ ng → ∀ g, g < m → bat ((List.range m).foldl (bStep T c) s).2.1 (bTo T c g) = true
  | 0, _, g, hg => by omega
  | m + 1, hm, g, hg => by
    obtain ⟨h1, _⟩ := bRow_ok hT hng hc h m (by omega)
    have ih := bRow_met hT hng hc h m (by omega)
    rw [List.range_succ, List.foldl_append]
    generalize (List.range m).foldl (bStep T c) s = t at *
    show bat (bVisit t c m (bTo T c m)).2.1 (bTo T c g) = true
    by_cases e : g = m
    · subst e; exact bVisit_met h1 (bTo_lt hT hc (by omega)).1
    · exact ((bVisit_grow h1).met _ (bTo_lt hT hc (by omega)).1 (ih g (by omega))).1
theorem bLoop_seen (hT : Leads T n) (hng : T.length = ng) : ∀ (f i : Nat) (s : BSt), BOK n s → BSeen T ng i s → i ≤ s.2.2.length → n + 1 ≤ f + i → BSeen T ng (bLoop T ng f i s).2.2.length (bLoop T ng f i s)
  | 0, i, s, h, hs, hi, hf => by have := h.le; omega
  | f + 1, i, s, h, hs, hi, hf => by
    unfold bLoop
    split
    · rename_i hlt
      obtain ⟨d, h1, h2, _⟩ := h.q i hlt
      obtain ⟨k1, k2⟩ := bRow_ok hT hng (c := (iget s.2.2 i).toNat) (by omega) h ng (Nat.le_refl _)
      refine bLoop_seen hT hng f (i + 1) _ k1 (fun k hk g hg => ?_) (Nat.le_trans hlt k2.len) (by omega)
      have e : iget (bRow T ng (iget s.2.2 i).toNat s).2.2 k = iget s.2.2 k := k2.pre k (by omega)
      rw [e]
      by_cases e2 : k = i
      · subst e2; exact bRow_met hT hng (by omega) h ng (Nat.le_refl _) g hg
      · obtain ⟨d', q1, q2, _⟩ := h.q k (by omega)
        exact (k2.met _ (bTo_lt hT (by omega) (by omega)).1 (hs k (by omega) g hg)).1
    · obtain rfl : i = s.2.2.length := by omega
      exact hs
theorem bfs_all (hT : Leads T n) (hng : T.length = ng) (hn : 0 < n) (hp : ∀ k, 1 ≤ k → k < n → ∃ i g, i < k ∧ g < ng ∧ bTo T i g = k) : ∀ d, d < n → bat (bfs T ng n).2.1 d = true := by
  obtain ⟨h1, h2⟩ := bLoop_ok hT hng (n + 1) 0 _ (bStart_ok hn)
  have hs := bLoop_seen hT hng (n + 1) 0 _ (bStart_ok hn) (fun k hk => by omega) (Nat.zero_le _) (by omega)
  intro d
  induction d using Nat.strongRecOn with
  | _ d ih =>
    intro hd
    by_cases e : d = 0
    · subst e
      exact (h2.met 0 hn (by show bat ((List.replicate n false).set 0 true) 0 = true; rw [bat_set, if_pos ⟨rfl, by simpa using hn⟩])).1
    · obtain ⟨i, g, i1, i2, i3⟩ := hp d (by omega) hd
      obtain ⟨k, k1, k2⟩ := h1.cov i (by omega) (ih i i1 (by omega))
      have := hs k k1 g i2
      rw [k2, Int.toNat_natCast, i3] at this
      exact this
end
/-- the distances so far -/
def farL (s : BSt) : List Int := (List.range s.1.length).map fun k => if bat s.2.1 k = true then ((lget s.1 k).length : Int) else -1
theorem farL_len (s : BSt) : (farL s).length = s.1.length := by simp [farL]
theorem farL_get {s : BSt} {k : Nat} (h : k < s.1.length) : iget (farL s) k = if bat s.2.1 k = true then ((lget s.1 k).length : Int) else -1 := by simp [farL, iget, h]
theorem int_ext {a b : List Int} (hl : a.length = b.length) (h : ∀ k, k < a.length → iget a k = iget b k) : a = b := by
  refine List.ext_getElem hl fun k h1 h2 => ?_
  have := h k h1
  simpa [iget, h1, h2] using this
theorem farL_start (n : Nat) : farL (bStart n) = (List.replicate n (-1)).set 0 0 := by
  refine int_ext (by simp [farL, bStart]) fun k hk => ?_
  have hk : k < n := by simpa [farL, bStart] using hk
  rw [farL_get (by simpa [bStart] using hk), iget_set, iget_rep hk]
  show (if bat ((List.replicate n false).set 0 true) k = true then ((lget (List.replicate n ([] : List Int)) k).length : Int) else -1) = _
  by_cases e : 0 = k
  · subst e
    have hb : bat ((List.replicate n false).set 0 true) 0 = true := by rw [bat_set, if_pos ⟨rfl, by simpa using hk⟩]
    rw [if_pos hb, if_pos ⟨rfl, by simpa using hk⟩]
    simp [lget, hk]
  · have hb : bat ((List.replicate n false).set 0 true) k = false := by rw [bat_set, if_neg (fun h => e h.1)]; simp [bat, hk]
    rw [if_neg (by rw [hb]; simp), if_neg (fun h => e h.1)]
theorem farL_visit {n c g d : Nat} {s : BSt} (h : BOK n s) (hc : c < n) (hm : bat s.2.1 d = false) (hcm : bat s.2.1 c = true) : farL (bVisit s c g d) = (farL s).set d (iget (farL s) c + 1) := by
  have hv : bVisit s c g d = (s.1.set d (lget s.1 c ++ [(g : Int)]), s.2.1.set d true, s.2.2 ++ [(d : Int)]) := by unfold bVisit; rw [if_neg (by rw [hm]; simp)]
  have hcl : iget (farL s) c = ((lget s.1 c).length : Int) := by rw [farL_get (by rw [h.l1]; exact hc), if_pos hcm]
  rw [hv, hcl]
  refine int_ext (by simp [farL]) fun k hk => ?_
  have hk : k < n := by simpa [farL, h.l1] using hk
  rw [farL_get (by simpa [h.l1] using hk), iget_set, farL_get (by rw [h.l1]; exact hk)]
  dsimp only
  by_cases e : d = k
  · subst e
    have hb : bat (s.2.1.set d true) d = true := by rw [bat_set, if_pos ⟨rfl, by rw [h.l2]; exact hk⟩]
    rw [if_pos hb, lget_set, if_pos ⟨rfl, by rw [h.l1]; exact hk⟩, if_pos ⟨rfl, by rw [farL_len, h.l1]; exact hk⟩]
    simp
  · have hb : bat (s.2.1.set d true) k = bat s.2.1 k := by rw [bat_set, if_neg (fun h => e h.1)]
    have hl2 : lget (s.1.set d (lget s.1 c ++ [(g : Int)])) k = lget s.1 k := by rw [lget_set, if_neg (fun h => e h.1)]
    rw [hb, hl2]
    exact (if_neg (fun h => e h.1)).symm
theorem farL_all {n : Nat} {s : BSt} (h : BOK n s) (ha : ∀ d, d < n → bat s.2.1 d = true) : farL s = s.1.map fun w => (w.length : Int) := by
  refine int_ext (by simp [farL]) fun k hk => ?_
  have hk : k < s.1.length := by simpa [farL] using hk
  rw [farL_get hk, if_pos (ha k (by rw [← h.l1]; exact hk))]
  simp [iget, hk, lget]

/-- one more than the greatest -/
def topL (L : List Nat) : Nat := L.foldl (fun a l => max a (l + 1)) 0
/-- how many of a list are 0, 1, and so on, up to n - 1 -/
def hist (L : List Nat) (n : Nat) : List Int := (List.range n).map fun l => ((L.filter fun x => x == l).length : Int)
theorem hist_len (L : List Nat) (n : Nat) : (hist L n).length = n := by simp [hist]
theorem hist_get {L : List Nat} {n l : Nat} (h : l < n) : iget (hist L n) l = ((L.filter fun x => x == l).length : Int) := by simp [hist, iget, h]
theorem topL_snoc (L : List Nat) (l : Nat) : topL (L ++ [l]) = max (topL L) (l + 1) := by simp [topL, List.foldl_append]
theorem foldl_max_le : ∀ (L : List Nat) (a : Nat), a ≤ L.foldl (fun a l => max a (l + 1)) a ∧ ∀ x ∈ L, x < L.foldl (fun a l => max a (l + 1)) a
  | [], a => ⟨Nat.le_refl _, fun x hx => by simp at hx⟩
  | y :: r, a => by
    obtain ⟨h1, h2⟩ := foldl_max_le r (max a (y + 1))
    simp only [List.foldl_cons]
    refine ⟨by omega, fun x hx => ?_⟩
    rcases List.mem_cons.1 hx with rfl | hx
    · omega
    · exact h2 x hx
theorem lt_topL {L : List Nat} {x : Nat} (h : x ∈ L) : x < topL L := (foldl_max_le L 0).2 x h
theorem hist_more {L : List Nat} {n : Nat} (h : topL L ≤ n) : hist L (n + 1) = hist L n ++ [0] := by
  unfold hist
  rw [List.range_succ, List.map_append]
  have : L.filter (fun x => x == n) = [] := by
    rw [List.filter_eq_nil_iff]
    intro x hx
    have := lt_topL hx
    simp; omega
  simp [this]
theorem hist_snoc {L : List Nat} {n l : Nat} (h : l < n) : hist (L ++ [l]) n = (hist L n).set l (iget (hist L n) l + 1) := by
  refine int_ext (by simp [hist]) fun k hk => ?_
  have hk : k < n := by simpa [hist] using hk
  rw [hist_get hk, iget_set, hist_get h, hist_get hk, List.filter_append, List.length_append]
  by_cases e : l = k
  · subst e
    rw [if_pos ⟨rfl, by rw [hist_len]; exact h⟩]
    simp
  · rw [if_neg (fun h => e h.1)]
    simp [e]
theorem hist_nil (n : Nat) : hist [] n = List.replicate n 0 := by
  refine int_ext (by simp [hist]) fun k hk => ?_
  have hk : k < n := by simpa [hist] using hk
  rw [hist_get hk, iget_rep hk]; simp
theorem topL_le {L : List Nat} {m : Nat} (h : ∀ x ∈ L, x < m) : topL L ≤ m := by
  have key : ∀ (L : List Nat) (a : Nat), a ≤ m → (∀ x ∈ L, x < m) → L.foldl (fun a l => max a (l + 1)) a ≤ m := by
    intro L
    induction L with
    | nil => intro a ha _; exact ha
    | cons y r ih =>
      intro a ha h
      have := h y (by simp)
      exact ih (max a (y + 1)) (by omega) fun x hx => h x (by simp [hx])
  exact key L 0 (Nat.zero_le _) h
end Go.Proofs.Ytpjglifijdcgnaa

/- slices.Clone at []int64. -/
namespace Go.Proofs.Ytpjglifijdcgnaa
open Go.RowKit

set_option maxHeartbeats 400000 in
theorem clone_any (ao : Option Addr) (n c : Nat) (zs : List Int) (w : World) (h : Ints w ao n zs) (hn : n ≤ 1048576) :
    Calls Try.prog 84 #[.slice ao n c] w fun e w' => ∃ ao' c', e = .returned (.slice ao' n c') ∧ Own w' w.heap.size 2 ao' n c' (zs.map (Value.int .i64)) ∧ Below w.heap.size w w' := by
  have he := fun (w : World) => Lib.run_eql_slice_nil (P := Try.prog) w 37 2 ao n c 0 0 Try.underlying37
  cases ao with
  | none =>
    obtain ⟨rfl, rfl⟩ := h.of_none
    go_enter Try.func84, Try.ntmps84
    go_wp2
    go_ret
    exact ⟨_, _, rfl, Own.nil_ _ _ _, Below.refl _ _⟩
  | some ad =>
    have h2 : Ints (w.alloc (.cells #[] 2)) (some ad) n zs := h.below ((Below.refl _ _).alloc (Nat.le_refl _) _)
    have H2 := Lib.hid h2
    clear h2
    go_enter Try.func84, Try.ntmps84
    go_wp2_with (at_builtin; refine wpList_apN etI _ rfl _ _ rfl w.heap.size _ 0 0 [] rfl (Own.empty_ w _ (Nat.le_refl _)) (some ad) n c zs rfl H2.out (by omega) (by simp) ?_; intro ao2 c2 w2 ho2 hg2 hblk)
    go_ret
    refine ⟨_, _, rfl, by simpa using ho2, ((Below.refl _ _).alloc (Nat.le_refl _) _).grown hg2 (by simp) (fun g hg => ?_)⟩
    simp [bk] at hg; omega
end Go.Proofs.Ytpjglifijdcgnaa

/- The reference's l01Own. -/
namespace Go.Proofs.Ytpjglifijdcgnaa
open Go.RowKit

set_option maxRecDepth 100000 in
set_option maxHeartbeats 400000 in
theorem own_any (ao : Option Addr) (n c : Nat) (zs : List Int) (w : World) (h : Ints w ao n zs) (hn : n ≤ 1048576) :
    Calls Try.prog 82 #[.slice ao n c] w fun e w' => ∃ ao' c', e = .returned (.slice ao' n c') ∧ Own w' w.heap.size 2 ao' n c' (zs.map (Value.int .i64)) ∧ Below w.heap.size w w' := by
  have h2 : Ints (w.alloc (.cells #[] 2)) ao n zs := h.below (below_alloc1 _ _)
  have H2 := Lib.hid h2
  clear h2
  go_enter Try.func82, Try.ntmps82
  go_wp2_with (at_builtin; refine wpList_apN etI _ rfl _ _ rfl w.heap.size _ 0 0 [] rfl (Own.empty_ w _ (Nat.le_refl _)) ao n c zs rfl H2.out (by omega) (by simp) ?_; intro ao2 c2 w2 ho2 hg2 hblk)
  go_ret
  refine ⟨_, _, rfl, by simpa using ho2, (below_alloc1 w _).grown hg2 (by simp) (fun g hg => ?_)⟩
  simp [bk] at hg; omega

end Go.Proofs.Ytpjglifijdcgnaa

/- Shortest words to all cosets: l11Shortest. -/
namespace Go.Proofs.Ytpjglifijdcgnaa
open Go.RowKit

section
variable {P : Program} {nt : Nat} {S : St} {t : Nat} {ty : TypeId} {ps : String} {af : Array Edge} {gd : Option (Nat × Bool)} {x y : Operand}
abbrev boOw (bs : List Bool) : Ch := ⟨true, 4, 1, .vals (bvals bs)⟩
theorem stp_makeB {T E n : Nat} {l c : Operand} {kl kc : IntKind} {L C : Int} (ht : Nat.blt t nt = true) (hT : elZ P T E 1 = true) (hz : (P.info? E).bind (·.zero) = some (.bool false)) (hl : S.op l = some (vv (.int kl L))) (hc : S.op c = some (vv (.int kc C)))
    (hL : L = (n : Int)) (hC : C = (n : Int)) (hn : n ≤ 2199023255552) : Stp P nt ⟨some t, .makeSlice T l c, ty, ps, af, gd⟩ S ((S.new t ⟨true, E, 1, .vals (bvals (List.replicate n false))⟩).put t (o1 (.sl t 0 n))) := by
  rw [bvals_rep]
  exact stp_make (ts := #[]) ht hT hz hl hc hL hC hn rfl
theorem stp_stB {T : TypeId} {n : Nm} {i : Nat} {c : Ch} {bs : List Bool} {b : Bool} (hx : S.op x = some (o1 (.ptr n i))) (hy : S.op y = some (vv (.bool b))) (hc : S.ch n = some c) (hown : c.own = true) (hd : c.d = .vals (bvals bs)) (hi : i < bs.length) (hT : sizeB P T 1 = true) :
    Stp P nt ⟨none, .store T x y, ty, ps, af, gd⟩ S (S.set n { c with d := .vals (bvals (bs.set i b)) }) := by
  have := stp_storeV (P := P) (nt := nt) (ty := ty) (ps := ps) (af := af) (gd := gd) hx hy hc hown hd (by rw [bvals_len]; exact hi) hT rfl
  rwa [bvals_set] at this
end
theorem specOwn_fc (x y i n : Nat) (zss : List (List Int)) (hi : i < zss.length) (hn : (lget zss i).length = n) (hl : n ≤ 1000000) :
    FC Try.prog 82 [(x, imRo zss)] [o1 (.esl x i 0 n)] [(y, leOw (lget zss i))] (o1 (.sl y 0 n)) [] := by
  subst hn
  exact fc_of_own fun w η ω us hm ⟨hl', ha⟩ => by
    obtain ⟨u0, g0, d0⟩ := ha 0 _ rfl
    obtain ⟨ao, c, rfl, hr⟩ := rdE (x := x) (zss := zss) hm (lk_self _ _) hi d0 (by omega)
    rw [one_of hl' g0]
    refine (own_any ao _ c _ w hr (by omega)).mono ?_
    rintro e w' ⟨ao', c', rfl, ho, hb⟩
    exact ⟨ao', c', rfl, ho, hb⟩
theorem implClone_fc (x y i n : Nat) (zss : List (List Int)) (hi : i < zss.length) (hn : (lget zss i).length = n) (hl : n ≤ 1000000) :
    FC Try.prog 84 [(x, imRo zss)] [o1 (.esl x i 0 n)] [(y, leOw (lget zss i))] (o1 (.sl y 0 n)) [] := by
  subst hn
  exact fc_of_own fun w η ω us hm ⟨hl', ha⟩ => by
    obtain ⟨u0, g0, d0⟩ := ha 0 _ rfl
    obtain ⟨ao, c, rfl, hr⟩ := rdE (x := x) (zss := zss) hm (lk_self _ _) hi d0 (by omega)
    rw [one_of hl' g0]
    refine (clone_any ao _ c _ w hr (by omega)).mono ?_
    rintro e w' ⟨ao', c', rfl, ho, hb⟩
    exact ⟨ao', c', rfl, ho, hb⟩

set_option maxRecDepth 100000 in
set_option maxHeartbeats 2000000 in
theorem specShort_fc (T : List (List Int)) (ng n : Nat) (hng : T.length = ng) (hpos : 0 < ng) (hT : Leads T n) (hn : 0 < n) (hn4 : n ≤ 400) (hg5 : ng ≤ 5) :
    FC Try.prog 63 [(1005, imRo T)] [o1 (.sl 1005 0 ng)] [(13, imOw (bfs T ng n).1)] (o1 (.sl 13 0 n)) [] := by
  have hlen : (irows T).length = ng := by rw [irows_len, hng]
  have hr0 : (lget T 0).length = n := hT.len 0 (by omega)
  have hrow : (irows T)[0]? = some (ivals (lget T 0)) := irows_get (by omega)
  refine fc_enter (nt := 69) Try.func63 rfl rfl (by simp) fun w0 ω0 => ?_
  have hbl0 : (bvals (List.replicate n false)).length = n := by rw [bvals_len]; simp
  rw [← hr0] at hbl0
  have hrp : (List.replicate (lget T 0).length false).length = (lget T 0).length := by simp
  (refine goes_seq ?_; refine goes_region ?_; apply run_step rfl; (exact stp_assign rfl rfl); refine run_nil ?_; refine fin_seq ?_; refine goes_seq ?_; refine goes_region ?_; apply run_step rfl; (exact stp_move rfl rfl); apply run_step rfl; (first | exact stp_ix (j := 0) rfl rfl rfl rfl rfl (by as_aux_lemma => kernel_rfl) rfl hpos (Nat.le_of_eq hlen.symm) | exact stp_makeB (E := 4) rfl (by as_aux_lemma => kernel_rfl) (by as_aux_lemma => kernel_rfl) rfl rfl rfl rfl (by omega) | exact stp_ix (j := 0) rfl rfl rfl rfl rfl (by as_aux_lemma => kernel_rfl) rfl (by omega) (Nat.le_of_eq hbl0.symm) | exact stp_stB (bs := List.replicate (lget T 0).length false) rfl rfl rfl rfl rfl (by rw [hrp]; omega) (by as_aux_lemma => kernel_rfl)); apply run_step rfl; (exact stp_loadR rfl (by as_aux_lemma => kernel_rfl) rfl rfl rfl (by first | assumption | exact ivals_get (by assumption) | exact irows_get (by assumption) | exact ivals_get (by omega) | exact irows_get (by omega) | rfl) (by first | exact ivals_len _ | assumption | rfl)); apply run_step rfl; (exact stp_len rfl rfl rfl (by as_aux_lemma => kernel_rfl)); apply run_step rfl; (exact stp_makeR (E := 37) (F := 2) rfl (by as_aux_lemma => kernel_rfl) (by as_aux_lemma => kernel_rfl) (by as_aux_lemma => kernel_rfl) rfl rfl rfl rfl (by omega)); apply run_step rfl; (exact stp_assign rfl rfl); refine run_nil ?_; refine fin_seq ?_; refine goes_seq ?_; refine goes_region ?_; apply run_step rfl; (exact stp_move rfl rfl); apply run_step rfl; (exact stp_len rfl rfl rfl (by as_aux_lemma => kernel_rfl)); apply run_step rfl; (first | exact stp_ix (j := 0) rfl rfl rfl rfl rfl (by as_aux_lemma => kernel_rfl) rfl hpos (Nat.le_of_eq hlen.symm) | exact stp_makeB (E := 4) rfl (by as_aux_lemma => kernel_rfl) (by as_aux_lemma => kernel_rfl) rfl rfl rfl rfl (by omega) | exact stp_ix (j := 0) rfl rfl rfl rfl rfl (by as_aux_lemma => kernel_rfl) rfl (by omega) (Nat.le_of_eq hbl0.symm) | exact stp_stB (bs := List.replicate (lget T 0).length false) rfl rfl rfl rfl rfl (by rw [hrp]; omega) (by as_aux_lemma => kernel_rfl)); apply run_step rfl; (exact stp_assign rfl rfl); refine run_nil ?_; refine fin_seq ?_; refine goes_seq ?_; refine goes_region ?_; apply run_step rfl; (exact stp_move rfl rfl); apply run_step rfl; (first | exact stp_ix (j := 0) rfl rfl rfl rfl rfl (by as_aux_lemma => kernel_rfl) rfl hpos (Nat.le_of_eq hlen.symm) | exact stp_makeB (E := 4) rfl (by as_aux_lemma => kernel_rfl) (by as_aux_lemma => kernel_rfl) rfl rfl rfl rfl (by omega) | exact stp_ix (j := 0) rfl rfl rfl rfl rfl (by as_aux_lemma => kernel_rfl) rfl (by omega) (Nat.le_of_eq hbl0.symm) | exact stp_stB (bs := List.replicate (lget T 0).length false) rfl rfl rfl rfl rfl (by rw [hrp]; omega) (by as_aux_lemma => kernel_rfl)); apply run_step rfl; (first | exact stp_ix (j := 0) rfl rfl rfl rfl rfl (by as_aux_lemma => kernel_rfl) rfl hpos (Nat.le_of_eq hlen.symm) | exact stp_makeB (E := 4) rfl (by as_aux_lemma => kernel_rfl) (by as_aux_lemma => kernel_rfl) rfl rfl rfl rfl (by omega) | exact stp_ix (j := 0) rfl rfl rfl rfl rfl (by as_aux_lemma => kernel_rfl) rfl (by omega) (Nat.le_of_eq hbl0.symm) | exact stp_stB (bs := List.replicate (lget T 0).length false) rfl rfl rfl rfl rfl (by rw [hrp]; omega) (by as_aux_lemma => kernel_rfl)); refine run_nil ?_; refine fin_seq ?_; refine goes_seq ?_; refine goes_region ?_; apply run_step rfl; (exact stp_lit1I (E := 2) rfl (by as_aux_lemma => kernel_rfl) rfl); apply run_step rfl; (exact stp_assign rfl rfl); refine run_nil ?_; refine fin_seq ?_; refine goes_seq ?_; refine goes_seq ?_; refine goes_region ?_; apply run_step rfl; (exact stp_assign rfl rfl); refine run_nil ?_; refine fin_seq ?_; refine goes_block ?_)
  refine goes_loop (fun q : Nat × BSt => St.of [(0, o1 (.sl 1005 0 ng)), (3, o1 (.sl 13 0 n)), (4, o1 (.sl 16 0 n)), (5, o1 (.sl 19 0 q.2.2.2.length)), (6, vv (I6 q.1))] [(1005, imRo T), (13, imOw q.2.1), (16, boOw q.2.2.1), (19, leOw q.2.2.2)])
    (fun q => q.1 ≤ q.2.2.2.length ∧ BOK n q.2 ∧ bLoop T ng (n + 1 - q.1) q.1 q.2 = bfs T ng n) (fun q => n + 1 - q.1) (0, bStart n) ⟨Nat.zero_le _, bStart_ok hn, rfl⟩ (Wk.of ⟨rfl, by rw [← hr0]; rfl, by rw [← hr0]; rfl, rfl, rfl, trivial⟩ ⟨rfl, by rw [← hr0]; rfl, by rw [← hr0]; rfl, rfl, trivial⟩ trivial) ?_
  clear hbl0 hrp
  rintro ⟨i, W, B, O⟩ ⟨hi, hok, hl⟩
  dsimp only at hi hl ⊢
  have hOn : O.length ≤ n := hok.le
  (refine goes_seq ?_; refine goes_seq ?_; refine goes_region ?_; apply run_step rfl; (exact stp_move rfl rfl); apply run_step rfl; (exact stp_move rfl rfl); apply run_step rfl; (exact stp_len rfl rfl rfl (by as_aux_lemma => kernel_rfl)); apply run_step rfl; (exact stp_bin rfl rfl rfl rfl); refine run_nil ?_; refine fin_seq ?_)
  refine goes_if rfl (fun h => ?_) (fun h => ?_)
  · have hlt : i < O.length := by omega
    have hl' : bLoop T ng (n - i) (i + 1) (bRow T ng (iget O i).toNat (W, B, O)) = bfs T ng n := by
      rw [← hl, show n + 1 - i = (n - i) + 1 by omega]; exact (bLoop_step (T := T) (ng := ng) (s := (W, B, O)) hlt).symm
    obtain ⟨c, hc1, hc2, _⟩ := hok.q i hlt
    dsimp only at hc1
    rw [hc1, Int.toNat_natCast] at hl'
    obtain ⟨s0, hs0⟩ : ∃ s0 : BSt, s0 = (W, B, O) := ⟨_, rfl⟩
    have hro : ∀ m, m ≤ ng → BOK n ((List.range m).foldl (bStep T c) s0) ∧ BGrow n s0 ((List.range m).foldl (bStep T c) s0) := fun m hm => bRow_ok hT hng hc2 (by rw [hs0]; exact hok) m hm
    have hO0 : s0.2.2.length = O.length := by rw [hs0]
    have hc0 : iget s0.2.2 i = (c : Int) := by rw [hs0]; exact hc1
    have hfin : bLoop T ng (n - i) (i + 1) ((List.range ng).foldl (bStep T c) s0) = bfs T ng n := by rw [hs0]; exact hl'
    (refine goes_skip ?_; refine fin_seq ?_; refine goes_seq ?_; refine goes_block ?_; refine goes_seq ?_; refine goes_region ?_; apply run_step rfl; (exact stp_assign rfl rfl); refine run_nil ?_; refine fin_seq ?_; refine goes_block ?_)
    refine goes_loop (fun q : Nat × BSt => St.of [(0, o1 (.sl 1005 0 ng)), (3, o1 (.sl 13 0 n)), (4, o1 (.sl 16 0 n)), (5, o1 (.sl 19 0 q.2.2.2.length)), (6, vv (I6 i)), (7, vv (I6 q.1))] [(1005, imRo T), (13, imOw q.2.1), (16, boOw q.2.2.1), (19, leOw q.2.2.2)])
      (fun q => q.1 ≤ ng ∧ (List.range q.1).foldl (bStep T c) s0 = q.2) (fun q => ng - q.1) (0, (W, B, O)) ⟨Nat.zero_le _, hs0⟩ (Wk.of ⟨rfl, rfl, rfl, rfl, rfl, rfl, trivial⟩ ⟨rfl, rfl, rfl, rfl, trivial⟩ trivial) ?_
    clear hl hl' hok hs0 hc1
    generalize O.length = on at *
    rintro ⟨g, W, B, O⟩ ⟨hg, hfo⟩
    dsimp only at hg hfo ⊢
    obtain ⟨hok, grw⟩ := hro g hg
    rw [hfo] at hok grw
    have hOl : O.length ≤ n := hok.le
    have hiO : i < O.length := Nat.lt_of_lt_of_le (by omega) grw.len
    have hWl : W.length = n := hok.l1
    have hBl : B.length = n := hok.l2
    have hbl : (bvals B).length = n := by rw [bvals_len]; exact hBl
    have hci : iget O i = (c : Int) := (grw.pre i (by omega)).trans hc0
    have hget : (ivals O)[i]? = some (I6 (c : Int)) := by rw [ivals_get hiO, hci]
    (refine goes_seq ?_; refine goes_seq ?_; refine goes_region ?_; apply run_step rfl; (exact stp_move rfl rfl); apply run_step rfl; (exact stp_move rfl rfl); apply run_step rfl; (exact stp_len rfl rfl rfl (by as_aux_lemma => kernel_rfl)); apply run_step rfl; (exact stp_bin rfl rfl rfl rfl); refine run_nil ?_; refine fin_seq ?_)
    refine goes_if rfl (fun h2 => ?_) (fun h2 => ?_)
    · have hgn : g < ng := by omega
      have hd := bTo_lt hT hc2 (g := g) (by omega)
      have hrl : (lget T g).length = n := hT.len g (by omega)
      obtain ⟨d, hdd⟩ : ∃ d, bTo T c g = d := ⟨_, rfl⟩
      have hst : (List.range (g + 1)).foldl (bStep T c) s0 = bVisit (W, B, O) c g d := by
        rw [List.range_succ, List.foldl_append, hfo, ← hdd]; rfl
      rw [hdd] at hd
      have hgetd : (ivals (lget T g))[c]? = some (I6 (d : Int)) := by rw [ivals_get (by omega), hd.2]
      have hgb : (bvals B)[d]? = some (.bool (bat B d)) := bvals_get (by omega)
      have hWc : (lget W c).length < O.length := hok.len c
      have hOw := specOwn_fc 13 59 c (lget W c).length W (by omega) rfl (by omega)
      (refine goes_skip ?_; refine fin_seq ?_; refine goes_seq ?_; refine goes_block ?_; refine goes_seq ?_)
      apply goes_draw 10 [] [[], [], [0, 1], [0, 1, 2], [], [], [4, 5], [4, 5, 6], [0, 1, 2, 3, 4, 5, 6, 7], [0, 1, 2, 3, 4, 5, 6, 7, 8], [0, 1, 2, 3, 4, 5, 6, 7, 8, 9]] [32, 33, 34, 35, 36, 37, 38, 39, 40, 41] [] (by kernel_rfl) (by kernel_rfl)
      · (apply draw_put rfl; (intro S1 hS; exact stp_move rfl (hS.op rfl)); apply draw_put rfl; (intro S1 hS; exact stp_move rfl (hS.op rfl)); apply draw_put rfl; (intro S1 hS; exact stp_ix rfl (hS.op rfl) (hS.op rfl) (hS.ch _ _ rfl) rfl (by as_aux_lemma => kernel_rfl) (by first | rfl | exact (Int.toNat_of_nonneg (by omega)).symm) (by first | assumption | omega | (simp; omega)) (by first | exact Nat.le_refl _ | exact Nat.le_of_eq (ivals_len _).symm | exact Nat.le_of_eq (irows_len _).symm | (refine Nat.le_trans ?_ (Nat.le_of_eq (ivals_len _).symm); (first | omega | (simp; done) | (simp; omega))) | (refine Nat.le_trans ?_ (Nat.le_of_eq (irows_len _).symm); (first | omega | (simp; done) | (simp; omega))))); apply draw_put rfl; (intro S1 hS; exact stp_loadR rfl (by as_aux_lemma => kernel_rfl) (hS.op rfl) (hS.ch _ _ rfl) rfl (by first | assumption | exact ivals_get (by assumption) | exact irows_get (by assumption) | exact ivals_get (by omega) | exact irows_get (by omega) | rfl) (by first | exact ivals_len _ | assumption | rfl)); apply draw_put rfl; (intro S1 hS; exact stp_move rfl (hS.op rfl)); apply draw_put rfl; (intro S1 hS; exact stp_move rfl (hS.op rfl)); apply draw_put rfl; (intro S1 hS; exact stp_ix rfl (hS.op rfl) (hS.op rfl) (hS.ch _ _ rfl) rfl (by as_aux_lemma => kernel_rfl) (by first | rfl | exact (Int.toNat_of_nonneg (by omega)).symm) (by first | assumption | omega | (simp; omega)) (by first | exact Nat.le_refl _ | exact Nat.le_of_eq (ivals_len _).symm | exact Nat.le_of_eq (irows_len _).symm | (refine Nat.le_trans ?_ (Nat.le_of_eq (ivals_len _).symm); (first | omega | (simp; done) | (simp; omega))) | (refine Nat.le_trans ?_ (Nat.le_of_eq (irows_len _).symm); (first | omega | (simp; done) | (simp; omega))))); apply draw_put rfl; (intro S1 hS; exact stp_loadV rfl (by as_aux_lemma => kernel_rfl) (hS.op rfl) (hS.ch _ _ rfl) rfl (by first | assumption | exact ivals_get (by assumption) | exact irows_get (by assumption) | exact ivals_get (by omega) | exact irows_get (by omega) | rfl)); apply draw_put rfl; (intro S1 hS; exact stp_ixE rfl (hS.op rfl) (hS.op rfl) (hS.ch _ _ rfl) rfl (by as_aux_lemma => kernel_rfl) (by first | assumption | exact ivals_get (by assumption) | exact irows_get (by assumption) | exact ivals_get (by omega) | exact irows_get (by omega) | rfl) (by first | rfl | exact (Int.toNat_of_nonneg (by omega)).symm) (by first | assumption | omega | (simp; omega)) (by first | exact Nat.le_refl _ | exact Nat.le_of_eq (ivals_len _).symm | exact Nat.le_of_eq (irows_len _).symm | (refine Nat.le_trans ?_ (Nat.le_of_eq (ivals_len _).symm); (first | omega | (simp; done) | (simp; omega))) | (refine Nat.le_trans ?_ (Nat.le_of_eq (irows_len _).symm); (first | omega | (simp; done) | (simp; omega))))); apply draw_put rfl; (intro S1 hS; exact stp_loadE' rfl (by as_aux_lemma => kernel_rfl) (hS.op rfl) (hS.ch _ _ rfl) rfl (by first | assumption | exact ivals_get (by assumption) | exact irows_get (by assumption) | exact ivals_get (by omega) | exact irows_get (by omega) | rfl) (by first | assumption | exact ivals_get (by assumption) | exact irows_get (by assumption) | exact ivals_get (by omega) | exact irows_get (by omega) | rfl)); exact Draw.nil)
      · rfl
      ((apply rest_one 10 rfl (by as_aux_lemma => kernel_rfl) rfl rfl; (exact stp_assign rfl rfl)); (refine rest_done (by as_aux_lemma => kernel_rfl) ?_; skip))
      (refine fin_seq ?_; refine goes_seq ?_; refine goes_region ?_; apply run_step rfl; (exact stp_move rfl rfl); apply run_step rfl; (exact stp_move rfl rfl); apply run_step rfl; (exact stp_ix rfl rfl rfl rfl rfl (by as_aux_lemma => kernel_rfl) rfl hd.1 (Nat.le_of_eq hbl.symm)); apply run_step rfl; (exact stp_loadV rfl (by as_aux_lemma => kernel_rfl) rfl rfl rfl (by first | assumption | exact ivals_get (by assumption) | exact irows_get (by assumption) | exact ivals_get (by omega) | exact irows_get (by omega) | rfl)); apply run_step rfl; (exact stp_not rfl rfl); refine run_nil ?_; refine fin_seq ?_)
      refine goes_cond rfl (fun hb => ?_) (fun hb => ?_)
      · have hb : bat B d = false := by simpa using hb
        have hv : bVisit (W, B, O) c g d = (W.set d (lget W c ++ [(g : Int)]), B.set d true, O ++ [(d : Int)]) := if_neg (by rw [hb]; simp)
        have hset : (irows W).set d (ivals (lget W c ++ [(g : Int)])) = irows (W.set d (lget W c ++ [(g : Int)])) := irows_set _ _ _
        have hrW : (irows W)[c]? = some (ivals (lget W c)) := irows_get (by omega)
        (refine goes_seq ?_; refine goes_region ?_; apply run_step rfl; (exact stp_move rfl rfl); apply run_step rfl; (exact stp_move rfl rfl); apply run_step rfl; (first | exact stp_ix rfl rfl rfl rfl rfl (by as_aux_lemma => kernel_rfl) rfl hd.1 (Nat.le_of_eq hbl.symm) | exact stp_stB rfl rfl rfl rfl rfl (by rw [hBl]; exact hd.1) (by as_aux_lemma => kernel_rfl) | (apply call_gate 82; exact stp_callN hOw (by as_aux_lemma => kernel_rfl) rfl rfl ⟨rfl, trivial⟩ ⟨⟨_, rfl, .inr rfl⟩, trivial⟩ rfl rfl rfl) | exact stp_storeRow (n := 13) (z := 59) (i := d) rfl rfl (by simp) rfl rfl (by rw [ivals_len]; simp) rfl (by rw [irows_len, hWl]; exact hd.1) (by as_aux_lemma => kernel_rfl)); apply run_step rfl; (first | exact stp_ix rfl rfl rfl rfl rfl (by as_aux_lemma => kernel_rfl) rfl hd.1 (Nat.le_of_eq hbl.symm) | exact stp_stB rfl rfl rfl rfl rfl (by rw [hBl]; exact hd.1) (by as_aux_lemma => kernel_rfl) | (apply call_gate 82; exact stp_callN hOw (by as_aux_lemma => kernel_rfl) rfl rfl ⟨rfl, trivial⟩ ⟨⟨_, rfl, .inr rfl⟩, trivial⟩ rfl rfl rfl) | exact stp_storeRow (n := 13) (z := 59) (i := d) rfl rfl (by simp) rfl rfl (by rw [ivals_len]; simp) rfl (by rw [irows_len, hWl]; exact hd.1) (by as_aux_lemma => kernel_rfl)); refine run_nil ?_; refine fin_seq ?_; refine goes_seq ?_; refine goes_region ?_; apply run_step rfl; (exact stp_move rfl rfl); apply run_step rfl; (exact stp_move rfl rfl); apply run_step rfl; (exact stp_move rfl rfl); apply run_step rfl; (exact stp_move rfl rfl); apply run_step rfl; (exact stp_move rfl rfl); apply run_step rfl; (exact stp_ix rfl rfl rfl rfl rfl (by as_aux_lemma => kernel_rfl) (by first | rfl | exact (Int.toNat_of_nonneg (by omega)).symm) (by first | assumption | omega | (simp; omega)) (by first | exact Nat.le_refl _ | exact Nat.le_of_eq (ivals_len _).symm | exact Nat.le_of_eq (irows_len _).symm | (refine Nat.le_trans ?_ (Nat.le_of_eq (ivals_len _).symm); (first | omega | (simp; done) | (simp; omega))) | (refine Nat.le_trans ?_ (Nat.le_of_eq (irows_len _).symm); (first | omega | (simp; done) | (simp; omega))))); apply run_step rfl; (exact stp_loadV rfl (by as_aux_lemma => kernel_rfl) rfl rfl rfl (by first | assumption | exact ivals_get (by assumption) | exact irows_get (by assumption) | exact ivals_get (by omega) | exact irows_get (by omega) | rfl)); apply run_step rfl; (exact stp_ix rfl rfl rfl rfl rfl (by as_aux_lemma => kernel_rfl) (by first | rfl | exact (Int.toNat_of_nonneg (by omega)).symm) (by first | assumption | omega | (simp; omega)) (by first | exact Nat.le_refl _ | exact Nat.le_of_eq (ivals_len _).symm | exact Nat.le_of_eq (irows_len _).symm | (refine Nat.le_trans ?_ (Nat.le_of_eq (ivals_len _).symm); (first | omega | (simp; done) | (simp; omega))) | (refine Nat.le_trans ?_ (Nat.le_of_eq (irows_len _).symm); (first | omega | (simp; done) | (simp; omega))))); apply run_step rfl; (exact stp_loadR rfl (by as_aux_lemma => kernel_rfl) rfl rfl rfl (by first | assumption | exact ivals_get (by assumption) | exact irows_get (by assumption) | exact ivals_get (by omega) | exact irows_get (by omega) | rfl) (by first | exact ivals_len _ | assumption | rfl)); apply run_step rfl; (first | exact stp_ix rfl rfl rfl rfl rfl (by as_aux_lemma => kernel_rfl) rfl hd.1 (Nat.le_of_eq hbl.symm) | exact stp_stB rfl rfl rfl rfl rfl (by rw [hBl]; exact hd.1) (by as_aux_lemma => kernel_rfl) | (apply call_gate 82; exact stp_callN hOw (by as_aux_lemma => kernel_rfl) rfl rfl ⟨rfl, trivial⟩ ⟨⟨_, rfl, .inr rfl⟩, trivial⟩ rfl rfl rfl) | exact stp_storeRow (n := 13) (z := 59) (i := d) rfl rfl (by simp) rfl rfl (by rw [ivals_len]; simp) rfl (by rw [irows_len, hWl]; exact hd.1) (by as_aux_lemma => kernel_rfl)); apply run_step rfl; (exact stp_move rfl rfl); apply run_step rfl; (exact stp_lit1I (E := 2) rfl (by as_aux_lemma => kernel_rfl) rfl); apply run_step rfl; (exact stp_appI rfl (by as_aux_lemma => kernel_rfl) rfl rfl rfl (by first | rfl | assumption | (simp; done)) rfl rfl (by omega)); apply run_step rfl; (exact stp_ix rfl rfl rfl rfl rfl (by as_aux_lemma => kernel_rfl) (by first | rfl | exact (Int.toNat_of_nonneg (by omega)).symm) (by first | assumption | omega | (simp; omega)) (by first | exact Nat.le_refl _ | exact Nat.le_of_eq (ivals_len _).symm | exact Nat.le_of_eq (irows_len _).symm | (refine Nat.le_trans ?_ (Nat.le_of_eq (ivals_len _).symm); (first | omega | (simp; done) | (simp; omega))) | (refine Nat.le_trans ?_ (Nat.le_of_eq (irows_len _).symm); (first | omega | (simp; done) | (simp; omega))))); apply run_step rfl; (first | exact stp_ix rfl rfl rfl rfl rfl (by as_aux_lemma => kernel_rfl) rfl hd.1 (Nat.le_of_eq hbl.symm) | exact stp_stB rfl rfl rfl rfl rfl (by rw [hBl]; exact hd.1) (by as_aux_lemma => kernel_rfl) | (apply call_gate 82; exact stp_callN hOw (by as_aux_lemma => kernel_rfl) rfl rfl ⟨rfl, trivial⟩ ⟨⟨_, rfl, .inr rfl⟩, trivial⟩ rfl rfl rfl) | exact stp_storeRow (n := 13) (z := 59) (i := d) rfl rfl (by simp) rfl rfl (by rw [ivals_len]; simp) rfl (by rw [irows_len, hWl]; exact hd.1) (by as_aux_lemma => kernel_rfl)); refine run_nil ?_; refine fin_seq ?_; refine goes_region ?_; apply run_step rfl; (exact stp_move rfl rfl); apply run_step rfl; (exact stp_move rfl rfl); apply run_step rfl; (exact stp_lit1I (E := 2) rfl (by as_aux_lemma => kernel_rfl) rfl); apply run_step rfl; (exact stp_appI rfl (by as_aux_lemma => kernel_rfl) rfl rfl rfl (by first | rfl | assumption | (simp; done)) rfl rfl (by omega)); apply run_step rfl; (exact stp_assign rfl rfl); refine run_nil ?_; refine fin_block ?_; refine fin_seq ?_; refine goes_region ?_; apply run_step rfl; (exact stp_move rfl rfl); apply run_step rfl; (exact stp_add rfl rfl rfl (by first | exact IntWalk.i64_in _ (by omega) | rfl)); apply run_step rfl; (exact stp_assign rfl rfl); refine run_nil ?_)
        exact fin_round (g + 1, (W.set d (lget W c ++ [(g : Int)]), B.set d true, O ++ [(d : Int)])) ⟨hgn, hst.trans hv⟩ (by show ng - (g + 1) < ng - g; omega) (Wk.of ⟨rfl, rfl, rfl, by simp; rfl, rfl, rfl, trivial⟩ ⟨rfl, congrArg (fun l => some (⟨true, 37, 1, .rows 2 l []⟩ : Ch)) hset, rfl, rfl, trivial⟩ trivial)
      · have hb : bat B d = true := by simpa using hb
        have hv : bVisit (W, B, O) c g d = (W, B, O) := if_pos hb
        (refine goes_skip ?_; refine fin_block ?_; refine fin_seq ?_; refine goes_region ?_; apply run_step rfl; (exact stp_move rfl rfl); apply run_step rfl; (exact stp_add rfl rfl rfl (by first | exact IntWalk.i64_in _ (by omega) | rfl)); apply run_step rfl; (exact stp_assign rfl rfl); refine run_nil ?_)
        exact fin_round (g + 1, (W, B, O)) ⟨hgn, hst.trans hv⟩ (by show ng - (g + 1) < ng - g; omega) (Wk.of ⟨rfl, rfl, rfl, rfl, rfl, rfl, trivial⟩ ⟨rfl, rfl, rfl, rfl, trivial⟩ trivial)
    · obtain rfl : g = ng := by omega
      (refine goes_exit ?_; refine fin_exit_then ?_; refine fin_exit_then ?_; refine fin_exit_eq ?_; refine fin_block ?_; refine fin_seq ?_; refine goes_region ?_; apply run_step rfl; (exact stp_move rfl rfl); apply run_step rfl; (exact stp_add rfl rfl rfl (by first | exact IntWalk.i64_in _ (by omega) | rfl)); apply run_step rfl; (exact stp_assign rfl rfl); refine run_nil ?_)
      exact fin_round (i + 1, (W, B, O)) ⟨hiO, hok, by rw [← hfin, hfo]; show bLoop _ _ (n + 1 - (i + 1)) _ _ = _; rw [show n + 1 - (i + 1) = n - i by omega]⟩ (by show n + 1 - (i + 1) < n + 1 - i; omega) (Wk.of ⟨rfl, rfl, rfl, rfl, rfl, trivial⟩ ⟨rfl, rfl, rfl, rfl, trivial⟩ trivial)
  · have hio : i = O.length := by omega
    have hOM : bfs T ng n = (W, B, O) := by
      rw [← hl, show n + 1 - i = (n - i) + 1 by omega, bLoop, if_neg (by show ¬ i < O.length; omega)]
    rw [hOM]
    (refine goes_exit ?_; refine fin_exit_then ?_; refine fin_exit_then ?_; refine fin_exit_eq ?_; refine fin_seq ?_; refine goes_seq ?_; refine goes_region ?_; apply run_step rfl; (exact stp_move rfl rfl); apply run_step rfl; (exact stp_assign rfl rfl); refine run_nil ?_; refine fin_seq ?_; refine goes_ret ?_)
    exact fin_ret1 (.inl rfl) rfl (.tmp rfl) ⟨rfl, trivial⟩ trivial
end Go.Proofs.Ytpjglifijdcgnaa
