/- Words in a table: l11Elements, elementTable, l11Lead, applied; IsIdentityWord. guards: -/
import Derived.Test.YtpjglifijdcgnaaPart6
import Derived.Test.YtpjglifijdcgnaaProg
import Derived.Test.YtpjglifijdcgnaaPart1
import Derived.RegionTactic
import Derived.Maps.AppendAt
import Derived.Test.YtpjglifijdcgnaaPart4
namespace Go.Proofs.Ytpjglifijdcgnaa
open Go.RowKit

abbrev wRo (W : List Int) : Ch := ⟨false, 2, 1, .vals (ivals W)⟩
theorem cosTab_leads {ng : Nat} {rels ws : List (List Int)} (h : Good ng rels ws) (hf : (runC ng rels ws).2.2 = false) : Leads (cosTab ((ng : Int), rels) ws) (cosN ((ng : Int), rels) ws) := by
  refine ⟨fun k hk => cosTab_row (by rw [cosTab_len] at hk; exact hk), fun k hk x hx => ?_⟩
  rw [cosTab_len] at hk
  have hF := full_run h.rl h.wl hf
  rw [cosTab_nat]
  rw [cosN_nat] at hx ⊢
  have := tableC_entry hF hx hk
  have he : iget (lget (tableC ng (runC ng rels ws).1 (runC ng rels ws).2.1) k) x = tabC (runC ng rels ws).1 (runC ng rels ws).2.1 (numbered ng (runC ng rels ws).1 (runC ng rels ws).2.1) k x := by
    simp [tableC, lget, iget, hk, hx, tabC]
  rw [he]
  exact this
theorem smallOk_run {ng : Nat} {rels ws : List (List Int)} (hs : smallOk ((ng : Int), rels) ws = true) : (runC ng rels ws).2.2 = false ∧ cosN ((ng : Int), rels) ws ≤ 400 := by
  unfold smallOk at hs; rw [cosX_nat] at hs; simpa using hs
theorem tabLoop_grow {ng : Nat} {im : List (List Int)} {less : List Int} (hF : Full ng im less) : ∀ (f i : Nat) (s : NSt), TOK less.length less s → NGrow s (tabLoop ng im less f i s)
  | 0, _, s, _ => NGrow.refl s
  | f + 1, i, s, h => by
    unfold tabLoop
    split
    · rename_i hlt
      obtain ⟨h1, h2, _⟩ := tabRow_ok hF h hlt ng (Nat.le_refl _)
      exact NGrow.trans h2 (tabLoop_grow hF f (i + 1) _ h1)
    · exact NGrow.refl s
theorem numbered_grow {ng : Nat} {im : List (List Int)} {less : List Int} (hF : Full ng im less) : NGrow (tabStart less.length) (numbered ng im less) := tabLoop_grow hF _ _ _ (tabStart_ok hF)
theorem cosN_pos {ng : Nat} {rels ws : List (List Int)} (h : Good ng rels ws) (hf : (runC ng rels ws).2.2 = false) : 0 < cosN ((ng : Int), rels) ws := by
  rw [cosN_nat]
  have hF := full_run h.rl h.wl hf
  obtain ⟨hk, _⟩ := numbered_ok hF
  have hF0 := hF.pos
  rcases Nat.eq_zero_or_pos (numbered ng (runC ng rels ws).1 (runC ng rels ws).2.1).1.length with h0 | h0
  · exfalso
    have g1 : NGrow (tabStart (runC ng rels ws).2.1.length) (numbered ng (runC ng rels ws).1 (runC ng rels ws).2.1) := numbered_grow hF
    have := g1.len
    simp [tabStart] at this
    omega
  · exact h0

section
variable {η : Env} {ω : Own?} {w : World} {ins : List (Nm × Ch)}
theorem rdE {x i : Nat} {own : Bool} {E F : Nat} {zss : List (List Int)} {v : Value} (hm : Mem η ω w (fun x => lk x ins)) (hx : lk x ins = some ⟨own, E, 1, .rows F (irows zss) []⟩) (hi : i < zss.length) (hv : Den1 η (.esl x i 0 (lget zss i).length) v) (hn : (lget zss i).length ≤ 17592186044416) : ∃ ao c, v = .slice ao (lget zss i).length c ∧ Ints w ao (lget zss i).length (lget zss i) := by
  obtain ⟨h, h1, h2, h3⟩ := hm.1 x _ hx
  obtain ⟨ao, rfl, h4, _⟩ := hv.2 h h1
  have h3 : Vec own ω w (x, none) h E (irows zss).length (cellsOK η ω w own x (.rows F (irows zss) [])) := h3
  obtain ⟨b', o', u', g1, g2, g3, g4⟩ := h3.get (j := i) (by rw [irows_len]; exact hi)
  obtain ⟨k1, k2, k3⟩ := g4 (by simp) (ivals (lget zss i)) (irows_get hi)
  rw [h4 rfl]
  refine ⟨_, _, rfl, rfl, hn, fun h0 => ?_⟩
  obtain ⟨b2, o2, u2, m1, _, _⟩ := k3.get (j := 0) (by rw [ivals_len]; exact h0)
  refine ⟨b2, o2, m1, fun j hj => ?_⟩
  obtain ⟨b3, o3, u3, n1, n2, n3⟩ := k3.get (j := j) (by rw [ivals_len]; exact hj)
  rw [m1] at n1; injection n1 with n1; injection n1 with n1 n1'; subst n1 n1'
  rw [ivals_get hj] at n3
  rw [n2, ← n3]
end
theorem three_of {us : List Value} {u0 u1 u2 : Value} (hl : us.length = 3) (g0 : us[0]? = some u0) (g1 : us[1]? = some u1) (g2 : us[2]? = some u2) : us = [u0, u1, u2] := by
  match us, hl with
  | [p, q, r], _ => simp at g0 g1 g2; rw [g0, g1, g2]
theorem specLead_fc (T : List (List Int)) (W : List Int) (x m n : Nat) (hn : T.length = n) (hT : Leads T m) (hx : x < m) (hm4 : m ≤ 1000000) (hn4 : n ≤ 1000000) (hW : ∀ z ∈ W, 0 ≤ z ∧ z < T.length) (hWl : W.length ≤ 1000000000) :
    FC Try.prog 54 [(1005, imRo T), (1004, wRo W)] [o1 (.sl 1005 0 n), vv (I6 x), o1 (.sl 1004 0 W.length)] [] (vv (I6 (leadL T x W))) [] :=
  fc_of_calls fun w η ω us hm ⟨hl, ha⟩ => by
    subst hn
    obtain ⟨u0, g0, d0⟩ := ha 0 _ rfl
    obtain ⟨u1, g1, d1⟩ := ha 1 _ rfl
    obtain ⟨u2, g2, d2⟩ := ha 2 _ rfl
    have d1 : u1 = I6 x := d1
    subst d1
    obtain ⟨ao, c, rfl, hi⟩ := rdSS (x := 1005) (zss := T) hm rfl d0 (by omega) fun zs hz => by
      obtain ⟨j, hj, rfl⟩ := List.getElem_of_mem hz
      rw [← lget_lt hj, hT.len j hj]; omega
    obtain ⟨ao', c', rfl, hi'⟩ := rdS (x := 1004) (zs := W) hm rfl d2 (by omega)
    rw [three_of hl g0 g1 g2]
    refine (specLead_any ao _ c T ao' _ c' W x m w hi hi' hx hT hW).mono ?_
    rintro e w' ⟨rfl, rfl⟩
    exact ⟨rfl, Below.refl _ _⟩
theorem specLeadE_fc (T ws : List (List Int)) (i : Nat) (x m n : Nat) (hn : T.length = n) (hT : Leads T m) (hx : x < m) (hm4 : m ≤ 1000000) (hn4 : n ≤ 1000000) (hi0 : i < ws.length) (hW : ∀ z ∈ lget ws i, 0 ≤ z ∧ z < T.length) (hWl : (lget ws i).length ≤ 1000000000) :
    FC Try.prog 54 [(1005, imRo T), (1002, rowsRo ws)] [o1 (.sl 1005 0 n), vv (I6 x), o1 (.esl 1002 i 0 (lget ws i).length)] [] (vv (I6 (leadL T x (lget ws i)))) [] :=
  fc_of_calls fun w η ω us hm ⟨hl, ha⟩ => by
    subst hn
    obtain ⟨u0, g0, d0⟩ := ha 0 _ rfl
    obtain ⟨u1, g1, d1⟩ := ha 1 _ rfl
    obtain ⟨u2, g2, d2⟩ := ha 2 _ rfl
    have d1 : u1 = I6 x := d1
    subst d1
    obtain ⟨ao, c, rfl, hi⟩ := rdSS (x := 1005) (zss := T) hm rfl d0 (by omega) fun zs hz => by
      obtain ⟨j, hj, rfl⟩ := List.getElem_of_mem hz
      rw [← lget_lt hj, hT.len j hj]; omega
    obtain ⟨ao', c', rfl, hi'⟩ := rdE (x := 1002) (zss := ws) hm rfl hi0 d2 (by omega)
    rw [three_of hl g0 g1 g2]
    refine (specLead_any ao _ c T ao' _ c' _ x m w hi hi' hx hT hW).mono ?_
    rintro e w' ⟨rfl, rfl⟩
    exact ⟨rfl, Below.refl _ _⟩
theorem implLead_fc (T : List (List Int)) (W : List Int) (x m n : Nat) (hn : T.length = n) (hT : Leads T m) (hx : x < m) (hm4 : m ≤ 1000000) (hn4 : n ≤ 1000000) (hW : ∀ z ∈ W, 0 ≤ z ∧ z < T.length) (hWl : W.length ≤ 1000000000) :
    FC Try.prog 56 [(1005, imRo T), (1004, wRo W)] [o1 (.sl 1005 0 n), o1 (.sl 1004 0 W.length), vv (I6 x)] [] (vv (I6 (leadL T x W))) [] :=
  fc_of_calls fun w η ω us hm ⟨hl, ha⟩ => by
    subst hn
    obtain ⟨u0, g0, d0⟩ := ha 0 _ rfl
    obtain ⟨u1, g1, d1⟩ := ha 1 _ rfl
    obtain ⟨u2, g2, d2⟩ := ha 2 _ rfl
    have d2 : u2 = I6 x := d2
    subst d2
    obtain ⟨ao, c, rfl, hi⟩ := rdSS (x := 1005) (zss := T) hm rfl d0 (by omega) fun zs hz => by
      obtain ⟨j, hj, rfl⟩ := List.getElem_of_mem hz
      rw [← lget_lt hj, hT.len j hj]; omega
    obtain ⟨ao', c', rfl, hi'⟩ := rdS (x := 1004) (zs := W) hm rfl d1 (by omega)
    rw [three_of hl g0 g1 g2]
    refine (applied_any ao _ c T ao' _ c' W x m w hi hi' hx hT hW).mono ?_
    rintro e w' ⟨rfl, rfl⟩
    exact ⟨rfl, Below.refl _ _⟩
theorem implLeadE_fc (T ws : List (List Int)) (i : Nat) (x m n : Nat) (hn : T.length = n) (hT : Leads T m) (hx : x < m) (hm4 : m ≤ 1000000) (hn4 : n ≤ 1000000) (hi0 : i < ws.length) (hW : ∀ z ∈ lget ws i, 0 ≤ z ∧ z < T.length) (hWl : (lget ws i).length ≤ 1000000000) :
    FC Try.prog 56 [(1005, imRo T), (1002, rowsRo ws)] [o1 (.sl 1005 0 n), o1 (.esl 1002 i 0 (lget ws i).length), vv (I6 x)] [] (vv (I6 (leadL T x (lget ws i)))) [] :=
  fc_of_calls fun w η ω us hm ⟨hl, ha⟩ => by
    subst hn
    obtain ⟨u0, g0, d0⟩ := ha 0 _ rfl
    obtain ⟨u1, g1, d1⟩ := ha 1 _ rfl
    obtain ⟨u2, g2, d2⟩ := ha 2 _ rfl
    have d2 : u2 = I6 x := d2
    subst d2
    obtain ⟨ao, c, rfl, hi⟩ := rdSS (x := 1005) (zss := T) hm rfl d0 (by omega) fun zs hz => by
      obtain ⟨j, hj, rfl⟩ := List.getElem_of_mem hz
      rw [← lget_lt hj, hT.len j hj]; omega
    obtain ⟨ao', c', rfl, hi'⟩ := rdE (x := 1002) (zss := ws) hm rfl hi0 d1 (by omega)
    rw [three_of hl g0 g1 g2]
    refine (applied_any ao _ c T ao' _ c' _ x m w hi hi' hx hT hW).mono ?_
    rintro e w' ⟨rfl, rfl⟩
    exact ⟨rfl, Below.refl _ _⟩
theorem specIs_fc (g : Int) (rels : List (List Int)) (h1 : Fit rels) : FC Try.prog 76 [(1003, rowsRo rels)] [pA g rels.length] [] (vv (.bool (isPres (g, rels)))) [] :=
  fc_of_calls fun w η ω us hm ⟨hl, ha⟩ => by
    obtain ⟨u0, g0, d0⟩ := ha 0 _ rfl
    have hp := rdP (x := 1003) (zss := rels) hm rfl d0 (by have := h1.1; omega) fun zs hz => by have := h1.2 zs hz; omega
    rw [one_of hl g0]
    exact spec11Is_any w hp
theorem specWord_fc (g : Int) (W : List Int) (hg0 : 0 ≤ g) (hg1 : g ≤ 1000) (hW : W.length ≤ 4398046511104) : FC Try.prog 81 [(1004, wRo W)] [vv (I6 g), o1 (.sl 1004 0 W.length)] [] (vv (.bool (isWordTo (g - 1) W))) [] :=
  fc_of_calls fun w η ω us hm ⟨hl, ha⟩ => by
    obtain ⟨u0, g0, d0⟩ := ha 0 _ rfl
    obtain ⟨u1, g1, d1⟩ := ha 1 _ rfl
    have d0 : u0 = I6 g := d0
    subst d0
    obtain ⟨ao', c', rfl, hi'⟩ := rdS (x := 1004) (zs := W) hm rfl d1 (by omega)
    rw [two_of hl g0 g1]
    refine (spec11Word_any g ao' _ c' W w hi' hg0 hg1).mono ?_
    first | (rintro e w' ⟨rfl, rfl⟩; exact ⟨rfl, Below.refl _ _⟩) | (rintro e w' ⟨rfl, hb⟩; exact ⟨rfl, hb⟩)
theorem implWord_fc (g : Int) (W : List Int) (hg0 : 0 ≤ g) (hg1 : g ≤ 1000) (hW : W.length ≤ 4398046511104) : FC Try.prog 70 [(1004, wRo W)] [o1 (.sl 1004 0 W.length), vv (I6 g)] [] (vv (.bool (isWordTo (g - 1) W))) [] :=
  fc_of_calls fun w η ω us hm ⟨hl, ha⟩ => by
    obtain ⟨u0, g0, d0⟩ := ha 0 _ rfl
    obtain ⟨u1, g1, d1⟩ := ha 1 _ rfl
    have d1 : u1 = I6 g := d1
    subst d1
    obtain ⟨ao', c', rfl, hi'⟩ := rdS (x := 1004) (zs := W) hm rfl d0 (by omega)
    rw [two_of hl g0 g1]
    refine (isLetters_any g ao' _ c' W w hi' hg0 hg1).mono ?_
    first | (rintro e w' ⟨rfl, rfl⟩; exact ⟨rfl, Below.refl _ _⟩) | (rintro e w' ⟨rfl, hb⟩; exact ⟨rfl, hb⟩)

def elOk (d : PresD) (W : List Int) : Prop := isPres d = true ∧ isWordTo (d.1 - 1) W = true ∧ smallOk d [] = true
def elC (d : PresD) (W : List Int) : Int := if isPres d = true then (if isWordTo (d.1 - 1) W = true then (if smallOk d [] = true then 0 else 3) else 2) else 1
theorem good_nil {g : Int} {rels : List (List Int)} (h : isPres (g, rels) = true) : ∃ ng : Nat, g = (ng : Int) ∧ Good ng rels [] := good_of (by rw [withOk_nil]; exact h)

set_option maxRecDepth 100000 in
set_option maxHeartbeats 1000000 in
theorem specEl_yes {ng : Nat} {rels : List (List Int)} {W : List Int} (h1 : Fit rels) (h2 : W.length ≤ 4398046511104) (hG : Good ng rels []) (hk : elOk ((ng : Int), rels) W) :
    FC Try.prog 53 [(1004, wRo W), (1003, rowsRo rels)] [pA ng rels.length, o1 (.sl 1004 0 W.length)] [(1005, imOw (cosTab ((ng : Int), rels) []))] (.tup [.one (.sl 1005 0 ng), .one (.val (I6 0))]) [] := by
  obtain ⟨k1, k2, k3⟩ := hk
  have hI := specIs_fc ng rels h1
  rw [k1] at hI
  have hW := specWord_fc ng W (by omega) (by have := hG.hi; omega) h2
  rw [k2] at hW
  have hS := (specSmall_yes hG k3).nilW
  refine fc_enter (nt := 20) Try.func53 rfl rfl (by simp) fun w0 ω0 => ?_
  (refine goes_seq ?_; refine goes_region ?_; apply run_step rfl; (exact stp_box rfl rfl rfl rfl); apply run_step rfl; (exact stp_assign rfl rfl); apply run_step rfl; (exact stp_assign rfl rfl); refine run_nil ?_; refine fin_seq ?_; refine goes_seq ?_; refine goes_block ?_; refine goes_seq ?_; refine goes_region ?_; apply run_step rfl; (exact stp_loadAgg rfl rfl rfl rfl rfl rfl (by as_aux_lemma => kernel_rfl)); apply run_step rfl; (apply call_gate 76; exact stp_callR hI (by as_aux_lemma => kernel_rfl) rfl rfl ⟨⟨.inl rfl, .inl rfl, trivial⟩, trivial⟩ ⟨⟨_, rfl, .inl rfl⟩, trivial⟩ rfl rfl); apply run_step rfl; (exact stp_not rfl rfl); apply run_step rfl; (exact stp_assign rfl rfl); refine run_nil ?_; refine fin_seq ?_)
  refine goes_cond rfl (fun e => by cases e) (fun _ => ?_)
  (refine goes_seq ?_; refine goes_region ?_; apply run_step rfl; (exact stp_fieldAddr (d := 0) rfl rfl rfl (by as_aux_lemma => kernel_rfl)); apply run_step rfl; (exact stp_loadF rfl (by as_aux_lemma => kernel_rfl) rfl rfl rfl rfl); apply run_step rfl; (exact stp_move rfl rfl); apply run_step rfl; (apply call_gate 81; exact stp_callR hW (by as_aux_lemma => kernel_rfl) rfl rfl ⟨rfl, rfl, trivial⟩ ⟨⟨_, rfl, .inl rfl⟩, trivial⟩ rfl rfl); apply run_step rfl; (exact stp_not rfl rfl); apply run_step rfl; (exact stp_assign rfl rfl); refine run_nil ?_; refine fin_seq ?_)
  refine goes_cond rfl (fun e => by cases e) (fun _ => ?_)
  (refine goes_skip ?_; refine fin_block ?_; refine fin_seq ?_; refine goes_seq ?_; refine goes_region ?_; apply run_step rfl; (exact stp_loadAgg rfl rfl rfl rfl rfl rfl (by as_aux_lemma => kernel_rfl)); apply run_step rfl; (apply call_gate 59; exact stp_callN hS (by as_aux_lemma => kernel_rfl) rfl rfl ⟨⟨.inl rfl, .inl rfl, trivial⟩, rfl, trivial⟩ ⟨⟨_, rfl, .inl rfl⟩, trivial⟩ rfl rfl rfl); apply run_step rfl; (exact stp_extract rfl rfl rfl); apply run_step rfl; (exact stp_extract rfl rfl rfl); apply run_step rfl; (exact stp_assign rfl rfl); apply run_step rfl; (exact stp_assign rfl rfl); refine run_nil ?_; refine fin_seq ?_; refine goes_ret ?_)
  exact fin_ret2 (.inl rfl) rfl (.tmp rfl) (.tmp rfl) ⟨rfl, trivial⟩ trivial
set_option maxRecDepth 100000 in
set_option maxHeartbeats 1000000 in
theorem specEl_no {g : Int} {rels : List (List Int)} {W : List Int} (h1 : Fit rels) (h2 : W.length ≤ 4398046511104) (hk : ¬ elOk (g, rels) W) :
    FC Try.prog 53 [(1004, wRo W), (1003, rowsRo rels)] [pA g rels.length, o1 (.sl 1004 0 W.length)] [] (.tup [.one (.val (.slice none 0 0)), .one (.val (I6 (elC (g, rels) W)))]) [] := by
  have hI := specIs_fc g rels h1
  refine fc_enter (nt := 20) Try.func53 rfl rfl (by simp) fun w0 ω0 => ?_
  unfold elC
  by_cases k1 : isPres (g, rels) = true
  · obtain ⟨ng, rfl, hG⟩ := good_nil k1
    rw [k1] at hI
    rw [if_pos k1]
    have hW := specWord_fc ng W (by omega) (by have := hG.hi; omega) h2
    (refine goes_seq ?_; refine goes_region ?_; apply run_step rfl; (exact stp_box rfl rfl rfl rfl); apply run_step rfl; (exact stp_assign rfl rfl); apply run_step rfl; (exact stp_assign rfl rfl); refine run_nil ?_; refine fin_seq ?_; refine goes_seq ?_; refine goes_block ?_; refine goes_seq ?_; refine goes_region ?_; apply run_step rfl; (exact stp_loadAgg rfl rfl rfl rfl rfl rfl (by as_aux_lemma => kernel_rfl)); apply run_step rfl; (apply call_gate 76; exact stp_callR hI (by as_aux_lemma => kernel_rfl) rfl rfl ⟨⟨.inl rfl, .inl rfl, trivial⟩, trivial⟩ ⟨⟨_, rfl, .inl rfl⟩, trivial⟩ rfl rfl); apply run_step rfl; (exact stp_not rfl rfl); apply run_step rfl; (exact stp_assign rfl rfl); refine run_nil ?_; refine fin_seq ?_)
    refine goes_cond rfl (fun e => by cases e) (fun _ => ?_)
    by_cases k2 : isWordTo ((ng : Int) - 1) W = true
    · rw [k2] at hW
      have k3 : ¬ smallOk ((ng : Int), rels) [] = true := fun h => hk ⟨k1, k2, h⟩
      rw [if_pos k2, if_neg k3]
      have hS := (specSmall_no hG k3).nilW
      (refine goes_seq ?_; refine goes_region ?_; apply run_step rfl; (exact stp_fieldAddr (d := 0) rfl rfl rfl (by as_aux_lemma => kernel_rfl)); apply run_step rfl; (exact stp_loadF rfl (by as_aux_lemma => kernel_rfl) rfl rfl rfl rfl); apply run_step rfl; (exact stp_move rfl rfl); apply run_step rfl; (apply call_gate 81; exact stp_callR hW (by as_aux_lemma => kernel_rfl) rfl rfl ⟨rfl, rfl, trivial⟩ ⟨⟨_, rfl, .inl rfl⟩, trivial⟩ rfl rfl); apply run_step rfl; (exact stp_not rfl rfl); apply run_step rfl; (exact stp_assign rfl rfl); refine run_nil ?_; refine fin_seq ?_)
      refine goes_cond rfl (fun e => by cases e) (fun _ => ?_)
      (refine goes_skip ?_; refine fin_block ?_; refine fin_seq ?_; refine goes_seq ?_; refine goes_region ?_; apply run_step rfl; (exact stp_loadAgg rfl rfl rfl rfl rfl rfl (by as_aux_lemma => kernel_rfl)); apply run_step rfl; (apply call_gate 59; exact stp_callR hS (by as_aux_lemma => kernel_rfl) rfl rfl ⟨⟨.inl rfl, .inl rfl, trivial⟩, rfl, trivial⟩ ⟨⟨_, rfl, .inl rfl⟩, trivial⟩ rfl rfl); apply run_step rfl; (exact stp_extract rfl rfl rfl); apply run_step rfl; (exact stp_extract rfl rfl rfl); apply run_step rfl; (exact stp_assign rfl rfl); apply run_step rfl; (exact stp_assign rfl rfl); refine run_nil ?_; refine fin_seq ?_; refine goes_ret ?_)
      exact fin_ret2 (.inl rfl) rfl (.tmp rfl) (.tmp rfl) trivial trivial
    · rw [if_neg k2]
      have k2' : isWordTo ((ng : Int) - 1) W = false := by simpa using k2
      rw [k2'] at hW
      (refine goes_seq ?_; refine goes_region ?_; apply run_step rfl; (exact stp_fieldAddr (d := 0) rfl rfl rfl (by as_aux_lemma => kernel_rfl)); apply run_step rfl; (exact stp_loadF rfl (by as_aux_lemma => kernel_rfl) rfl rfl rfl rfl); apply run_step rfl; (exact stp_move rfl rfl); apply run_step rfl; (apply call_gate 81; exact stp_callR hW (by as_aux_lemma => kernel_rfl) rfl rfl ⟨rfl, rfl, trivial⟩ ⟨⟨_, rfl, .inl rfl⟩, trivial⟩ rfl rfl); apply run_step rfl; (exact stp_not rfl rfl); apply run_step rfl; (exact stp_assign rfl rfl); refine run_nil ?_; refine fin_seq ?_)
      refine goes_cond rfl (fun _ => ?_) (fun e => by cases e)
      (refine goes_seq ?_; refine goes_region ?_; apply run_step rfl; (exact stp_assign rfl rfl); apply run_step rfl; (exact stp_assign rfl rfl); refine run_nil ?_; refine fin_seq ?_; refine goes_ret ?_; refine fin_ret_block ?_; refine fin_ret_then ?_)
      exact fin_ret2 (.inl rfl) rfl (.tmp rfl) (.tmp rfl) trivial trivial
  · have k1' : isPres (g, rels) = false := by simpa using k1
    rw [k1'] at hI
    rw [if_neg k1]
    (refine goes_seq ?_; refine goes_region ?_; apply run_step rfl; (exact stp_box rfl rfl rfl rfl); apply run_step rfl; (exact stp_assign rfl rfl); apply run_step rfl; (exact stp_assign rfl rfl); refine run_nil ?_; refine fin_seq ?_; refine goes_seq ?_; refine goes_block ?_; refine goes_seq ?_; refine goes_region ?_; apply run_step rfl; (exact stp_loadAgg rfl rfl rfl rfl rfl rfl (by as_aux_lemma => kernel_rfl)); apply run_step rfl; (apply call_gate 76; exact stp_callR hI (by as_aux_lemma => kernel_rfl) rfl rfl ⟨⟨.inl rfl, .inl rfl, trivial⟩, trivial⟩ ⟨⟨_, rfl, .inl rfl⟩, trivial⟩ rfl rfl); apply run_step rfl; (exact stp_not rfl rfl); apply run_step rfl; (exact stp_assign rfl rfl); refine run_nil ?_; refine fin_seq ?_)
    refine goes_cond rfl (fun _ => ?_) (fun e => by cases e)
    (refine goes_seq ?_; refine goes_region ?_; apply run_step rfl; (exact stp_assign rfl rfl); apply run_step rfl; (exact stp_assign rfl rfl); refine run_nil ?_; refine fin_seq ?_; refine goes_ret ?_; refine fin_ret_block ?_; refine fin_ret_then ?_)
    exact fin_ret2 (.inl rfl) rfl (.tmp rfl) (.tmp rfl) trivial trivial

set_option maxRecDepth 100000 in
set_option maxHeartbeats 1000000 in
theorem implEl_yes {ng : Nat} {rels : List (List Int)} {W : List Int} (h1 : Fit rels) (h2 : W.length ≤ 4398046511104) (hG : Good ng rels []) (hk : elOk ((ng : Int), rels) W) :
    FC Try.prog 55 [(1004, wRo W), (1003, rowsRo rels)] [pA ng rels.length, o1 (.sl 1004 0 W.length)] [(1005, imOw (cosTab ((ng : Int), rels) []))] (.tup [.one (.sl 1005 0 ng), .one (.val (I6 0))]) [] := by
  obtain ⟨k1, k2, k3⟩ := hk
  have hI := isPres_fc ng rels h1
  rw [k1] at hI
  have hW := implWord_fc ng W (by omega) (by have := hG.hi; omega) h2
  rw [k2] at hW
  have hS := (implSmall_yes hG k3).nilW
  refine fc_enter (nt := 20) Try.func55 rfl rfl (by simp) fun w0 ω0 => ?_
  (refine goes_seq ?_; refine goes_region ?_; apply run_step rfl; (exact stp_box rfl rfl rfl rfl); apply run_step rfl; (exact stp_assign rfl rfl); apply run_step rfl; (exact stp_assign rfl rfl); refine run_nil ?_; refine fin_seq ?_; refine goes_seq ?_; refine goes_block ?_; refine goes_seq ?_; refine goes_region ?_; apply run_step rfl; (exact stp_loadAgg rfl rfl rfl rfl rfl rfl (by as_aux_lemma => kernel_rfl)); apply run_step rfl; (apply call_gate 46; exact stp_callR hI (by as_aux_lemma => kernel_rfl) rfl rfl ⟨⟨.inl rfl, .inl rfl, trivial⟩, trivial⟩ ⟨⟨_, rfl, .inl rfl⟩, trivial⟩ rfl rfl); apply run_step rfl; (exact stp_not rfl rfl); apply run_step rfl; (exact stp_assign rfl rfl); refine run_nil ?_; refine fin_seq ?_)
  refine goes_cond rfl (fun e => by cases e) (fun _ => ?_)
  (refine goes_seq ?_; refine goes_region ?_; apply run_step rfl; (exact stp_move rfl rfl); apply run_step rfl; (exact stp_fieldAddr (d := 0) rfl rfl rfl (by as_aux_lemma => kernel_rfl)); apply run_step rfl; (exact stp_loadF rfl (by as_aux_lemma => kernel_rfl) rfl rfl rfl rfl); apply run_step rfl; (apply call_gate 70; exact stp_callR hW (by as_aux_lemma => kernel_rfl) rfl rfl ⟨rfl, rfl, trivial⟩ ⟨⟨_, rfl, .inl rfl⟩, trivial⟩ rfl rfl); apply run_step rfl; (exact stp_not rfl rfl); apply run_step rfl; (exact stp_assign rfl rfl); refine run_nil ?_; refine fin_seq ?_)
  refine goes_cond rfl (fun e => by cases e) (fun _ => ?_)
  (refine goes_skip ?_; refine fin_block ?_; refine fin_seq ?_; refine goes_seq ?_; refine goes_region ?_; apply run_step rfl; (exact stp_loadAgg rfl rfl rfl rfl rfl rfl (by as_aux_lemma => kernel_rfl)); apply run_step rfl; (apply call_gate 60; exact stp_callN hS (by as_aux_lemma => kernel_rfl) rfl rfl ⟨⟨.inl rfl, .inl rfl, trivial⟩, rfl, trivial⟩ ⟨⟨_, rfl, .inl rfl⟩, trivial⟩ rfl rfl rfl); apply run_step rfl; (exact stp_extract rfl rfl rfl); apply run_step rfl; (exact stp_extract rfl rfl rfl); apply run_step rfl; (exact stp_assign rfl rfl); apply run_step rfl; (exact stp_assign rfl rfl); refine run_nil ?_; refine fin_seq ?_; refine goes_ret ?_)
  exact fin_ret2 (.inl rfl) rfl (.tmp rfl) (.tmp rfl) ⟨rfl, trivial⟩ trivial
set_option maxRecDepth 100000 in
set_option maxHeartbeats 1000000 in
theorem implEl_no {g : Int} {rels : List (List Int)} {W : List Int} (h1 : Fit rels) (h2 : W.length ≤ 4398046511104) (hk : ¬ elOk (g, rels) W) :
    FC Try.prog 55 [(1004, wRo W), (1003, rowsRo rels)] [pA g rels.length, o1 (.sl 1004 0 W.length)] [] (.tup [.one (.val (.slice none 0 0)), .one (.val (I6 (elC (g, rels) W)))]) [] := by
  have hI := isPres_fc g rels h1
  refine fc_enter (nt := 20) Try.func55 rfl rfl (by simp) fun w0 ω0 => ?_
  unfold elC
  by_cases k1 : isPres (g, rels) = true
  · obtain ⟨ng, rfl, hG⟩ := good_nil k1
    rw [k1] at hI
    rw [if_pos k1]
    have hW := implWord_fc ng W (by omega) (by have := hG.hi; omega) h2
    (refine goes_seq ?_; refine goes_region ?_; apply run_step rfl; (exact stp_box rfl rfl rfl rfl); apply run_step rfl; (exact stp_assign rfl rfl); apply run_step rfl; (exact stp_assign rfl rfl); refine run_nil ?_; refine fin_seq ?_; refine goes_seq ?_; refine goes_block ?_; refine goes_seq ?_; refine goes_region ?_; apply run_step rfl; (exact stp_loadAgg rfl rfl rfl rfl rfl rfl (by as_aux_lemma => kernel_rfl)); apply run_step rfl; (apply call_gate 46; exact stp_callR hI (by as_aux_lemma => kernel_rfl) rfl rfl ⟨⟨.inl rfl, .inl rfl, trivial⟩, trivial⟩ ⟨⟨_, rfl, .inl rfl⟩, trivial⟩ rfl rfl); apply run_step rfl; (exact stp_not rfl rfl); apply run_step rfl; (exact stp_assign rfl rfl); refine run_nil ?_; refine fin_seq ?_)
    refine goes_cond rfl (fun e => by cases e) (fun _ => ?_)
    by_cases k2 : isWordTo ((ng : Int) - 1) W = true
    · rw [k2] at hW
      have k3 : ¬ smallOk ((ng : Int), rels) [] = true := fun h => hk ⟨k1, k2, h⟩
      rw [if_pos k2, if_neg k3]
      have hS := (implSmall_no hG k3).nilW
      (refine goes_seq ?_; refine goes_region ?_; apply run_step rfl; (exact stp_move rfl rfl); apply run_step rfl; (exact stp_fieldAddr (d := 0) rfl rfl rfl (by as_aux_lemma => kernel_rfl)); apply run_step rfl; (exact stp_loadF rfl (by as_aux_lemma => kernel_rfl) rfl rfl rfl rfl); apply run_step rfl; (apply call_gate 70; exact stp_callR hW (by as_aux_lemma => kernel_rfl) rfl rfl ⟨rfl, rfl, trivial⟩ ⟨⟨_, rfl, .inl rfl⟩, trivial⟩ rfl rfl); apply run_step rfl; (exact stp_not rfl rfl); apply run_step rfl; (exact stp_assign rfl rfl); refine run_nil ?_; refine fin_seq ?_)
      refine goes_cond rfl (fun e => by cases e) (fun _ => ?_)
      (refine goes_skip ?_; refine fin_block ?_; refine fin_seq ?_; refine goes_seq ?_; refine goes_region ?_; apply run_step rfl; (exact stp_loadAgg rfl rfl rfl rfl rfl rfl (by as_aux_lemma => kernel_rfl)); apply run_step rfl; (apply call_gate 60; exact stp_callR hS (by as_aux_lemma => kernel_rfl) rfl rfl ⟨⟨.inl rfl, .inl rfl, trivial⟩, rfl, trivial⟩ ⟨⟨_, rfl, .inl rfl⟩, trivial⟩ rfl rfl); apply run_step rfl; (exact stp_extract rfl rfl rfl); apply run_step rfl; (exact stp_extract rfl rfl rfl); apply run_step rfl; (exact stp_assign rfl rfl); apply run_step rfl; (exact stp_assign rfl rfl); refine run_nil ?_; refine fin_seq ?_; refine goes_ret ?_)
      exact fin_ret2 (.inl rfl) rfl (.tmp rfl) (.tmp rfl) trivial trivial
    · rw [if_neg k2]
      have k2' : isWordTo ((ng : Int) - 1) W = false := by simpa using k2
      rw [k2'] at hW
      (refine goes_seq ?_; refine goes_region ?_; apply run_step rfl; (exact stp_move rfl rfl); apply run_step rfl; (exact stp_fieldAddr (d := 0) rfl rfl rfl (by as_aux_lemma => kernel_rfl)); apply run_step rfl; (exact stp_loadF rfl (by as_aux_lemma => kernel_rfl) rfl rfl rfl rfl); apply run_step rfl; (apply call_gate 70; exact stp_callR hW (by as_aux_lemma => kernel_rfl) rfl rfl ⟨rfl, rfl, trivial⟩ ⟨⟨_, rfl, .inl rfl⟩, trivial⟩ rfl rfl); apply run_step rfl; (exact stp_not rfl rfl); apply run_step rfl; (exact stp_assign rfl rfl); refine run_nil ?_; refine fin_seq ?_)
      refine goes_cond rfl (fun _ => ?_) (fun e => by cases e)
      (refine goes_seq ?_; refine goes_region ?_; apply run_step rfl; (exact stp_assign rfl rfl); apply run_step rfl; (exact stp_assign rfl rfl); refine run_nil ?_; refine fin_seq ?_; refine goes_ret ?_; refine fin_ret_block ?_; refine fin_ret_then ?_)
      exact fin_ret2 (.inl rfl) rfl (.tmp rfl) (.tmp rfl) trivial trivial
  · have k1' : isPres (g, rels) = false := by simpa using k1
    rw [k1'] at hI
    rw [if_neg k1]
    (refine goes_seq ?_; refine goes_region ?_; apply run_step rfl; (exact stp_box rfl rfl rfl rfl); apply run_step rfl; (exact stp_assign rfl rfl); apply run_step rfl; (exact stp_assign rfl rfl); refine run_nil ?_; refine fin_seq ?_; refine goes_seq ?_; refine goes_block ?_; refine goes_seq ?_; refine goes_region ?_; apply run_step rfl; (exact stp_loadAgg rfl rfl rfl rfl rfl rfl (by as_aux_lemma => kernel_rfl)); apply run_step rfl; (apply call_gate 46; exact stp_callR hI (by as_aux_lemma => kernel_rfl) rfl rfl ⟨⟨.inl rfl, .inl rfl, trivial⟩, trivial⟩ ⟨⟨_, rfl, .inl rfl⟩, trivial⟩ rfl rfl); apply run_step rfl; (exact stp_not rfl rfl); apply run_step rfl; (exact stp_assign rfl rfl); refine run_nil ?_; refine fin_seq ?_)
    refine goes_cond rfl (fun _ => ?_) (fun e => by cases e)
    (refine goes_seq ?_; refine goes_region ?_; apply run_step rfl; (exact stp_assign rfl rfl); apply run_step rfl; (exact stp_assign rfl rfl); refine run_nil ?_; refine fin_seq ?_; refine goes_ret ?_; refine fin_ret_block ?_; refine fin_ret_then ?_)
    exact fin_ret2 (.inl rfl) rfl (.tmp rfl) (.tmp rfl) trivial trivial

def idR (d : PresD) (W : List Int) : Bool := if elC d W = 0 then leadL (cosTab d []) 0 W == 0 else false
theorem elC_ok {d : PresD} {W : List Int} (h : elOk d W) : elC d W = 0 := by unfold elC; rw [if_pos h.1, if_pos h.2.1, if_pos h.2.2]
theorem elC_no {d : PresD} {W : List Int} (h : ¬ elOk d W) : elC d W ≠ 0 := by
  unfold elC
  split
  · split
    · split
      · exact fun _ => h ⟨by assumption, by assumption, by assumption⟩
      · decide
    · decide
  · decide
theorem word_of {ng : Nat} {rels : List (List Int)} {W : List Int} (hk : elOk ((ng : Int), rels) W) : (∀ z ∈ W, 0 ≤ z ∧ z < (cosTab ((ng : Int), rels) []).length) ∧ W.length ≤ 1000000000 := by
  have := isWordTo_spec (ng := ng) rfl hk.2.1
  refine ⟨fun z hz => ?_, by omega⟩
  rw [cosTab_len]; exact this.1 z hz
set_option maxRecDepth 100000 in
set_option maxHeartbeats 1000000 in
theorem specId_fc (g : Int) (rels : List (List Int)) (W : List Int) (h1 : Fit rels) (h2 : W.length ≤ 4398046511104) :
    FC Try.prog 23 [(1004, wRo W), (1003, rowsRo rels)] [pA g rels.length, o1 (.sl 1004 0 W.length)] [] (.tup [.one (.val (.bool (idR (g, rels) W))), .one (.val (I6 (elC (g, rels) W)))]) [] := by
  refine fc_enter (nt := 21) Try.func23 rfl rfl (by simp) fun w0 ω0 => ?_
  by_cases hk : elOk (g, rels) W
  · obtain ⟨ng, rfl, hG⟩ := good_nil hk.1
    have hE := specEl_yes h1 h2 hG hk
    have hs := smallOk_run hk.2.2
    have hw := word_of hk
    have hL : FC Try.prog 54 [(1005, imRo (cosTab ((ng : Int), rels) [])), (1004, wRo W)] [o1 (.sl 1005 0 ng), vv (I6 (0 : Nat)), o1 (.sl 1004 0 W.length)] [] (vv (I6 (leadL (cosTab ((ng : Int), rels) []) (0 : Nat) W))) [] :=
      specLead_fc _ W 0 _ ng (cosTab_len _ _ _) (cosTab_leads hG hs.1) (cosN_pos hG hs.1) (by omega) (by have := hG.hi; omega) hw.1 hw.2
    have hc := elC_ok hk
    unfold idR
    rw [hc, if_pos rfl]
    generalize cosTab ((ng : Int), rels) [] = T at *
    (refine goes_seq ?_; refine goes_region ?_; apply run_step rfl; (exact stp_box rfl rfl rfl rfl); apply run_step rfl; (exact stp_assign rfl rfl); apply run_step rfl; (exact stp_assign rfl rfl); refine run_nil ?_; refine fin_seq ?_; refine goes_seq ?_; refine goes_region ?_; apply run_step rfl; (exact stp_loadAgg rfl rfl rfl rfl rfl rfl (by as_aux_lemma => kernel_rfl)); apply run_step rfl; (exact stp_move rfl rfl); apply run_step rfl; (apply call_gate 53; exact stp_callN hE (by as_aux_lemma => kernel_rfl) rfl rfl ⟨⟨.inl rfl, .inl rfl, trivial⟩, rfl, trivial⟩ ⟨⟨_, rfl, .inl rfl⟩, ⟨_, rfl, .inl rfl⟩, trivial⟩ rfl rfl rfl); apply run_step rfl; (exact stp_move rfl rfl); apply run_step rfl; (exact stp_extract rfl rfl rfl); apply run_step rfl; (exact stp_extract rfl rfl rfl); apply run_step rfl; (exact stp_assign rfl rfl); apply run_step rfl; (exact stp_assign rfl rfl); refine run_nil ?_; refine fin_seq ?_; refine goes_seq ?_; refine goes_seq ?_; refine goes_region ?_; apply run_step rfl; (exact stp_move rfl rfl); apply run_step rfl; (exact stp_bin rfl rfl rfl rfl); refine run_nil ?_; refine fin_seq ?_)
    refine goes_cond rfl (fun e => by cases e) (fun _ => ?_)
    (refine goes_skip ?_; refine fin_seq ?_; refine goes_seq ?_; refine goes_region ?_; apply run_step rfl; (exact stp_move rfl rfl); apply run_step rfl; (exact stp_move rfl rfl); apply run_step rfl; (apply call_gate 54; exact stp_callR hL (by as_aux_lemma => kernel_rfl) rfl rfl ⟨rfl, rfl, rfl, trivial⟩ ⟨⟨_, rfl, .inr rfl⟩, ⟨_, rfl, .inl rfl⟩, trivial⟩ rfl rfl); apply run_step rfl; (exact stp_bin rfl rfl rfl rfl); apply run_step rfl; (exact stp_assign rfl rfl); apply run_step rfl; (exact stp_assign rfl rfl); refine run_nil ?_; refine fin_seq ?_; refine goes_ret ?_)
    exact fin_ret2 (.inl rfl) rfl (.tmp rfl) (.tmp rfl) trivial trivial
  · have hE := specEl_no h1 h2 hk
    have hc := elC_no hk
    unfold idR
    rw [if_neg hc]
    (refine goes_seq ?_; refine goes_region ?_; apply run_step rfl; (exact stp_box rfl rfl rfl rfl); apply run_step rfl; (exact stp_assign rfl rfl); apply run_step rfl; (exact stp_assign rfl rfl); refine run_nil ?_; refine fin_seq ?_; refine goes_seq ?_; refine goes_region ?_; apply run_step rfl; (exact stp_loadAgg rfl rfl rfl rfl rfl rfl (by as_aux_lemma => kernel_rfl)); apply run_step rfl; (exact stp_move rfl rfl); apply run_step rfl; (apply call_gate 53; exact stp_callR hE (by as_aux_lemma => kernel_rfl) rfl rfl ⟨⟨.inl rfl, .inl rfl, trivial⟩, rfl, trivial⟩ ⟨⟨_, rfl, .inl rfl⟩, ⟨_, rfl, .inl rfl⟩, trivial⟩ rfl rfl); apply run_step rfl; (exact stp_move rfl rfl); apply run_step rfl; (exact stp_extract rfl rfl rfl); apply run_step rfl; (exact stp_extract rfl rfl rfl); apply run_step rfl; (exact stp_assign rfl rfl); apply run_step rfl; (exact stp_assign rfl rfl); refine run_nil ?_; refine fin_seq ?_; refine goes_seq ?_; refine goes_seq ?_; refine goes_region ?_; apply run_step rfl; (exact stp_move rfl rfl); apply run_step rfl; (exact stp_bin rfl rfl rfl rfl); refine run_nil ?_; refine fin_seq ?_)
    refine goes_cond rfl (fun _ => ?_) (fun e => ?_)
    · (refine goes_seq ?_; refine goes_region ?_; apply run_step rfl; (exact stp_move rfl rfl); apply run_step rfl; (exact stp_assign rfl rfl); apply run_step rfl; (exact stp_assign rfl rfl); refine run_nil ?_; refine fin_seq ?_; refine goes_ret ?_; refine fin_ret_then ?_)
      exact fin_ret2 (.inl rfl) rfl (.tmp rfl) (.tmp rfl) trivial trivial
    · exfalso; simp at e; exact hc e
set_option maxRecDepth 100000 in
set_option maxHeartbeats 1000000 in
theorem implId_fc (g : Int) (rels : List (List Int)) (W : List Int) (h1 : Fit rels) (h2 : W.length ≤ 4398046511104) :
    FC Try.prog 25 [(1004, wRo W), (1003, rowsRo rels)] [pA g rels.length, o1 (.sl 1004 0 W.length)] [] (.tup [.one (.val (.bool (idR (g, rels) W))), .one (.val (I6 (elC (g, rels) W)))]) [] := by
  refine fc_enter (nt := 23) Try.func25 rfl rfl (by simp) fun w0 ω0 => ?_
  by_cases hk : elOk (g, rels) W
  · obtain ⟨ng, rfl, hG⟩ := good_nil hk.1
    have hE := implEl_yes h1 h2 hG hk
    have hs := smallOk_run hk.2.2
    have hw := word_of hk
    have hL : FC Try.prog 56 [(1005, imRo (cosTab ((ng : Int), rels) [])), (1004, wRo W)] [o1 (.sl 1005 0 ng), o1 (.sl 1004 0 W.length), vv (I6 (0 : Nat))] [] (vv (I6 (leadL (cosTab ((ng : Int), rels) []) (0 : Nat) W))) [] :=
      implLead_fc _ W 0 _ ng (cosTab_len _ _ _) (cosTab_leads hG hs.1) (cosN_pos hG hs.1) (by omega) (by have := hG.hi; omega) hw.1 hw.2
    have hc := elC_ok hk
    unfold idR
    rw [hc, if_pos rfl]
    generalize cosTab ((ng : Int), rels) [] = T at *
    (refine goes_seq ?_; refine goes_region ?_; apply run_step rfl; (exact stp_box rfl rfl rfl rfl); apply run_step rfl; (exact stp_assign rfl rfl); apply run_step rfl; (exact stp_assign rfl rfl); refine run_nil ?_; refine fin_seq ?_; refine goes_seq ?_; refine goes_region ?_; apply run_step rfl; (exact stp_loadAgg rfl rfl rfl rfl rfl rfl (by as_aux_lemma => kernel_rfl)); apply run_step rfl; (exact stp_move rfl rfl); apply run_step rfl; (first | (apply call_gate 55; exact stp_callN hE (by as_aux_lemma => kernel_rfl) rfl rfl ⟨⟨.inl rfl, .inl rfl, trivial⟩, rfl, trivial⟩ ⟨⟨_, rfl, .inl rfl⟩, ⟨_, rfl, .inl rfl⟩, trivial⟩ rfl rfl rfl) | (apply call_gate 56; exact stp_callR hL (by as_aux_lemma => kernel_rfl) rfl rfl ⟨rfl, rfl, rfl, trivial⟩ ⟨⟨_, rfl, .inr rfl⟩, ⟨_, rfl, .inl rfl⟩, trivial⟩ rfl rfl)); apply run_step rfl; (exact stp_move rfl rfl); apply run_step rfl; (exact stp_extract rfl rfl rfl); apply run_step rfl; (exact stp_extract rfl rfl rfl); apply run_step rfl; (exact stp_assign rfl rfl); apply run_step rfl; (exact stp_assign rfl rfl); refine run_nil ?_; refine fin_seq ?_; refine goes_seq ?_; refine goes_region ?_; apply run_step rfl; (exact stp_move rfl rfl); apply run_step rfl; (exact stp_bin rfl rfl rfl rfl); apply run_step rfl; (exact stp_move rfl rfl); apply run_gYes rfl rfl rfl; (exact stp_move rfl rfl); apply run_gYes rfl rfl rfl; (exact stp_move rfl rfl); apply run_gYes rfl rfl rfl; (first | (apply call_gate 55; exact stp_callN hE (by as_aux_lemma => kernel_rfl) rfl rfl ⟨⟨.inl rfl, .inl rfl, trivial⟩, rfl, trivial⟩ ⟨⟨_, rfl, .inl rfl⟩, ⟨_, rfl, .inl rfl⟩, trivial⟩ rfl rfl rfl) | (apply call_gate 56; exact stp_callR hL (by as_aux_lemma => kernel_rfl) rfl rfl ⟨rfl, rfl, rfl, trivial⟩ ⟨⟨_, rfl, .inr rfl⟩, ⟨_, rfl, .inl rfl⟩, trivial⟩ rfl rfl)); apply run_gYes rfl rfl rfl; (exact stp_bin rfl rfl rfl rfl); apply run_step rfl; (exact stp_pickT rfl rfl rfl); apply run_step rfl; (exact stp_move rfl rfl); apply run_step rfl; (exact stp_assign rfl rfl); apply run_step rfl; (exact stp_assign rfl rfl); refine run_nil ?_; refine fin_seq ?_; refine goes_ret ?_)
    exact fin_ret2 (.inl rfl) rfl (.tmp rfl) (.tmp rfl) trivial trivial
  · have hE := implEl_no h1 h2 hk
    have hc := elC_no hk
    unfold idR
    rw [if_neg hc]
    (refine goes_seq ?_; refine goes_region ?_; apply run_step rfl; (exact stp_box rfl rfl rfl rfl); apply run_step rfl; (exact stp_assign rfl rfl); apply run_step rfl; (exact stp_assign rfl rfl); refine run_nil ?_; refine fin_seq ?_; refine goes_seq ?_; refine goes_region ?_; apply run_step rfl; (exact stp_loadAgg rfl rfl rfl rfl rfl rfl (by as_aux_lemma => kernel_rfl)); apply run_step rfl; (exact stp_move rfl rfl); apply run_step rfl; (apply call_gate 55; exact stp_callR hE (by as_aux_lemma => kernel_rfl) rfl rfl ⟨⟨.inl rfl, .inl rfl, trivial⟩, rfl, trivial⟩ ⟨⟨_, rfl, .inl rfl⟩, ⟨_, rfl, .inl rfl⟩, trivial⟩ rfl rfl); apply run_step rfl; (exact stp_move rfl rfl); apply run_step rfl; (exact stp_extract rfl rfl rfl); apply run_step rfl; (exact stp_extract rfl rfl rfl); apply run_step rfl; (exact stp_assign rfl rfl); apply run_step rfl; (exact stp_assign rfl rfl); refine run_nil ?_; refine fin_seq ?_; refine goes_seq ?_; refine goes_region ?_; apply run_step rfl; (exact stp_move rfl rfl); apply run_step rfl; (exact stp_bin rfl rfl rfl rfl); apply run_step rfl; (exact stp_move rfl rfl))
    refine run_bool 16 rfl (fun e => ?_) (fun e => ?_)
    · exfalso; simp at e; exact hc e
    · (apply run_gNo rfl rfl rfl rfl rfl; apply run_gNo rfl rfl rfl rfl rfl; apply run_gNo rfl rfl rfl rfl rfl; apply run_gNo rfl rfl rfl rfl rfl; apply run_step rfl; (exact stp_pickF rfl rfl rfl); apply run_step rfl; (exact stp_move rfl rfl); apply run_step rfl; (exact stp_assign rfl rfl); apply run_step rfl; (exact stp_assign rfl rfl); refine run_nil ?_; refine fin_seq ?_; refine goes_ret ?_)
      exact fin_ret2 (.inl rfl) rfl (.tmp rfl) (.tmp rfl) trivial trivial

/-! in words -/
theorem len_of {E : Nat} {w : World} {lo hi : Nat} {v : Value} {zs : List Int} (h : OwnS E w lo hi v zs) : zs.length ≤ 4398046511104 := by
  obtain ⟨⟨ao, n, c, rfl, ho⟩, _⟩ := h
  have h1 := ho.len
  rw [List.length_map] at h1
  have h2 := ho.2
  omega
theorem callPS {f : FuncId} {outs : List (Nm × Ch)} {res : AV} {d : PresD} {W : List Int} (hf : Fit d.2 → W.length ≤ 4398046511104 → FC Try.prog f [(1004, wRo W), (1003, rowsRo d.2)] [pA d.1 d.2.length, o1 (.sl 1004 0 W.length)] outs res []) {E1 E E' : Nat} {w : World} {lo hi lo' hi' : Nat} {v v' : Value} (h : OwP E1 E w lo hi v d) (h' : OwnS E' w lo' hi' v' W) :
    Calls Try.prog f #[v, v'] w fun e w' => ∃ v η ω, e = .returned v ∧ Den η res v ∧ Mem η ω w' (fun x => lk x outs) ∧ Below w.heap.size w w' ∧ ∀ b, b < w.heap.size → ω b = none := by
  obtain ⟨u, rfl, hs⟩ := ofP h
  obtain ⟨hd, r, rfl, hv⟩ := ofSS 1003 37 2 hs
  obtain ⟨hd', r', rfl, hv'⟩ := ofS 1004 2 h'.1
  exact (hf (fit_of hs) (len_of h')).call (l := [(1004, (wRo W, hd', r')), (1003, (rowsRo d.2, hd, r))]) (us := [_, _]) (fun p hp => by simp at hp; rcases hp with rfl | rfl; exact hv'; exact hv) rfl
    (denL2 (denP (den_sl (q := (rowsRo d.2, hd, r)) rfl)) (den_sl (q := (wRo W, hd', r')) rfl))
theorem api_specId {E1 E E' : Nat} {lo hi lo' hi' : Nat} {v v' : Value} {d : PresD} {W : List Int} (w : World) (h : OwP E1 E w lo hi v d) (h' : OwnS E' w lo' hi' v' W) :
    Calls Try.prog 23 #[v, v'] w fun e w' => e = .returned (.tuple #[.bool (idR d W), .int .i64 (elC d W)]) ∧ Below w.heap.size w w' := two_vals (callPS (fun k1 k2 => specId_fc d.1 d.2 W k1 k2) h h')
theorem api_implId {E1 E E' : Nat} {lo hi lo' hi' : Nat} {v v' : Value} {d : PresD} {W : List Int} (w : World) (h : OwP E1 E w lo hi v d) (h' : OwnS E' w lo' hi' v' W) :
    Calls Try.prog 25 #[v, v'] w fun e w' => e = .returned (.tuple #[.bool (idR d W), .int .i64 (elC d W)]) ∧ Below w.heap.size w w' := two_vals (callPS (fun k1 k2 => implId_fc d.1 d.2 W k1 k2) h h')
end Go.Proofs.Ytpjglifijdcgnaa

/- IsNormalSubgroup. -/
namespace Go.Proofs.Ytpjglifijdcgnaa
open Go.RowKit

def fixAllB (T ws : List (List Int)) (n : Nat) : Bool := (List.range ws.length).all fun i => (List.range n).all fun c => leadL T ((c : Nat) : Int) (lget ws i) == (c : Int)
theorem fixAllB_iff {T ws : List (List Int)} {n : Nat} : fixAllB T ws n = true ↔ ∀ i, i < ws.length → ∀ c, c < n → leadL T ((c : Nat) : Int) (lget ws i) = (c : Int) := by
  unfold fixAllB
  simp only [List.all_eq_true, List.mem_range, beq_iff_eq]
def nrR (d : PresD) (ws : List (List Int)) : Bool := if ctC d ws = 0 then fixAllB (cosTab d ws) ws (cosN d ws) else false
theorem ctC_ok {d : PresD} {ws : List (List Int)} (h : withOk d ws = true ∧ smallOk d ws = true) : ctC d ws = 0 := by unfold ctC; rw [if_pos h.1, if_pos h.2]
theorem ctC_no {d : PresD} {ws : List (List Int)} (h : ¬ (withOk d ws = true ∧ smallOk d ws = true)) : ctC d ws ≠ 0 := by
  unfold ctC
  split
  · split
    · exact fun _ => h ⟨by assumption, by assumption⟩
    · decide
  · decide

set_option maxRecDepth 100000 in
set_option maxHeartbeats 2000000 in
theorem specNr_fc (g : Int) (rels ws : List (List Int)) (h1 : Fit rels) (h2 : Fit ws) :
    FC Try.prog 34 [(1002, rowsRo ws), (1003, rowsRo rels)] [pA g rels.length, o1 (.sl 1002 0 ws.length)] [] (.tup [.one (.val (.bool (nrR (g, rels) ws))), .one (.val (I6 (ctC (g, rels) ws)))]) [] := by
  refine fc_enter (nt := 42) Try.func34 rfl rfl (by simp) fun w0 ω0 => ?_
  by_cases hk : withOk (g, rels) ws = true ∧ smallOk (g, rels) ws = true
  · obtain ⟨ng, rfl, hG⟩ := good_of hk.1
    have hE := specCT_yes ng rels ws h1 h2 hk.1 hG hk.2
    have hs := smallOk_run hk.2
    have hL : ∀ i x, i < ws.length → x < cosN ((ng : Int), rels) ws → FC Try.prog 54 [(1005, imRo (cosTab ((ng : Int), rels) ws)), (1002, rowsRo ws)] [o1 (.sl 1005 0 ng), vv (I6 x), o1 (.esl 1002 i 0 (lget ws i).length)] [] (vv (I6 (leadL (cosTab ((ng : Int), rels) ws) x (lget ws i)))) [] := fun i x hi hx =>
      specLeadE_fc _ ws i x _ ng (cosTab_len _ _ _) (cosTab_leads hG hs.1) hx (by omega) (by have := hG.hi; omega) hi (by rw [cosTab_len]; exact hG.wl _ (lget_mem hi)) (hG.wn _ (lget_mem hi))
    have hc := ctC_ok hk
    unfold nrR
    rw [hc, if_pos rfl]
    have hlen : (irows (cosTab ((ng : Int), rels) ws)).length = ng := by rw [irows_len, cosTab_len]
    have hpos := hG.pos
    have hr0 : (lget (cosTab ((ng : Int), rels) ws) 0).length = cosN ((ng : Int), rels) ws := cosTab_row hpos
    have hrow : (irows (cosTab ((ng : Int), rels) ws))[0]? = some (ivals (lget (cosTab ((ng : Int), rels) ws) 0)) := irows_get (by rw [← irows_len, hlen]; exact hpos)
    have hN := hs.2
    have hwl := hG.w
    generalize cosN ((ng : Int), rels) ws = N at *
    generalize cosTab ((ng : Int), rels) ws = T at *
    (refine goes_seq ?_; refine goes_region ?_; apply run_step rfl; (exact stp_box rfl rfl rfl rfl); apply run_step rfl; (exact stp_assign rfl rfl); apply run_step rfl; (exact stp_assign rfl rfl); refine run_nil ?_; refine fin_seq ?_; refine goes_seq ?_; refine goes_region ?_; apply run_step rfl; (exact stp_loadAgg rfl rfl rfl rfl rfl rfl (by as_aux_lemma => kernel_rfl)); apply run_step rfl; (exact stp_move rfl rfl); apply run_step rfl; (apply call_gate 29; exact stp_callN hE (by as_aux_lemma => kernel_rfl) rfl rfl ⟨⟨.inl rfl, .inl rfl, trivial⟩, rfl, trivial⟩ ⟨⟨_, rfl, .inl rfl⟩, ⟨_, rfl, .inl rfl⟩, trivial⟩ rfl rfl rfl); apply run_step rfl; (exact stp_move rfl rfl); apply run_step rfl; (exact stp_extract rfl rfl rfl); apply run_step rfl; (exact stp_extract rfl rfl rfl); apply run_step rfl; (exact stp_assign rfl rfl); apply run_step rfl; (exact stp_assign rfl rfl); refine run_nil ?_; refine fin_seq ?_; refine goes_seq ?_; refine goes_seq ?_; refine goes_region ?_; apply run_step rfl; (exact stp_move rfl rfl); apply run_step rfl; (exact stp_bin rfl rfl rfl rfl); refine run_nil ?_; refine fin_seq ?_)
    refine goes_cond rfl (fun e => by cases e) (fun _ => ?_)
    (refine goes_skip ?_; refine fin_seq ?_; refine goes_seq ?_; refine goes_seq ?_; refine goes_region ?_; apply run_step rfl; (exact stp_assign rfl rfl); refine run_nil ?_; refine fin_seq ?_; refine goes_block ?_)
    refine goes_loop (fun i : Nat => St.of [(1, o1 (.sl 1002 0 ws.length)), (6, o1 (.sl 1005 0 ng)), (8, vv (I6 i))] [(1005, imOw T), (1002, rowsRo ws)]) (fun i => i ≤ ws.length ∧ ∀ j, j < i → ∀ c, c < N → leadL T ((c : Nat) : Int) (lget ws j) = (c : Int)) (fun i => ws.length - i) 0 ⟨Nat.zero_le _, fun j hj => by omega⟩ (Wk.of ⟨rfl, rfl, rfl, trivial⟩ ⟨rfl, rfl, trivial⟩ trivial) ?_
    rintro i ⟨hi, hfix⟩
    (refine goes_seq ?_; refine goes_seq ?_; refine goes_region ?_; apply run_step rfl; (exact stp_move rfl rfl); apply run_step rfl; (exact stp_move rfl rfl); apply run_step rfl; (exact stp_len rfl rfl rfl (by as_aux_lemma => kernel_rfl)); apply run_step rfl; (exact stp_bin rfl rfl rfl rfl); refine run_nil ?_; refine fin_seq ?_)
    refine goes_if rfl (fun hlt => ?_) (fun hlt => ?_)
    · have hlt' : i < ws.length := by omega
      have hroww : (irows ws)[i]? = some (ivals (lget ws i)) := irows_get hlt'
      (refine goes_skip ?_; refine fin_seq ?_; refine goes_seq ?_; refine goes_block ?_; refine goes_seq ?_; refine goes_region ?_; apply run_step rfl; (exact stp_assign rfl rfl); refine run_nil ?_; refine fin_seq ?_; refine goes_block ?_)
      refine goes_loop (fun c : Nat => St.of [(1, o1 (.sl 1002 0 ws.length)), (6, o1 (.sl 1005 0 ng)), (8, vv (I6 i)), (9, vv (I6 c))] [(1005, imOw T), (1002, rowsRo ws)]) (fun c => c ≤ N ∧ ∀ x, x < c → leadL T ((x : Nat) : Int) (lget ws i) = (x : Int)) (fun c => N - c) 0 ⟨Nat.zero_le _, fun x hx => by omega⟩ (Wk.of ⟨rfl, rfl, rfl, rfl, trivial⟩ ⟨rfl, rfl, trivial⟩ trivial) ?_
      rintro c ⟨hcN, hfx⟩
      (refine goes_seq ?_; refine goes_seq ?_; refine goes_region ?_; apply run_step rfl; (exact stp_move rfl rfl); apply run_step rfl; (exact stp_move rfl rfl); apply run_step rfl; (exact stp_ix (j := 0) rfl rfl rfl rfl rfl (by as_aux_lemma => kernel_rfl) rfl hpos (Nat.le_of_eq hlen.symm)); apply run_step rfl; (exact stp_loadR rfl (by as_aux_lemma => kernel_rfl) rfl rfl rfl (by first | assumption | exact ivals_get (by assumption) | exact irows_get (by assumption) | exact ivals_get (by omega) | exact irows_get (by omega) | rfl) (by first | exact ivals_len _ | assumption | rfl)); apply run_step rfl; (exact stp_len rfl rfl rfl (by as_aux_lemma => kernel_rfl)); apply run_step rfl; (exact stp_bin rfl rfl rfl rfl); refine run_nil ?_; refine fin_seq ?_)
      refine goes_if rfl (fun hcl => ?_) (fun hcl => ?_)
      · have hcl' : c < N := by omega
        have hLc := hL i c hlt' hcl'
        (refine goes_skip ?_; refine fin_seq ?_; refine goes_seq ?_; refine goes_block ?_; refine goes_seq ?_; refine goes_region ?_; apply run_step rfl; (exact stp_move rfl rfl); apply run_step rfl; (exact stp_move rfl rfl); apply run_step rfl; (exact stp_move rfl rfl); apply run_step rfl; (exact stp_move rfl rfl); apply run_step rfl; (exact stp_ix rfl rfl rfl rfl rfl (by as_aux_lemma => kernel_rfl) (by first | rfl | exact (Int.toNat_of_nonneg (by omega)).symm) (by first | assumption | omega | (simp; omega)) (by first | exact Nat.le_refl _ | exact Nat.le_of_eq (ivals_len _).symm | exact Nat.le_of_eq (irows_len _).symm | (refine Nat.le_trans ?_ (Nat.le_of_eq (ivals_len _).symm); (first | omega | (simp; done) | (simp; omega))) | (refine Nat.le_trans ?_ (Nat.le_of_eq (irows_len _).symm); (first | omega | (simp; done) | (simp; omega))))); apply run_step rfl; (exact stp_loadR rfl (by as_aux_lemma => kernel_rfl) rfl rfl rfl (by first | assumption | exact ivals_get (by assumption) | exact irows_get (by assumption) | exact ivals_get (by omega) | exact irows_get (by omega) | rfl) (by first | exact ivals_len _ | assumption | rfl)); apply run_step rfl; (apply call_gate 54; exact stp_callR hLc (by as_aux_lemma => kernel_rfl) rfl rfl ⟨rfl, rfl, rfl, trivial⟩ ⟨⟨_, rfl, .inr rfl⟩, ⟨_, rfl, .inl rfl⟩, trivial⟩ rfl rfl); apply run_step rfl; (exact stp_move rfl rfl); apply run_step rfl; (exact stp_bin rfl rfl rfl rfl); refine run_nil ?_; refine fin_seq ?_)
        refine goes_cond rfl (fun hne => ?_) (fun hne => ?_)
        · have hne' : leadL T (c : Int) (lget ws i) ≠ (c : Int) := by simpa using hne
          have hno : fixAllB T ws N = false := by rw [← Bool.not_eq_true]; exact fun h => hne' (fixAllB_iff.1 h i hlt' c hcl')
          rw [hno]
          (refine goes_seq ?_; refine goes_region ?_; apply run_step rfl; (exact stp_assign rfl rfl); apply run_step rfl; (exact stp_assign rfl rfl); refine run_nil ?_; refine fin_seq ?_; refine goes_ret ?_; refine fin_ret_block ?_; refine fin_ret_then ?_; refine fin_ret_then ?_; refine fin_ret_block ?_; refine fin_ret_block ?_; refine fin_ret_then ?_; refine fin_ret_then ?_; refine fin_ret_block ?_; refine fin_ret_then ?_)
          exact fin_ret2 (.inl rfl) rfl (.tmp rfl) (.tmp rfl) trivial trivial
        · have heq : leadL T (c : Int) (lget ws i) = (c : Int) := by simpa using hne
          (refine goes_skip ?_; refine fin_block ?_; refine fin_seq ?_; refine goes_region ?_; apply run_step rfl; (exact stp_move rfl rfl); apply run_step rfl; (exact stp_add rfl rfl rfl (by first | exact IntWalk.i64_in _ (by omega) | rfl)); apply run_step rfl; (exact stp_assign rfl rfl); refine run_nil ?_)
          exact fin_round (c + 1) ⟨hcl', fun x hx => by
            by_cases e : x = c
            · subst e; exact heq
            · exact hfx x (by omega)⟩ (by omega) (Wk.of ⟨rfl, rfl, rfl, rfl, trivial⟩ ⟨rfl, rfl, trivial⟩ trivial)
      · obtain rfl : c = N := by omega
        (refine goes_exit ?_; refine fin_exit_then ?_; refine fin_exit_then ?_; refine fin_exit_eq ?_; refine fin_block ?_; refine fin_seq ?_; refine goes_region ?_; apply run_step rfl; (exact stp_move rfl rfl); apply run_step rfl; (exact stp_add rfl rfl rfl (by first | exact IntWalk.i64_in _ (by omega) | rfl)); apply run_step rfl; (exact stp_assign rfl rfl); refine run_nil ?_)
        exact fin_round (i + 1) ⟨hlt', fun j hj => by
          by_cases e : j = i
          · subst e; exact hfx
          · exact hfix j (by omega)⟩ (by omega) (Wk.of ⟨rfl, rfl, rfl, trivial⟩ ⟨rfl, rfl, trivial⟩ trivial)
    · obtain rfl : i = ws.length := by omega
      have hyes : fixAllB T ws N = true := fixAllB_iff.2 hfix
      rw [hyes]
      (refine goes_exit ?_; refine fin_exit_then ?_; refine fin_exit_then ?_; refine fin_exit_eq ?_; refine fin_seq ?_; refine goes_seq ?_; refine goes_region ?_; apply run_step rfl; (exact stp_assign rfl rfl); apply run_step rfl; (exact stp_assign rfl rfl); refine run_nil ?_; refine fin_seq ?_; refine goes_ret ?_)
      exact fin_ret2 (.inl rfl) rfl (.tmp rfl) (.tmp rfl) trivial trivial
  · have hE := specCT_no g rels ws h1 h2 hk
    have hc := ctC_no hk
    unfold nrR
    rw [if_neg hc]
    (refine goes_seq ?_; refine goes_region ?_; apply run_step rfl; (exact stp_box rfl rfl rfl rfl); apply run_step rfl; (exact stp_assign rfl rfl); apply run_step rfl; (exact stp_assign rfl rfl); refine run_nil ?_; refine fin_seq ?_; refine goes_seq ?_; refine goes_region ?_; apply run_step rfl; (exact stp_loadAgg rfl rfl rfl rfl rfl rfl (by as_aux_lemma => kernel_rfl)); apply run_step rfl; (exact stp_move rfl rfl); apply run_step rfl; (apply call_gate 29; exact stp_callR hE (by as_aux_lemma => kernel_rfl) rfl rfl ⟨⟨.inl rfl, .inl rfl, trivial⟩, rfl, trivial⟩ ⟨⟨_, rfl, .inl rfl⟩, ⟨_, rfl, .inl rfl⟩, trivial⟩ rfl rfl); apply run_step rfl; (exact stp_move rfl rfl); apply run_step rfl; (exact stp_extract rfl rfl rfl); apply run_step rfl; (exact stp_extract rfl rfl rfl); apply run_step rfl; (exact stp_assign rfl rfl); apply run_step rfl; (exact stp_assign rfl rfl); refine run_nil ?_; refine fin_seq ?_; refine goes_seq ?_; refine goes_seq ?_; refine goes_region ?_; apply run_step rfl; (exact stp_move rfl rfl); apply run_step rfl; (exact stp_bin rfl rfl rfl rfl); refine run_nil ?_; refine fin_seq ?_)
    refine goes_cond rfl (fun _ => ?_) (fun e => ?_)
    · (refine goes_seq ?_; refine goes_region ?_; apply run_step rfl; (exact stp_move rfl rfl); apply run_step rfl; (exact stp_assign rfl rfl); apply run_step rfl; (exact stp_assign rfl rfl); refine run_nil ?_; refine fin_seq ?_; refine goes_ret ?_; refine fin_ret_then ?_)
      exact fin_ret2 (.inl rfl) rfl (.tmp rfl) (.tmp rfl) trivial trivial
    · exfalso; simp at e; exact hc e

set_option maxRecDepth 100000 in
set_option maxHeartbeats 2000000 in
theorem implNr_fc (g : Int) (rels ws : List (List Int)) (h1 : Fit rels) (h2 : Fit ws) :
    FC Try.prog 35 [(1002, rowsRo ws), (1003, rowsRo rels)] [pA g rels.length, o1 (.sl 1002 0 ws.length)] [] (.tup [.one (.val (.bool (nrR (g, rels) ws))), .one (.val (I6 (ctC (g, rels) ws)))]) [] := by
  have hC := implCode_fc g rels ws h1 h2
  refine fc_enter (nt := 48) Try.func35 rfl rfl (by simp) fun w0 ω0 => ?_
  by_cases hok : withOk (g, rels) ws = true
  · obtain ⟨ng, rfl, hG⟩ := good_of hok
    rw [withC_ok hok] at hC
    (refine goes_seq ?_; refine goes_region ?_; apply run_step rfl; (exact stp_box rfl rfl rfl rfl); apply run_step rfl; (exact stp_assign rfl rfl); apply run_step rfl; (exact stp_assign rfl rfl); refine run_nil ?_; refine fin_seq ?_; refine goes_seq ?_; refine goes_seq ?_; refine goes_region ?_; apply run_step rfl; (exact stp_loadAgg rfl rfl rfl rfl rfl rfl (by as_aux_lemma => kernel_rfl)); apply run_step rfl; (exact stp_move rfl rfl); apply run_step rfl; (apply call_gate 52; exact stp_callR hC (by as_aux_lemma => kernel_rfl) rfl rfl ⟨⟨.inl rfl, .inl rfl, trivial⟩, rfl, trivial⟩ ⟨⟨_, rfl, .inl rfl⟩, ⟨_, rfl, .inl rfl⟩, trivial⟩ rfl rfl); apply run_step rfl; (exact stp_assign rfl rfl); refine run_nil ?_; refine fin_seq ?_; refine goes_seq ?_; refine goes_region ?_; apply run_step rfl; (exact stp_move rfl rfl); apply run_step rfl; (exact stp_bin rfl rfl rfl rfl); refine run_nil ?_; refine fin_seq ?_)
    refine goes_cond rfl (fun e => by cases e) (fun _ => ?_)
    by_cases hsm : smallOk ((ng : Int), rels) ws = true
    · have hE := implSmall_yes hG hsm
      have hs := smallOk_run hsm
      have hL : ∀ i x, i < ws.length → x < cosN ((ng : Int), rels) ws → FC Try.prog 56 [(1005, imRo (cosTab ((ng : Int), rels) ws)), (1002, rowsRo ws)] [o1 (.sl 1005 0 ng), o1 (.esl 1002 i 0 (lget ws i).length), vv (I6 x)] [] (vv (I6 (leadL (cosTab ((ng : Int), rels) ws) x (lget ws i)))) [] := fun i x hi hx =>
        implLeadE_fc _ ws i x _ ng (cosTab_len _ _ _) (cosTab_leads hG hs.1) hx (by omega) (by have := hG.hi; omega) hi (by rw [cosTab_len]; exact hG.wl _ (lget_mem hi)) (hG.wn _ (lget_mem hi))
      have hc := ctC_ok ⟨hok, hsm⟩
      unfold nrR
      rw [hc, if_pos rfl]
      have hlen : (irows (cosTab ((ng : Int), rels) ws)).length = ng := by rw [irows_len, cosTab_len]
      have hpos := hG.pos
      have hr0 : (lget (cosTab ((ng : Int), rels) ws) 0).length = cosN ((ng : Int), rels) ws := cosTab_row hpos
      have hrow : (irows (cosTab ((ng : Int), rels) ws))[0]? = some (ivals (lget (cosTab ((ng : Int), rels) ws) 0)) := irows_get (by rw [← irows_len, hlen]; exact hpos)
      have hN := hs.2
      have hwl := hG.w
      have hSz : FC Try.prog 48 [] [o1 (.esl 1005 0 0 (lget (cosTab ((ng : Int), rels) ws) 0).length)] [] (vv (I6 (cosN ((ng : Int), rels) ws))) [] := by
        have := sizeE_fc 1005 0 (lget (cosTab ((ng : Int), rels) ws) 0).length
        rwa [hr0] at this ⊢
      generalize cosN ((ng : Int), rels) ws = N at *
      generalize cosTab ((ng : Int), rels) ws = T at *
      (refine goes_skip ?_; refine fin_seq ?_; refine goes_seq ?_; refine goes_region ?_; apply run_step rfl; (exact stp_loadAgg rfl rfl rfl rfl rfl rfl (by as_aux_lemma => kernel_rfl)); apply run_step rfl; (exact stp_move rfl rfl); apply run_step rfl; (apply call_gate 60; exact stp_callN hE (by as_aux_lemma => kernel_rfl) rfl rfl ⟨⟨.inl rfl, .inl rfl, trivial⟩, rfl, trivial⟩ ⟨⟨_, rfl, .inl rfl⟩, ⟨_, rfl, .inl rfl⟩, trivial⟩ rfl rfl rfl); apply run_step rfl; (exact stp_move rfl rfl); apply run_step rfl; (exact stp_extract rfl rfl rfl); apply run_step rfl; (exact stp_extract rfl rfl rfl); apply run_step rfl; (exact stp_assign rfl rfl); apply run_step rfl; (exact stp_assign rfl rfl); refine run_nil ?_; refine fin_seq ?_; refine goes_seq ?_; refine goes_seq ?_; refine goes_region ?_; apply run_step rfl; (exact stp_move rfl rfl); apply run_step rfl; (exact stp_bin rfl rfl rfl rfl); refine run_nil ?_; refine fin_seq ?_)
      refine goes_cond rfl (fun e => by cases e) (fun _ => ?_)
      (refine goes_skip ?_; refine fin_seq ?_; refine goes_seq ?_; refine goes_seq ?_; refine goes_region ?_; apply run_step rfl; (exact stp_move rfl rfl); apply run_step rfl; (exact stp_len rfl rfl rfl (by as_aux_lemma => kernel_rfl)); apply run_step rfl; (exact stp_move rfl rfl); refine run_nil ?_; refine fin_seq ?_; refine goes_block ?_)
      refine goes_loop (fun i : Nat => St.of [(7, o1 (.sl 1005 0 ng)), (27, o1 (.sl 1002 0 ws.length)), (28, vv (I6 ws.length)), (29, vv (I6 i))] [(1005, imOw T), (1002, rowsRo ws)]) (fun i => i ≤ ws.length ∧ ∀ j, j < i → ∀ c, c < N → leadL T ((c : Nat) : Int) (lget ws j) = (c : Int)) (fun i => ws.length - i) 0 ⟨Nat.zero_le _, fun j hj => by omega⟩ (Wk.of ⟨rfl, rfl, rfl, rfl, trivial⟩ ⟨rfl, rfl, trivial⟩ trivial) ?_
      rintro i ⟨hi, hfix⟩
      (refine goes_seq ?_; refine goes_region ?_; apply run_step rfl; (exact stp_bin rfl rfl rfl rfl); refine run_nil ?_; refine fin_seq ?_; refine goes_seq ?_)
      refine goes_if rfl (fun hlt => ?_) (fun hlt => ?_)
      · have hlt' : i < ws.length := by omega
        have hroww : (irows ws)[i]? = some (ivals (lget ws i)) := irows_get hlt'
        (refine goes_skip ?_; refine fin_seq ?_; refine goes_seq ?_; refine goes_block ?_; refine goes_seq ?_; refine goes_region ?_; apply run_step rfl; (exact stp_ix rfl rfl rfl rfl rfl (by as_aux_lemma => kernel_rfl) (by first | rfl | exact (Int.toNat_of_nonneg (by omega)).symm) (by first | assumption | omega | (simp; omega)) (by first | exact Nat.le_refl _ | exact Nat.le_of_eq (ivals_len _).symm | exact Nat.le_of_eq (irows_len _).symm | (refine Nat.le_trans ?_ (Nat.le_of_eq (ivals_len _).symm); (first | omega | (simp; done) | (simp; omega))) | (refine Nat.le_trans ?_ (Nat.le_of_eq (irows_len _).symm); (first | omega | (simp; done) | (simp; omega))))); apply run_step rfl; (exact stp_loadR rfl (by as_aux_lemma => kernel_rfl) rfl rfl rfl (by first | assumption | exact ivals_get (by assumption) | exact irows_get (by assumption) | exact ivals_get (by omega) | exact irows_get (by omega) | rfl) (by first | exact ivals_len _ | assumption | rfl)); apply run_step rfl; (exact stp_assign rfl rfl); refine run_nil ?_; refine fin_seq ?_; refine goes_seq ?_; refine goes_region ?_; apply run_step rfl; (exact stp_move rfl rfl); apply run_step rfl; (first | exact stp_ix (j := 0) rfl rfl rfl rfl rfl (by as_aux_lemma => kernel_rfl) rfl hpos (Nat.le_of_eq hlen.symm) | (apply call_gate 48; exact stp_callR hSz (by as_aux_lemma => kernel_rfl) rfl rfl ⟨rfl, trivial⟩ trivial rfl rfl)); apply run_step rfl; (exact stp_loadR rfl (by as_aux_lemma => kernel_rfl) rfl rfl rfl (by first | assumption | exact ivals_get (by assumption) | exact irows_get (by assumption) | exact ivals_get (by omega) | exact irows_get (by omega) | rfl) (by first | exact ivals_len _ | assumption | rfl)); apply run_step rfl; (first | exact stp_ix (j := 0) rfl rfl rfl rfl rfl (by as_aux_lemma => kernel_rfl) rfl hpos (Nat.le_of_eq hlen.symm) | (apply call_gate 48; exact stp_callR hSz (by as_aux_lemma => kernel_rfl) rfl rfl ⟨rfl, trivial⟩ trivial rfl rfl)); apply run_step rfl; (exact stp_move rfl rfl); refine run_nil ?_; refine fin_seq ?_; refine goes_block ?_)
        refine goes_loop (fun c : Nat => St.of [(7, o1 (.sl 1005 0 ng)), (27, o1 (.sl 1002 0 ws.length)), (28, vv (I6 ws.length)), (29, vv (I6 i)), (10, o1 (.esl 1002 i 0 (lget ws i).length)), (36, vv (I6 N)), (37, vv (I6 c))] [(1005, imOw T), (1002, rowsRo ws)]) (fun c => c ≤ N ∧ ∀ x, x < c → leadL T ((x : Nat) : Int) (lget ws i) = (x : Int)) (fun c => N - c) 0 ⟨Nat.zero_le _, fun x hx => by omega⟩ (Wk.of ⟨rfl, rfl, rfl, rfl, rfl, rfl, rfl, trivial⟩ ⟨rfl, rfl, trivial⟩ trivial) ?_
        rintro c ⟨hcN, hfx⟩
        (refine goes_seq ?_; refine goes_region ?_; apply run_step rfl; (exact stp_bin rfl rfl rfl rfl); refine run_nil ?_; refine fin_seq ?_; refine goes_seq ?_)
        refine goes_if rfl (fun hcl => ?_) (fun hcl => ?_)
        · have hcl' : c < N := by omega
          have hLc := hL i c hlt' hcl'
          (refine goes_skip ?_; refine fin_seq ?_; refine goes_seq ?_; refine goes_block ?_; refine goes_seq ?_; refine goes_region ?_; apply run_step rfl; (exact stp_move rfl rfl); apply run_step rfl; (exact stp_assign rfl rfl); refine run_nil ?_; refine fin_seq ?_; refine goes_seq ?_; refine goes_region ?_; apply run_step rfl; (exact stp_move rfl rfl); apply run_step rfl; (exact stp_move rfl rfl); apply run_step rfl; (exact stp_move rfl rfl); apply run_step rfl; (apply call_gate 56; exact stp_callR hLc (by as_aux_lemma => kernel_rfl) rfl rfl ⟨rfl, rfl, rfl, trivial⟩ ⟨⟨_, rfl, .inr rfl⟩, ⟨_, rfl, .inl rfl⟩, trivial⟩ rfl rfl); apply run_step rfl; (exact stp_move rfl rfl); apply run_step rfl; (exact stp_bin rfl rfl rfl rfl); refine run_nil ?_; refine fin_seq ?_)
          refine goes_cond rfl (fun hne => ?_) (fun hne => ?_)
          · have hne' : leadL T (c : Int) (lget ws i) ≠ (c : Int) := by simpa using hne
            have hno : fixAllB T ws N = false := by rw [← Bool.not_eq_true]; exact fun h => hne' (fixAllB_iff.1 h i hlt' c hcl')
            rw [hno]
            (refine goes_seq ?_; refine goes_region ?_; apply run_step rfl; (exact stp_assign rfl rfl); apply run_step rfl; (exact stp_assign rfl rfl); refine run_nil ?_; refine fin_seq ?_; refine goes_ret ?_; refine fin_ret_block ?_; refine fin_ret_then ?_; refine fin_ret_then ?_; refine fin_ret_block ?_; refine fin_ret_block ?_; refine fin_ret_then ?_; refine fin_ret_then ?_; refine fin_ret_block ?_; refine fin_ret_then ?_)
            exact fin_ret2 (.inl rfl) rfl (.tmp rfl) (.tmp rfl) trivial trivial
          · have heq : leadL T (c : Int) (lget ws i) = (c : Int) := by simpa using hne
            (refine goes_skip ?_; refine fin_block ?_; refine fin_seq ?_; refine goes_region ?_; apply run_step rfl; (exact stp_add rfl rfl rfl (by first | exact IntWalk.i64_in _ (by omega) | rfl)); apply run_step rfl; (exact stp_move rfl rfl); refine run_nil ?_)
            exact fin_round (c + 1) ⟨hcl', fun x hx => by
              by_cases e : x = c
              · subst e; exact heq
              · exact hfx x (by omega)⟩ (by omega) (Wk.of ⟨rfl, rfl, rfl, rfl, rfl, rfl, rfl, trivial⟩ ⟨rfl, rfl, trivial⟩ trivial)
        · obtain rfl : c = N := by omega
          (refine goes_exit ?_; refine fin_exit_then ?_; refine fin_exit_then ?_; refine fin_exit_eq ?_; refine fin_block ?_; refine fin_seq ?_; refine goes_region ?_; apply run_step rfl; (exact stp_add rfl rfl rfl (by first | exact IntWalk.i64_in _ (by omega) | rfl)); apply run_step rfl; (exact stp_move rfl rfl); refine run_nil ?_)
          exact fin_round (i + 1) ⟨hlt', fun j hj => by
            by_cases e : j = i
            · subst e; exact hfx
            · exact hfix j (by omega)⟩ (by omega) (Wk.of ⟨rfl, rfl, rfl, rfl, trivial⟩ ⟨rfl, rfl, trivial⟩ trivial)
      · obtain rfl : i = ws.length := by omega
        have hyes : fixAllB T ws N = true := fixAllB_iff.2 hfix
        rw [hyes]
        (refine goes_exit ?_; refine fin_exit_then ?_; refine fin_exit_then ?_; refine fin_exit_eq ?_; refine fin_seq ?_; refine goes_seq ?_; refine goes_region ?_; apply run_step rfl; (exact stp_assign rfl rfl); apply run_step rfl; (exact stp_assign rfl rfl); refine run_nil ?_; refine fin_seq ?_; refine goes_ret ?_)
        exact fin_ret2 (.inl rfl) rfl (.tmp rfl) (.tmp rfl) trivial trivial
    · have hE := implSmall_no hG hsm
      have hc : ctC ((ng : Int), rels) ws = 3 := by unfold ctC; rw [if_pos hok, if_neg hsm]
      unfold nrR
      rw [hc, if_neg (by decide)]
      (refine goes_skip ?_; refine fin_seq ?_; refine goes_seq ?_; refine goes_region ?_; apply run_step rfl; (exact stp_loadAgg rfl rfl rfl rfl rfl rfl (by as_aux_lemma => kernel_rfl)); apply run_step rfl; (exact stp_move rfl rfl); apply run_step rfl; (apply call_gate 60; exact stp_callR hE (by as_aux_lemma => kernel_rfl) rfl rfl ⟨⟨.inl rfl, .inl rfl, trivial⟩, rfl, trivial⟩ ⟨⟨_, rfl, .inl rfl⟩, ⟨_, rfl, .inl rfl⟩, trivial⟩ rfl rfl); apply run_step rfl; (exact stp_move rfl rfl); apply run_step rfl; (exact stp_extract rfl rfl rfl); apply run_step rfl; (exact stp_extract rfl rfl rfl); apply run_step rfl; (exact stp_assign rfl rfl); apply run_step rfl; (exact stp_assign rfl rfl); refine run_nil ?_; refine fin_seq ?_; refine goes_seq ?_; refine goes_seq ?_; refine goes_region ?_; apply run_step rfl; (exact stp_move rfl rfl); apply run_step rfl; (exact stp_bin rfl rfl rfl rfl); refine run_nil ?_; refine fin_seq ?_)
      refine goes_cond rfl (fun _ => ?_) (fun e => by cases e)
      (refine goes_seq ?_; refine goes_region ?_; apply run_step rfl; (exact stp_move rfl rfl); apply run_step rfl; (exact stp_assign rfl rfl); apply run_step rfl; (exact stp_assign rfl rfl); refine run_nil ?_; refine fin_seq ?_; refine goes_ret ?_; refine fin_ret_then ?_)
      exact fin_ret2 (.inl rfl) rfl (.tmp rfl) (.tmp rfl) trivial trivial
  · rw [withC_no hok] at hC
    have hc : ctC (g, rels) ws = 1 := by unfold ctC; rw [if_neg hok]
    unfold nrR
    rw [hc, if_neg (by decide)]
    (refine goes_seq ?_; refine goes_region ?_; apply run_step rfl; (exact stp_box rfl rfl rfl rfl); apply run_step rfl; (exact stp_assign rfl rfl); apply run_step rfl; (exact stp_assign rfl rfl); refine run_nil ?_; refine fin_seq ?_; refine goes_seq ?_; refine goes_seq ?_; refine goes_region ?_; apply run_step rfl; (exact stp_loadAgg rfl rfl rfl rfl rfl rfl (by as_aux_lemma => kernel_rfl)); apply run_step rfl; (exact stp_move rfl rfl); apply run_step rfl; (apply call_gate 52; exact stp_callR hC (by as_aux_lemma => kernel_rfl) rfl rfl ⟨⟨.inl rfl, .inl rfl, trivial⟩, rfl, trivial⟩ ⟨⟨_, rfl, .inl rfl⟩, ⟨_, rfl, .inl rfl⟩, trivial⟩ rfl rfl); apply run_step rfl; (exact stp_assign rfl rfl); refine run_nil ?_; refine fin_seq ?_; refine goes_seq ?_; refine goes_region ?_; apply run_step rfl; (exact stp_move rfl rfl); apply run_step rfl; (exact stp_bin rfl rfl rfl rfl); refine run_nil ?_; refine fin_seq ?_)
    refine goes_cond rfl (fun _ => ?_) (fun e => by cases e)
    (refine goes_seq ?_; refine goes_region ?_; apply run_step rfl; (exact stp_move rfl rfl); apply run_step rfl; (exact stp_assign rfl rfl); apply run_step rfl; (exact stp_assign rfl rfl); refine run_nil ?_; refine fin_seq ?_; refine goes_ret ?_; refine fin_ret_then ?_)
    exact fin_ret2 (.inl rfl) rfl (.tmp rfl) (.tmp rfl) trivial trivial
theorem api_specNr {E1 E E1' E' : Nat} {lo hi lo' hi' : Nat} {v v' : Value} {d : PresD} {ws : List (List Int)} (w : World) (h : OwP E1 E w lo hi v d) (h' : OwSS E1' E' w lo' hi' v' ws) :
    Calls Try.prog 34 #[v, v'] w fun e w' => e = .returned (.tuple #[.bool (nrR d ws), .int .i64 (ctC d ws)]) ∧ Below w.heap.size w w' := two_vals (callPW (fun k1 k2 => specNr_fc d.1 d.2 ws k1 k2) h h')
theorem api_implNr {E1 E E1' E' : Nat} {lo hi lo' hi' : Nat} {v v' : Value} {d : PresD} {ws : List (List Int)} (w : World) (h : OwP E1 E w lo hi v d) (h' : OwSS E1' E' w lo' hi' v' ws) :
    Calls Try.prog 35 #[v, v'] w fun e w' => e = .returned (.tuple #[.bool (nrR d ws), .int .i64 (ctC d ws)]) ∧ Below w.heap.size w w' := two_vals (callPW (fun k1 k2 => implNr_fc d.1 d.2 ws k1 k2) h h')
end Go.Proofs.Ytpjglifijdcgnaa

/- Shortest words to all cosets, on lists. No program in sight. -/
namespace Go.Proofs.Ytpjglifijdcgnaa

def bat (bs : List Bool) (k : Nat) : Bool := bs.getD k false
theorem bat_set {bs : List Bool} {i j : Nat} {b : Bool} : bat (bs.set i b) j = if i = j ∧ i < bs.length then b else bat bs j := by
  simp only [bat, List.getD_eq_getElem?_getD, List.getElem?_set]
  by_cases h : i = j
  · subst h
    by_cases h2 : i < bs.length
    · simp [h2]
    · simp [h2]
  · simp [h]
def bcnt (bs : List Bool) : Nat := (bs.filter fun b => b).length
theorem bcnt_le (bs : List Bool) : bcnt bs ≤ bs.length := List.length_filter_le _ _
theorem bcnt_set : ∀ (l : List Bool) (d : Nat), d < l.length → bat l d = false → bcnt (l.set d true) = bcnt l + 1
  | [], d, h, _ => by simp at h
  | x :: r, 0, _, h => by
    have h : x = false := by simpa [bat] using h
    simp [bcnt, h]
  | x :: r, d + 1, hd, h => by
    have ih := bcnt_set r d (by simpa using hd) (by simpa [bat] using h)
    unfold bcnt at ih ⊢
    simp only [List.set_cons_succ, List.filter_cons]
    split
    · simp only [List.length_cons]; omega
    · exact ih
/-- the words, which cosets are met, the queue -/
abbrev BSt := List (List Int) × List Bool × List Int
def bTo (T : List (List Int)) (c g : Nat) : Nat := (iget (lget T g) c).toNat
def bVisit (s : BSt) (c g d : Nat) : BSt := if bat s.2.1 d = true then s else (s.1.set d (lget s.1 c ++ [(g : Int)]), s.2.1.set d true, s.2.2 ++ [(d : Int)])
def bStep (T : List (List Int)) (c : Nat) (s : BSt) (g : Nat) : BSt := bVisit s c g (bTo T c g)
def bRow (T : List (List Int)) (ng c : Nat) (s : BSt) : BSt := (List.range ng).foldl (bStep T c) s
def bLoop (T : List (List Int)) (ng : Nat) : Nat → Nat → BSt → BSt
  | 0, _, s => s
  | f + 1, i, s => if i < s.2.2.length then bLoop T ng f (i + 1) (bRow T ng (iget s.2.2 i).toNat s) else s
def bStart (n : Nat) : BSt := (List.replicate n [], (List.replicate n false).set 0 true, [0])
def bfs (T : List (List Int)) (ng n : Nat) : BSt := bLoop T ng (n + 1) 0 (bStart n)

structure BOK (n : Nat) (s : BSt) : Prop where
  l1 : s.1.length = n
  l2 : s.2.1.length = n
  q : ∀ k, k < s.2.2.length → ∃ d : Nat, iget s.2.2 k = (d : Int) ∧ d < n ∧ bat s.2.1 d = true
  cnt : bcnt s.2.1 = s.2.2.length
  cov : ∀ d, d < n → bat s.2.1 d = true → ∃ k, k < s.2.2.length ∧ iget s.2.2 k = (d : Int)
  emp : ∀ d, d < n → bat s.2.1 d = false → lget s.1 d = []
  len : ∀ d, (lget s.1 d).length < s.2.2.length
theorem BOK.le {n : Nat} {s : BSt} (h : BOK n s) : s.2.2.length ≤ n := by
  have := bcnt_le s.2.1; rw [h.cnt, h.l2] at this; exact this
structure BGrow (n : Nat) (s s' : BSt) : Prop where
  len : s.2.2.length ≤ s'.2.2.length
  pre : ∀ k, k < s.2.2.length → iget s'.2.2 k = iget s.2.2 k
  met : ∀ d, d < n → bat s.2.1 d = true → bat s'.2.1 d = true ∧ lget s'.1 d = lget s.1 d
theorem BGrow.refl (n : Nat) (s : BSt) : BGrow n s s := ⟨Nat.le_refl _, fun _ _ => rfl, fun _ _ h => ⟨h, rfl⟩⟩
theorem BGrow.trans {n : Nat} {a b c : BSt} (h : BGrow n a b) (k : BGrow n b c) : BGrow n a c :=
  ⟨Nat.le_trans h.len k.len, fun i hi => (k.pre i (Nat.lt_of_lt_of_le hi h.len)).trans (h.pre i hi), fun d hd hm =>
    have h1 := h.met d hd hm
    have h2 := k.met d hd h1.1
    ⟨h2.1, h2.2.trans h1.2⟩⟩
theorem bVisit_ok {n c g d : Nat} {s : BSt} (h : BOK n s) (hd : d < n) : BOK n (bVisit s c g d) := by
  unfold bVisit
  split
  · exact h
  · rename_i hm
    have hm : bat s.2.1 d = false := by simpa using hm
    refine ⟨by rw [List.length_set]; exact h.l1, by rw [List.length_set]; exact h.l2, fun k hk => ?_, ?_, fun e he hb => ?_, fun e he hb => ?_, fun e => ?_⟩
    · dsimp only at hk ⊢
      by_cases e : k < s.2.2.length
      · obtain ⟨d', h1, h2, h3⟩ := h.q k e
        refine ⟨d', by rw [iget_app_lt e]; exact h1, h2, ?_⟩
        rw [bat_set]; split
        · rfl
        · exact h3
      · obtain rfl : k = s.2.2.length := by simp at hk; omega
        exact ⟨d, iget_app_eq, hd, by rw [bat_set, if_pos ⟨rfl, by rw [h.l2]; exact hd⟩]⟩
    · dsimp only; rw [bcnt_set _ _ (by rw [h.l2]; exact hd) hm, h.cnt]; simp
    · dsimp only at hb ⊢
      by_cases e2 : d = e
      · subst e2; exact ⟨s.2.2.length, by simp, iget_app_eq⟩
      · rw [bat_set, if_neg (fun h => e2 h.1)] at hb
        obtain ⟨k, h1, h2⟩ := h.cov e he hb
        exact ⟨k, by rw [List.length_append]; omega, by rw [iget_app_lt h1]; exact h2⟩
    · dsimp only at hb ⊢
      rw [bat_set] at hb
      split at hb
      · cases hb
      · rename_i hne
        rw [lget_set, if_neg (fun h' => hne ⟨h'.1, by rw [h.l2]; exact hd⟩)]
        exact h.emp e he hb
    · dsimp only
      rw [lget_set, List.length_append]
      have h1 := h.len c
      have h2 := h.len e
      split
      · simp; omega
      · simp; omega
theorem bVisit_grow {n c g d : Nat} {s : BSt} (h : BOK n s) : BGrow n s (bVisit s c g d) := by
  unfold bVisit
  split
  · exact BGrow.refl n s
  · rename_i hm
    refine ⟨by simp, fun k hk => iget_app_lt hk, fun e he hb => ?_⟩
    have hne : d ≠ e := fun e' => by subst e'; exact hm hb
    dsimp only
    rw [bat_set, if_neg (fun h => hne h.1), lget_set, if_neg (fun h => hne h.1)]
    exact ⟨hb, rfl⟩
section
variable {T : List (List Int)} {ng n : Nat}
theorem bTo_lt (hT : Leads T n) {c g : Nat} (hc : c < n) (hg : g < T.length) : bTo T c g < n ∧ iget (lget T g) c = (bTo T c g : Int) := by
  have := hT.within g hg c hc
  unfold bTo; omega
theorem bRow_ok (hT : Leads T n) (hng : T.length = ng) {c : Nat} (hc : c < n) {s : BSt} (h : BOK n s) : ∀ m, m ≤ ng → BOK n ((List.range m).foldl (bStep T c) s) ∧ BGrow n s ((List.range m).foldl (bStep T c) s)
  | 0, _ => ⟨h, BGrow.refl n s⟩
  | m + 1, hm => by
    obtain ⟨h1, h2⟩ := bRow_ok hT hng hc h m (by omega)
    rw [List.range_succ, List.foldl_append]
    exact ⟨bVisit_ok h1 (bTo_lt hT hc (by omega)).1, h2.trans (bVisit_grow h1)⟩
theorem bLoop_ok (hT : Leads T n) (hng : T.length = ng) : ∀ (f i : Nat) (s : BSt), BOK n s → BOK n (bLoop T ng f i s) ∧ BGrow n s (bLoop T ng f i s)
  | 0, _, s, h => ⟨h, BGrow.refl n s⟩
  | f + 1, i, s, h => by
    unfold bLoop
    split
    · rename_i hi
      obtain ⟨d, h1, h2, _⟩ := h.q i hi
      obtain ⟨k1, k2⟩ := bRow_ok hT hng (c := (iget s.2.2 i).toNat) (by omega) h ng (Nat.le_refl _)
      obtain ⟨m1, m2⟩ := bLoop_ok hT hng f (i + 1) _ k1
      exact ⟨m1, k2.trans m2⟩
    · exact ⟨h, BGrow.refl n s⟩
theorem bLoop_step {f i : Nat} {s : BSt} (h : i < s.2.2.length) : bLoop T ng (f + 1) i s = bLoop T ng f (i + 1) (bRow T ng (iget s.2.2 i).toNat s) := by rw [bLoop, if_pos h]
theorem bStart_ok (hn : 0 < n) : BOK n (bStart n) := by
  refine ⟨by simp [bStart], by simp [bStart], fun k hk => ?_, ?_, fun d hd hb => ?_, fun d hd _ => ?_, fun d => ?_⟩
  · obtain rfl : k = 0 := by simp [bStart] at hk; omega
    exact ⟨0, rfl, hn, by show bat ((List.replicate n false).set 0 true) 0 = true; rw [bat_set, if_pos ⟨rfl, by simpa using hn⟩]⟩
  · show bcnt ((List.replicate n false).set 0 true) = 1
    rw [bcnt_set _ _ (by simpa using hn) (by unfold bat; cases n <;> rfl)]
    simp [bcnt]
  · have hb : bat ((List.replicate n false).set 0 true) d = true := hb
    rw [bat_set] at hb
    split at hb
    · rename_i e; exact ⟨0, by simp [bStart], by rw [← e.1]; rfl⟩
    · simp [bat, hd] at hb
  · show lget (List.replicate n []) d = []
    simp [lget, hd]
  · show (lget (List.replicate n ([] : List Int)) d).length < 1
    by_cases h : d < n
    · simp [lget, h]
    · simp [lget, h]
end
/-- whether a word is too long -/
def tooLong (W : List (List Int)) : Bool := W.any fun w => decide (64 < w.length)
theorem tooLong_at {n : Nat} {s : BSt} (h : BOK n s) (hl : tooLong s.1 = true) : ∃ i, i < s.2.2.length ∧ 64 < (lget s.1 (iget s.2.2 i).toNat).length := by
  unfold tooLong at hl
  rw [List.any_eq_true] at hl
  obtain ⟨w, hw, hlen⟩ := hl
  have hlen : 64 < w.length := of_decide_eq_true hlen
  obtain ⟨d, hd, rfl⟩ := List.getElem_of_mem hw
  have hdn : d < n := by rw [← h.l1]; exact hd
  have hw2 : lget s.1 d = s.1[d] := lget_lt hd
  cases hb : bat s.2.1 d with
  | false =>
    have := h.emp d hdn hb
    rw [hw2] at this; rw [this] at hlen; simp at hlen
  | true =>
    obtain ⟨k, k1, k2⟩ := h.cov d hdn hb
    exact ⟨k, k1, by rw [k2, Int.toNat_natCast, hw2]; exact hlen⟩
theorem tooLong_of {W : List (List Int)} {d : Nat} (h : 64 < (lget W d).length) : tooLong W = true := by
  unfold tooLong
  rw [List.any_eq_true]
  have hd : d < W.length := by
    rcases Nat.lt_or_ge d W.length with h1 | h1
    · exact h1
    · simp [lget, h1] at h
  exact ⟨lget W d, lget_mem hd, by simpa using h⟩
def bvals (bs : List Bool) : List Value := bs.map Value.bool
theorem bvals_len (bs : List Bool) : (bvals bs).length = bs.length := by simp [bvals]
theorem bvals_get {bs : List Bool} {k : Nat} (h : k < bs.length) : (bvals bs)[k]? = some (.bool (bat bs k)) := by simp [bvals, bat, h]
theorem bvals_set (bs : List Bool) (k : Nat) (b : Bool) : (bvals bs).set k (.bool b) = bvals (bs.set k b) := by simp [bvals, List.map_set]
theorem bvals_rep (n : Nat) : bvals (List.replicate n false) = List.replicate n (.bool false) := by simp [bvals]
end Go.Proofs.Ytpjglifijdcgnaa

/- Cosets that some generators lead to, and the first fault of intersections, on lists. No program in sight. -/
namespace Go.Proofs.Ytpjglifijdcgnaa

/-- whether a mask holds a generator -/
def mBit (mask g : Nat) : Bool := mask / 2 ^ g % 2 == 1
theorem mBit_and (a b g : Nat) : mBit (a &&& b) g = (mBit a g && mBit b g) := by
  have h : ∀ m : Nat, mBit m g = m.testBit g := fun m => by
    unfold mBit; rw [Nat.testBit_eq_decide_div_mod_eq]; rfl
  rw [h, h, h, Nat.testBit_and]
/-- which are met, the queue -/
abbrev MSt := List Bool × List Int
def mStep (T : List (List Int)) (mask c : Nat) (s : MSt) (g : Nat) : MSt := if mBit mask g = true ∧ bat s.1 (bTo T c g) = false then (s.1.set (bTo T c g) true, s.2 ++ [(bTo T c g : Int)]) else s
def mRow (T : List (List Int)) (mask ng c : Nat) (s : MSt) : MSt := (List.range ng).foldl (mStep T mask c) s
def mLoop (T : List (List Int)) (mask ng : Nat) : Nat → Nat → MSt → MSt
  | 0, _, s => s
  | f + 1, i, s => if i < s.2.length then mLoop T mask ng f (i + 1) (mRow T mask ng (iget s.2 i).toNat s) else s
def mStart (n : Nat) : MSt := ((List.replicate n false).set 0 true, [0])
def mem (T : List (List Int)) (ng n mask : Nat) : MSt := mLoop T mask ng (n + 1) 0 (mStart n)
structure MOK (n : Nat) (s : MSt) : Prop where
  l : s.1.length = n
  q : ∀ k, k < s.2.length → ∃ d : Nat, iget s.2 k = (d : Int) ∧ d < n ∧ bat s.1 d = true
  cnt : bcnt s.1 = s.2.length
  cov : ∀ d, d < n → bat s.1 d = true → ∃ k, k < s.2.length ∧ iget s.2 k = (d : Int)
theorem MOK.le {n : Nat} {s : MSt} (h : MOK n s) : s.2.length ≤ n := by
  have := bcnt_le s.1; rw [h.cnt, h.l] at this; exact this
structure MGrow (s s' : MSt) : Prop where
  len : s.2.length ≤ s'.2.length
  pre : ∀ k, k < s.2.length → iget s'.2 k = iget s.2 k
  met : ∀ d, bat s.1 d = true → bat s'.1 d = true
theorem MGrow.refl (s : MSt) : MGrow s s := ⟨Nat.le_refl _, fun _ _ => rfl, fun _ h => h⟩
theorem MGrow.trans {a b c : MSt} (h : MGrow a b) (k : MGrow b c) : MGrow a c :=
  ⟨Nat.le_trans h.len k.len, fun i hi => (k.pre i (Nat.lt_of_lt_of_le hi h.len)).trans (h.pre i hi), fun d hd => k.met d (h.met d hd)⟩
section
variable {T : List (List Int)} {ng n mask : Nat}
theorem mStep_grow (s : MSt) (c g : Nat) : MGrow s (mStep T mask c s g) := by
  unfold mStep
  split
  · refine ⟨by simp, fun k hk => iget_app_lt hk, fun d hd => ?_⟩
    dsimp only
    rw [bat_set]
    split
    · rfl
    · exact hd
  · exact MGrow.refl s
theorem mStep_ok {s : MSt} {c g : Nat} (h : MOK n s) (hd : bTo T c g < n) : MOK n (mStep T mask c s g) := by
  unfold mStep
  generalize bTo T c g = d at *
  split
  · rename_i hm
    have hm := hm.2
    refine ⟨by rw [List.length_set]; exact h.l, fun k hk => ?_, ?_, fun e he hb => ?_⟩
    · dsimp only at hk ⊢
      by_cases e : k < s.2.length
      · obtain ⟨d', h1, h2, h3⟩ := h.q k e
        refine ⟨d', by rw [iget_app_lt e]; exact h1, h2, ?_⟩
        rw [bat_set]; split
        · rfl
        · exact h3
      · obtain rfl : k = s.2.length := by simp at hk; omega
        exact ⟨d, iget_app_eq, hd, by rw [bat_set, if_pos ⟨rfl, by rw [h.l]; exact hd⟩]⟩
    · dsimp only; rw [bcnt_set _ _ (by rw [h.l]; exact hd) hm, h.cnt]; simp
    · dsimp only at hb ⊢
      by_cases e2 : d = e
      · subst e2; exact ⟨s.2.length, by simp, iget_app_eq⟩
      · rw [bat_set, if_neg (fun h => e2 h.1)] at hb
        obtain ⟨k, h1, h2⟩ := h.cov e he hb
        exact ⟨k, by rw [List.length_append]; omega, by rw [iget_app_lt h1]; exact h2⟩
  · exact h
theorem mStep_met {s : MSt} {c g : Nat} (h : MOK n s) (hd : bTo T c g < n) (hb : mBit mask g = true) : bat (mStep T mask c s g).1 (bTo T c g) = true := by
  unfold mStep
  cases hm : bat s.1 (bTo T c g) with
  | false => rw [if_pos ⟨hb, rfl⟩]; dsimp only; rw [bat_set, if_pos ⟨rfl, by rw [h.l]; exact hd⟩]
  | true => rw [if_neg (fun h => by cases h.2)]; exact hm
theorem mRow_ok (hT : Leads T n) (hng : T.length = ng) {c : Nat} (hc : c < n) {s : MSt} (h : MOK n s) : ∀ m, m ≤ ng → MOK n ((List.range m).foldl (mStep T mask c) s) ∧ MGrow s ((List.range m).foldl (mStep T mask c) s) ∧ ∀ g, g < m → mBit mask g = true → bat ((List.range m).foldl (mStep T mask c) s).1 (bTo T c g) = true
  | 0, _ => ⟨h, MGrow.refl s, fun g hg => by omega⟩
  | m + 1, hm => by
    obtain ⟨h1, h2, h3⟩ := mRow_ok hT hng hc h m (by omega)
    rw [List.range_succ, List.foldl_append]
    generalize (List.range m).foldl (mStep T mask c) s = t at *
    have hd := (bTo_lt hT hc (g := m) (by omega)).1
    refine ⟨mStep_ok h1 hd, h2.trans (mStep_grow t c m), fun g hg hb => ?_⟩
    show bat (mStep T mask c t m).1 (bTo T c g) = true
    by_cases e : g = m
    · subst e; exact mStep_met h1 hd hb
    · exact (mStep_grow t c m).met _ (h3 g (by omega) hb)
def MSeen (T : List (List Int)) (mask ng i : Nat) (s : MSt) : Prop := ∀ k, k < i → ∀ g, g < ng → mBit mask g = true → bat s.1 (bTo T (iget s.2 k).toNat g) = true
theorem mLoop_step {f i : Nat} {s : MSt} (h : i < s.2.length) : mLoop T mask ng (f + 1) i s = mLoop T mask ng f (i + 1) (mRow T mask ng (iget s.2 i).toNat s) := by rw [mLoop, if_pos h]
theorem mLoop_ok (hT : Leads T n) (hng : T.length = ng) : ∀ (f i : Nat) (s : MSt), MOK n s → MOK n (mLoop T mask ng f i s) ∧ MGrow s (mLoop T mask ng f i s)
  | 0, _, s, h => ⟨h, MGrow.refl s⟩
  | f + 1, i, s, h => by
    unfold mLoop
    split
    · rename_i hi
      obtain ⟨d, h1, h2, _⟩ := h.q i hi
      obtain ⟨k1, k2, _⟩ := mRow_ok (mask := mask) hT hng (c := (iget s.2 i).toNat) (by omega) h ng (Nat.le_refl _)
      obtain ⟨m1, m2⟩ := mLoop_ok hT hng f (i + 1) _ k1
      exact ⟨m1, k2.trans m2⟩
    · exact ⟨h, MGrow.refl s⟩
theorem mLoop_seen (hT : Leads T n) (hng : T.length = ng) : ∀ (f i : Nat) (s : MSt), MOK n s → MSeen T mask ng i s → i ≤ s.2.length → n + 1 ≤ f + i → MSeen T mask ng (mLoop T mask ng f i s).2.length (mLoop T mask ng f i s)
  | 0, i, s, h, hs, hi, hf => by have := h.le; omega
  | f + 1, i, s, h, hs, hi, hf => by
    unfold mLoop
    split
    · rename_i hlt
      obtain ⟨d, h1, h2, _⟩ := h.q i hlt
      obtain ⟨k1, k2, k3⟩ := mRow_ok (mask := mask) hT hng (c := (iget s.2 i).toNat) (by omega) h ng (Nat.le_refl _)
      refine mLoop_seen hT hng f (i + 1) _ k1 (fun k hk g hg hb => ?_) (Nat.le_trans hlt k2.len) (by omega)
      have e : iget (mRow T mask ng (iget s.2 i).toNat s).2 k = iget s.2 k := k2.pre k (by omega)
      rw [e]
      by_cases e2 : k = i
      · subst e2; exact k3 g hg hb
      · exact k2.met _ (hs k (by omega) g hg hb)
    · obtain rfl : i = s.2.length := by omega
      exact hs
theorem mStart_ok (hn : 0 < n) : MOK n (mStart n) := by
  refine ⟨by simp [mStart], fun k hk => ?_, ?_, fun d hd hb => ?_⟩
  · obtain rfl : k = 0 := by simp [mStart] at hk; omega
    exact ⟨0, rfl, hn, by show bat ((List.replicate n false).set 0 true) 0 = true; rw [bat_set, if_pos ⟨rfl, by simpa using hn⟩]⟩
  · show bcnt ((List.replicate n false).set 0 true) = 1
    rw [bcnt_set _ _ (by simpa using hn) (by unfold bat; cases n <;> rfl)]
    simp [bcnt]
  · have hb : bat ((List.replicate n false).set 0 true) d = true := hb
    rw [bat_set] at hb
    split at hb
    · rename_i e; exact ⟨0, by simp [mStart], by rw [← e.1]; rfl⟩
    · simp [bat, hd] at hb
theorem mem_ok (hT : Leads T n) (hng : T.length = ng) (hn : 0 < n) : MOK n (mem T ng n mask) := (mLoop_ok hT hng _ _ _ (mStart_ok hn)).1
/-- what is closed holds all that is met -/
theorem mLoop_in (hT : Leads T n) (hng : T.length = ng) {p : Nat → Prop} (hp : ∀ c, c < n → p c → ∀ g, g < ng → mBit mask g = true → p (bTo T c g)) : ∀ (f i : Nat) (s : MSt), MOK n s → (∀ d, d < n → bat s.1 d = true → p d) → ∀ d, d < n → bat (mLoop T mask ng f i s).1 d = true → p d
  | 0, _, s, _, hs => hs
  | f + 1, i, s, h, hs => by
    unfold mLoop
    split
    · rename_i hlt
      obtain ⟨c, h1, h2, h3⟩ := h.q i hlt
      have hpc := hs c h2 h3
      rw [h1, Int.toNat_natCast]
      obtain ⟨k1, _, _⟩ := mRow_ok (mask := mask) hT hng h2 h ng (Nat.le_refl _)
      refine mLoop_in hT hng hp f (i + 1) _ k1 ?_
      have key : ∀ m, m ≤ ng → ∀ d, d < n → bat ((List.range m).foldl (mStep T mask c) s).1 d = true → p d := by
        intro m
        induction m with
        | zero => intro _; exact hs
        | succ m ih =>
          intro hm d hd hb
          rw [List.range_succ, List.foldl_append] at hb
          have hb : bat (mStep T mask c ((List.range m).foldl (mStep T mask c) s) m).1 d = true := hb
          unfold mStep at hb
          split at hb
          · rename_i hc
            dsimp only at hb
            rw [bat_set] at hb
            split at hb
            · rename_i e; rw [← e.1]; exact hp c h2 hpc m (by omega) hc.1
            · exact ih (by omega) d hd hb
          · exact ih (by omega) d hd hb
      exact key ng (Nat.le_refl _)
    · exact hs
theorem mem_closed (hT : Leads T n) (hng : T.length = ng) (hn : 0 < n) {c g : Nat} (hc : c < n) (hm : bat (mem T ng n mask).1 c = true) (hg : g < ng) (hb : mBit mask g = true) : bat (mem T ng n mask).1 (bTo T c g) = true := by
  have hs := mLoop_seen (mask := mask) hT hng (n + 1) 0 _ (mStart_ok hn) (fun k hk => by omega) (Nat.zero_le _) (by omega)
  obtain ⟨k, k1, k2⟩ := (mem_ok (mask := mask) hT hng hn).cov c hc hm
  have := hs k k1 g hg hb
  have e : iget (mLoop T mask ng (n + 1) 0 (mStart n)).2 k = (c : Int) := k2
  rw [e, Int.toNat_natCast] at this
  exact this
theorem mem_zero (hT : Leads T n) (hng : T.length = ng) (hn : 0 < n) : bat (mem T ng n mask).1 0 = true :=
  (mLoop_ok hT hng _ _ _ (mStart_ok hn)).2.met 0 (by show bat ((List.replicate n false).set 0 true) 0 = true; rw [bat_set, if_pos ⟨rfl, by simpa using hn⟩])
theorem mem_mono (hT : Leads T n) (hng : T.length = ng) (hn : 0 < n) {mask' : Nat} (hmm : ∀ g, g < ng → mBit mask g = true → mBit mask' g = true) {d : Nat} (hd : d < n) (hm : bat (mem T ng n mask).1 d = true) : bat (mem T ng n mask').1 d = true :=
  mLoop_in (p := fun d => bat (mem T ng n mask').1 d = true) hT hng (fun c hc hpc g hg hb => mem_closed hT hng hn hc hpc hg (hmm g hg hb)) (n + 1) 0 (mStart n) (mStart_ok hn) (fun e he hb => by
    have hb : bat ((List.replicate n false).set 0 true) e = true := hb
    rw [bat_set] at hb
    split at hb
    · rename_i h; rw [← h.1]; exact mem_zero hT hng hn
    · simp [bat, he] at hb) d hd hm
end
/-- a fault of two masks at a coset, as the reference and as the program asks -/
def faultAt (T : List (List Int)) (ng n i k c : Nat) : Bool := bat (mem T ng n i).1 c && bat (mem T ng n k).1 c && !bat (mem T ng n (i &&& k)).1 c
def faultAt' (T : List (List Int)) (ng n i k c : Nat) : Bool := bat (mem T ng n (i &&& k)).1 c != (bat (mem T ng n i).1 c && bat (mem T ng n k).1 c)
theorem fault_same {T : List (List Int)} {ng n : Nat} (hT : Leads T n) (hng : T.length = ng) (hn : 0 < n) (i k : Nat) {c : Nat} (hc : c < n) : faultAt' T ng n i k c = faultAt T ng n i k c := by
  have h1 := mem_mono hT hng hn (mask := i &&& k) (mask' := i) (fun g _ hb => by rw [mBit_and] at hb; simp at hb; exact hb.1) hc
  have h2 := mem_mono hT hng hn (mask := i &&& k) (mask' := k) (fun g _ hb => by rw [mBit_and] at hb; simp at hb; exact hb.2) hc
  unfold faultAt faultAt'
  revert h1 h2
  cases bat (mem T ng n (i &&& k)).1 c <;> cases bat (mem T ng n i).1 c <;> cases bat (mem T ng n k).1 c <;> simp
def isFault (T : List (List Int)) (ng n i k : Nat) : Bool := (List.range n).any (faultAt T ng n i k)
theorem isFault_no {T : List (List Int)} {ng n i k : Nat} (h : ∀ c, c < n → faultAt T ng n i k c = false) : isFault T ng n i k = false := by
  unfold isFault
  rw [List.any_eq_false]
  intro c hc
  rw [h c (List.mem_range.1 hc)]; simp
theorem isFault_yes {T : List (List Int)} {ng n i k c : Nat} (hc : c < n) (h : faultAt T ng n i k c = true) : isFault T ng n i k = true := by
  unfold isFault
  rw [List.any_eq_true]
  exact ⟨c, List.mem_range.2 hc, h⟩
def inFault (T : List (List Int)) (ng n i : Nat) : Option Nat := (List.range (2 ^ ng)).find? fun k => decide (i < k) && isFault T ng n i k
def outFault (T : List (List Int)) (ng n : Nat) : Option Nat := (List.range (2 ^ ng)).find? fun i => (inFault T ng n i).isSome
def fltR (T : List (List Int)) (ng n : Nat) : Int × Int × Int := match outFault T ng n with
  | some i => ((i : Int), (((inFault T ng n i).getD 0 : Nat) : Int), 0)
  | none => (0, 0, 4)
theorem inFault_some {T : List (List Int)} {ng n i k : Nat} (hik : i < k) (hk : k < 2 ^ ng) (h : isFault T ng n i k = true) (hno : ∀ k', i < k' → k' < k → isFault T ng n i k' = false) : inFault T ng n i = some k := by
  unfold inFault
  rw [List.find?_range_eq_some]
  refine ⟨by simp [hik, h], List.mem_range.2 hk, fun j hj => ?_⟩
  by_cases e : i < j
  · simp [hno j e hj]
  · simp [e]
theorem inFault_none {T : List (List Int)} {ng n i : Nat} (hno : ∀ k, i < k → k < 2 ^ ng → isFault T ng n i k = false) : inFault T ng n i = none := by
  unfold inFault
  rw [List.find?_eq_none]
  intro k hk
  by_cases e : i < k
  · simp [hno k e (List.mem_range.1 hk)]
  · simp [e]
theorem fltR_some {T : List (List Int)} {ng n i k : Nat} (hik : i < k) (hk : k < 2 ^ ng) (h : isFault T ng n i k = true) (hno : ∀ k', i < k' → k' < k → isFault T ng n i k' = false) (hno2 : ∀ i', i' < i → ∀ k', i' < k' → k' < 2 ^ ng → isFault T ng n i' k' = false) : fltR T ng n = ((i : Int), (k : Int), 0) := by
  have h1 := inFault_some hik hk h hno
  have h2 : outFault T ng n = some i := by
    unfold outFault
    rw [List.find?_range_eq_some]
    exact ⟨by rw [h1]; rfl, List.mem_range.2 (by omega), fun j hj => by rw [inFault_none (hno2 j hj)]; rfl⟩
  unfold fltR
  rw [h2]
  dsimp only
  rw [h1]; rfl
theorem fltR_none {T : List (List Int)} {ng n : Nat} (hno : ∀ i, i < 2 ^ ng → ∀ k, i < k → k < 2 ^ ng → isFault T ng n i k = false) : fltR T ng n = (0, 0, 4) := by
  have h2 : outFault T ng n = none := by
    unfold outFault
    rw [List.find?_eq_none]
    intro i hi
    rw [inFault_none (hno i (List.mem_range.1 hi))]; simp
  unfold fltR
  rw [h2]
end Go.Proofs.Ytpjglifijdcgnaa

/- slices.Clone at []int64. -/
namespace Go.Proofs.Ytpjglifijdcgnaa
open Go.RowKit

set_option maxHeartbeats 400000 in
theorem clone_any (ao : Option Addr) (n c : Nat) (zs : List Int) (w : World) (h : Ints w ao n zs) (hn : n ≤ 1048576) :
    Calls Try.prog 84 #[.slice ao n c] w fun e w' => ∃ ao' c', e = .returned (.slice ao' n c') ∧ Own w' w.heap.size 2 ao' n c' (zs.map (Value.int .i64)) ∧ Below w.heap.size w w' := by
  have he := fun (w : World) => Lib.run_eql_slice_nil (P := Try.prog) w 37 2 ao n c 0 0 Try.underlying37
  cases ao with
  | none =>
    obtain ⟨rfl, rfl⟩ := h.of_none
    go_enter Try.func84, Try.ntmps84
    go_wp2
    go_ret
    exact ⟨_, _, rfl, Own.nil_ _ _ _, Below.refl _ _⟩
  | some ad =>
    have h2 : Ints (w.alloc (.cells #[] 2)) (some ad) n zs := h.below ((Below.refl _ _).alloc (Nat.le_refl _) _)
    have H2 := Lib.hid h2
    clear h2
    go_enter Try.func84, Try.ntmps84
    go_wp2_with (at_builtin; refine wpList_apN etI _ rfl _ _ rfl w.heap.size _ 0 0 [] rfl (Own.empty_ w _ (Nat.le_refl _)) (some ad) n c zs rfl H2.out (by omega) (by simp) ?_; intro ao2 c2 w2 ho2 hg2 hblk)
    go_ret
    refine ⟨_, _, rfl, by simpa using ho2, ((Below.refl _ _).alloc (Nat.le_refl _) _).grown hg2 (by simp) (fun g hg => ?_)⟩
    simp [bk] at hg; omega
end Go.Proofs.Ytpjglifijdcgnaa

/- The reference's l01Own. -/
namespace Go.Proofs.Ytpjglifijdcgnaa
open Go.RowKit

set_option maxRecDepth 100000 in
set_option maxHeartbeats 400000 in
theorem own_any (ao : Option Addr) (n c : Nat) (zs : List Int) (w : World) (h : Ints w ao n zs) (hn : n ≤ 1048576) :
    Calls Try.prog 82 #[.slice ao n c] w fun e w' => ∃ ao' c', e = .returned (.slice ao' n c') ∧ Own w' w.heap.size 2 ao' n c' (zs.map (Value.int .i64)) ∧ Below w.heap.size w w' := by
  have h2 : Ints (w.alloc (.cells #[] 2)) ao n zs := h.below (below_alloc1 _ _)
  have H2 := Lib.hid h2
  clear h2
  go_enter Try.func82, Try.ntmps82
  go_wp2_with (at_builtin; refine wpList_apN etI _ rfl _ _ rfl w.heap.size _ 0 0 [] rfl (Own.empty_ w _ (Nat.le_refl _)) ao n c zs rfl H2.out (by omega) (by simp) ?_; intro ao2 c2 w2 ho2 hg2 hblk)
  go_ret
  refine ⟨_, _, rfl, by simpa using ho2, (below_alloc1 w _).grown hg2 (by simp) (fun g hg => ?_)⟩
  simp [bk] at hg; omega

end Go.Proofs.Ytpjglifijdcgnaa

/- Shortest words to all cosets: l11Shortest. -/
namespace Go.Proofs.Ytpjglifijdcgnaa
open Go.RowKit

section
variable {P : Program} {nt : Nat} {S : St} {t : Nat} {ty : TypeId} {ps : String} {af : Array Edge} {gd : Option (Nat × Bool)} {x y : Operand}
abbrev boOw (bs : List Bool) : Ch := ⟨true, 4, 1, .vals (bvals bs)⟩
theorem stp_makeB {T E n : Nat} {l c : Operand} {kl kc : IntKind} {L C : Int} (ht : Nat.blt t nt = true) (hT : elZ P T E 1 = true) (hz : (P.info? E).bind (·.zero) = some (.bool false)) (hl : S.op l = some (vv (.int kl L))) (hc : S.op c = some (vv (.int kc C)))
    (hL : L = (n : Int)) (hC : C = (n : Int)) (hn : n ≤ 2199023255552) : Stp P nt ⟨some t, .makeSlice T l c, ty, ps, af, gd⟩ S ((S.new t ⟨true, E, 1, .vals (bvals (List.replicate n false))⟩).put t (o1 (.sl t 0 n))) := by
  rw [bvals_rep]
  exact stp_make (ts := #[]) ht hT hz hl hc hL hC hn rfl
theorem stp_stB {T : TypeId} {n : Nm} {i : Nat} {c : Ch} {bs : List Bool} {b : Bool} (hx : S.op x = some (o1 (.ptr n i))) (hy : S.op y = some (vv (.bool b))) (hc : S.ch n = some c) (hown : c.own = true) (hd : c.d = .vals (bvals bs)) (hi : i < bs.length) (hT : sizeB P T 1 = true) :
    Stp P nt ⟨none, .store T x y, ty, ps, af, gd⟩ S (S.set n { c with d := .vals (bvals (bs.set i b)) }) := by
  have := stp_storeV (P := P) (nt := nt) (ty := ty) (ps := ps) (af := af) (gd := gd) hx hy hc hown hd (by rw [bvals_len]; exact hi) hT rfl
  rwa [bvals_set] at this
end
theorem specOwn_fc (x y i n : Nat) (zss : List (List Int)) (hi : i < zss.length) (hn : (lget zss i).length = n) (hl : n ≤ 1000000) :
    FC Try.prog 82 [(x, imRo zss)] [o1 (.esl x i 0 n)] [(y, leOw (lget zss i))] (o1 (.sl y 0 n)) [] := by
  subst hn
  exact fc_of_own fun w η ω us hm ⟨hl', ha⟩ => by
    obtain ⟨u0, g0, d0⟩ := ha 0 _ rfl
    obtain ⟨ao, c, rfl, hr⟩ := rdE (x := x) (zss := zss) hm (lk_self _ _) hi d0 (by omega)
    rw [one_of hl' g0]
    refine (own_any ao _ c _ w hr (by omega)).mono ?_
    rintro e w' ⟨ao', c', rfl, ho, hb⟩
    exact ⟨ao', c', rfl, ho, hb⟩
theorem implClone_fc (x y i n : Nat) (zss : List (List Int)) (hi : i < zss.length) (hn : (lget zss i).length = n) (hl : n ≤ 1000000) :
    FC Try.prog 84 [(x, imRo zss)] [o1 (.esl x i 0 n)] [(y, leOw (lget zss i))] (o1 (.sl y 0 n)) [] := by
  subst hn
  exact fc_of_own fun w η ω us hm ⟨hl', ha⟩ => by
    obtain ⟨u0, g0, d0⟩ := ha 0 _ rfl
    obtain ⟨ao, c, rfl, hr⟩ := rdE (x := x) (zss := zss) hm (lk_self _ _) hi d0 (by omega)
    rw [one_of hl' g0]
    refine (clone_any ao _ c _ w hr (by omega)).mono ?_
    rintro e w' ⟨ao', c', rfl, ho, hb⟩
    exact ⟨ao', c', rfl, ho, hb⟩

set_option maxRecDepth 100000 in
set_option maxHeartbeats 2000000 in
theorem specShort_fc (T : List (List Int)) (ng n : Nat) (hng : T.length = ng) (hpos : 0 < ng) (hT : Leads T n) (hn : 0 < n) (hn4 : n ≤ 400) (hg5 : ng ≤ 5) :
    FC Try.prog 63 [(1005, imRo T)] [o1 (.sl 1005 0 ng)] [(13, imOw (bfs T ng n).1)] (o1 (.sl 13 0 n)) [] := by
  have hlen : (irows T).length = ng := by rw [irows_len, hng]
  have hr0 : (lget T 0).length = n := hT.len 0 (by omega)
  have hrow : (irows T)[0]? = some (ivals (lget T 0)) := irows_get (by omega)
  refine fc_enter (nt := 69) Try.func63 rfl rfl (by simp) fun w0 ω0 => ?_
  have hbl0 : (bvals (List.replicate n false)).length = n := by rw [bvals_len]; simp
  rw [← hr0] at hbl0
  have hrp : (List.replicate (lget T 0).length false).length = (lget T 0).length := by simp
  (refine goes_seq ?_; refine goes_region ?_; apply run_step rfl; (exact stp_assign rfl rfl); refine run_nil ?_; refine fin_seq ?_; refine goes_seq ?_; refine goes_region ?_; apply run_step rfl; (exact stp_move rfl rfl); apply run_step rfl; (first | exact stp_ix (j := 0) rfl rfl rfl rfl rfl (by as_aux_lemma => kernel_rfl) rfl hpos (Nat.le_of_eq hlen.symm) | exact stp_makeB (E := 4) rfl (by as_aux_lemma => kernel_rfl) (by as_aux_lemma => kernel_rfl) rfl rfl rfl rfl (by omega) | exact stp_ix (j := 0) rfl rfl rfl rfl rfl (by as_aux_lemma => kernel_rfl) rfl (by omega) (Nat.le_of_eq hbl0.symm) | exact stp_stB (bs := List.replicate (lget T 0).length false) rfl rfl rfl rfl rfl (by rw [hrp]; omega) (by as_aux_lemma => kernel_rfl)); apply run_step rfl; (exact stp_loadR rfl (by as_aux_lemma => kernel_rfl) rfl rfl rfl (by first | assumption | exact ivals_get (by assumption) | exact irows_get (by assumption) | exact ivals_get (by omega) | exact irows_get (by omega) | rfl) (by first | exact ivals_len _ | assumption | rfl)); apply run_step rfl; (exact stp_len rfl rfl rfl (by as_aux_lemma => kernel_rfl)); apply run_step rfl; (exact stp_makeR (E := 37) (F := 2) rfl (by as_aux_lemma => kernel_rfl) (by as_aux_lemma => kernel_rfl) (by as_aux_lemma => kernel_rfl) rfl rfl rfl rfl (by omega)); apply run_step rfl; (exact stp_assign rfl rfl); refine run_nil ?_; refine fin_seq ?_; refine goes_seq ?_; refine goes_region ?_; apply run_step rfl; (exact stp_move rfl rfl); apply run_step rfl; (exact stp_len rfl rfl rfl (by as_aux_lemma => kernel_rfl)); apply run_step rfl; (first | exact stp_ix (j := 0) rfl rfl rfl rfl rfl (by as_aux_lemma => kernel_rfl) rfl hpos (Nat.le_of_eq hlen.symm) | exact stp_makeB (E := 4) rfl (by as_aux_lemma => kernel_rfl) (by as_aux_lemma => kernel_rfl) rfl rfl rfl rfl (by omega) | exact stp_ix (j := 0) rfl rfl rfl rfl rfl (by as_aux_lemma => kernel_rfl) rfl (by omega) (Nat.le_of_eq hbl0.symm) | exact stp_stB (bs := List.replicate (lget T 0).length false) rfl rfl rfl rfl rfl (by rw [hrp]; omega) (by as_aux_lemma => kernel_rfl)); apply run_step rfl; (exact stp_assign rfl rfl); refine run_nil ?_; refine fin_seq ?_; refine goes_seq ?_; refine goes_region ?_; apply run_step rfl; (exact stp_move rfl rfl); apply run_step rfl; (first | exact stp_ix (j := 0) rfl rfl rfl rfl rfl (by as_aux_lemma => kernel_rfl) rfl hpos (Nat.le_of_eq hlen.symm) | exact stp_makeB (E := 4) rfl (by as_aux_lemma => kernel_rfl) (by as_aux_lemma => kernel_rfl) rfl rfl rfl rfl (by omega) | exact stp_ix (j := 0) rfl rfl rfl rfl rfl (by as_aux_lemma => kernel_rfl) rfl (by omega) (Nat.le_of_eq hbl0.symm) | exact stp_stB (bs := List.replicate (lget T 0).length false) rfl rfl rfl rfl rfl (by rw [hrp]; omega) (by as_aux_lemma => kernel_rfl)); apply run_step rfl; (first | exact stp_ix (j := 0) rfl rfl rfl rfl rfl (by as_aux_lemma => kernel_rfl) rfl hpos (Nat.le_of_eq hlen.symm) | exact stp_makeB (E := 4) rfl (by as_aux_lemma => kernel_rfl) (by as_aux_lemma => kernel_rfl) rfl rfl rfl rfl (by omega) | exact stp_ix (j := 0) rfl rfl rfl rfl rfl (by as_aux_lemma => kernel_rfl) rfl (by omega) (Nat.le_of_eq hbl0.symm) | exact stp_stB (bs := List.replicate (lget T 0).length false) rfl rfl rfl rfl rfl (by rw [hrp]; omega) (by as_aux_lemma => kernel_rfl)); refine run_nil ?_; refine fin_seq ?_; refine goes_seq ?_; refine goes_region ?_; apply run_step rfl; (exact stp_lit1I (E := 2) rfl (by as_aux_lemma => kernel_rfl) rfl); apply run_step rfl; (exact stp_assign rfl rfl); refine run_nil ?_; refine fin_seq ?_; refine goes_seq ?_; refine goes_seq ?_; refine goes_region ?_; apply run_step rfl; (exact stp_assign rfl rfl); refine run_nil ?_; refine fin_seq ?_; refine goes_block ?_)
  refine goes_loop (fun q : Nat × BSt => St.of [(0, o1 (.sl 1005 0 ng)), (3, o1 (.sl 13 0 n)), (4, o1 (.sl 16 0 n)), (5, o1 (.sl 19 0 q.2.2.2.length)), (6, vv (I6 q.1))] [(1005, imRo T), (13, imOw q.2.1), (16, boOw q.2.2.1), (19, leOw q.2.2.2)])
    (fun q => q.1 ≤ q.2.2.2.length ∧ BOK n q.2 ∧ bLoop T ng (n + 1 - q.1) q.1 q.2 = bfs T ng n) (fun q => n + 1 - q.1) (0, bStart n) ⟨Nat.zero_le _, bStart_ok hn, rfl⟩ (Wk.of ⟨rfl, by rw [← hr0]; rfl, by rw [← hr0]; rfl, rfl, rfl, trivial⟩ ⟨rfl, by rw [← hr0]; rfl, by rw [← hr0]; rfl, rfl, trivial⟩ trivial) ?_
  clear hbl0 hrp
  rintro ⟨i, W, B, O⟩ ⟨hi, hok, hl⟩
  dsimp only at hi hl ⊢
  have hOn : O.length ≤ n := hok.le
  (refine goes_seq ?_; refine goes_seq ?_; refine goes_region ?_; apply run_step rfl; (exact stp_move rfl rfl); apply run_step rfl; (exact stp_move rfl rfl); apply run_step rfl; (exact stp_len rfl rfl rfl (by as_aux_lemma => kernel_rfl)); apply run_step rfl; (exact stp_bin rfl rfl rfl rfl); refine run_nil ?_; refine fin_seq ?_)
  refine goes_if rfl (fun h => ?_) (fun h => ?_)
  · have hlt : i < O.length := by omega
    have hl' : bLoop T ng (n - i) (i + 1) (bRow T ng (iget O i).toNat (W, B, O)) = bfs T ng n := by
      rw [← hl, show n + 1 - i = (n - i) + 1 by omega]; exact (bLoop_step (T := T) (ng := ng) (s := (W, B, O)) hlt).symm
    obtain ⟨c, hc1, hc2, _⟩ := hok.q i hlt
    dsimp only at hc1
    rw [hc1, Int.toNat_natCast] at hl'
    obtain ⟨s0, hs0⟩ : ∃ s0 : BSt, s0 = (W, B, O) := ⟨_, rfl⟩
    have hro : ∀ m, m ≤ ng → BOK n ((List.range m).foldl (bStep T c) s0) ∧ BGrow n s0 ((List.range m).foldl (bStep T c) s0) := fun m hm => bRow_ok hT hng hc2 (by rw [hs0]; exact hok) m hm
    have hO0 : s0.2.2.length = O.length := by rw [hs0]
    have hc0 : iget s0.2.2 i = (c : Int) := by rw [hs0]; exact hc1
    have hfin : bLoop T ng (n - i) (i + 1) ((List.range ng).foldl (bStep T c) s0) = bfs T ng n := by rw [hs0]; exact hl'
    (refine goes_skip ?_; refine fin_seq ?_; refine goes_seq ?_; refine goes_block ?_; refine goes_seq ?_; refine goes_region ?_; apply run_step rfl; (exact stp_assign rfl rfl); refine run_nil ?_; refine fin_seq ?_; refine goes_block ?_)
    refine goes_loop (fun q : Nat × BSt => St.of [(0, o1 (.sl 1005 0 ng)), (3, o1 (.sl 13 0 n)), (4, o1 (.sl 16 0 n)), (5, o1 (.sl 19 0 q.2.2.2.length)), (6, vv (I6 i)), (7, vv (I6 q.1))] [(1005, imRo T), (13, imOw q.2.1), (16, boOw q.2.2.1), (19, leOw q.2.2.2)])
      (fun q => q.1 ≤ ng ∧ (List.range q.1).foldl (bStep T c) s0 = q.2) (fun q => ng - q.1) (0, (W, B, O)) ⟨Nat.zero_le _, hs0⟩ (Wk.of ⟨rfl, rfl, rfl, rfl, rfl, rfl, trivial⟩ ⟨rfl, rfl, rfl, rfl, trivial⟩ trivial) ?_
    clear hl hl' hok hs0 hc1
    generalize O.length = on at *
    rintro ⟨g, W, B, O⟩ ⟨hg, hfo⟩
    dsimp only at hg hfo ⊢
    obtain ⟨hok, grw⟩ := hro g hg
    rw [hfo] at hok grw
    have hOl : O.length ≤ n := hok.le
    have hiO : i < O.length := Nat.lt_of_lt_of_le (by omega) grw.len
    have hWl : W.length = n := hok.l1
    have hBl : B.length = n := hok.l2
    have hbl : (bvals B).length = n := by rw [bvals_len]; exact hBl
    have hci : iget O i = (c : Int) := (grw.pre i (by omega)).trans hc0
    have hget : (ivals O)[i]? = some (I6 (c : Int)) := by rw [ivals_get hiO, hci]
    (refine goes_seq ?_; refine goes_seq ?_; refine goes_region ?_; apply run_step rfl; (exact stp_move rfl rfl); apply run_step rfl; (exact stp_move rfl rfl); apply run_step rfl; (exact stp_len rfl rfl rfl (by as_aux_lemma => kernel_rfl)); apply run_step rfl; (exact stp_bin rfl rfl rfl rfl); refine run_nil ?_; refine fin_seq ?_)
    refine goes_if rfl (fun h2 => ?_) (fun h2 => ?_)
    · have hgn : g < ng := by omega
      have hd := bTo_lt hT hc2 (g := g) (by omega)
      have hrl : (lget T g).length = n := hT.len g (by omega)
      obtain ⟨d, hdd⟩ : ∃ d, bTo T c g = d := ⟨_, rfl⟩
      have hst : (List.range (g + 1)).foldl (bStep T c) s0 = bVisit (W, B, O) c g d := by
        rw [List.range_succ, List.foldl_append, hfo, ← hdd]; rfl
      rw [hdd] at hd
      have hgetd : (ivals (lget T g))[c]? = some (I6 (d : Int)) := by rw [ivals_get (by omega), hd.2]
      have hgb : (bvals B)[d]? = some (.bool (bat B d)) := bvals_get (by omega)
      have hWc : (lget W c).length < O.length := hok.len c
      have hOw := specOwn_fc 13 59 c (lget W c).length W (by omega) rfl (by omega)
      (refine goes_skip ?_; refine fin_seq ?_; refine goes_seq ?_; refine goes_block ?_; refine goes_seq ?_)
      apply goes_draw 10 [] [[], [], [0, 1], [0, 1, 2], [], [], [4, 5], [4, 5, 6], [0, 1, 2, 3, 4, 5, 6, 7], [0, 1, 2, 3, 4, 5, 6, 7, 8], [0, 1, 2, 3, 4, 5, 6, 7, 8, 9]] [32, 33, 34, 35, 36, 37, 38, 39, 40, 41] [] (by kernel_rfl) (by kernel_rfl)
      · (apply draw_put rfl; (intro S1 hS; exact stp_move rfl (hS.op rfl)); apply draw_put rfl; (intro S1 hS; exact stp_move rfl (hS.op rfl)); apply draw_put rfl; (intro S1 hS; exact stp_ix rfl (hS.op rfl) (hS.op rfl) (hS.ch _ _ rfl) rfl (by as_aux_lemma => kernel_rfl) (by first | rfl | exact (Int.toNat_of_nonneg (by omega)).symm) (by first | assumption | omega | (simp; omega)) (by first | exact Nat.le_refl _ | exact Nat.le_of_eq (ivals_len _).symm | exact Nat.le_of_eq (irows_len _).symm | (refine Nat.le_trans ?_ (Nat.le_of_eq (ivals_len _).symm); (first | omega | (simp; done) | (simp; omega))) | (refine Nat.le_trans ?_ (Nat.le_of_eq (irows_len _).symm); (first | omega | (simp; done) | (simp; omega))))); apply draw_put rfl; (intro S1 hS; exact stp_loadR rfl (by as_aux_lemma => kernel_rfl) (hS.op rfl) (hS.ch _ _ rfl) rfl (by first | assumption | exact ivals_get (by assumption) | exact irows_get (by assumption) | exact ivals_get (by omega) | exact irows_get (by omega) | rfl) (by first | exact ivals_len _ | assumption | rfl)); apply draw_put rfl; (intro S1 hS; exact stp_move rfl (hS.op rfl)); apply draw_put rfl; (intro S1 hS; exact stp_move rfl (hS.op rfl)); apply draw_put rfl; (intro S1 hS; exact stp_ix rfl (hS.op rfl) (hS.op rfl) (hS.ch _ _ rfl) rfl (by as_aux_lemma => kernel_rfl) (by first | rfl | exact (Int.toNat_of_nonneg (by omega)).symm) (by first | assumption | omega | (simp; omega)) (by first | exact Nat.le_refl _ | exact Nat.le_of_eq (ivals_len _).symm | exact Nat.le_of_eq (irows_len _).symm | (refine Nat.le_trans ?_ (Nat.le_of_eq (ivals_len _).symm); (first | omega | (simp; done) | (simp; omega))) | (refine Nat.le_trans ?_ (Nat.le_of_eq (irows_len _).symm); (first | omega | (simp; done) | (simp; omega))))); apply draw_put rfl; (intro S1 hS; exact stp_loadV rfl (by as_aux_lemma => kernel_rfl) (hS.op rfl) (hS.ch _ _ rfl) rfl (by first | assumption | exact ivals_get (by assumption) | exact irows_get (by assumption) | exact ivals_get (by omega) | exact irows_get (by omega) | rfl)); apply draw_put rfl; (intro S1 hS; exact stp_ixE rfl (hS.op rfl) (hS.op rfl) (hS.ch _ _ rfl) rfl (by as_aux_lemma => kernel_rfl) (by first | assumption | exact ivals_get (by assumption) | exact irows_get (by assumption) | exact ivals_get (by omega) | exact irows_get (by omega) | rfl) (by first | rfl | exact (Int.toNat_of_nonneg (by omega)).symm) (by first | assumption | omega | (simp; omega)) (by first | exact Nat.le_refl _ | exact Nat.le_of_eq (ivals_len _).symm | exact Nat.le_of_eq (irows_len _).symm | (refine Nat.le_trans ?_ (Nat.le_of_eq (ivals_len _).symm); (first | omega | (simp; done) | (simp; omega))) | (refine Nat.le_trans ?_ (Nat.le_of_eq (irows_len _).symm); (first | omega | (simp; done) | (simp; omega))))); apply draw_put rfl; (intro S1 hS; exact stp_loadE' rfl (by as_aux_lemma => kernel_rfl) (hS.op rfl) (hS.ch _ _ rfl) rfl (by first | assumption | exact ivals_get (by assumption) | exact irows_get (by assumption) | exact ivals_get (by omega) | exact irows_get (by omega) | rfl) (by first | assumption | exact ivals_get (by assumption) | exact irows_get (by assumption) | exact ivals_get (by omega) | exact irows_get (by omega) | rfl)); exact Draw.nil)
      · rfl
      ((apply rest_one 10 rfl (by as_aux_lemma => kernel_rfl) rfl rfl; (exact stp_assign rfl rfl)); (refine rest_done (by as_aux_lemma => kernel_rfl) ?_; skip))
      (refine fin_seq ?_; refine goes_seq ?_; refine goes_region ?_; apply run_step rfl; (exact stp_move rfl rfl); apply run_step rfl; (exact stp_move rfl rfl); apply run_step rfl; (exact stp_ix rfl rfl rfl rfl rfl (by as_aux_lemma => kernel_rfl) rfl hd.1 (Nat.le_of_eq hbl.symm)); apply run_step rfl; (exact stp_loadV rfl (by as_aux_lemma => kernel_rfl) rfl rfl rfl (by first | assumption | exact ivals_get (by assumption) | exact irows_get (by assumption) | exact ivals_get (by omega) | exact irows_get (by omega) | rfl)); apply run_step rfl; (exact stp_not rfl rfl); refine run_nil ?_; refine fin_seq ?_)
      refine goes_cond rfl (fun hb => ?_) (fun hb => ?_)
      · have hb : bat B d = false := by simpa using hb
        have hv : bVisit (W, B, O) c g d = (W.set d (lget W c ++ [(g : Int)]), B.set d true, O ++ [(d : Int)]) := if_neg (by rw [hb]; simp)
        have hset : (irows W).set d (ivals (lget W c ++ [(g : Int)])) = irows (W.set d (lget W c ++ [(g : Int)])) := irows_set _ _ _
        have hrW : (irows W)[c]? = some (ivals (lget W c)) := irows_get (by omega)
        (refine goes_seq ?_; refine goes_region ?_; apply run_step rfl; (exact stp_move rfl rfl); apply run_step rfl; (exact stp_move rfl rfl); apply run_step rfl; (first | exact stp_ix rfl rfl rfl rfl rfl (by as_aux_lemma => kernel_rfl) rfl hd.1 (Nat.le_of_eq hbl.symm) | exact stp_stB rfl rfl rfl rfl rfl (by rw [hBl]; exact hd.1) (by as_aux_lemma => kernel_rfl) | (apply call_gate 82; exact stp_callN hOw (by as_aux_lemma => kernel_rfl) rfl rfl ⟨rfl, trivial⟩ ⟨⟨_, rfl, .inr rfl⟩, trivial⟩ rfl rfl rfl) | exact stp_storeRow (n := 13) (z := 59) (i := d) rfl rfl (by simp) rfl rfl (by rw [ivals_len]; simp) rfl (by rw [irows_len, hWl]; exact hd.1) (by as_aux_lemma => kernel_rfl)); apply run_step rfl; (first | exact stp_ix rfl rfl rfl rfl rfl (by as_aux_lemma => kernel_rfl) rfl hd.1 (Nat.le_of_eq hbl.symm) | exact stp_stB rfl rfl rfl rfl rfl (by rw [hBl]; exact hd.1) (by as_aux_lemma => kernel_rfl) | (apply call_gate 82; exact stp_callN hOw (by as_aux_lemma => kernel_rfl) rfl rfl ⟨rfl, trivial⟩ ⟨⟨_, rfl, .inr rfl⟩, trivial⟩ rfl rfl rfl) | exact stp_storeRow (n := 13) (z := 59) (i := d) rfl rfl (by simp) rfl rfl (by rw [ivals_len]; simp) rfl (by rw [irows_len, hWl]; exact hd.1) (by as_aux_lemma => kernel_rfl)); refine run_nil ?_; refine fin_seq ?_; refine goes_seq ?_; refine goes_region ?_; apply run_step rfl; (exact stp_move rfl rfl); apply run_step rfl; (exact stp_move rfl rfl); apply run_step rfl; (exact stp_move rfl rfl); apply run_step rfl; (exact stp_move rfl rfl); apply run_step rfl; (exact stp_move rfl rfl); apply run_step rfl; (exact stp_ix rfl rfl rfl rfl rfl (by as_aux_lemma => kernel_rfl) (by first | rfl | exact (Int.toNat_of_nonneg (by omega)).symm) (by first | assumption | omega | (simp; omega)) (by first | exact Nat.le_refl _ | exact Nat.le_of_eq (ivals_len _).symm | exact Nat.le_of_eq (irows_len _).symm | (refine Nat.le_trans ?_ (Nat.le_of_eq (ivals_len _).symm); (first | omega | (simp; done) | (simp; omega))) | (refine Nat.le_trans ?_ (Nat.le_of_eq (irows_len _).symm); (first | omega | (simp; done) | (simp; omega))))); apply run_step rfl; (exact stp_loadV rfl (by as_aux_lemma => kernel_rfl) rfl rfl rfl (by first | assumption | exact ivals_get (by assumption) | exact irows_get (by assumption) | exact ivals_get (by omega) | exact irows_get (by omega) | rfl)); apply run_step rfl; (exact stp_ix rfl rfl rfl rfl rfl (by as_aux_lemma => kernel_rfl) (by first | rfl | exact (Int.toNat_of_nonneg (by omega)).symm) (by first | assumption | omega | (simp; omega)) (by first | exact Nat.le_refl _ | exact Nat.le_of_eq (ivals_len _).symm | exact Nat.le_of_eq (irows_len _).symm | (refine Nat.le_trans ?_ (Nat.le_of_eq (ivals_len _).symm); (first | omega | (simp; done) | (simp; omega))) | (refine Nat.le_trans ?_ (Nat.le_of_eq (irows_len _).symm); (first | omega | (simp; done) | (simp; omega))))); apply run_step rfl; (exact stp_loadR rfl (by as_aux_lemma => kernel_rfl) rfl rfl rfl (by first | assumption | exact ivals_get (by assumption) | exact irows_get (by assumption) | exact ivals_get (by omega) | exact irows_get (by omega) | rfl) (by first | exact ivals_len _ | assumption | rfl)); apply run_step rfl; (first | exact stp_ix rfl rfl rfl rfl rfl (by as_aux_lemma => kernel_rfl) rfl hd.1 (Nat.le_of_eq hbl.symm) | exact stp_stB rfl rfl rfl rfl rfl (by rw [hBl]; exact hd.1) (by as_aux_lemma => kernel_rfl) | (apply call_gate 82; exact stp_callN hOw (by as_aux_lemma => kernel_rfl) rfl rfl ⟨rfl, trivial⟩ ⟨⟨_, rfl, .inr rfl⟩, trivial⟩ rfl rfl rfl) | exact stp_storeRow (n := 13) (z := 59) (i := d) rfl rfl (by simp) rfl rfl (by rw [ivals_len]; simp) rfl (by rw [irows_len, hWl]; exact hd.1) (by as_aux_lemma => kernel_rfl)); apply run_step rfl; (exact stp_move rfl rfl); apply run_step rfl; (exact stp_lit1I (E := 2) rfl (by as_aux_lemma => kernel_rfl) rfl); apply run_step rfl; (exact stp_appI rfl (by as_aux_lemma => kernel_rfl) rfl rfl rfl (by first | rfl | assumption | (simp; done)) rfl rfl (by omega)); apply run_step rfl; (exact stp_ix rfl rfl rfl rfl rfl (by as_aux_lemma => kernel_rfl) (by first | rfl | exact (Int.toNat_of_nonneg (by omega)).symm) (by first | assumption | omega | (simp; omega)) (by first | exact Nat.le_refl _ | exact Nat.le_of_eq (ivals_len _).symm | exact Nat.le_of_eq (irows_len _).symm | (refine Nat.le_trans ?_ (Nat.le_of_eq (ivals_len _).symm); (first | omega | (simp; done) | (simp; omega))) | (refine Nat.le_trans ?_ (Nat.le_of_eq (irows_len _).symm); (first | omega | (simp; done) | (simp; omega))))); apply run_step rfl; (first | exact stp_ix rfl rfl rfl rfl rfl (by as_aux_lemma => kernel_rfl) rfl hd.1 (Nat.le_of_eq hbl.symm) | exact stp_stB rfl rfl rfl rfl rfl (by rw [hBl]; exact hd.1) (by as_aux_lemma => kernel_rfl) | (apply call_gate 82; exact stp_callN hOw (by as_aux_lemma => kernel_rfl) rfl rfl ⟨rfl, trivial⟩ ⟨⟨_, rfl, .inr rfl⟩, trivial⟩ rfl rfl rfl) | exact stp_storeRow (n := 13) (z := 59) (i := d) rfl rfl (by simp) rfl rfl (by rw [ivals_len]; simp) rfl (by rw [irows_len, hWl]; exact hd.1) (by as_aux_lemma => kernel_rfl)); refine run_nil ?_; refine fin_seq ?_; refine goes_region ?_; apply run_step rfl; (exact stp_move rfl rfl); apply run_step rfl; (exact stp_move rfl rfl); apply run_step rfl; (exact stp_lit1I (E := 2) rfl (by as_aux_lemma => kernel_rfl) rfl); apply run_step rfl; (exact stp_appI rfl (by as_aux_lemma => kernel_rfl) rfl rfl rfl (by first | rfl | assumption | (simp; done)) rfl rfl (by omega)); apply run_step rfl; (exact stp_assign rfl rfl); refine run_nil ?_; refine fin_block ?_; refine fin_seq ?_; refine goes_region ?_; apply run_step rfl; (exact stp_move rfl rfl); apply run_step rfl; (exact stp_add rfl rfl rfl (by first | exact IntWalk.i64_in _ (by omega) | rfl)); apply run_step rfl; (exact stp_assign rfl rfl); refine run_nil ?_)
        exact fin_round (g + 1, (W.set d (lget W c ++ [(g : Int)]), B.set d true, O ++ [(d : Int)])) ⟨hgn, hst.trans hv⟩ (by show ng - (g + 1) < ng - g; omega) (Wk.of ⟨rfl, rfl, rfl, by simp; rfl, rfl, rfl, trivial⟩ ⟨rfl, congrArg (fun l => some (⟨true, 37, 1, .rows 2 l []⟩ : Ch)) hset, rfl, rfl, trivial⟩ trivial)
      · have hb : bat B d = true := by simpa using hb
        have hv : bVisit (W, B, O) c g d = (W, B, O) := if_pos hb
        (refine goes_skip ?_; refine fin_block ?_; refine fin_seq ?_; refine goes_region ?_; apply run_step rfl; (exact stp_move rfl rfl); apply run_step rfl; (exact stp_add rfl rfl rfl (by first | exact IntWalk.i64_in _ (by omega) | rfl)); apply run_step rfl; (exact stp_assign rfl rfl); refine run_nil ?_)
        exact fin_round (g + 1, (W, B, O)) ⟨hgn, hst.trans hv⟩ (by show ng - (g + 1) < ng - g; omega) (Wk.of ⟨rfl, rfl, rfl, rfl, rfl, rfl, trivial⟩ ⟨rfl, rfl, rfl, rfl, trivial⟩ trivial)
    · obtain rfl : g = ng := by omega
      (refine goes_exit ?_; refine fin_exit_then ?_; refine fin_exit_then ?_; refine fin_exit_eq ?_; refine fin_block ?_; refine fin_seq ?_; refine goes_region ?_; apply run_step rfl; (exact stp_move rfl rfl); apply run_step rfl; (exact stp_add rfl rfl rfl (by first | exact IntWalk.i64_in _ (by omega) | rfl)); apply run_step rfl; (exact stp_assign rfl rfl); refine run_nil ?_)
      exact fin_round (i + 1, (W, B, O)) ⟨hiO, hok, by rw [← hfin, hfo]; show bLoop _ _ (n + 1 - (i + 1)) _ _ = _; rw [show n + 1 - (i + 1) = n - i by omega]⟩ (by show n + 1 - (i + 1) < n + 1 - i; omega) (Wk.of ⟨rfl, rfl, rfl, rfl, rfl, trivial⟩ ⟨rfl, rfl, rfl, rfl, trivial⟩ trivial)
  · have hio : i = O.length := by omega
    have hOM : bfs T ng n = (W, B, O) := by
      rw [← hl, show n + 1 - i = (n - i) + 1 by omega, bLoop, if_neg (by show ¬ i < O.length; omega)]
    rw [hOM]
    (refine goes_exit ?_; refine fin_exit_then ?_; refine fin_exit_then ?_; refine fin_exit_eq ?_; refine fin_seq ?_; refine goes_seq ?_; refine goes_region ?_; apply run_step rfl; (exact stp_move rfl rfl); apply run_step rfl; (exact stp_assign rfl rfl); refine run_nil ?_; refine fin_seq ?_; refine goes_ret ?_)
    exact fin_ret1 (.inl rfl) rfl (.tmp rfl) ⟨rfl, trivial⟩ trivial
end Go.Proofs.Ytpjglifijdcgnaa

/- Walks in names: shifts, bits, conversions between integers, three results. -/
namespace Go.Proofs.Ytpjglifijdcgnaa
open Go.RowKit

theorem bits_and_i64 (a b : Nat) (ha : a < 1000000) (hb : b < 1000000) : bits .and .i64 (a : Int) (b : Int) = ((a &&& b : Nat) : Int) := by
  have hx : a &&& b < 2 ^ 20 := Nat.and_lt_two_pow _ (by omega)
  have h1 : (BitVec.ofInt 64 (a : Int)).toNat = a := by
    rw [BitVec.ofInt_natCast, BitVec.toNat_ofNat]; exact Nat.mod_eq_of_lt (by omega)
  have h2 : (BitVec.ofInt 64 (b : Int)).toNat = b := by
    rw [BitVec.ofInt_natCast, BitVec.toNat_ofNat]; exact Nat.mod_eq_of_lt (by omega)
  show IntKind.i64.wrap ((BitVec.ofInt 64 (a : Int) &&& BitVec.ofInt 64 (b : Int)).toNat : Int) = _
  rw [BitVec.toNat_and, h1, h2, IntKind.wrap_i64]
  omega
section
variable {P : Program} {nt : Nat} {S : St} {t : Nat} {ty : TypeId} {ps : String} {af : Array Edge} {gd : Option (Nat × Bool)} {x y : Operand}
theorem stp_andN {xt yt : TypeId} {a b : Nat} (ht : Nat.blt t nt = true) (hx : S.op x = some (vv (I6 (a : Int)))) (hy : S.op y = some (vv (I6 (b : Int)))) (ha : a < 1000000) (hb : b < 1000000) :
    Stp P nt ⟨some t, .binOp .and xt x y yt, ty, ps, af, gd⟩ S (S.put t (vv (I6 ((a &&& b : Nat) : Int)))) :=
  Stp.pure rfl ht fun _ _ η _ s w hs => by
    refine ⟨I6 ((a &&& b : Nat) : Int), ?_, rfl⟩
    have hb' := bits_and_i64 a b ha hb
    have e : Op.intBits .and .i64 (a : Int) (b : Int) = pure (I6 ((a &&& b : Nat) : Int)) := by rw [← hb']; rfl
    simp [execOp, hs.opV hx, hs.opV hy, eqGuard, binOp, e]
theorem stp_shrN {xt yt : TypeId} {kk : IntKind} {a g : Nat} (ht : Nat.blt t nt = true) (hx : S.op x = some (vv (I6 (a : Int)))) (hy : S.op y = some (vv (.int kk (g : Int)))) (hg : g ≤ 64) :
    Stp P nt ⟨some t, .binOp .shr xt x y yt, ty, ps, af, gd⟩ S (S.put t (vv (I6 ((a / 2 ^ g : Nat) : Int)))) :=
  Stp.pure rfl ht fun _ _ η _ s w hs => by
    refine ⟨I6 ((a / 2 ^ g : Nat) : Int), ?_, rfl⟩
    have e : Op.shift .shr .i64 (a : Int) kk (g : Int) = pure (I6 ((a / 2 ^ g : Nat) : Int)) := by
      rw [shift_shr_i64 (x := (a : Int)) (y := (g : Int)) (yk := kk) (Int.natCast_nonneg g) (by omega), Int.toNat_natCast]
      simp
    simp [execOp, hs.opV hx, hs.opV hy, eqGuard, binOp, e]
theorem stp_shl1 {xt yt : TypeId} {kk : IntKind} {g : Nat} (ht : Nat.blt t nt = true) (hx : S.op x = some (vv (I6 1))) (hy : S.op y = some (vv (.int kk (g : Int)))) (hg : g ≤ 5) :
    Stp P nt ⟨some t, .binOp .shl xt x y yt, ty, ps, af, gd⟩ S (S.put t (vv (I6 ((2 ^ g : Nat) : Int)))) :=
  Stp.pure rfl ht fun _ _ η _ s w hs => by
    refine ⟨I6 ((2 ^ g : Nat) : Int), ?_, rfl⟩
    have e : ∀ g : Nat, g ≤ 5 → Op.shift .shl .i64 1 kk (g : Int) = pure (I6 ((2 ^ g : Nat) : Int)) := fun g hg => by
      rw [shift_shl_i64 (x := 1) (y := (g : Int)) (yk := kk) (Int.natCast_nonneg g) (by omega), Int.toNat_natCast]
      match g, hg with
      | 0, _ => rfl
      | 1, _ => rfl
      | 2, _ => rfl
      | 3, _ => rfl
      | 4, _ => rfl
      | 5, _ => rfl
    have e := e g hg
    have hw : IntKind.i64.wrap (2 ^ g) = 2 ^ g := by
      match g, hg with
      | 0, _ => rfl
      | 1, _ => rfl
      | 2, _ => rfl
      | 3, _ => rfl
      | 4, _ => rfl
      | 5, _ => rfl
    simp [execOp, hs.opV hx, hs.opV hy, eqGuard, binOp, e, hw]
theorem stp_convN {src dst : TypeId} {kk k2 : IntKind} {m : Int} (ht : Nat.blt t nt = true) (hx : S.op x = some (vv (.int kk m))) (hs1 : (P.underlying src).isSome = true) (hd : P.underlying dst = some (.int k2)) (hw : k2.wrap m = m) :
    Stp P nt ⟨some t, .convert src dst x, ty, ps, af, gd⟩ S (S.put t (vv (.int k2 m))) :=
  Stp.pure rfl ht fun _ _ η _ s w hs => by
    refine ⟨.int k2 m, ?_, rfl⟩
    obtain ⟨d, hd'⟩ := Option.isSome_iff_exists.mp hs1
    simp [execOp, hs.opV hx, convert, run_underlying hd', run_underlying hd, Conv.intToInt, hw]
end
section
variable {P : Program} {w0 : World} {ω0 : Beg} {nt : Nat} {S : St}
theorem run_results3 {w : World} {fn : Func} {tmps : Array Value} {r r' r'' : ResultVar} {v v' v'' : Value} (h : fn.results = #[r, r', r'']) (h1 : (resSem tmps r).run P w = .ok v w) (h2 : (resSem tmps r').run P w = .ok v' w) (h3 : (resSem tmps r'').run P w = .ok v'' w) : (results fn tmps).run P w = .ok (.tuple #[v, v', v'']) w := by
  rw [results_eq, h]; simp [h1, h2, h3]
theorem fin_ret3 {fn : Func} {e : Exit} {r r' r'' : ResultVar} {b b' b'' : A2} {outs : List (Nm × Ch)} {back : List (Nat × AV)} (he : e = .ret ∨ e = .normal) (hf : fn.results = #[r, r', r'']) (hr : ResB P S r b) (hr' : ResB P S r' b') (hr'' : ResB P S r'' b'') (hc : allCh S outs) (hb : allPh S back) :
    Fin w0 ω0 nt S e (bodyPost P fn (Left w0 ω0.own ω0.ph outs (.tup [b, b', b'']) back)) := by
  refine ⟨fun a w ⟨η, ω, hs⟩ => ?_⟩
  obtain ⟨u, h1, h2⟩ := hs.res hr
  obtain ⟨u', h1', h2'⟩ := hs.res hr'
  obtain ⟨u'', h1'', h2''⟩ := hs.res hr''
  have hd : Den η (.tup [b, b', b'']) (.tuple #[u, u', u'']) := ⟨_, rfl, rfl, fun j c hj => by
    match j, hj with
    | 0, hj => simp at hj; subst hj; exact ⟨u, by simp, h2⟩
    | 1, hj => simp at hj; subst hj; exact ⟨u', by simp, h2'⟩
    | 2, hj => simp at hj; subst hj; exact ⟨u'', by simp, h2''⟩⟩
  have : a.defers = [] ∧ ∃ v, (results fn a.tmps).run P w = .ok v w ∧ Left w0 ω0.own ω0.ph outs (.tup [b, b', b'']) back (.returned v) w := ⟨hs.dfr, _, run_results3 hf h1 h1' h1'', hs.left hc hb hd⟩
  rcases he with rfl | rfl <;> exact this
end
end Go.Proofs.Ytpjglifijdcgnaa

/- Cosets that some generators lead to: the reference's l12Members. guards: -/
namespace Go.Proofs.Ytpjglifijdcgnaa
open Go.RowKit

theorem mBit_of (mask g : Nat) : ((((mask / 2 ^ g) &&& 1 : Nat) : Int) == 1) = mBit mask g := by
  unfold mBit
  rw [Nat.and_one_is_mod]
  rcases Nat.mod_two_eq_zero_or_one (mask / 2 ^ g) with h | h <;> rw [h] <;> rfl
theorem stp_bit {P : Program} {nt : Nat} {S : St} {t : Nat} {ty : TypeId} {ps : String} {af : Array Edge} {gd : Option (Nat × Bool)} {x : Operand} {xt yt : TypeId} {mask g : Nat} (ht : Nat.blt t nt = true) (hx : S.op x = some (vv (I6 ((mask / 2 ^ g : Nat) : Int)))) (hm : mask < 1000000) :
    Stp P nt ⟨some t, .binOp .and xt x (.const (I6 1)) yt, ty, ps, af, gd⟩ S (S.put t (vv (I6 (((mask / 2 ^ g) &&& 1 : Nat) : Int)))) :=
  stp_andN ht hx rfl (Nat.lt_of_le_of_lt (Nat.div_le_self _ _) hm) (by decide)
theorem stp_eqBit {P : Program} {nt : Nat} {S : St} {t : Nat} {ty : TypeId} {ps : String} {af : Array Edge} {gd : Option (Nat × Bool)} {x : Operand} {xt yt : TypeId} {mask g : Nat} (ht : Nat.blt t nt = true) (hx : S.op x = some (vv (I6 (((mask / 2 ^ g) &&& 1 : Nat) : Int)))) :
    Stp P nt ⟨some t, .binOp .eql xt x (.const (I6 1)) yt, ty, ps, af, gd⟩ S (S.put t (vv (.bool (mBit mask g)))) := by
  rw [← mBit_of]
  exact stp_bin ht hx rfl rfl

set_option maxRecDepth 100000 in
set_option maxHeartbeats 2000000 in
theorem members_fc (T : List (List Int)) (ng n mask : Nat) (hng : T.length = ng) (hpos : 0 < ng) (hT : Leads T n) (hn : 0 < n) (hn4 : n ≤ 400) (hg5 : ng ≤ 5) (hm : mask < 1000) :
    FC Try.prog 61 [(1005, imRo T)] [o1 (.sl 1005 0 ng), vv (I6 mask)] [(14, boOw (mem T ng n mask).1)] (o1 (.sl 14 0 n)) [] := by
  have hlen : (irows T).length = ng := by rw [irows_len, hng]
  have hr0 : (lget T 0).length = n := hT.len 0 (by omega)
  have hrow : (irows T)[0]? = some (ivals (lget T 0)) := irows_get (by omega)
  refine fc_enter (nt := 61) Try.func61 rfl rfl (by simp) fun w0 ω0 => ?_
  have hbl0 : (bvals (List.replicate n false)).length = n := by rw [bvals_len]; simp
  rw [← hr0] at hbl0
  have hrp : (List.replicate (lget T 0).length false).length = (lget T 0).length := by simp
  (refine goes_seq ?_; refine goes_region ?_; apply run_step rfl; (exact stp_assign rfl rfl); refine run_nil ?_; refine fin_seq ?_; refine goes_seq ?_; refine goes_region ?_; apply run_step rfl; (exact stp_move rfl rfl); apply run_step rfl; (first | exact stp_ix (j := 0) rfl rfl rfl rfl rfl (by as_aux_lemma => kernel_rfl) rfl hpos (Nat.le_of_eq hlen.symm) | exact stp_makeB (E := 4) rfl (by as_aux_lemma => kernel_rfl) (by as_aux_lemma => kernel_rfl) rfl rfl rfl rfl (by omega) | exact stp_ix (j := 0) rfl rfl rfl rfl rfl (by as_aux_lemma => kernel_rfl) rfl (by omega) (Nat.le_of_eq hbl0.symm) | exact stp_stB (bs := List.replicate (lget T 0).length false) rfl rfl rfl rfl rfl (by rw [hrp]; omega) (by as_aux_lemma => kernel_rfl)); apply run_step rfl; (exact stp_loadR rfl (by as_aux_lemma => kernel_rfl) rfl rfl rfl (by first | assumption | exact ivals_get (by assumption) | exact irows_get (by assumption) | exact ivals_get (by omega) | exact irows_get (by omega) | rfl) (by first | exact ivals_len _ | assumption | rfl)); apply run_step rfl; (exact stp_len rfl rfl rfl (by as_aux_lemma => kernel_rfl)); apply run_step rfl; (first | exact stp_ix (j := 0) rfl rfl rfl rfl rfl (by as_aux_lemma => kernel_rfl) rfl hpos (Nat.le_of_eq hlen.symm) | exact stp_makeB (E := 4) rfl (by as_aux_lemma => kernel_rfl) (by as_aux_lemma => kernel_rfl) rfl rfl rfl rfl (by omega) | exact stp_ix (j := 0) rfl rfl rfl rfl rfl (by as_aux_lemma => kernel_rfl) rfl (by omega) (Nat.le_of_eq hbl0.symm) | exact stp_stB (bs := List.replicate (lget T 0).length false) rfl rfl rfl rfl rfl (by rw [hrp]; omega) (by as_aux_lemma => kernel_rfl)); apply run_step rfl; (exact stp_assign rfl rfl); refine run_nil ?_; refine fin_seq ?_; refine goes_seq ?_; refine goes_region ?_; apply run_step rfl; (exact stp_move rfl rfl); apply run_step rfl; (first | exact stp_ix (j := 0) rfl rfl rfl rfl rfl (by as_aux_lemma => kernel_rfl) rfl hpos (Nat.le_of_eq hlen.symm) | exact stp_makeB (E := 4) rfl (by as_aux_lemma => kernel_rfl) (by as_aux_lemma => kernel_rfl) rfl rfl rfl rfl (by omega) | exact stp_ix (j := 0) rfl rfl rfl rfl rfl (by as_aux_lemma => kernel_rfl) rfl (by omega) (Nat.le_of_eq hbl0.symm) | exact stp_stB (bs := List.replicate (lget T 0).length false) rfl rfl rfl rfl rfl (by rw [hrp]; omega) (by as_aux_lemma => kernel_rfl)); apply run_step rfl; (first | exact stp_ix (j := 0) rfl rfl rfl rfl rfl (by as_aux_lemma => kernel_rfl) rfl hpos (Nat.le_of_eq hlen.symm) | exact stp_makeB (E := 4) rfl (by as_aux_lemma => kernel_rfl) (by as_aux_lemma => kernel_rfl) rfl rfl rfl rfl (by omega) | exact stp_ix (j := 0) rfl rfl rfl rfl rfl (by as_aux_lemma => kernel_rfl) rfl (by omega) (Nat.le_of_eq hbl0.symm) | exact stp_stB (bs := List.replicate (lget T 0).length false) rfl rfl rfl rfl rfl (by rw [hrp]; omega) (by as_aux_lemma => kernel_rfl)); refine run_nil ?_; refine fin_seq ?_; refine goes_seq ?_; refine goes_region ?_; apply run_step rfl; (exact stp_lit1I (E := 2) rfl (by as_aux_lemma => kernel_rfl) rfl); apply run_step rfl; (exact stp_assign rfl rfl); refine run_nil ?_; refine fin_seq ?_; refine goes_seq ?_; refine goes_seq ?_; refine goes_region ?_; apply run_step rfl; (exact stp_assign rfl rfl); refine run_nil ?_; refine fin_seq ?_; refine goes_block ?_)
  refine goes_loop (fun q : Nat × MSt => St.of [(0, o1 (.sl 1005 0 ng)), (1, vv (I6 mask)), (5, o1 (.sl 14 0 n)), (6, o1 (.sl 17 0 q.2.2.length)), (7, vv (I6 q.1))] [(1005, imRo T), (14, boOw q.2.1), (17, leOw q.2.2)])
    (fun q => q.1 ≤ q.2.2.length ∧ MOK n q.2 ∧ mLoop T mask ng (n + 1 - q.1) q.1 q.2 = mem T ng n mask) (fun q => n + 1 - q.1) (0, mStart n) ⟨Nat.zero_le _, mStart_ok hn, rfl⟩ (Wk.of ⟨rfl, rfl, by rw [← hr0]; rfl, rfl, rfl, trivial⟩ ⟨rfl, by rw [← hr0]; rfl, rfl, trivial⟩ trivial) ?_
  clear hbl0 hrp
  rintro ⟨i, B, O⟩ ⟨hi, hok, hl⟩
  dsimp only at hi hl ⊢
  have hOn : O.length ≤ n := hok.le
  (refine goes_seq ?_; refine goes_seq ?_; refine goes_region ?_; apply run_step rfl; (exact stp_move rfl rfl); apply run_step rfl; (exact stp_move rfl rfl); apply run_step rfl; (exact stp_len rfl rfl rfl (by as_aux_lemma => kernel_rfl)); apply run_step rfl; (exact stp_bin rfl rfl rfl rfl); refine run_nil ?_; refine fin_seq ?_)
  refine goes_if rfl (fun h => ?_) (fun h => ?_)
  · have hlt : i < O.length := by omega
    have hl' : mLoop T mask ng (n - i) (i + 1) (mRow T mask ng (iget O i).toNat (B, O)) = mem T ng n mask := by
      rw [← hl, show n + 1 - i = (n - i) + 1 by omega]; exact (mLoop_step (T := T) (ng := ng) (s := (B, O)) hlt).symm
    obtain ⟨c, hc1, hc2, _⟩ := hok.q i hlt
    dsimp only at hc1
    rw [hc1, Int.toNat_natCast] at hl'
    obtain ⟨s0, hs0⟩ : ∃ s0 : MSt, s0 = (B, O) := ⟨_, rfl⟩
    have hro : ∀ m, m ≤ ng → MOK n ((List.range m).foldl (mStep T mask c) s0) ∧ MGrow s0 ((List.range m).foldl (mStep T mask c) s0) := fun m hm => have := mRow_ok (mask := mask) hT hng hc2 (s := s0) (by rw [hs0]; exact hok) m hm; ⟨this.1, this.2.1⟩
    have hO0 : s0.2.length = O.length := by rw [hs0]
    have hc0 : iget s0.2 i = (c : Int) := by rw [hs0]; exact hc1
    have hfin : mLoop T mask ng (n - i) (i + 1) ((List.range ng).foldl (mStep T mask c) s0) = mem T ng n mask := by rw [hs0]; exact hl'
    (refine goes_skip ?_; refine fin_seq ?_; refine goes_seq ?_; refine goes_block ?_; refine goes_seq ?_; refine goes_region ?_; apply run_step rfl; (exact stp_assign rfl rfl); refine run_nil ?_; refine fin_seq ?_; refine goes_block ?_)
    refine goes_loop (fun q : Nat × MSt => St.of [(0, o1 (.sl 1005 0 ng)), (1, vv (I6 mask)), (5, o1 (.sl 14 0 n)), (6, o1 (.sl 17 0 q.2.2.length)), (7, vv (I6 i)), (8, vv (I6 q.1))] [(1005, imRo T), (14, boOw q.2.1), (17, leOw q.2.2)])
      (fun q => q.1 ≤ ng ∧ (List.range q.1).foldl (mStep T mask c) s0 = q.2) (fun q => ng - q.1) (0, (B, O)) ⟨Nat.zero_le _, hs0⟩ (Wk.of ⟨rfl, rfl, rfl, rfl, rfl, rfl, trivial⟩ ⟨rfl, rfl, rfl, trivial⟩ trivial) ?_
    clear hl hl' hok hs0 hc1
    generalize O.length = on at *
    rintro ⟨g, B, O⟩ ⟨hg, hfo⟩
    dsimp only at hg hfo ⊢
    obtain ⟨hok, grw⟩ := hro g hg
    rw [hfo] at hok grw
    have hOl : O.length ≤ n := hok.le
    have hiO : i < O.length := Nat.lt_of_lt_of_le (by omega) grw.len
    have hBl : B.length = n := hok.l
    have hbl : (bvals B).length = n := by rw [bvals_len]; exact hBl
    have hci : iget O i = (c : Int) := (grw.pre i (by omega)).trans hc0
    have hget : (ivals O)[i]? = some (I6 (c : Int)) := by rw [ivals_get hiO, hci]
    (refine goes_seq ?_; refine goes_seq ?_; refine goes_region ?_; apply run_step rfl; (exact stp_move rfl rfl); apply run_step rfl; (exact stp_move rfl rfl); apply run_step rfl; (exact stp_len rfl rfl rfl (by as_aux_lemma => kernel_rfl)); apply run_step rfl; (exact stp_bin rfl rfl rfl rfl); refine run_nil ?_; refine fin_seq ?_)
    refine goes_if rfl (fun h2 => ?_) (fun h2 => ?_)
    · have hgn : g < ng := by omega
      have hd := bTo_lt hT hc2 (g := g) (by omega)
      have hrl : (lget T g).length = n := hT.len g (by omega)
      obtain ⟨d, hdd⟩ : ∃ d, bTo T c g = d := ⟨_, rfl⟩
      have hst : (List.range (g + 1)).foldl (mStep T mask c) s0 = if mBit mask g = true ∧ bat B d = false then (B.set d true, O ++ [(d : Int)]) else (B, O) := by
        rw [List.range_succ, List.foldl_append, hfo, ← hdd]; rfl
      rw [hdd] at hd
      have hgetd : (ivals (lget T g))[c]? = some (I6 (d : Int)) := by rw [ivals_get (by omega), hd.2]
      have hgb : (bvals B)[d]? = some (.bool (bat B d)) := bvals_get (by omega)
      (refine goes_skip ?_; refine fin_seq ?_; refine goes_seq ?_; refine goes_block ?_; refine goes_seq ?_)
      apply goes_draw 10 [] [[], [], [0, 1], [0, 1, 2], [], [], [4, 5], [4, 5, 6], [0, 1, 2, 3, 4, 5, 6, 7], [0, 1, 2, 3, 4, 5, 6, 7, 8], [0, 1, 2, 3, 4, 5, 6, 7, 8, 9]] [30, 31, 32, 33, 34, 35, 36, 37, 38, 39] [] (by kernel_rfl) (by kernel_rfl)
      · (apply draw_put rfl; (intro S1 hS; exact stp_move rfl (hS.op rfl)); apply draw_put rfl; (intro S1 hS; exact stp_move rfl (hS.op rfl)); apply draw_put rfl; (intro S1 hS; exact stp_ix rfl (hS.op rfl) (hS.op rfl) (hS.ch _ _ rfl) rfl (by as_aux_lemma => kernel_rfl) (by first | rfl | exact (Int.toNat_of_nonneg (by omega)).symm) (by first | assumption | omega | (simp; omega)) (by first | exact Nat.le_refl _ | exact Nat.le_of_eq (ivals_len _).symm | exact Nat.le_of_eq (irows_len _).symm | (refine Nat.le_trans ?_ (Nat.le_of_eq (ivals_len _).symm); (first | omega | (simp; done) | (simp; omega))) | (refine Nat.le_trans ?_ (Nat.le_of_eq (irows_len _).symm); (first | omega | (simp; done) | (simp; omega))))); apply draw_put rfl; (intro S1 hS; exact stp_loadR rfl (by as_aux_lemma => kernel_rfl) (hS.op rfl) (hS.ch _ _ rfl) rfl (by first | assumption | exact ivals_get (by assumption) | exact irows_get (by assumption) | exact ivals_get (by omega) | exact irows_get (by omega) | rfl) (by first | exact ivals_len _ | assumption | rfl)); apply draw_put rfl; (intro S1 hS; exact stp_move rfl (hS.op rfl)); apply draw_put rfl; (intro S1 hS; exact stp_move rfl (hS.op rfl)); apply draw_put rfl; (intro S1 hS; exact stp_ix rfl (hS.op rfl) (hS.op rfl) (hS.ch _ _ rfl) rfl (by as_aux_lemma => kernel_rfl) (by first | rfl | exact (Int.toNat_of_nonneg (by omega)).symm) (by first | assumption | omega | (simp; omega)) (by first | exact Nat.le_refl _ | exact Nat.le_of_eq (ivals_len _).symm | exact Nat.le_of_eq (irows_len _).symm | (refine Nat.le_trans ?_ (Nat.le_of_eq (ivals_len _).symm); (first | omega | (simp; done) | (simp; omega))) | (refine Nat.le_trans ?_ (Nat.le_of_eq (irows_len _).symm); (first | omega | (simp; done) | (simp; omega))))); apply draw_put rfl; (intro S1 hS; exact stp_loadV rfl (by as_aux_lemma => kernel_rfl) (hS.op rfl) (hS.ch _ _ rfl) rfl (by first | assumption | exact ivals_get (by assumption) | exact irows_get (by assumption) | exact ivals_get (by omega) | exact irows_get (by omega) | rfl)); apply draw_put rfl; (intro S1 hS; exact stp_ixE rfl (hS.op rfl) (hS.op rfl) (hS.ch _ _ rfl) rfl (by as_aux_lemma => kernel_rfl) (by first | assumption | exact ivals_get (by assumption) | exact irows_get (by assumption) | exact ivals_get (by omega) | exact irows_get (by omega) | rfl) (by first | rfl | exact (Int.toNat_of_nonneg (by omega)).symm) (by first | assumption | omega | (simp; omega)) (by first | exact Nat.le_refl _ | exact Nat.le_of_eq (ivals_len _).symm | exact Nat.le_of_eq (irows_len _).symm | (refine Nat.le_trans ?_ (Nat.le_of_eq (ivals_len _).symm); (first | omega | (simp; done) | (simp; omega))) | (refine Nat.le_trans ?_ (Nat.le_of_eq (irows_len _).symm); (first | omega | (simp; done) | (simp; omega))))); apply draw_put rfl; (intro S1 hS; exact stp_loadE' rfl (by as_aux_lemma => kernel_rfl) (hS.op rfl) (hS.ch _ _ rfl) rfl (by first | assumption | exact ivals_get (by assumption) | exact irows_get (by assumption) | exact ivals_get (by omega) | exact irows_get (by omega) | rfl) (by first | assumption | exact ivals_get (by assumption) | exact irows_get (by assumption) | exact ivals_get (by omega) | exact irows_get (by omega) | rfl)); exact Draw.nil)
      · rfl
      ((apply rest_one 10 rfl (by as_aux_lemma => kernel_rfl) rfl rfl; (exact stp_assign rfl rfl)); (refine rest_done (by as_aux_lemma => kernel_rfl) ?_; skip))
      have no : ∀ (hno : ¬ (mBit mask g = true ∧ bat B d = false)), (List.range (g + 1)).foldl (mStep T mask c) s0 = (B, O) := fun hno => by rw [hst, if_neg hno]
      have hmg : mask < 1000000 := by omega
      have hg64 : g ≤ 64 := by omega
      (refine fin_seq ?_; refine goes_seq ?_; refine goes_region ?_; apply run_step rfl; (exact stp_move rfl rfl); apply run_step rfl; (exact stp_move rfl rfl); apply run_step rfl; (first | exact stp_convN (k2 := .u64) rfl rfl (by as_aux_lemma => kernel_rfl) (by as_aux_lemma => kernel_rfl) (by rw [IntKind.wrap_u64]; omega) | exact stp_shrN (g := g) rfl rfl rfl hg64 | exact stp_bit rfl rfl hmg | exact stp_eqBit rfl rfl); apply run_step rfl; (first | exact stp_convN (k2 := .u64) rfl rfl (by as_aux_lemma => kernel_rfl) (by as_aux_lemma => kernel_rfl) (by rw [IntKind.wrap_u64]; omega) | exact stp_shrN (g := g) rfl rfl rfl hg64 | exact stp_bit rfl rfl hmg | exact stp_eqBit rfl rfl); apply run_step rfl; (first | exact stp_convN (k2 := .u64) rfl rfl (by as_aux_lemma => kernel_rfl) (by as_aux_lemma => kernel_rfl) (by rw [IntKind.wrap_u64]; omega) | exact stp_shrN (g := g) rfl rfl rfl hg64 | exact stp_bit rfl rfl hmg | exact stp_eqBit rfl rfl); apply run_step rfl; (first | exact stp_convN (k2 := .u64) rfl rfl (by as_aux_lemma => kernel_rfl) (by as_aux_lemma => kernel_rfl) (by rw [IntKind.wrap_u64]; omega) | exact stp_shrN (g := g) rfl rfl rfl hg64 | exact stp_bit rfl rfl hmg | exact stp_eqBit rfl rfl); apply run_step rfl; (exact stp_move rfl rfl))
      refine run_bool 46 rfl (fun hmb => ?_) (fun hmb => ?_)
      · (apply run_gYes rfl rfl rfl; (exact stp_move rfl rfl); apply run_gYes rfl rfl rfl; (exact stp_move rfl rfl); apply run_gYes rfl rfl rfl; (exact stp_ix rfl rfl rfl rfl rfl (by as_aux_lemma => kernel_rfl) rfl hd.1 (Nat.le_of_eq hbl.symm)); apply run_gYes rfl rfl rfl; (exact stp_loadV rfl (by as_aux_lemma => kernel_rfl) rfl rfl rfl (by first | assumption | exact ivals_get (by assumption) | exact irows_get (by assumption) | exact ivals_get (by omega) | exact irows_get (by omega) | rfl)); apply run_gYes rfl rfl rfl; (exact stp_not rfl rfl); apply run_step rfl; (exact stp_pickT rfl rfl rfl); refine run_nil ?_; refine fin_seq ?_)
        refine goes_cond rfl (fun hb => ?_) (fun hb => ?_)
        · have hb : bat B d = false := by simpa using hb
          have hv : (List.range (g + 1)).foldl (mStep T mask c) s0 = (B.set d true, O ++ [(d : Int)]) := by rw [hst, if_pos ⟨hmb, hb⟩]
          (refine goes_seq ?_; refine goes_region ?_; apply run_step rfl; (exact stp_move rfl rfl); apply run_step rfl; (exact stp_move rfl rfl); apply run_step rfl; (first | exact stp_ix rfl rfl rfl rfl rfl (by as_aux_lemma => kernel_rfl) rfl hd.1 (Nat.le_of_eq hbl.symm) | exact stp_stB rfl rfl rfl rfl rfl (by rw [hBl]; exact hd.1) (by as_aux_lemma => kernel_rfl)); apply run_step rfl; (first | exact stp_ix rfl rfl rfl rfl rfl (by as_aux_lemma => kernel_rfl) rfl hd.1 (Nat.le_of_eq hbl.symm) | exact stp_stB rfl rfl rfl rfl rfl (by rw [hBl]; exact hd.1) (by as_aux_lemma => kernel_rfl)); refine run_nil ?_; refine fin_seq ?_; refine goes_region ?_; apply run_step rfl; (exact stp_move rfl rfl); apply run_step rfl; (exact stp_move rfl rfl); apply run_step rfl; (exact stp_lit1I (E := 2) rfl (by as_aux_lemma => kernel_rfl) rfl); apply run_step rfl; (exact stp_appI rfl (by as_aux_lemma => kernel_rfl) rfl rfl rfl (by first | rfl | assumption | (simp; done)) rfl rfl (by omega)); apply run_step rfl; (exact stp_assign rfl rfl); refine run_nil ?_; refine fin_block ?_; refine fin_seq ?_; refine goes_region ?_; apply run_step rfl; (exact stp_move rfl rfl); apply run_step rfl; (exact stp_add rfl rfl rfl (by first | exact IntWalk.i64_in _ (by omega) | rfl)); apply run_step rfl; (exact stp_assign rfl rfl); refine run_nil ?_)
          exact fin_round (g + 1, (B.set d true, O ++ [(d : Int)])) ⟨hgn, hv⟩ (by show ng - (g + 1) < ng - g; omega) (Wk.of ⟨rfl, rfl, rfl, by simp; rfl, rfl, rfl, trivial⟩ ⟨rfl, rfl, rfl, trivial⟩ trivial)
        · have hb : bat B d = true := by simpa using hb
          (refine goes_skip ?_; refine fin_block ?_; refine fin_seq ?_; refine goes_region ?_; apply run_step rfl; (exact stp_move rfl rfl); apply run_step rfl; (exact stp_add rfl rfl rfl (by first | exact IntWalk.i64_in _ (by omega) | rfl)); apply run_step rfl; (exact stp_assign rfl rfl); refine run_nil ?_)
          exact fin_round (g + 1, (B, O)) ⟨hgn, no (fun h => by rw [hb] at h; cases h.2)⟩ (by show ng - (g + 1) < ng - g; omega) (Wk.of ⟨rfl, rfl, rfl, rfl, rfl, rfl, trivial⟩ ⟨rfl, rfl, rfl, trivial⟩ trivial)
      · (apply run_gNo rfl rfl rfl rfl rfl; apply run_gNo rfl rfl rfl rfl rfl; apply run_gNo rfl rfl rfl rfl rfl; apply run_gNo rfl rfl rfl rfl rfl; apply run_gNo rfl rfl rfl rfl rfl; apply run_step rfl; (exact stp_pickF rfl rfl rfl); refine run_nil ?_; refine fin_seq ?_)
        refine goes_cond rfl (fun e => by cases e) (fun _ => ?_)
        (refine goes_skip ?_; refine fin_block ?_; refine fin_seq ?_; refine goes_region ?_; apply run_step rfl; (exact stp_move rfl rfl); apply run_step rfl; (exact stp_add rfl rfl rfl (by first | exact IntWalk.i64_in _ (by omega) | rfl)); apply run_step rfl; (exact stp_assign rfl rfl); refine run_nil ?_)
        exact fin_round (g + 1, (B, O)) ⟨hgn, no (fun h => by rw [hmb] at h; cases h.1)⟩ (by show ng - (g + 1) < ng - g; omega) (Wk.of ⟨rfl, rfl, rfl, rfl, rfl, rfl, trivial⟩ ⟨rfl, rfl, rfl, trivial⟩ trivial)
    · obtain rfl : g = ng := by omega
      (refine goes_exit ?_; refine fin_exit_then ?_; refine fin_exit_then ?_; refine fin_exit_eq ?_; refine fin_block ?_; refine fin_seq ?_; refine goes_region ?_; apply run_step rfl; (exact stp_move rfl rfl); apply run_step rfl; (exact stp_add rfl rfl rfl (by first | exact IntWalk.i64_in _ (by omega) | rfl)); apply run_step rfl; (exact stp_assign rfl rfl); refine run_nil ?_)
      exact fin_round (i + 1, (B, O)) ⟨hiO, hok, by rw [← hfin, hfo]; show mLoop _ _ _ (n + 1 - (i + 1)) _ _ = _; rw [show n + 1 - (i + 1) = n - i by omega]⟩ (by show n + 1 - (i + 1) < n + 1 - i; omega) (Wk.of ⟨rfl, rfl, rfl, rfl, rfl, trivial⟩ ⟨rfl, rfl, rfl, trivial⟩ trivial)
  · have hio : i = O.length := by omega
    have hOM : mem T ng n mask = (B, O) := by
      rw [← hl, show n + 1 - i = (n - i) + 1 by omega, mLoop, if_neg (by show ¬ i < O.length; omega)]
    rw [hOM]
    (refine goes_exit ?_; refine fin_exit_then ?_; refine fin_exit_then ?_; refine fin_exit_eq ?_; refine fin_seq ?_; refine goes_seq ?_; refine goes_region ?_; apply run_step rfl; (exact stp_move rfl rfl); apply run_step rfl; (exact stp_assign rfl rfl); refine run_nil ?_; refine fin_seq ?_; refine goes_ret ?_)
    exact fin_ret1 (.inl rfl) rfl (.tmp rfl) ⟨rfl, trivial⟩ trivial
end Go.Proofs.Ytpjglifijdcgnaa

/- Shortest words to all cosets: the program's cosetWords. -/
namespace Go.Proofs.Ytpjglifijdcgnaa
open Go.RowKit

theorem qGet {pre O : List Int} {o i c : Nat} (h : pre.length = o) (hi : i < O.length) (hc : iget O i = (c : Int)) : (ivals (pre ++ O.drop i))[(o + 0) * 1]? = some (I6 (c : Int)) := by
  apply iget_at
  rw [List.getElem?_append_right (by omega), show (o + 0) * 1 - pre.length = 0 by omega, List.getElem?_drop, Nat.add_zero, List.getElem?_eq_getElem hi, ← hc, iget_lt hi]
theorem qLen {pre O : List Int} {o i : Nat} (h : pre.length = o) (hi : i ≤ O.length) : (o + (O.length - i)) * 1 = (ivals (pre ++ O.drop i)).length := by
  rw [ivals_len, List.length_append, List.length_drop, h, Nat.mul_one]
theorem qApp1 {pre O : List Int} {o i : Nat} (h : pre.length = o) (hi : i ≤ O.length) (d : Int) : (ivals (pre ++ O.drop i)).drop (o * 1) ++ ((ivals [d]).drop (0 * 1)).take (1 * 1) = ivals ([] ++ (O ++ [d]).drop i) := by
  have h1 : (ivals (pre ++ O.drop i)).drop (o * 1) = ivals (O.drop i) := by
    rw [show ivals (pre ++ O.drop i) = ivals pre ++ ivals (O.drop i) by simp [ivals], List.drop_append_of_le_length (by rw [ivals_len]; omega), List.drop_of_length_le (by rw [ivals_len]; omega), List.nil_append]
  rw [h1, List.drop_append_of_le_length hi]
  simp [ivals]
theorem qApp2 {pre O : List Int} {i : Nat} (hi : i ≤ O.length) (d : Int) : ivals (pre ++ O.drop i) ++ ((ivals [d]).drop (0 * 1)).take (1 * 1) = ivals (pre ++ (O ++ [d]).drop i) := by
  rw [List.drop_append_of_le_length hi]
  simp [ivals]
theorem qNext {pre O : List Int} {i c : Nat} (hi : i < O.length) (hc : iget O i = (c : Int)) : pre ++ O.drop i = (pre ++ [(c : Int)]) ++ O.drop (i + 1) := by
  rw [List.drop_eq_getElem_cons hi, ← iget_lt hi, hc]; simp

set_option maxRecDepth 100000 in
set_option maxHeartbeats 2000000 in
theorem implShort_fc (T : List (List Int)) (ng n : Nat) (hng : T.length = ng) (hpos : 0 < ng) (hT : Leads T n) (hn : 0 < n) (hn4 : n ≤ 400) (hg5 : ng ≤ 5) :
    FC Try.prog 66 [(1005, imRo T)] [o1 (.sl 1005 0 ng)] (if tooLong (bfs T ng n).1 = true then [] else [(14, imOw (bfs T ng n).1)]) (if tooLong (bfs T ng n).1 = true then .tup [.one (.val (.slice none 0 0)), .one (.val (I6 3))] else .tup [.one (.sl 14 0 n), .one (.val (I6 0))]) [] := by
  have hlen : (irows T).length = ng := by rw [irows_len, hng]
  have hr0 : (lget T 0).length = n := hT.len 0 (by omega)
  have hrow : (irows T)[0]? = some (ivals (lget T 0)) := irows_get (by omega)
  have hSz := sizeR_fc 1005 ng
  refine fc_enter (nt := 72) Try.func66 rfl rfl (by simp) fun w0 ω0 => ?_
  have hbl0 : (bvals (List.replicate n false)).length = n := by rw [bvals_len]; simp
  rw [← hr0] at hbl0
  have hrp : (List.replicate (lget T 0).length false).length = (lget T 0).length := by simp
  (refine goes_seq ?_; refine goes_region ?_; apply run_step rfl; (exact stp_assign rfl rfl); apply run_step rfl; (exact stp_assign rfl rfl); refine run_nil ?_; refine fin_seq ?_; refine goes_seq ?_; refine goes_region ?_; apply run_step rfl; (exact stp_move rfl rfl); apply run_step rfl; (first | exact stp_ix (j := 0) rfl rfl rfl rfl rfl (by as_aux_lemma => kernel_rfl) rfl hpos (Nat.le_of_eq hlen.symm) | exact stp_makeB (E := 4) rfl (by as_aux_lemma => kernel_rfl) (by as_aux_lemma => kernel_rfl) rfl rfl rfl rfl (by omega) | exact stp_ix (j := 0) rfl rfl rfl rfl rfl (by as_aux_lemma => kernel_rfl) rfl (by omega) (Nat.le_of_eq hbl0.symm) | exact stp_stB (bs := List.replicate (lget T 0).length false) rfl rfl rfl rfl rfl (by rw [hrp]; omega) (by as_aux_lemma => kernel_rfl)); apply run_step rfl; (exact stp_loadR rfl (by as_aux_lemma => kernel_rfl) rfl rfl rfl (by first | assumption | exact ivals_get (by assumption) | exact irows_get (by assumption) | exact ivals_get (by omega) | exact irows_get (by omega) | rfl) (by first | exact ivals_len _ | assumption | rfl)); apply run_step rfl; (exact stp_len rfl rfl rfl (by as_aux_lemma => kernel_rfl)); apply run_step rfl; (exact stp_makeR (E := 37) (F := 2) rfl (by as_aux_lemma => kernel_rfl) (by as_aux_lemma => kernel_rfl) (by as_aux_lemma => kernel_rfl) rfl rfl rfl rfl (by omega)); apply run_step rfl; (exact stp_assign rfl rfl); refine run_nil ?_; refine fin_seq ?_; refine goes_seq ?_; refine goes_region ?_; apply run_step rfl; (exact stp_move rfl rfl); apply run_step rfl; (exact stp_len rfl rfl rfl (by as_aux_lemma => kernel_rfl)); apply run_step rfl; (first | exact stp_ix (j := 0) rfl rfl rfl rfl rfl (by as_aux_lemma => kernel_rfl) rfl hpos (Nat.le_of_eq hlen.symm) | exact stp_makeB (E := 4) rfl (by as_aux_lemma => kernel_rfl) (by as_aux_lemma => kernel_rfl) rfl rfl rfl rfl (by omega) | exact stp_ix (j := 0) rfl rfl rfl rfl rfl (by as_aux_lemma => kernel_rfl) rfl (by omega) (Nat.le_of_eq hbl0.symm) | exact stp_stB (bs := List.replicate (lget T 0).length false) rfl rfl rfl rfl rfl (by rw [hrp]; omega) (by as_aux_lemma => kernel_rfl)); apply run_step rfl; (exact stp_assign rfl rfl); refine run_nil ?_; refine fin_seq ?_; refine goes_seq ?_; refine goes_region ?_; apply run_step rfl; (exact stp_move rfl rfl); apply run_step rfl; (first | exact stp_ix (j := 0) rfl rfl rfl rfl rfl (by as_aux_lemma => kernel_rfl) rfl hpos (Nat.le_of_eq hlen.symm) | exact stp_makeB (E := 4) rfl (by as_aux_lemma => kernel_rfl) (by as_aux_lemma => kernel_rfl) rfl rfl rfl rfl (by omega) | exact stp_ix (j := 0) rfl rfl rfl rfl rfl (by as_aux_lemma => kernel_rfl) rfl (by omega) (Nat.le_of_eq hbl0.symm) | exact stp_stB (bs := List.replicate (lget T 0).length false) rfl rfl rfl rfl rfl (by rw [hrp]; omega) (by as_aux_lemma => kernel_rfl)); apply run_step rfl; (first | exact stp_ix (j := 0) rfl rfl rfl rfl rfl (by as_aux_lemma => kernel_rfl) rfl hpos (Nat.le_of_eq hlen.symm) | exact stp_makeB (E := 4) rfl (by as_aux_lemma => kernel_rfl) (by as_aux_lemma => kernel_rfl) rfl rfl rfl rfl (by omega) | exact stp_ix (j := 0) rfl rfl rfl rfl rfl (by as_aux_lemma => kernel_rfl) rfl (by omega) (Nat.le_of_eq hbl0.symm) | exact stp_stB (bs := List.replicate (lget T 0).length false) rfl rfl rfl rfl rfl (by rw [hrp]; omega) (by as_aux_lemma => kernel_rfl)); refine run_nil ?_; refine fin_seq ?_; refine goes_seq ?_; refine goes_seq ?_; refine goes_region ?_; apply run_step rfl; (exact stp_lit1I (E := 2) rfl (by as_aux_lemma => kernel_rfl) rfl); apply run_step rfl; (exact stp_assign rfl rfl); refine run_nil ?_; refine fin_seq ?_; refine goes_block ?_)
  refine goes_loop (fun q : Nat × BSt × List Int × Nat => St.of [(0, o1 (.sl 1005 0 ng)), (4, o1 (.sl 14 0 n)), (5, o1 (.sl 17 0 n)), (6, o1 (.sl 20 q.2.2.2 (q.2.1.2.2.length - q.1)))] [(1005, imRo T), (14, imOw q.2.1.1), (17, boOw q.2.1.2.1), (20, leOw (q.2.2.1 ++ q.2.1.2.2.drop q.1))])
    (fun q => q.1 ≤ q.2.1.2.2.length ∧ BOK n q.2.1 ∧ bLoop T ng (n + 1 - q.1) q.1 q.2.1 = bfs T ng n ∧ q.2.2.1.length = q.2.2.2 ∧ ∀ k, k < q.1 → (lget q.2.1.1 (iget q.2.1.2.2 k).toNat).length ≤ 64) (fun q => n + 1 - q.1) (0, bStart n, [], 0) ⟨Nat.zero_le _, bStart_ok hn, rfl, rfl, fun k hk => by omega⟩ (Wk.of ⟨rfl, by rw [← hr0]; rfl, by rw [← hr0]; rfl, rfl, trivial⟩ ⟨rfl, by rw [← hr0]; rfl, by rw [← hr0]; rfl, rfl, trivial⟩ trivial) ?_
  clear hbl0 hrp
  rintro ⟨i, ⟨W, B, O⟩, pre, o⟩ ⟨hi, hok, hl, hpre, hsh⟩
  dsimp only at hi hl hpre hsh ⊢
  have hOn : O.length ≤ n := hok.le
  (refine goes_seq ?_; refine goes_seq ?_; refine goes_region ?_; apply run_step rfl; (exact stp_move rfl rfl); apply run_step rfl; (exact stp_len rfl rfl rfl (by as_aux_lemma => kernel_rfl)); apply run_step rfl; (exact stp_bin rfl rfl rfl rfl); refine run_nil ?_; refine fin_seq ?_)
  refine goes_cond rfl (fun h => ?_) (fun h => ?_)
  · have hlt : i < O.length := by
      have := of_decide_eq_true h; omega
    have hgrf : BGrow n (W, B, O) (bfs T ng n) := by rw [← hl]; exact (bLoop_ok hT hng _ _ _ hok).2
    have hl' : bLoop T ng (n - i) (i + 1) (bRow T ng (iget O i).toNat (W, B, O)) = bfs T ng n := by
      rw [← hl, show n + 1 - i = (n - i) + 1 by omega]; exact (bLoop_step (T := T) (ng := ng) (s := (W, B, O)) hlt).symm
    obtain ⟨c, hc1, hc2, hc3⟩ := hok.q i hlt
    dsimp only at hc1 hc3
    rw [hc1, Int.toNat_natCast] at hl'
    have g1 := qGet hpre hlt hc1
    have gl : (o + (O.length - i)) * 1 ≤ (ivals (pre ++ O.drop i)).length := Nat.le_of_eq (qLen hpre hi)
    have hWl0 : W.length = n := hok.l1
    have hrW0 : (irows W)[c]? = some (ivals (lget W c)) := irows_get (by omega)
    have hoi : 0 < O.length - i := by omega
    (refine goes_skip ?_; refine fin_seq ?_; refine goes_seq ?_; refine goes_block ?_; refine goes_seq ?_; refine goes_region ?_; apply run_step rfl; (exact stp_move rfl rfl); apply run_step rfl; (exact stp_indexAddr (k := 1) (j := 0) rfl rfl rfl rfl rfl (by as_aux_lemma => kernel_rfl) rfl hoi gl (by omega)); apply run_step rfl; (exact stp_loadV rfl (by as_aux_lemma => kernel_rfl) rfl rfl rfl (by first | assumption | exact ivals_get (by assumption) | exact irows_get (by assumption) | exact ivals_get (by omega) | exact irows_get (by omega) | rfl)); apply run_step rfl; (exact stp_assign rfl rfl); refine run_nil ?_; refine fin_seq ?_; refine goes_seq ?_; refine goes_seq ?_; refine goes_region ?_; apply run_step rfl; (exact stp_move rfl rfl); apply run_step rfl; (exact stp_move rfl rfl); apply run_step rfl; (exact stp_ix rfl rfl rfl rfl rfl (by as_aux_lemma => kernel_rfl) (by first | rfl | exact (Int.toNat_of_nonneg (by omega)).symm) (by first | assumption | omega | (simp; omega)) (by first | exact Nat.le_refl _ | exact Nat.le_of_eq (ivals_len _).symm | exact Nat.le_of_eq (irows_len _).symm | (refine Nat.le_trans ?_ (Nat.le_of_eq (ivals_len _).symm); (first | omega | (simp; done) | (simp; omega))) | (refine Nat.le_trans ?_ (Nat.le_of_eq (irows_len _).symm); (first | omega | (simp; done) | (simp; omega))))); apply run_step rfl; (exact stp_loadR rfl (by as_aux_lemma => kernel_rfl) rfl rfl rfl (by first | assumption | exact ivals_get (by assumption) | exact irows_get (by assumption) | exact ivals_get (by omega) | exact irows_get (by omega) | rfl) (by first | exact ivals_len _ | assumption | rfl)); apply run_step rfl; (exact stp_len rfl rfl rfl (by as_aux_lemma => kernel_rfl)); apply run_step rfl; (exact stp_bin rfl rfl rfl rfl); refine run_nil ?_; refine fin_seq ?_)
    refine goes_if rfl (fun hbig => ?_) (fun hbig => ?_)
    · have hbig' : 64 < (lget W c).length := by omega
      have htl : tooLong (bfs T ng n).1 = true := tooLong_of (d := c) (by rw [(hgrf.met c hc2 hc3).2]; exact hbig')
      rw [if_pos htl, if_pos htl]
      (refine goes_seq ?_; refine goes_region ?_; apply run_step rfl; (exact stp_assign rfl rfl); apply run_step rfl; (exact stp_assign rfl rfl); refine run_nil ?_; refine fin_seq ?_; refine goes_ret ?_; refine fin_ret_then ?_; refine fin_ret_block ?_; refine fin_ret_then ?_; refine fin_ret_then ?_; refine fin_ret_block ?_; refine fin_ret_then ?_)
      exact fin_ret2 (.inl rfl) rfl (.tmp rfl) (.tmp rfl) trivial trivial
    · have hsmall : (lget W c).length ≤ 64 := by omega
      obtain ⟨s0, hs0⟩ : ∃ s0 : BSt, s0 = (W, B, O) := ⟨_, rfl⟩
      have hro : ∀ m, m ≤ ng → BOK n ((List.range m).foldl (bStep T c) s0) ∧ BGrow n s0 ((List.range m).foldl (bStep T c) s0) := fun m hm => bRow_ok hT hng hc2 (by rw [hs0]; exact hok) m hm
      have hO0 : s0.2.2.length = O.length := by rw [hs0]
      have hc0 : iget s0.2.2 i = (c : Int) := by rw [hs0]; exact hc1
      have hfin : bLoop T ng (n - i) (i + 1) ((List.range ng).foldl (bStep T c) s0) = bfs T ng n := by rw [hs0]; exact hl'
      have hsh0 : ∀ k, k < i + 1 → k < s0.2.2.length ∧ (lget s0.1 (iget s0.2.2 k).toNat).length ≤ 64 := fun k hk => by
        rw [hs0]
        refine ⟨by show k < O.length; omega, ?_⟩
        by_cases e : k = i
        · subst e; show (lget W (iget O k).toNat).length ≤ 64; rw [hc1, Int.toNat_natCast]; exact hsmall
        · exact hsh k (by omega)
      have hok0 : BOK n s0 := by rw [hs0]; exact hok
      (refine goes_skip ?_; refine fin_seq ?_; refine goes_seq ?_; refine goes_region ?_; apply run_step rfl; (exact stp_move rfl rfl); apply run_step rfl; (apply call_gate 73; exact stp_callR hSz (by as_aux_lemma => kernel_rfl) rfl rfl ⟨rfl, trivial⟩ trivial rfl rfl); apply run_step rfl; (exact stp_move rfl rfl); refine run_nil ?_; refine fin_seq ?_; refine goes_block ?_)
      refine goes_loop (fun q : Nat × BSt × List Int × Nat => St.of [(0, o1 (.sl 1005 0 ng)), (4, o1 (.sl 14 0 n)), (5, o1 (.sl 17 0 n)), (6, o1 (.sl 20 q.2.2.2 (q.2.1.2.2.length - i))), (7, vv (I6 c)), (36, vv (I6 ng)), (37, vv (I6 q.1))] [(1005, imRo T), (14, imOw q.2.1.1), (17, boOw q.2.1.2.1), (20, leOw (q.2.2.1 ++ q.2.1.2.2.drop i))])
        (fun q => q.1 ≤ ng ∧ (List.range q.1).foldl (bStep T c) s0 = q.2.1 ∧ q.2.2.1.length = q.2.2.2) (fun q => ng - q.1) (0, (W, B, O), pre, o) ⟨Nat.zero_le _, hs0, hpre⟩ (Wk.of ⟨rfl, rfl, rfl, rfl, rfl, rfl, rfl, trivial⟩ ⟨rfl, rfl, rfl, rfl, trivial⟩ trivial) ?_
      clear hl hl' hok hs0 hc1 g1 gl hsh hgrf hbig hWl0 hrW0 hpre hc3 hsmall
      generalize O.length = on at *
      rintro ⟨g, ⟨W, B, O⟩, pre, o⟩ ⟨hg, hfo, hpre⟩
      dsimp only at hg hfo hpre ⊢
      obtain ⟨hok, grw⟩ := hro g hg
      rw [hfo] at hok grw
      have hOl : O.length ≤ n := hok.le
      have hiO : i < O.length := Nat.lt_of_lt_of_le (by omega) grw.len
      have hWl : W.length = n := hok.l1
      have hBl : B.length = n := hok.l2
      have hbl : (bvals B).length = n := by rw [bvals_len]; exact hBl
      have hci : iget O i = (c : Int) := (grw.pre i (by omega)).trans hc0
      (refine goes_seq ?_; refine goes_region ?_; apply run_step rfl; (exact stp_bin rfl rfl rfl rfl); refine run_nil ?_; refine fin_seq ?_; refine goes_seq ?_)
      refine goes_if rfl (fun h2 => ?_) (fun h2 => ?_)
      · have hgn : g < ng := by omega
        have hd := bTo_lt hT hc2 (g := g) (by omega)
        have hrl : (lget T g).length = n := hT.len g (by omega)
        obtain ⟨d, hdd⟩ : ∃ d, bTo T c g = d := ⟨_, rfl⟩
        have hst : (List.range (g + 1)).foldl (bStep T c) s0 = bVisit (W, B, O) c g d := by
          rw [List.range_succ, List.foldl_append, hfo, ← hdd]; rfl
        rw [hdd] at hd
        have hgetd : (ivals (lget T g))[c]? = some (I6 (d : Int)) := by rw [ivals_get (by omega), hd.2]
        have hgb : (bvals B)[d]? = some (.bool (bat B d)) := bvals_get (by omega)
        have hWc : (lget W c).length < O.length := hok.len c
        have hCl := implClone_fc 14 61 c (lget W c).length W (by omega) rfl (by omega)
        (refine goes_skip ?_; refine fin_seq ?_; refine goes_seq ?_; refine goes_block ?_; refine goes_seq ?_; refine goes_region ?_; apply run_step rfl; (exact stp_move rfl rfl); apply run_step rfl; (exact stp_assign rfl rfl); refine run_nil ?_; refine fin_seq ?_; refine goes_seq ?_; refine goes_region ?_; apply run_step rfl; (exact stp_move rfl rfl); apply run_step rfl; (exact stp_move rfl rfl); apply run_step rfl; (exact stp_ix rfl rfl rfl rfl rfl (by as_aux_lemma => kernel_rfl) (by first | rfl | exact (Int.toNat_of_nonneg (by omega)).symm) (by first | assumption | omega | (simp; omega)) (by first | exact Nat.le_refl _ | exact Nat.le_of_eq (ivals_len _).symm | exact Nat.le_of_eq (irows_len _).symm | (refine Nat.le_trans ?_ (Nat.le_of_eq (ivals_len _).symm); (first | omega | (simp; done) | (simp; omega))) | (refine Nat.le_trans ?_ (Nat.le_of_eq (irows_len _).symm); (first | omega | (simp; done) | (simp; omega))))); apply run_step rfl; (exact stp_loadR rfl (by as_aux_lemma => kernel_rfl) rfl rfl rfl (by first | assumption | exact ivals_get (by assumption) | exact irows_get (by assumption) | exact ivals_get (by omega) | exact irows_get (by omega) | rfl) (by first | exact ivals_len _ | assumption | rfl)); apply run_step rfl; (exact stp_move rfl rfl); apply run_step rfl; (exact stp_ixE rfl rfl rfl rfl rfl (by as_aux_lemma => kernel_rfl) (by first | assumption | exact ivals_get (by assumption) | exact irows_get (by assumption) | exact ivals_get (by omega) | exact irows_get (by omega) | rfl) (by first | rfl | exact (Int.toNat_of_nonneg (by omega)).symm) (by first | assumption | omega | (simp; omega)) (by first | exact Nat.le_refl _ | exact Nat.le_of_eq (ivals_len _).symm | exact Nat.le_of_eq (irows_len _).symm | (refine Nat.le_trans ?_ (Nat.le_of_eq (ivals_len _).symm); (first | omega | (simp; done) | (simp; omega))) | (refine Nat.le_trans ?_ (Nat.le_of_eq (irows_len _).symm); (first | omega | (simp; done) | (simp; omega))))); apply run_step rfl; (exact stp_loadE' rfl (by as_aux_lemma => kernel_rfl) rfl rfl rfl (by first | assumption | exact ivals_get (by assumption) | exact irows_get (by assumption) | exact ivals_get (by omega) | exact irows_get (by omega) | rfl) (by first | assumption | exact ivals_get (by assumption) | exact irows_get (by assumption) | exact ivals_get (by omega) | exact irows_get (by omega) | rfl)); apply run_step rfl; (exact stp_assign rfl rfl); refine run_nil ?_; refine fin_seq ?_; refine goes_seq ?_; refine goes_region ?_; apply run_step rfl; (exact stp_move rfl rfl); apply run_step rfl; (exact stp_move rfl rfl); apply run_step rfl; (exact stp_ix rfl rfl rfl rfl rfl (by as_aux_lemma => kernel_rfl) rfl hd.1 (Nat.le_of_eq hbl.symm)); apply run_step rfl; (exact stp_loadV rfl (by as_aux_lemma => kernel_rfl) rfl rfl rfl (by first | assumption | exact ivals_get (by assumption) | exact irows_get (by assumption) | exact ivals_get (by omega) | exact irows_get (by omega) | rfl)); apply run_step rfl; (exact stp_not rfl rfl); refine run_nil ?_; refine fin_seq ?_)
        refine goes_cond rfl (fun hb => ?_) (fun hb => ?_)
        · have hb : bat B d = false := by simpa using hb
          have hv : bVisit (W, B, O) c g d = (W.set d (lget W c ++ [(g : Int)]), B.set d true, O ++ [(d : Int)]) := if_neg (by rw [hb]; simp)
          have hset : (irows W).set d (ivals (lget W c ++ [(g : Int)])) = irows (W.set d (lget W c ++ [(g : Int)])) := irows_set _ _ _
          have hrW : (irows W)[c]? = some (ivals (lget W c)) := irows_get (by omega)
          have hln : (o + (O.length - i)) * 1 = (ivals (pre ++ O.drop i)).length := qLen hpre (by omega)
          (refine goes_seq ?_; refine goes_region ?_; apply run_step rfl; (exact stp_move rfl rfl); apply run_step rfl; (exact stp_move rfl rfl); apply run_step rfl; (first | exact stp_ix rfl rfl rfl rfl rfl (by as_aux_lemma => kernel_rfl) rfl hd.1 (Nat.le_of_eq hbl.symm) | exact stp_stB rfl rfl rfl rfl rfl (by rw [hBl]; exact hd.1) (by as_aux_lemma => kernel_rfl) | (apply call_gate 84; exact stp_callN hCl (by as_aux_lemma => kernel_rfl) rfl rfl ⟨rfl, trivial⟩ ⟨⟨_, rfl, .inr rfl⟩, trivial⟩ rfl rfl rfl) | exact stp_storeRow (n := 14) (z := 61) (i := d) rfl rfl (by simp) rfl rfl (by rw [ivals_len]; simp) rfl (by rw [irows_len, hWl]; exact hd.1) (by as_aux_lemma => kernel_rfl)); apply run_step rfl; (first | exact stp_ix rfl rfl rfl rfl rfl (by as_aux_lemma => kernel_rfl) rfl hd.1 (Nat.le_of_eq hbl.symm) | exact stp_stB rfl rfl rfl rfl rfl (by rw [hBl]; exact hd.1) (by as_aux_lemma => kernel_rfl) | (apply call_gate 84; exact stp_callN hCl (by as_aux_lemma => kernel_rfl) rfl rfl ⟨rfl, trivial⟩ ⟨⟨_, rfl, .inr rfl⟩, trivial⟩ rfl rfl rfl) | exact stp_storeRow (n := 14) (z := 61) (i := d) rfl rfl (by simp) rfl rfl (by rw [ivals_len]; simp) rfl (by rw [irows_len, hWl]; exact hd.1) (by as_aux_lemma => kernel_rfl)); refine run_nil ?_; refine fin_seq ?_; refine goes_seq ?_; refine goes_region ?_; apply run_step rfl; (exact stp_move rfl rfl); apply run_step rfl; (exact stp_move rfl rfl); apply run_step rfl; (exact stp_move rfl rfl); apply run_step rfl; (exact stp_move rfl rfl); apply run_step rfl; (exact stp_ix rfl rfl rfl rfl rfl (by as_aux_lemma => kernel_rfl) (by first | rfl | exact (Int.toNat_of_nonneg (by omega)).symm) (by first | assumption | omega | (simp; omega)) (by first | exact Nat.le_refl _ | exact Nat.le_of_eq (ivals_len _).symm | exact Nat.le_of_eq (irows_len _).symm | (refine Nat.le_trans ?_ (Nat.le_of_eq (ivals_len _).symm); (first | omega | (simp; done) | (simp; omega))) | (refine Nat.le_trans ?_ (Nat.le_of_eq (irows_len _).symm); (first | omega | (simp; done) | (simp; omega))))); apply run_step rfl; (exact stp_loadR rfl (by as_aux_lemma => kernel_rfl) rfl rfl rfl (by first | assumption | exact ivals_get (by assumption) | exact irows_get (by assumption) | exact ivals_get (by omega) | exact irows_get (by omega) | rfl) (by first | exact ivals_len _ | assumption | rfl)); apply run_step rfl; (first | exact stp_ix rfl rfl rfl rfl rfl (by as_aux_lemma => kernel_rfl) rfl hd.1 (Nat.le_of_eq hbl.symm) | exact stp_stB rfl rfl rfl rfl rfl (by rw [hBl]; exact hd.1) (by as_aux_lemma => kernel_rfl) | (apply call_gate 84; exact stp_callN hCl (by as_aux_lemma => kernel_rfl) rfl rfl ⟨rfl, trivial⟩ ⟨⟨_, rfl, .inr rfl⟩, trivial⟩ rfl rfl rfl) | exact stp_storeRow (n := 14) (z := 61) (i := d) rfl rfl (by simp) rfl rfl (by rw [ivals_len]; simp) rfl (by rw [irows_len, hWl]; exact hd.1) (by as_aux_lemma => kernel_rfl)); apply run_step rfl; (exact stp_move rfl rfl); apply run_step rfl; (exact stp_lit1I (E := 2) rfl (by as_aux_lemma => kernel_rfl) rfl); apply run_step rfl; (exact stp_appI rfl (by as_aux_lemma => kernel_rfl) rfl rfl rfl (by first | rfl | assumption | (simp; done)) rfl rfl (by omega)); apply run_step rfl; (exact stp_ix rfl rfl rfl rfl rfl (by as_aux_lemma => kernel_rfl) (by first | rfl | exact (Int.toNat_of_nonneg (by omega)).symm) (by first | assumption | omega | (simp; omega)) (by first | exact Nat.le_refl _ | exact Nat.le_of_eq (ivals_len _).symm | exact Nat.le_of_eq (irows_len _).symm | (refine Nat.le_trans ?_ (Nat.le_of_eq (ivals_len _).symm); (first | omega | (simp; done) | (simp; omega))) | (refine Nat.le_trans ?_ (Nat.le_of_eq (irows_len _).symm); (first | omega | (simp; done) | (simp; omega))))); apply run_step rfl; (first | exact stp_ix rfl rfl rfl rfl rfl (by as_aux_lemma => kernel_rfl) rfl hd.1 (Nat.le_of_eq hbl.symm) | exact stp_stB rfl rfl rfl rfl rfl (by rw [hBl]; exact hd.1) (by as_aux_lemma => kernel_rfl) | (apply call_gate 84; exact stp_callN hCl (by as_aux_lemma => kernel_rfl) rfl rfl ⟨rfl, trivial⟩ ⟨⟨_, rfl, .inr rfl⟩, trivial⟩ rfl rfl rfl) | exact stp_storeRow (n := 14) (z := 61) (i := d) rfl rfl (by simp) rfl rfl (by rw [ivals_len]; simp) rfl (by rw [irows_len, hWl]; exact hd.1) (by as_aux_lemma => kernel_rfl)); refine run_nil ?_; refine fin_seq ?_; refine goes_region ?_; apply run_step rfl; (exact stp_move rfl rfl); apply run_step rfl; (exact stp_move rfl rfl); apply run_step rfl; (exact stp_lit1I (E := 2) rfl (by as_aux_lemma => kernel_rfl) rfl))
          refine run_or rfl (stpor_append (k := 1) (m := 1) (E := 2) rfl (by as_aux_lemma => kernel_rfl) rfl rfl rfl hln rfl (reads_vals (k := 1) rfl rfl rfl rfl (Nat.le_refl _)) (by omega) (by intro v hv; simp [ivals] at hv; subst hv; rfl) (by omega)) ?_ ?_
          · (apply run_step rfl; (exact stp_assign rfl rfl); refine run_nil ?_; refine fin_block ?_; refine fin_seq ?_; refine goes_region ?_; apply run_step rfl; (exact stp_add rfl rfl rfl (by first | exact IntWalk.i64_in _ (by omega) | rfl)); apply run_step rfl; (exact stp_move rfl rfl); refine run_nil ?_)
            exact fin_round (g + 1, (W.set d (lget W c ++ [(g : Int)]), B.set d true, O ++ [(d : Int)]), [], 0) ⟨hgn, hst.trans hv, rfl⟩ (by show ng - (g + 1) < ng - g; omega) (Wk.of ⟨rfl, rfl, rfl, congrArg (fun x => some (o1 (.sl 20 0 x))) (by simp; omega), rfl, rfl, rfl, trivial⟩ ⟨rfl, congrArg (fun l => some (⟨true, 37, 1, .rows 2 l []⟩ : Ch)) hset, rfl, congrArg (fun l => some (⟨true, 2, 1, .vals l⟩ : Ch)) (qApp1 hpre (by omega) (d : Int)), trivial⟩ trivial)
          · (apply run_step rfl; (exact stp_assign rfl rfl); refine run_nil ?_; refine fin_block ?_; refine fin_seq ?_; refine goes_region ?_; apply run_step rfl; (exact stp_add rfl rfl rfl (by first | exact IntWalk.i64_in _ (by omega) | rfl)); apply run_step rfl; (exact stp_move rfl rfl); refine run_nil ?_)
            exact fin_round (g + 1, (W.set d (lget W c ++ [(g : Int)]), B.set d true, O ++ [(d : Int)]), pre, o) ⟨hgn, hst.trans hv, hpre⟩ (by show ng - (g + 1) < ng - g; omega) (Wk.of ⟨rfl, rfl, rfl, congrArg (fun x => some (o1 (.sl 20 o x))) (by simp; omega), rfl, rfl, rfl, trivial⟩ ⟨rfl, congrArg (fun l => some (⟨true, 37, 1, .rows 2 l []⟩ : Ch)) hset, rfl, congrArg (fun l => some (⟨true, 2, 1, .vals l⟩ : Ch)) (qApp2 (by omega) (d : Int)), trivial⟩ trivial)
        · have hb : bat B d = true := by simpa using hb
          have hv : bVisit (W, B, O) c g d = (W, B, O) := if_pos hb
          (refine goes_skip ?_; refine fin_block ?_; refine fin_seq ?_; refine goes_region ?_; apply run_step rfl; (exact stp_add rfl rfl rfl (by first | exact IntWalk.i64_in _ (by omega) | rfl)); apply run_step rfl; (exact stp_move rfl rfl); refine run_nil ?_)
          exact fin_round (g + 1, (W, B, O), pre, o) ⟨hgn, hst.trans hv, hpre⟩ (by show ng - (g + 1) < ng - g; omega) (Wk.of ⟨rfl, rfl, rfl, rfl, rfl, rfl, rfl, trivial⟩ ⟨rfl, rfl, rfl, rfl, trivial⟩ trivial)
      · obtain rfl : g = ng := by omega
        have gl : (o + (O.length - i)) * 1 ≤ (ivals (pre ++ O.drop i)).length := Nat.le_of_eq (qLen hpre (by omega))
        (refine goes_exit ?_; refine fin_exit_then ?_; refine fin_exit_then ?_; refine fin_exit_eq ?_; refine fin_block ?_; refine fin_seq ?_; refine goes_region ?_; apply run_step rfl; (exact stp_move rfl rfl); apply run_step rfl; (exact stp_slice (k := 1) (l := 1) rfl rfl rfl rfl (by as_aux_lemma => kernel_rfl) (by omega) (bnd_some rfl rfl) bnd_none (by omega) (Nat.le_refl _) gl); apply run_step rfl; (exact stp_assign rfl rfl); refine run_nil ?_)
        exact fin_round (i + 1, (W, B, O), pre ++ [(c : Int)], o + 1) ⟨hiO, hok, by rw [← hfin, hfo]; show bLoop _ _ (n + 1 - (i + 1)) _ _ = _; rw [show n + 1 - (i + 1) = n - i by omega], by simp; omega, fun k hk => by
            obtain ⟨q1, q2⟩ := hsh0 k hk
            obtain ⟨e, e1, e2, e3⟩ := hok0.q k q1
            show (lget W (iget O k).toNat).length ≤ 64
            rw [grw.pre k q1, e1, Int.toNat_natCast, (grw.met e e2 e3).2]
            rw [e1, Int.toNat_natCast] at q2; exact q2⟩ (by show n + 1 - (i + 1) < n + 1 - i; omega) (Wk.of ⟨rfl, rfl, rfl, congrArg (fun x => some (o1 (.sl 20 (o + 1) x))) (show O.length - i - 1 = O.length - (i + 1) by omega), trivial⟩ ⟨rfl, rfl, rfl, congrArg (fun l => some (⟨true, 2, 1, .vals (ivals l)⟩ : Ch)) (qNext hiO hci), trivial⟩ trivial)
  · have hio : i = O.length := by
      have := of_decide_eq_false h; omega
    have hOM : bfs T ng n = (W, B, O) := by
      rw [← hl, show n + 1 - i = (n - i) + 1 by omega, bLoop, if_neg (by show ¬ i < O.length; omega)]
    have htl : ¬ tooLong (bfs T ng n).1 = true := fun ht => by
      rw [hOM] at ht
      obtain ⟨k, k1, k2⟩ := tooLong_at hok ht
      dsimp only at k1 k2
      have := hsh k (by omega)
      omega
    rw [if_neg htl, if_neg htl]
    rw [hOM]
    (refine goes_exit ?_; refine fin_exit_then ?_; refine fin_exit_then ?_; refine fin_exit_eq ?_; refine fin_seq ?_; refine goes_seq ?_; refine goes_region ?_; apply run_step rfl; (exact stp_move rfl rfl); apply run_step rfl; (exact stp_assign rfl rfl); apply run_step rfl; (exact stp_assign rfl rfl); refine run_nil ?_; refine fin_seq ?_; refine goes_ret ?_)
    exact fin_ret2 (.inl rfl) rfl (.tmp rfl) (.tmp rfl) ⟨rfl, trivial⟩ trivial
end Go.Proofs.Ytpjglifijdcgnaa
