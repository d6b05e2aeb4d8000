/- Maps of polygons: sides by their keys, the second move, and when each side has a partner. No program in sight. -/
import Derived.Test.YtpognnifgcacnaaPart5
import Derived.Test.YtpognnifgcacnaaPart4
import Derived.Test.YtpognnifgcacnaaPart1
namespace Go.Proofs.Ytpognnifgcacnaa
open Go.RowKit

theorem filter_none_ {p : Nat → Bool} : ∀ n, (∀ h, h < n → p h = false) → (List.range n).filter p = []
  | 0, _ => rfl
  | n + 1, H => by
    rw [List.range_succ, List.filter_append, filter_none_ n fun h hh => H h (by omega)]
    simp [H n (by omega)]
theorem filter_one_ {p : Nat → Bool} {g : Nat} (hp : p g = true) : ∀ n, g < n → (∀ h, h < n → p h = true → h = g) → (List.range n).filter p = [g]
  | 0, h, _ => by omega
  | n + 1, hg, H => by
    rw [List.range_succ, List.filter_append]
    by_cases e : g = n
    · subst e
      rw [filter_none_ g fun h hh => by
        cases hc : p h with
        | false => rfl
        | true => have := H h (by omega) hc; omega]
      simp [hp]
    · rw [filter_one_ hp n (by omega) fun h hh => H h (by omega)]
      have : p n = false := by
        cases hc : p n with
        | false => rfl
        | true => have := H n (by omega) hc; omega
      simp [this]
theorem filter_two_ {p : Nat → Bool} {g k : Nat} (hg : p g = true) (hk : p k = true) (hgk : g < k) : ∀ n, k < n → (∀ h, h < n → p h = true → h = g ∨ h = k) → (List.range n).filter p = [g, k]
  | 0, h, _ => by omega
  | n + 1, hkn, H => by
    rw [List.range_succ, List.filter_append]
    by_cases e : k = n
    · subst e
      rw [filter_one_ hg k hgk fun h hh hc => by have := H h (by omega) hc; omega]
      simp [hk]
    · rw [filter_two_ hg hk hgk n (by omega) fun h hh => H h (by omega)]
      have : p n = false := by
        cases hc : p n with
        | false => rfl
        | true => have := H n (by omega) hc; omega
      simp [this]
theorem filter_pair {p : Nat → Bool} {g k : Nat} (hg : p g = true) (hk : p k = true) (hgk : g ≠ k) {n : Nat} (h1 : g < n) (h2 : k < n) (H : ∀ h, h < n → p h = true → h = g ∨ h = k) : ((List.range n).filter p).length = 2 := by
  rcases Nat.lt_or_ge g k with h | h
  · rw [filter_two_ hg hk h n h2 H]; rfl
  · rw [filter_two_ hk hg (by omega) n h1 fun x hx hp => (H x hx hp).symm]; rfl

theorem len_two_ {α : Type} : ∀ {l : List α}, l.length = 2 → ∃ a b, l = [a, b]
  | [], h => by simp at h
  | [_], h => by simp at h
  | [a, b], _ => ⟨a, b, rfl⟩
  | _ :: _ :: _ :: _, h => by simp at h
/-- the sides of the first n corners with a key -/
def sideL (ps : List (List Int)) (K : Int × Int) (n : Nat) : List Nat := (List.range n).filter fun c => decide (keyS ps c = K)
theorem mem_sideL {ps : List (List Int)} {K : Int × Int} {n c : Nat} : c ∈ sideL ps K n ↔ c < n ∧ keyS ps c = K := by
  unfold sideL; simp
theorem sideL_succ (ps : List (List Int)) (K : Int × Int) (n : Nat) : sideL ps K (n + 1) = if keyS ps n = K then sideL ps K n ++ [n] else sideL ps K n := by
  unfold sideL
  rw [List.range_succ, List.filter_append]
  split
  · rename_i h; simp [h]
  · rename_i h; simp [h]
theorem fndK_no {k : Int × Int} : ∀ {ks : List (Int × Int)} {n : Nat}, fndK k ks n = none → k ∉ ks
  | [], _, _ => by simp
  | a :: r, n, h => by
    unfold fndK at h
    split at h
    · cases h
    · rename_i e
      have := fndK_no h
      simp [this, e]
structure GFok (ps : List (List Int)) (n : Nat) (G : List (Int × Int) × List (List (Int × Int))) : Prop where
  nd : G.1.Nodup
  len : G.2.length = G.1.length
  el : ∀ (m : Nat) (K : Int × Int), G.1[m]? = some K → lget G.2 m = (sideL ps K n).map (nrmS ps)
  all : ∀ c, c < n → keyS ps c ∈ G.1
  some_ : ∀ K, K ∈ G.1 → ∃ c, c < n ∧ keyS ps c = K
theorem gF_ok (ps : List (List Int)) : ∀ n, GFok ps n (gF ps n)
  | 0 => ⟨by simp [gF], rfl, fun m K h => by simp [gF] at h, fun c h => absurd h (by omega), fun K h => by simp [gF] at h⟩
  | n + 1 => by
    have ih := gF_ok ps n
    obtain ⟨h1, h2, h3, h4, h5⟩ := ih
    have hs : gF ps (n + 1) = match fndK (keyS ps n) (gF ps n).1 0 with
      | some m => ((gF ps n).1, (gF ps n).2.set m (lget (gF ps n).2 m ++ [nrmS ps n]))
      | none => ((gF ps n).1 ++ [keyS ps n], (gF ps n).2 ++ [[nrmS ps n]]) := rfl
    cases hf : fndK (keyS ps n) (gF ps n).1 0 with
    | some m =>
      rw [hf] at hs
      simp only at hs
      obtain ⟨hm, hk⟩ := fndK_lt _ _ _ hf
      rw [hs]
      refine ⟨h1, by simp [h2], fun j K hj => ?_, fun c hc => ?_, fun K hK => ?_⟩
      · rw [sideL_succ]
        by_cases e : j = m
        · subst e
          have hKK : keyS ps n = K := by rw [hk] at hj; exact Option.some.inj hj
          rw [if_pos hKK]
          have := h3 j K hj
          rw [List.map_append, ← this]
          unfold lget
          simp only [List.getD_eq_getElem?_getD]
          rw [List.getElem?_set_self (by omega)]
          rfl
        · have hne : keyS ps n ≠ K := fun e2 => by
            subst e2
            exact e ((List.getElem?_inj (List.getElem?_eq_some_iff.1 hj).1 h1).1 (hj.trans hk.symm))
          rw [if_neg hne, ← h3 j K hj]
          unfold lget
          simp only [List.getD_eq_getElem?_getD]
          rw [List.getElem?_set_ne (by omega)]
      · by_cases e : c = n
        · subst e; exact List.mem_of_getElem? hk
        · exact h4 c (by omega)
      · obtain ⟨c, a, b⟩ := h5 K hK
        exact ⟨c, by omega, b⟩
    | none =>
      rw [hf] at hs
      simp only at hs
      have hno := fndK_no hf
      rw [hs]
      refine ⟨?_, by simp [h2], fun j K hj => ?_, fun c hc => ?_, fun K hK => ?_⟩
      · rw [List.nodup_append]
        refine ⟨h1, by simp, fun a ha b hb => ?_⟩
        simp at hb; subst hb
        intro e; subst e; exact hno ha
      · rw [sideL_succ]
        by_cases e : j < (gF ps n).1.length
        · rw [List.getElem?_append_left e] at hj
          have hne : keyS ps n ≠ K := fun e2 => by subst e2; exact hno (List.mem_of_getElem? hj)
          rw [if_neg hne, ← h3 j K hj]
          unfold lget
          simp only [List.getD_eq_getElem?_getD]
          rw [List.getElem?_append_left (by omega)]
        · rw [List.getElem?_append_right (by omega)] at hj
          have hj0 : j = (gF ps n).1.length := by
            have := (List.getElem?_eq_some_iff.1 hj).1
            simp at this; omega
          subst hj0
          rw [Nat.sub_self] at hj
          have hKK : keyS ps n = K := by simpa using hj
          rw [if_pos hKK]
          have hnil : sideL ps K n = [] := by
            cases hl : sideL ps K n with
            | nil => rfl
            | cons a r =>
              have : a ∈ sideL ps K n := by rw [hl]; simp
              obtain ⟨ha, hb⟩ := mem_sideL.1 this
              have := h4 a ha
              rw [hb, ← hKK] at this
              exact absurd this hno
          rw [hnil]
          unfold lget
          simp only [List.getD_eq_getElem?_getD]
          rw [List.getElem?_append_right (by omega), h2, Nat.sub_self]
          rfl
      · by_cases e : c = n
        · subst e; simp
        · exact List.mem_append_left _ (h4 c (by omega))
      · rcases List.mem_append.1 hK with h | h
        · obtain ⟨c, a, b⟩ := h5 K h
          exact ⟨c, by omega, b⟩
        · simp at h; exact ⟨n, by omega, h.symm⟩

/-- neighbouring corners have different vertices -/
def AdjNe (ps : List (List Int)) : Prop := ∀ c, c < lenSS ps → vtx ps c ≠ vtx ps (nxP ps c)
theorem adjNe_of {n : Int} {ps : List (List Int)} (ok : PsOk n ps) : AdjNe ps := fun c hc => by
  obtain ⟨k, i, h1, h2, rfl⟩ := corner_of ps c hc
  have hp := ok.poly k h1
  unfold polyOk at hp
  simp only [Bool.and_eq_true, List.all_eq_true, List.mem_range, polyAt, decide_eq_true_eq] at hp
  have h3 := (hp.2 i h2).2
  rw [nxP_at ps k i h1 h2]
  unfold vtx
  rw [flat_at ps k i h1 h2, flat_at ps k _ h1 (Nat.mod_lt _ (by omega))]
  simpa using h3
/-- the two flags of a side, from its lesser vertex -/
def nA (ps : List (List Int)) (c : Nat) : Nat := if vtx ps (nxP ps c) < vtx ps c then 2 * nxP ps c + 1 else 2 * c
def nB (ps : List (List Int)) (c : Nat) : Nat := if vtx ps (nxP ps c) < vtx ps c then 2 * c else 2 * nxP ps c + 1
theorem nrmS_eq (ps : List (List Int)) (c : Nat) : nrmS ps c = ((nA ps c : Int), (nB ps c : Int)) := by
  unfold nrmS nA nB
  split <;> rfl
def sdO (ps : List (List Int)) (f : Nat) : Nat := if f % 2 = 0 then f / 2 else pvP ps (f / 2)
section
variable {ps : List (List Int)}
theorem sdO_lt {f : Nat} (h : f < 2 * lenSS ps) : sdO ps f < lenSS ps := by
  unfold sdO
  split
  · omega
  · exact pvP_lt (by omega)
theorem sd_AB {f : Nat} (h : f < 2 * lenSS ps) : f = nA ps (sdO ps f) ∨ f = nB ps (sdO ps f) := by
  unfold sdO
  split
  · rename_i e
    unfold nA nB
    split
    · right; omega
    · left; omega
  · rename_i e
    have hn := nx_pv (ps := ps) (c := f / 2) (by omega)
    unfold nA nB
    rw [hn]
    split
    · left; omega
    · right; omega
theorem sdO_A {c : Nat} (h : c < lenSS ps) : sdO ps (nA ps c) = c := by
  have hp := pv_nx h
  unfold nA sdO
  split
  · rw [if_neg (by omega), show (2 * nxP ps c + 1) / 2 = nxP ps c by omega, hp]
  · rw [if_pos (by omega)]; omega
theorem sdO_B {c : Nat} (h : c < lenSS ps) : sdO ps (nB ps c) = c := by
  have hp := pv_nx h
  unfold nB sdO
  split
  · rw [if_pos (by omega)]; omega
  · rw [if_neg (by omega), show (2 * nxP ps c + 1) / 2 = nxP ps c by omega, hp]
theorem nA_lt {c : Nat} (h : c < lenSS ps) : nA ps c < 2 * lenSS ps := by
  have := nxP_lt h
  unfold nA; split <;> omega
theorem nB_lt {c : Nat} (h : c < lenSS ps) : nB ps c < 2 * lenSS ps := by
  have := nxP_lt h
  unfold nB; split <;> omega
theorem nA_ne (c : Nat) : nA ps c ≠ nB ps c := by unfold nA nB; split <;> omega
theorem own_even {c : Nat} (h : c < lenSS ps) : iget (ownL ps (lenSS ps)) (2 * c) = vtx ps c ∧ iget (othL ps (lenSS ps)) (2 * c) = vtx ps (nxP ps c) :=
  ⟨(dupL_get _ _ _ c h).1, (dupL_get _ _ _ c h).1⟩
theorem own_odd {c : Nat} (h : c < lenSS ps) : iget (ownL ps (lenSS ps)) (2 * c + 1) = vtx ps c ∧ iget (othL ps (lenSS ps)) (2 * c + 1) = vtx ps (pvP ps c) :=
  ⟨(dupL_get _ _ _ c h).2, (dupL_get _ _ _ c h).2⟩
theorem own_A {c : Nat} (h : c < lenSS ps) : iget (ownL ps (lenSS ps)) (nA ps c) = (keyS ps c).1 ∧ iget (othL ps (lenSS ps)) (nA ps c) = (keyS ps c).2 := by
  have hp := pv_nx h
  have a := own_even h
  have b := own_odd (nxP_lt h)
  rw [hp] at b
  unfold nA keyS
  split
  · exact b
  · exact a
theorem own_B {c : Nat} (h : c < lenSS ps) : iget (ownL ps (lenSS ps)) (nB ps c) = (keyS ps c).2 ∧ iget (othL ps (lenSS ps)) (nB ps c) = (keyS ps c).1 := by
  have hp := pv_nx h
  have a := own_even h
  have b := own_odd (nxP_lt h)
  rw [hp] at b
  unfold nB keyS
  split
  · exact a
  · exact b
theorem key_lt (hA : AdjNe ps) {c : Nat} (h : c < lenSS ps) : (keyS ps c).1 < (keyS ps c).2 := by
  have := hA c h
  unfold keyS
  split
  · assumption
  · show vtx ps c < vtx ps (nxP ps c)
    omega
theorem fndB_A (hA : AdjNe ps) {s g : Nat} (hs : s < lenSS ps) (hg : g < 2 * lenSS ps) : fndB ps (lenSS ps) (nA ps s) g = true ↔ ∃ t, t < lenSS ps ∧ t ≠ s ∧ keyS ps t = keyS ps s ∧ g = nA ps t := by
  obtain ⟨a1, a2⟩ := own_A hs
  unfold fndB
  simp only [Bool.and_eq_true, beq_iff_eq, Bool.not_eq_true', beq_eq_false_iff_ne, ne_eq, a1, a2]
  constructor
  · rintro ⟨⟨h1, h2⟩, h3⟩
    have hl := sdO_lt hg
    rcases sd_AB hg with e | e
    · obtain ⟨b1, b2⟩ := own_A hl
      rw [← e] at b1 b2
      refine ⟨sdO ps g, hl, fun e2 => h1 ?_, Prod.ext (b1.symm.trans h2) (b2.symm.trans h3), e⟩
      rw [e2] at e; rw [e]
    · obtain ⟨b1, b2⟩ := own_B hl
      rw [← e] at b1 b2
      have := key_lt hA hl
      have := key_lt hA hs
      rw [b1] at h2; rw [b2] at h3
      omega
  · rintro ⟨t, h1, h2, h3, rfl⟩
    obtain ⟨b1, b2⟩ := own_A h1
    rw [b1, b2, h3]
    refine ⟨⟨fun e => h2 ?_, rfl⟩, rfl⟩
    have e2 : nA ps t = nA ps s := by omega
    rw [← sdO_A h1, e2, sdO_A hs]
theorem fndB_B (hA : AdjNe ps) {s g : Nat} (hs : s < lenSS ps) (hg : g < 2 * lenSS ps) : fndB ps (lenSS ps) (nB ps s) g = true ↔ ∃ t, t < lenSS ps ∧ t ≠ s ∧ keyS ps t = keyS ps s ∧ g = nB ps t := by
  obtain ⟨a1, a2⟩ := own_B hs
  unfold fndB
  simp only [Bool.and_eq_true, beq_iff_eq, Bool.not_eq_true', beq_eq_false_iff_ne, ne_eq, a1, a2]
  constructor
  · rintro ⟨⟨h1, h2⟩, h3⟩
    have hl := sdO_lt hg
    rcases sd_AB hg with e | e
    · obtain ⟨b1, b2⟩ := own_A hl
      rw [← e] at b1 b2
      have := key_lt hA hl
      have := key_lt hA hs
      rw [b1] at h2; rw [b2] at h3
      omega
    · obtain ⟨b1, b2⟩ := own_B hl
      rw [← e] at b1 b2
      refine ⟨sdO ps g, hl, fun e2 => h1 ?_, Prod.ext (b2.symm.trans h3) (b1.symm.trans h2), e⟩
      rw [e2] at e; rw [e]
  · rintro ⟨t, h1, h2, h3, rfl⟩
    obtain ⟨b1, b2⟩ := own_B h1
    rw [b1, b2, h3]
    refine ⟨⟨fun e => h2 ?_, rfl⟩, rfl⟩
    have e2 : nB ps t = nB ps s := by omega
    rw [← sdO_B h1, e2, sdO_B hs]
theorem fndL_filter (N f : Nat) : ∀ m, fndL ps N f m = ((List.range m).filter (fndB ps N f)).map (fun (g : Nat) => (g : Int))
  | 0 => rfl
  | m + 1 => by
    have e : fndL ps N f (m + 1) = if fndB ps N f m = true then fndL ps N f m ++ [(m : Int)] else fndL ps N f m := rfl
    rw [e, List.range_succ, List.filter_append, List.map_append, ← fndL_filter N f m]
    split
    · rename_i h; simp [h]
    · rename_i h; simp [h]
/-- side t is the only other one with the key of s -/
def Mate (ps : List (List Int)) (s t : Nat) : Prop := t < lenSS ps ∧ t ≠ s ∧ keyS ps t = keyS ps s ∧ ∀ u, u < lenSS ps → u ≠ s → keyS ps u = keyS ps s → u = t
theorem fndL_A (hA : AdjNe ps) {s t : Nat} (hs : s < lenSS ps) (h : Mate ps s t) : fndL ps (lenSS ps) (nA ps s) (2 * lenSS ps) = [(nA ps t : Int)] := by
  obtain ⟨h1, h2, h3, h4⟩ := h
  rw [fndL_filter, filter_one_ ((fndB_A hA hs (nA_lt h1)).2 ⟨t, h1, h2, h3, rfl⟩) _ (nA_lt h1) fun g hg hp => by
    obtain ⟨u, a, b, c, d⟩ := (fndB_A hA hs hg).1 hp
    rw [d, h4 u a b c]]
  rfl
theorem fndL_B (hA : AdjNe ps) {s t : Nat} (hs : s < lenSS ps) (h : Mate ps s t) : fndL ps (lenSS ps) (nB ps s) (2 * lenSS ps) = [(nB ps t : Int)] := by
  obtain ⟨h1, h2, h3, h4⟩ := h
  rw [fndL_filter, filter_one_ ((fndB_B hA hs (nB_lt h1)).2 ⟨t, h1, h2, h3, rfl⟩) _ (nB_lt h1) fun g hg hp => by
    obtain ⟨u, a, b, c, d⟩ := (fndB_B hA hs hg).1 hp
    rw [d, h4 u a b c]]
  rfl
theorem mate_of (hA : AdjNe ps) {s : Nat} (hs : s < lenSS ps) (h : (fndL ps (lenSS ps) (nA ps s) (2 * lenSS ps)).length = 1) : ∃ t, Mate ps s t := by
  rw [fndL_filter, List.length_map] at h
  obtain ⟨g, hg⟩ := List.length_eq_one_iff.1 h
  have hm : ∀ x, x ∈ (List.range (2 * lenSS ps)).filter (fndB ps (lenSS ps) (nA ps s)) ↔ x = g := fun x => by rw [hg]; simp
  have h0 := (hm g).2 rfl
  rw [List.mem_filter, List.mem_range] at h0
  obtain ⟨t, a, b, c, d⟩ := (fndB_A hA hs h0.1).1 h0.2
  refine ⟨t, a, b, c, fun u hu hus hk => ?_⟩
  have hu2 := (hm (nA ps u)).1 (by rw [List.mem_filter, List.mem_range]; exact ⟨nA_lt hu, (fndB_A hA hs (nA_lt hu)).2 ⟨u, hu, hus, hk, rfl⟩⟩)
  rw [← sdO_A hu, hu2, d, sdO_A a]
theorem sideL_two {s t : Nat} (hs : s < lenSS ps) (h : Mate ps s t) : (sideL ps (keyS ps s) (lenSS ps)).length = 2 := by
  obtain ⟨h1, h2, h3, h4⟩ := h
  exact filter_pair (p := fun c => decide (keyS ps c = keyS ps s)) (g := s) (k := t) (by simp) (by simp [h3]) (fun e => h2 e.symm) hs h1 fun u hu hp => by
    by_cases e : u = s
    · exact .inl e
    · exact .inr (h4 u hu e (by simpa using hp))
theorem mate_two {s : Nat} (hs : s < lenSS ps) (h : (sideL ps (keyS ps s) (lenSS ps)).length = 2) : ∃ t, Mate ps s t := by
  obtain ⟨a, b, hab⟩ := len_two_ h
  have hm : ∀ x, x ∈ sideL ps (keyS ps s) (lenSS ps) ↔ x = a ∨ x = b := fun x => by rw [hab]; simp
  have hnd : (sideL ps (keyS ps s) (lenSS ps)).Nodup := by unfold sideL; exact List.Pairwise.filter _ List.nodup_range
  rw [hab] at hnd
  have hne : a ≠ b := by simpa using hnd
  have h0 := (hm s).1 (mem_sideL.2 ⟨hs, rfl⟩)
  rcases h0 with rfl | rfl
  · have hb := mem_sideL.1 ((hm b).2 (.inr rfl))
    exact ⟨b, hb.1, fun e => hne e.symm, hb.2, fun u hu hus hk => by rcases (hm u).1 (mem_sideL.2 ⟨hu, hk⟩) with e | e; exact absurd e hus; exact e⟩
  · have hb := mem_sideL.1 ((hm a).2 (.inl rfl))
    exact ⟨a, hb.1, hne, hb.2, fun u hu hus hk => by rcases (hm u).1 (mem_sideL.2 ⟨hu, hk⟩) with e | e; exact e; exact absurd e hus⟩
/-- some key does not have two sides: no map -/
theorem good_no (hA : AdjNe ps) {m : Nat} (hm : m < (gF ps (lenSS ps)).2.length) (h : (lget (gF ps (lenSS ps)).2 m).length ≠ 2) : mpGood ps = false := by
  have g := gF_ok ps (lenSS ps)
  have hm1 : m < (gF ps (lenSS ps)).1.length := by rw [← g.len]; exact hm
  have hK := List.getElem?_eq_getElem hm1
  obtain ⟨c, hc, hk⟩ := g.some_ _ (List.getElem_mem hm1)
  have he := g.el m _ hK
  rw [he, List.length_map, ← hk] at h
  refine goodUp_no (f := nA ps c) (nA_lt hc) fun e => ?_
  obtain ⟨t, ht⟩ := mate_of hA hc e
  exact h (sideL_two hc ht)
/-- every key has two sides: a map -/
theorem good_yes (hA : AdjNe ps) (h : ∀ m, m < (gF ps (lenSS ps)).2.length → (lget (gF ps (lenSS ps)).2 m).length = 2) : (∀ s, s < lenSS ps → ∃ t, Mate ps s t) ∧ mpGood ps = true := by
  have g := gF_ok ps (lenSS ps)
  have h1 : ∀ s, s < lenSS ps → ∃ t, Mate ps s t := fun s hs => by
    have := g.all s hs
    obtain ⟨m, hm, hme⟩ := List.getElem_of_mem this
    have hK : (gF ps (lenSS ps)).1[m]? = some (keyS ps s) := by rw [List.getElem?_eq_getElem hm, hme]
    have h2 := h m (by rw [g.len]; exact hm)
    rw [g.el m _ hK, List.length_map] at h2
    exact mate_two hs h2
  refine ⟨h1, ?_⟩
  unfold mpGood goodUp
  rw [List.all_eq_true]
  intro f hf
  rw [List.mem_range] at hf
  rw [decide_eq_true_eq]
  obtain ⟨t, ht⟩ := h1 _ (sdO_lt hf)
  rcases sd_AB hf with e | e
  · rw [e, fndL_A hA (sdO_lt hf) ht]; rfl
  · rw [e, fndL_B hA (sdO_lt hf) ht]; rfl
/-- the sides of a key with two sides are the partners of each other -/
structure P2 (z : List Int) (l : List (Int × Int)) : Prop where
  ex : ∃ x y x' y' : Nat, l = [((x : Int), (y : Int)), ((x' : Int), (y' : Int))] ∧ iget z x = (x' : Int) ∧ iget z x' = (x : Int) ∧ iget z y = (y' : Int) ∧ iget z y' = (y : Int)
theorem sideL_mem2 {K : Int × Int} {a b : Nat} (h : sideL ps K (lenSS ps) = [a, b]) : (a < lenSS ps ∧ keyS ps a = K) ∧ (b < lenSS ps ∧ keyS ps b = K) ∧ a ≠ b := by
  have hnd : (sideL ps K (lenSS ps)).Nodup := by unfold sideL; exact List.Pairwise.filter _ List.nodup_range
  refine ⟨mem_sideL.1 (by rw [h]; simp), mem_sideL.1 (by rw [h]; simp), ?_⟩
  rw [h] at hnd; simpa using hnd
/-- all keys have their two sides, and the move leads from one to the other: it is the second move -/
theorem mpTwo_of (hA : AdjNe ps) {z : List Int} (hz : z.length = 2 * lenSS ps) (h : ∀ m, m < (gF ps (lenSS ps)).2.length → P2 z (lget (gF ps (lenSS ps)).2 m)) : z = twoL ps (lenSS ps) (2 * lenSS ps) ∧ mpGood ps = true := by
  have g := gF_ok ps (lenSS ps)
  obtain ⟨hmate, hgood⟩ := good_yes hA fun m hm => by
    obtain ⟨x, y, x', y', e, _⟩ := (h m hm).ex
    rw [e]; rfl
  refine ⟨?_, hgood⟩
  have htw : ∀ F f, f < F → iget (twoL ps (lenSS ps) F) f = iget (fndL ps (lenSS ps) f (2 * lenSS ps)) 0 := by
    intro F
    induction F with
    | zero => intro f hf; omega
    | succ F ih =>
      intro f hf
      have hl := twoL_len ps (lenSS ps) F
      unfold twoL
      by_cases e : f = F
      · subst e
        conv => lhs; unfold iget
        rw [List.getD_eq_getElem?_getD, List.getElem?_append_right (by omega), hl, Nat.sub_self]; rfl
      · rw [← ih f (by omega)]
        conv => lhs; unfold iget
        rw [List.getD_eq_getElem?_getD, List.getElem?_append_left (by omega), ← List.getD_eq_getElem?_getD]; rfl
  refine iget_ext (by rw [hz, twoL_len]) fun f hf => ?_
  rw [hz] at hf
  rw [htw _ f hf]
  have hs := sdO_lt hf
  obtain ⟨t, ht⟩ := hmate _ hs
  obtain ⟨m, hm, hme⟩ := List.getElem_of_mem (g.all _ hs)
  have hK : (gF ps (lenSS ps)).1[m]? = some (keyS ps (sdO ps f)) := by rw [List.getElem?_eq_getElem hm, hme]
  obtain ⟨x, y, x', y', e, e1, e2, e3, e4⟩ := (h m (by rw [g.len]; exact hm)).ex
  rw [g.el m _ hK] at e
  have hab : ∃ a b, sideL ps (keyS ps (sdO ps f)) (lenSS ps) = [a, b] := len_two_ (by have := congrArg List.length e; simpa using this)
  obtain ⟨a, b, hab⟩ := hab
  obtain ⟨⟨ha, hka⟩, ⟨hb, hkb⟩, hne⟩ := sideL_mem2 hab
  rw [hab] at e
  simp only [List.map_cons, List.map_nil, nrmS_eq, List.cons.injEq, Prod.mk.injEq, and_true] at e
  obtain ⟨⟨p1, p2⟩, p3, p4⟩ := e
  obtain rfl : nA ps a = x := by omega
  obtain rfl : nB ps a = y := by omega
  obtain rfl : nA ps b = x' := by omega
  obtain rfl : nB ps b = y' := by omega
  have hf' := mem_sideL.2 (⟨hs, rfl⟩ : sdO ps f < lenSS ps ∧ keyS ps (sdO ps f) = keyS ps (sdO ps f))
  rw [hab] at hf'
  have hcase : (sdO ps f = a ∧ t = b) ∨ (sdO ps f = b ∧ t = a) := by
    simp at hf'
    rcases hf' with q | q
    · refine .inl ⟨q, ?_⟩
      rw [q] at ht hkb
      exact (ht.2.2.2 b hb (fun e => hne e.symm) hkb).symm
    · refine .inr ⟨q, ?_⟩
      rw [q] at ht hka
      exact (ht.2.2.2 a ha hne hka).symm
  rcases sd_AB hf with q | q
  · have hF := fndL_A hA hs ht
    rw [← q] at hF
    rw [hF]
    rcases hcase with ⟨q1, q2⟩ | ⟨q1, q2⟩
    · rw [q, q1, q2, e1]; rfl
    · rw [q, q1, q2, e2]; rfl
  · have hF := fndL_B hA hs ht
    rw [← q] at hF
    rw [hF]
    rcases hcase with ⟨q1, q2⟩ | ⟨q1, q2⟩
    · rw [q, q1, q2, e3]; rfl
    · rw [q, q1, q2, e4]; rfl
/-- the moves of sides are the zeroth move -/
theorem z0F_len (N : Nat) : ∀ c, (z0F ps N c).length = 2 * N
  | 0 => by simp [z0F]
  | c + 1 => by simp [z0F, z0F_len N c]
theorem iget_setE {z : List Int} {k : Nat} {x : Int} (h : k < z.length) : iget (z.set k x) k = x := by
  unfold iget; rw [List.getD_eq_getElem?_getD, List.getElem?_set_self h]; rfl
theorem iget_setN {z : List Int} {k j : Nat} {x : Int} (h : k ≠ j) : iget (z.set k x) j = iget z j := by
  unfold iget; rw [List.getD_eq_getElem?_getD, List.getElem?_set_ne h, ← List.getD_eq_getElem?_getD]
theorem z0F_get : ∀ c, c ≤ lenSS ps → ∀ d, d < c → iget (z0F ps (lenSS ps) c) (2 * d) = ((2 * nxP ps d + 1 : Nat) : Int) ∧ iget (z0F ps (lenSS ps) c) (2 * nxP ps d + 1) = ((2 * d : Nat) : Int)
  | 0, _, d, h => by omega
  | c + 1, hc, d, hd => by
    have hl := z0F_len (ps := ps) (lenSS ps) c
    have hn := nxP_lt (ps := ps) (c := c) (by omega)
    unfold z0F
    by_cases e : d = c
    · subst e
      exact ⟨by rw [iget_setN (by omega), iget_setE (by omega)], by rw [iget_setE (by rw [List.length_set]; omega)]⟩
    · obtain ⟨h1, h2⟩ := z0F_get c (by omega) d (by omega)
      have hne : nxP ps c ≠ nxP ps d := fun q => e (by rw [← pv_nx (ps := ps) (c := d) (by omega), ← q, pv_nx (by omega)])
      exact ⟨by rw [iget_setN (by omega), iget_setN (by omega), h1], by rw [iget_setN (by omega), iget_setN (by omega), h2]⟩
theorem z0F_zer : z0F ps (lenSS ps) (lenSS ps) = zerL ps (lenSS ps) := by
  refine iget_ext (by rw [z0F_len]; exact (dupL_len _ _ _).symm) fun k hk => ?_
  rw [z0F_len] at hk
  obtain ⟨a, b⟩ := dupL_get (fun c => ((2 * nxP ps c + 1 : Nat) : Int)) (fun c => ((2 * pvP ps c : Nat) : Int)) (lenSS ps) (k / 2) (by omega)
  by_cases e : k % 2 = 0
  · have h1 := (z0F_get (lenSS ps) (Nat.le_refl _) (k / 2) (by omega)).1
    rw [show 2 * (k / 2) = k by omega] at h1 a
    rw [h1]; exact a.symm
  · have hp := pvP_lt (ps := ps) (c := k / 2) (by omega)
    have h2 := (z0F_get (lenSS ps) (Nat.le_refl _) _ hp).2
    rw [nx_pv (by omega), show 2 * (k / 2) + 1 = k by omega] at h2
    rw [show 2 * (k / 2) + 1 = k by omega] at b
    rw [h2]; exact b.symm
end
end Go.Proofs.Ytpognnifgcacnaa

/- Maps of polygons: the loop over the map from sides to their flags. -/
namespace Go.Proofs.Ytpognnifgcacnaa
open Go.RowKit

theorem implManQ {E1 E : Nat} {lo hi : Nat} {v : Value} {d : List (List Int)} (w : World) (h : OwM E1 E w lo hi v d) (h1 : d.length ≤ 1048576) (h2 : ∀ i, i < d.length → (lget d i).length ≤ 1048576) :
    Calls Try.prog 114 #[v] w fun e w' => e = .returned (.bool (manB d)) ∧ Below w.heap.size w w' := one_val (callM (fun _ => manI_fc d h1 h2) h)
/-- the list of a key with two sides -/
theorem two_sides {ps : List (List Int)} {m : Nat} {l : List (Int × Int)} (hm : m < (gF ps (lenSS ps)).2.length) (hl : lget (gF ps (lenSS ps)).2 m = l) (h2 : l.length = 2) :
    ∃ a b : Nat, a ≠ b ∧ a < lenSS ps ∧ b < lenSS ps ∧ (gF ps (lenSS ps)).1[m]? = some (keyS ps a) ∧ keyS ps b = keyS ps a ∧ l = [((nA ps a : Int), (nB ps a : Int)), ((nA ps b : Int), (nB ps b : Int))] := by
  have g := gF_ok ps (lenSS ps)
  have hm1 : m < (gF ps (lenSS ps)).1.length := by rw [← g.len]; exact hm
  have hK := List.getElem?_eq_getElem hm1
  have he := g.el m _ hK
  rw [hl] at he
  have h3 := congrArg List.length he
  rw [List.length_map, h2] at h3
  obtain ⟨a, b, hab⟩ := len_two_ h3.symm
  obtain ⟨⟨ha, hka⟩, ⟨hb, hkb⟩, hne⟩ := sideL_mem2 hab
  refine ⟨a, b, hne, ha, hb, by rw [hK, hka], by rw [hka, hkb], ?_⟩
  rw [he, hab]
  simp [nrmS_eq]
def zSt (z : List Int) (x x' : Nat) : List Int := (z.set x (x' : Int)).set x' (x : Int)
theorem zSt_len (z : List Int) (x x' : Nat) : (zSt z x x').length = z.length := by simp [zSt]
theorem zSt_far {z : List Int} {x x' f : Nat} (h1 : f ≠ x) (h2 : f ≠ x') : iget (zSt z x x') f = iget z f := by
  unfold zSt; rw [iget_setN (by omega), iget_setN (by omega)]
theorem zSt_one {z : List Int} {x x' : Nat} (h : x ≠ x') (hx : x < z.length) : iget (zSt z x x') x = (x' : Int) := by
  unfold zSt; rw [iget_setN (by omega), iget_setE hx]
theorem zSt_two {z : List Int} {x x' : Nat} (hx : x' < z.length) : iget (zSt z x x') x' = (x : Int) := by
  unfold zSt; rw [iget_setE (by rw [List.length_set]; exact hx)]
section
variable {ps : List (List Int)}
theorem nA_inj {a b : Nat} (ha : a < lenSS ps) (hb : b < lenSS ps) (h : a ≠ b) : nA ps a ≠ nA ps b := fun e => h (by rw [← sdO_A ha, e, sdO_A hb])
theorem nB_inj {a b : Nat} (ha : a < lenSS ps) (hb : b < lenSS ps) (h : a ≠ b) : nB ps a ≠ nB ps b := fun e => h (by rw [← sdO_B ha, e, sdO_B hb])
theorem nAB_ne {a b : Nat} (ha : a < lenSS ps) (hb : b < lenSS ps) : nA ps a ≠ nB ps b := fun e => by
  by_cases h : a = b
  · subst h; exact nA_ne a e
  · exact h (by rw [← sdO_A ha, e, sdO_B hb])
/-- the two moves of a list are laid -/
theorem P2.new {z : List Int} (hz : z.length = 2 * lenSS ps) {a b : Nat} (hab : a ≠ b) (ha : a < lenSS ps) (hb : b < lenSS ps) :
    P2 (zSt (zSt z (nA ps a) (nA ps b)) (nB ps a) (nB ps b)) [((nA ps a : Int), (nB ps a : Int)), ((nA ps b : Int), (nB ps b : Int))] := by
  have h1 := nA_inj ha hb hab
  have h2 := nB_inj ha hb hab
  have l1 := nA_lt ha; have l2 := nA_lt hb; have l3 := nB_lt ha; have l4 := nB_lt hb
  refine ⟨_, _, _, _, rfl, ?_, ?_, ?_, ?_⟩
  · rw [zSt_far (nAB_ne ha ha) (nAB_ne ha hb), zSt_one h1 (by omega)]
  · rw [zSt_far (nAB_ne hb ha) (nAB_ne hb hb), zSt_two (by omega)]
  · rw [zSt_one h2 (by rw [zSt_len]; omega)]
  · rw [zSt_two (by rw [zSt_len]; omega)]
/-- the lists of other keys stay laid -/
theorem P2.keep {z : List Int} {a b m : Nat} (ha : a < lenSS ps) (hb : b < lenSS ps) (hkb : keyS ps b = keyS ps a) (hm : m < (gF ps (lenSS ps)).2.length) (hK : (gF ps (lenSS ps)).1[m]? ≠ some (keyS ps a)) (h : P2 z (lget (gF ps (lenSS ps)).2 m)) :
    P2 (zSt (zSt z (nA ps a) (nA ps b)) (nB ps a) (nB ps b)) (lget (gF ps (lenSS ps)).2 m) := by
  obtain ⟨x, y, x', y', e, e1, e2, e3, e4⟩ := h.ex
  obtain ⟨c, d, hcd, hc, hd, hkc, hkd, e'⟩ := two_sides hm e rfl
  have hne : keyS ps c ≠ keyS ps a := fun q => hK (by rw [hkc, q])
  simp only [List.cons.injEq, Prod.mk.injEq, and_true] at e'
  obtain ⟨⟨p1, p2⟩, p3, p4⟩ := e'
  obtain rfl : x = nA ps c := by omega
  obtain rfl : y = nB ps c := by omega
  obtain rfl : x' = nA ps d := by omega
  obtain rfl : y' = nB ps d := by omega
  have q1 : c ≠ a := fun q => hne (by rw [q])
  have q2 : c ≠ b := fun q => hne (by rw [q, hkb])
  have q3 : d ≠ a := fun q => hne (by rw [← hkd, q])
  have q4 : d ≠ b := fun q => hne (by rw [← hkd, q, hkb])
  refine ⟨_, _, _, _, e, ?_, ?_, ?_, ?_⟩
  · rw [zSt_far (nAB_ne hc ha) (nAB_ne hc hb), zSt_far (nA_inj hc ha q1) (nA_inj hc hb q2), e1]
  · rw [zSt_far (nAB_ne hd ha) (nAB_ne hd hb), zSt_far (nA_inj hd ha q3) (nA_inj hd hb q4), e2]
  · rw [zSt_far (nB_inj hc ha q1) (nB_inj hc hb q2), zSt_far (fun q => nAB_ne ha hc q.symm) (fun q => nAB_ne hb hc q.symm), e3]
  · rw [zSt_far (nB_inj hd ha q3) (nB_inj hd hb q4), zSt_far (fun q => nAB_ne ha hd q.symm) (fun q => nAB_ne hb hd q.symm), e4]
end
def zK (z : List Int) (x x' y y' : Nat) : Nat → List Int
  | 0 => z
  | 1 => zSt z x x'
  | _ => zSt (zSt z x x') y y'
theorem zK_step {z : List Int} {x x' y y' k : Nat} (hk : k < 2) : zK z x x' y y' (k + 1) = zSt (zK z x x' y y' k) (if k = 0 then x else y) (if k = 0 then x' else y') := by
  match k, hk with
  | 0, _ => rfl
  | 1, _ => rfl
/-- the entries that are seen are laid -/
def SN (ps : List (List Int)) (es : Array MapEntry) (seen : Array Nat) (z : List Int) : Prop := ∀ (m : Nat) (e : MapEntry), es.toList[m]? = some e → seen.contains e.born = true → P2 z (lget (gF ps (lenSS ps)).2 m)
theorem SN.push {ps : List (List Int)} {es : Array MapEntry} {seen : Array Nat} {z : List Int} (h : SN ps es seen z) (hz : z.length = 2 * lenSS ps) (hnd : (es.toList.map (·.born)).Nodup) (hlen : es.toList.length = (gF ps (lenSS ps)).2.length)
    {m : Nat} {e : MapEntry} (he : es.toList[m]? = some e) {a b : Nat} (hab : a ≠ b) (ha : a < lenSS ps) (hb : b < lenSS ps) (hK : (gF ps (lenSS ps)).1[m]? = some (keyS ps a)) (hkb : keyS ps b = keyS ps a)
    (hl : lget (gF ps (lenSS ps)).2 m = [((nA ps a : Int), (nB ps a : Int)), ((nA ps b : Int), (nB ps b : Int))]) :
    SN ps es (seen.push e.born) (zSt (zSt z (nA ps a) (nA ps b)) (nB ps a) (nB ps b)) := fun m' e' he' hs => by
  by_cases hmm : m' = m
  · subst hmm; rw [hl]; exact P2.new hz hab ha hb
  · have g := gF_ok ps (lenSS ps)
    have hm' : m' < (gF ps (lenSS ps)).2.length := by rw [← hlen]; exact (List.getElem?_eq_some_iff.1 he').1
    rw [contains_push] at hs
    have hne : (e'.born == e.born) = false := by
      cases hc : e'.born == e.born with
      | false => rfl
      | true =>
        have h1 : (es.toList.map (·.born))[m']? = some e'.born := by rw [List.getElem?_map, he']; rfl
        have h2 : (es.toList.map (·.born))[m]? = some e.born := by rw [List.getElem?_map, he]; rfl
        rw [beq_iff_eq.1 hc, ← h2] at h1
        exact absurd ((List.getElem?_inj (by rw [List.length_map]; omega) hnd).1 h1) hmm
    rw [hne, Bool.or_false] at hs
    refine P2.keep ha hb hkb hm' (fun q => hmm ?_) (h m' e' he' hs)
    exact (List.getElem?_inj (by rw [← g.len]; exact hm') g.nd).1 (q.trans hK.symm)
theorem left_none {es : Array MapEntry} {seen : Array Nat} (h : (leftOf es seen).size = 0) {e : MapEntry} (he : e ∈ es.toList) : seen.contains e.born = true := by
  cases hc : seen.contains e.born with
  | true => rfl
  | false =>
    have h1 : e ∈ leftOf es seen := Array.mem_filter.2 ⟨Array.mem_toList_iff.1 he, by rw [hc]; rfl⟩
    have := Array.size_pos_of_mem h1
    omega
theorem SN.all {ps : List (List Int)} (hA : AdjNe ps) {es : Array MapEntry} {seen : Array Nat} {z : List Int} (h : SN ps es seen z) (hz : z.length = 2 * lenSS ps) (hlen : es.toList.length = (gF ps (lenSS ps)).2.length) (h0 : (leftOf es seen).size = 0) :
    z = twoL ps (lenSS ps) (2 * lenSS ps) ∧ mpGood ps = true :=
  mpTwo_of hA hz fun m hm => by
    have hm2 : m < es.toList.length := by rw [hlen]; exact hm
    exact h m _ (List.getElem?_eq_getElem hm2) (left_none h0 (List.getElem_mem hm2))
/-- the state of the loop -/
structure ES (wB wi : World) (g0 r0 r1 r2 N mb ib clock : Nat) (es : Array MapEntry) (ps : List (List Int)) (us : List Value) (seen : Array Nat) (c0 : Nat) (z2 : List Int) : Prop where
  ms : MS wB wi g0 r0 r1 r2 (2 * N) (zerL ps N) (oneL N) z2
  mp : wi.heap[mb]? = some (.map es clock)
  it : wi.heap[ib]? = some (.mapIter (some mb) clock seen c0)
  ol : OwL (OwTs 171) wi (mb + 1) us (gF ps N).2
  up : ∀ (j : Nat) (u : Value) (g : Nat), us[j]? = some u → u.ownBlock = some g → g < ib
  lt : wB.heap.size + 4 ≤ mb ∧ mb < ib
  cl : clock ≤ c0
section
variable {wB wi : World} {g0 r0 r1 r2 N mb ib clock : Nat} {es : Array MapEntry} {ps : List (List Int)} {us : List Value} {seen : Array Nat} {c0 : Nat} {z2 : List Int}
theorem ES.sz (h : ES wB wi g0 r0 r1 r2 N mb ib clock es ps us seen c0 z2) : ib < wi.heap.size := (Array.getElem?_eq_some_iff.1 h.it).1
theorem ES.start (h : DS wB wi g0 r0 r1 r2 N mb ps N us) (hN : N = lenSS ps) (hmb : wB.heap.size + 4 ≤ mb) (hm : wi.heap[mb]? = some (.map es clock)) : ES wB (wi.alloc (.mapIter (some mb) clock #[] clock)) g0 r0 r1 r2 N mb wi.heap.size clock es ps us #[] clock (List.replicate (2 * N) 0) := by
  have hb := below_alloc1 wi (.mapIter (some mb) clock #[] clock)
  have hlt := h.mg.lt
  refine ⟨?_, (Below.heap_alloc _ _ _ hlt).trans hm, heap_alloc_new _ _, h.ol.below (innerTs _) hb, fun j u g hu hg => h.ol.lt (innerTs _) hu hg, ⟨hmb, hlt⟩, Nat.le_refl _⟩
  have := h.ms.below hb
  have e : z0F ps N N = zerL ps N := by rw [hN]; exact z0F_zer
  rw [e] at this; exact this
theorem ES.next (h : ES wB wi g0 r0 r1 r2 N mb ib clock es ps us seen c0 z2) {w1 : World} (hw : w1 = wi ∨ w1 = wi.drew) (b : Nat) : ES wB (Go.ChangeMaps.setBlock w1 ib (.mapIter (some mb) clock (seen.push b) clock)) g0 r0 r1 r2 N mb ib clock es ps us (seen.push b) clock z2 := by
  have hs := h.sz
  obtain ⟨l1, l2⟩ := h.lt
  have ho := only_blockG w1 ib (.mapIter (some mb) clock (seen.push b) clock)
  have hm : MS wB w1 g0 r0 r1 r2 (2 * N) (zerL ps N) (oneL N) z2 := by rcases hw with rfl | rfl; exact h.ms; exact h.ms.drew
  have hh : w1.heap = wi.heap := by rcases hw with rfl | rfl <;> rfl
  refine ⟨hm.only ho (by omega), ?_, ?_, ?_, h.up, h.lt, Nat.le_refl _⟩
  · rw [ho.block mb (by rw [hh]; omega) (.inl l2), hh]; exact h.mp
  · simp [Go.ChangeMaps.setBlock, hh, hs]
  · exact h.ol.same (innerTs _) fun j u g hu hg => by
      have := h.up j u g hu hg
      rw [ho.block g (by rw [hh]; omega) (.inl this), hh]
/-- a number of the second row is turned -/
theorem ES.put (h : ES wB wi g0 r0 r1 r2 N mb ib clock es ps us seen c0 z2) {w' : World} {z : List Int} (hm : MS wB w' g0 r0 r1 r2 (2 * N) (zerL ps N) (oneL N) z) (hs : ∀ g, g ≠ r2 → w'.heap[g]? = wi.heap[g]?) : ES wB w' g0 r0 r1 r2 N mb ib clock es ps us seen c0 z := by
  obtain ⟨l1, l2⟩ := h.lt
  have hr := h.ms.top.2.2.2
  exact ⟨hm, (hs mb (by omega)).trans h.mp, (hs ib (by omega)).trans h.it, h.ol.same (innerTs _) fun j u g hu hg => hs g (by have := h.ol.low j u g hu hg; omega), h.up, h.lt, h.cl⟩
end
end Go.Proofs.Ytpognnifgcacnaa

/- Maps of polygons: the program's mapOfPolygons, walked. -/
namespace Go.Proofs.Ytpognnifgcacnaa
open Go.RowKit

set_option maxRecDepth 100000 in
set_option maxHeartbeats 3200000 in
theorem mapI_any {n : Int} {v : Value} {ps : List (List Int)} (ok : PsOk n ps) (w : World) (h : RdSSc w v ps) : Calls Try.prog 118 #[v] w (MpAns ps w) := by
  obtain ⟨ao, m, c, rfl, hin0⟩ := h.rd
  have hm := hin0.2.1
  have HL := Lib.hid hin0.1
  have hm200 : m ≤ 1000 := by have := ok.len; rw [hin0.1] at this; exact this
  have hS : ∀ j, j ≤ m → begP ps j ≤ 200 := fun j hj => Nat.le_trans (lenSS_take_le ps j) ok.few
  have HS := Lib.hid hS
  clear hS
  go_enter Try.func118, Try.ntmps118
  have VS0 := VS.start w ps
  go_upto_region 1 with fail
  generalize w.alloc (.cells #[.slice none 0 0] 41) = w0 at *
  go_wp2_with fail
  go_loopw [4, 5, 27] (fun xv sv iv wr => ∃ (j : Nat) (a1 : Option Addr) (c1 : Nat) (a2 : Option Addr) (c2 : Nat), j ≤ m ∧ xv = .slice a1 (begP ps j) c1 ∧ sv = .slice a2 (begP ps j) c2 ∧ iv = .int .i64 j ∧ VS w wr ps j (begP ps j) a1 c1 a2 c2) (fun _ _ i _ => m - (intOf i).toNat)
  case atStart => exact ⟨0, none, 0, none, 0, Nat.zero_le _, by rw [begP_zero], by rw [begP_zero], rfl, by rw [begP_zero]; exact VS0⟩
  case round =>
    clear VS0
    obtain ⟨j, a1, c1, a2, c2, hj, rfl, rfl, rfl, st⟩ := hrel
    have hjb := HS.out j hj
    by_cases hlt : j < m
    · have hjl : j < ps.length := by rw [HL.out]; exact hlt
      obtain ⟨b, off, ar, nr, cr, rfl, hc, hin⟩ := (hin0.below st.bel).at_ hlt
      have hnl := hin.1
      have hn3 := ok.three hjl
      rw [hnl] at hn3
      have hb2 := HS.out (j + 1) (by omega)
      rw [begP_succ hjl, hnl] at hb2
      have HB := Lib.hid (begP_succ hjl)
      have HN := Lib.hid hnl
      have hat : ∀ i, i < nr → nxP ps (begP ps j + i) = begP ps j + (i + 1) % nr := fun i hi => by rw [nxP_at ps j i hjl (by omega), hnl]
      have HAT := Lib.hid hat
      have SV := Lib.hid st.vx
      have sl := st.lt
      have vert : ∀ (a1' : Option Addr) (c1' : Nat) (w' : World), Own w' (w.heap.size + 1) 2 a1' (begP ps j + nr) c1' (((ps.take j).flatten).map (Value.int .i64) ++ (lget ps j).map (Value.int .i64)) → wr.grownBy w' (bk a1) → VS w w' ps (j + 1) (begP ps j) a1' c1' a2 c2 := fun _ _ _ ho hg => st.vert hjl (by rw [hnl]; exact ho) hg
      have VT := Lib.hid vert
      clear vert hat hnl st
      generalize begP ps j = b0 at *
      go_wp2_with (first | (go_at_call 139; refine (sizeP_any _ _ _ _).mono ?_; rintro e w' ⟨rfl, rfl⟩) | (at_builtin; refine wpList_apN etI _ rfl _ _ rfl (w.heap.size + 1) a1 b0 c1 _ rfl SV.out ar nr cr (lget ps j) rfl hin (by omega) (by omega) ?_; intro a1' c1' w3 h3 g3 hb3))
      have s3 := VT.out _ _ _ h3 g3
      clear h3 g3 hb3 VT SV sl hc hin
      go_loopw [5, 39] (fun sv iv wi => ∃ (i : Nat) (a2 : Option Addr) (c2 : Nat), i ≤ nr ∧ sv = .slice a2 (b0 + i) c2 ∧ iv = .int .i64 i ∧ VS w wi ps (j + 1) (b0 + i) a1' c1' a2 c2) (fun _ i _ => nr - (intOf i).toNat)
      case atStart => exact ⟨0, a2, c2, Nat.zero_le _, rfl, rfl, s3⟩
      case round =>
        clear s3
        obtain ⟨i, a2, c2, hi, rfl, rfl, st⟩ := hrel
        by_cases hlt2 : i < nr
        · have hx := HAT.out i hlt2
          have hq : (i + 1) % nr < nr := Nat.mod_lt _ (by omega)
          have hr : ((i : Int) + 1).tmod (nr : Int) = (((i + 1) % nr : Nat) : Int) := by rw [show ((i : Int) + 1) = ((i + 1 : Nat) : Int) by omega]; rfl
          generalize (i + 1) % nr = q at *
          have HX := Lib.hid hx
          have SD := Lib.hid st.sd
          have ST := Lib.hid st
          have sl := st.lt
          clear st hx
          go_wp2_with (at_builtin; refine wpList_ap2 etPair _ rfl _ _ rfl (w.heap.size + 1) a2 (b0 + i) c2 (sdL ps (b0 + i)) rfl SD.out _ _ rfl (by omega) (by omega) ?_; intro a4 c4 w4 h4 g4 hb4)
          go_roundw
          case rel => exact ⟨i + 1, a4, c4, by omega, rfl, by go_num, ST.out.side (by omega) (by rw [HX.out]; omega) h4 g4⟩
          case measure => simp [intOf]; omega
        · obtain rfl : i = nr := by omega
          go_wp2_with fail
          go_roundw
          case rel => exact ⟨j + 1, a1', c1', a2, c2, by omega, by rw [HB.out, HN.out], by rw [HB.out, HN.out], by go_num, by rw [HB.out, HN.out]; exact st⟩
          case measure => simp [intOf]; omega
    · obtain rfl : j = m := by omega
      have hN : begP ps j = lenSS ps := by rw [← HL.out]; exact begP_all ps
      have hvx := st.vx
      have htk : (ps.take j).flatten = ps.flatten := by rw [← HL.out, List.take_length]
      rw [htk] at hvx
      have HV := Lib.hid hvx.ints
      have SD := Lib.hid st.sd
      have BX := Lib.hid st.bx
      have BE := Lib.hid st.bel
      have sl := st.lt
      clear st hvx htk
      generalize begP ps j = N at *
      have HN := Lib.hid hN
      clear hN
      have HMK := Lib.hid (run_mk etI .i64 .i64 (2 * (N : Int)) (2 * N) (by omega) (by omega))
      go_upto_region 15 with (go_at_call 139; refine (sizeP_any _ _ _ _).mono ?_; rintro e w' ⟨rfl, hw⟩; rw [hw]; clear hw w')
      go_cut [12] (fun s12 wx => ∃ g0 r0 r1 r2 : Nat, s12 = .slice (some ⟨g0, 0, none⟩) 3 3 ∧ MS wr wx g0 r0 r1 r2 (2 * N) (List.replicate (2 * N) 0) (List.replicate (2 * N) 0) (List.replicate (2 * N) 0))
      case first =>
        have hmk := HMK.out
        go_region
        all_goals go_wp2_with fail
        all_goals go_meet
        all_goals exact ⟨wr.heap.size + 3, _, _, _, rfl, (MS.make wr (by omega) (by omega) (by omega) (by omega) (by omega)).drew⟩
      case rest =>
        obtain ⟨g0, r0, r1, r2, rfl, ms⟩ := hcut
        clear HMK
        generalize wr = wB at *
        have hmk2 : ∀ W : World, (Instr.makeMap 172 none).run Try.prog W = .ok (.map (some W.heap.size)) (W.alloc (.map #[] 0)) := fun W => Go.RowKit.run_makeMap _ W
        go_wp2_with fail
        have MG1 := Lib.hid (MapG.new wc)
        have MS1 := Lib.hid (ms.below (below_alloc1 wc (.map #[] 0)))
        have hmb := ms.sz
        have hmlt : wc.heap.size < (wc.alloc (.map #[] 0)).heap.size := by simp
        clear hmk2 ms
        generalize wc.alloc (.map #[] 0) = w2 at *
        generalize wc.heap.size = mb at *
        go_loopw [72] (fun iv wi => ∃ (f : Nat) (z1 : List Int), f ≤ 2 * N ∧ iv = .int .i64 f ∧ (∀ i, i < f → iget z1 i = x1P i) ∧ MS wB wi g0 r0 r1 r2 (2 * N) (List.replicate (2 * N) 0) z1 (List.replicate (2 * N) 0) ∧ MapG wi mb [] []) (fun i _ => 2 * N - (intOf i).toNat)
        case atStart => exact ⟨0, _, Nat.zero_le _, rfl, fun i hi => absurd hi (by omega), MS1.out, MG1.out⟩
        case round =>
          clear MS1 MG1 hmlt
          obtain ⟨f, z1, hf, rfl, hx1, ms, mg⟩ := hrel
          have HX1 := Lib.hid hx1
          have hl1 := ms.lens.2.1
          clear hx1
          by_cases hlt3 : f < 2 * N
          · obtain ⟨x0, x1, x2⟩ := ms.cells
            obtain ⟨y1, y2⟩ := MS.int wB ms.o1 hlt3
            have hxo : bits .xor .i64 (f : Int) 1 = x1P f := by
              unfold x1P
              split
              · exact xor1_even (by assumption) (by omega)
              · exact xor1_odd (by omega) (by omega)
            have MS2 := Lib.hid (ms.st1 f (x1P f))
            have hr1 := ms.top.2.2.1
            have MG2 := Lib.hid (mg.same (w' := wr.setCell ⟨r1, f, none⟩ (.int .i64 (x1P f))) (Below.heap_setCell _ _ _ _ (by show mb ≠ r1; omega)))
            clear ms mg
            go_wp2_with fail
            go_roundw
            case rel => exact ⟨f + 1, z1.set f (x1P f), by omega, by go_num, fun i hi => by
              by_cases e : i = f
              · subst e; unfold iget; rw [List.getD_eq_getElem?_getD, List.getElem?_set_self (by omega)]; rfl
              · have := HX1.out i (by omega)
                unfold iget at this ⊢
                rw [List.getD_eq_getElem?_getD, List.getElem?_set_ne (by omega), ← List.getD_eq_getElem?_getD]; exact this, MS2.out, MG2.out⟩
            case measure => simp [intOf]; omega
          · obtain rfl : f = 2 * N := by omega
            have hz1 : z1 = oneL N := oneL_of hl1 HX1.out
            subst hz1
            have MS2 := Lib.hid ms
            have MG2 := Lib.hid mg
            clear ms mg HX1 hl1
            go_wp2_with fail
            have DS0 : DS wB wr g0 r0 r1 r2 N mb ps 0 [] := ⟨MS2.out, MG2.out, OwL.nil_⟩
            clear MS2 MG2
            go_loopw [85] (fun iv wi => ∃ (c : Nat) (us : List Value), c ≤ N ∧ iv = .int .i64 c ∧ DS wB wi g0 r0 r1 r2 N mb ps c us) (fun i _ => N - (intOf i).toNat)
            case atStart => exact ⟨0, [], Nat.zero_le _, rfl, DS0⟩
            case round =>
              clear DS0
              obtain ⟨c, us, hcN, rfl, ds⟩ := hrel
              by_cases hlt4 : c < N
              · have hcl : c < lenSS ps := by have := HN.out; omega
                have hnx := nxP_lt hcl
                rw [← HN.out] at hnx
                obtain ⟨g2, e2, -, hg2l, -, hc2, -⟩ := (SD.out.below ds.ms.bel).form (by omega)
                obtain ⟨s0, s1⟩ := hc2 c hlt4
                obtain ⟨q0, q1⟩ := sdL_kA (ps := ps) hlt4
                rw [q0] at s0
                rw [q1] at s1
                subst e2
                clear hc2 q0 q1
                obtain ⟨A, hA⟩ : ∃ A, A = 2 * c := ⟨_, rfl⟩
                obtain ⟨B, hB⟩ : ∃ B, B = 2 * nxP ps c + 1 := ⟨_, rfl⟩
                rw [← hA] at s0
                rw [← hB] at s1
                have hAN : A < 2 * N := by omega
                have hBN : B < 2 * N := by omega
                have HA := Lib.hid hA
                have HB := Lib.hid hB
                have hpb := ds.mg.lt
                have hup : ∀ (j : Nat) (u : Value) (g : Nat), us[j]? = some u → u.ownBlock = some g → g < wr.heap.size := fun j u g hu hg => ds.ol.lt (innerTs _) hu hg
                have DS1 := ds.below (below_alloc1 wr (.cells #[.int .i64 (A : Int), .int .i64 (B : Int)] 171))
                have B1 : Blk (wr.alloc (.cells #[.int .i64 (A : Int), .int .i64 (B : Int)] 171)) wr.heap.size 171 #[.int .i64 (A : Int), .int .i64 (B : Int)] := blk_at rfl
                clear hA hB ds hnx
                go_upto_region 25 with fail
                generalize wr.alloc (.cells #[.int .i64 (A : Int), .int .i64 (B : Int)] 171) = w5 at *
                generalize wr.heap.size = pb at *
                have DS2 := DS1.below (below_drew1 w5)
                obtain ⟨x0, -, -⟩ := DS2.ms.cells
                have b0 : w5.drew.cell? ⟨pb, 0, none⟩ = some (.int .i64 (A : Int)) := B1.cell 0
                have b1 : w5.drew.cell? ⟨pb, 1, none⟩ = some (.int .i64 (B : Int)) := B1.cell 1
                obtain ⟨y0, y1⟩ := MS.int wB DS2.ms.o0 hAN
                obtain ⟨z0, z1⟩ := MS.int wB DS2.ms.o0 hBN
                have hAB : ¬ (B = A) := by have := HA.out; have := HB.out; omega
                have hAB2 : ¬ (A = B) := fun e => hAB e.symm
                have MS3 := DS2.ms.st0 A (B : Int)
                obtain ⟨v0, v1⟩ := MS.int wB MS3.o0 hBN
                have v0b : (w5.setCell ⟨r0, A, none⟩ (.int .i64 (B : Int))).drew.cell? ⟨r0, B, none⟩ = some (.int .i64 (iget ((z0F ps N c).set A (B : Int)) B)) := v0
                have v1b : (w5.setCell ⟨r0, A, none⟩ (.int .i64 (B : Int))).drew.frozen? ⟨r0, B, none⟩ = false := v1
                have v0c : (w5.setCell ⟨r0, A, none⟩ (.int .i64 (B : Int))).cell? ⟨r0, B, none⟩ = some (.int .i64 (iget ((z0F ps N c).set A (B : Int)) B)) := v0
                have v1c : (w5.setCell ⟨r0, A, none⟩ (.int .i64 (B : Int))).frozen? ⟨r0, B, none⟩ = false := v1
                have v0d : w5.cell? ⟨r0, B, none⟩ = some (.int .i64 (iget (z0F ps N c) B)) := z0
                have v1d : w5.frozen? ⟨r0, B, none⟩ = false := z1
                obtain ⟨m4, mg4, ol4⟩ := DS2.moves hmb A B (B : Int) (A : Int)
                have hr0 := DS2.ms.top.2.1
                have hg0 := DS2.ms.ne.2.1
                have hd1 : (w5.drew.setCell ⟨r0, A, none⟩ (.int .i64 (B : Int))).cell? ⟨pb, 0, none⟩ = some (.int .i64 (A : Int)) ∧ (w5.drew.setCell ⟨r0, A, none⟩ (.int .i64 (B : Int))).cell? ⟨pb, 1, none⟩ = some (.int .i64 (B : Int)) := ⟨(World.cell?_of_block (Below.heap_setCell _ _ _ pb (by show pb ≠ r0; omega))).trans b0, (World.cell?_of_block (Below.heap_setCell _ _ _ pb (by show pb ≠ r0; omega))).trans b1⟩
                have B4 : Blk ((w5.drew.setCell ⟨r0, A, none⟩ (.int .i64 (B : Int))).setCell ⟨r0, B, none⟩ (.int .i64 (A : Int))) pb 171 #[.int .i64 (A : Int), .int .i64 (B : Int)] := ((B1.drewN 1).far (by show pb ≠ r0; omega) _).far (by show pb ≠ r0; omega) _
                have K0 := Lib.hid (show w5.drew.cell? ⟨g0, 0, none⟩ = some (.slice (some ⟨r0, 0, none⟩) (2 * N) (2 * N)) ∧ w5.drew.cell? ⟨pb, 0, none⟩ = some (.int .i64 (A : Int)) ∧ w5.drew.cell? ⟨pb, 1, none⟩ = some (.int .i64 (B : Int)) from ⟨x0, b0, b1⟩)
                have K1 := Lib.hid (show (w5.drew.setCell ⟨r0, A, none⟩ (.int .i64 (B : Int))).cell? ⟨g0, 0, none⟩ = some (.slice (some ⟨r0, 0, none⟩) (2 * N) (2 * N)) ∧ (w5.drew.setCell ⟨r0, A, none⟩ (.int .i64 (B : Int))).cell? ⟨pb, 0, none⟩ = some (.int .i64 (A : Int)) ∧ (w5.drew.setCell ⟨r0, A, none⟩ (.int .i64 (B : Int))).cell? ⟨pb, 1, none⟩ = some (.int .i64 (B : Int)) from ⟨MS3.cells.1, hd1.1, hd1.2⟩)
                have K2 := Lib.hid (show ((w5.drew.setCell ⟨r0, A, none⟩ (.int .i64 (B : Int))).setCell ⟨r0, B, none⟩ (.int .i64 (A : Int))).cell? ⟨g0, 0, none⟩ = some (.slice (some ⟨r0, 0, none⟩) (2 * N) (2 * N)) ∧ ((w5.drew.setCell ⟨r0, A, none⟩ (.int .i64 (B : Int))).setCell ⟨r0, B, none⟩ (.int .i64 (A : Int))).cell? ⟨pb, 0, none⟩ = some (.int .i64 (A : Int)) ∧ ((w5.drew.setCell ⟨r0, A, none⟩ (.int .i64 (B : Int))).setCell ⟨r0, B, none⟩ (.int .i64 (A : Int))).cell? ⟨pb, 1, none⟩ = some (.int .i64 (B : Int)) from ⟨m4.cells.1, B4.cell 0, B4.cell 1⟩)
                have M4 := Lib.hid m4
                have G4 := Lib.hid mg4
                have O4 := Lib.hid ol4
                have BB4 := Lib.hid B4
                clear m4 mg4 ol4 B4 DS1 DS2 MS3 B1 hd1 x0 b0 b1
                have hA1 : (0 : Int) ≤ (A : Int) := by omega
                have hA2 : (A : Int) < 2 * (N : Int) := by omega
                have hB1 : (0 : Int) ≤ (B : Int) := by omega
                have hB2 : (B : Int) < 2 * (N : Int) := by omega
                go_region_held3 (fun w' => w'.cell? ⟨g0, 0, none⟩ = some (.slice (some ⟨r0, 0, none⟩) (2 * N) (2 * N)) ∧ w'.cell? ⟨pb, 0, none⟩ = some (.int .i64 (A : Int)) ∧ w'.cell? ⟨pb, 1, none⟩ = some (.int .i64 (B : Int))) (first | exact K0.out | exact K1.out | exact K2.out) (fail)
                have m6 : MS wB ((w5.setCell ⟨r0, A, none⟩ (.int .i64 (B : Int))).setCell ⟨r0, B, none⟩ (.int .i64 (A : Int))).drew g0 r0 r1 r2 (2 * N) (((z0F ps N c).set A (B : Int)).set B (A : Int)) (oneL N) (List.replicate (2 * N) 0) := M4.out
                have g6 : MapG ((w5.setCell ⟨r0, A, none⟩ (.int .i64 (B : Int))).setCell ⟨r0, B, none⟩ (.int .i64 (A : Int))).drew mb (gF ps c).1 us := G4.out
                have o6 : OwL (OwTs 171) ((w5.setCell ⟨r0, A, none⟩ (.int .i64 (B : Int))).setCell ⟨r0, B, none⟩ (.int .i64 (A : Int))).drew (mb + 1) us (gF ps c).2 := O4.out
                have k6 : Blk ((w5.setCell ⟨r0, A, none⟩ (.int .i64 (B : Int))).setCell ⟨r0, B, none⟩ (.int .i64 (A : Int))).drew pb 171 #[.int .i64 (A : Int), .int .i64 (B : Int)] := BB4.out
                clear M4 G4 O4 BB4 K0 K1 K2 v0 v1 v0b v1b v0c v1c v0d v1d y0 y1 z0 z1
                generalize ((w5.setCell ⟨r0, A, none⟩ (.int .i64 (B : Int))).setCell ⟨r0, B, none⟩ (.int .i64 (A : Int))).drew = w6 at *
                clear w5
                have hnl : nxP ps c < N := by have := HB.out; omega
                have hv6 := HV.out.below m6.bel
                obtain ⟨bv, ov, ea, hcA⟩ := hv6.at_ hlt4
                obtain ⟨bv', ov', ea', hcB⟩ := hv6.at_ hnl
                rw [ea] at ea'
                injection ea' with ea'
                injection ea' with ea1 ea2
                subst ea1 ea2
                have hq0 : (A : Int).tdiv 2 = (c : Int) := by rw [show (A : Int).tdiv 2 = ((A / 2 : Nat) : Int) from rfl, HA.out]; omega
                have hq1 : (B : Int).tdiv 2 = (nxP ps c : Int) := by rw [show (B : Int).tdiv 2 = ((B / 2 : Nat) : Int) from rfl, HB.out]; omega
                have hq2 : (A : Int) / 2 = (c : Int) := by have := HA.out; omega
                have hq3 : (B : Int) / 2 = (nxP ps c : Int) := by have := HB.out; omega
                have hq4 : IntKind.i64.wrap (c : Int) = (c : Int) := IntWalk.i64_in _ (by omega)
                have hq5 : IntKind.i64.wrap (nxP ps c : Int) = (nxP ps c : Int) := IntWalk.i64_in _ (by omega)
                have hq6 : IntKind.i64.wrap ((A : Int).tdiv 2) = (c : Int) := by rw [hq0]; exact hq4
                have hq7 : IntKind.i64.wrap ((B : Int).tdiv 2) = (nxP ps c : Int) := by rw [hq1]; exact hq5
                have hc0 : (0 : Int) ≤ (c : Int) := by omega
                have hc1 : (c : Int) < (N : Int) := by omega
                have hn0 : (0 : Int) ≤ (nxP ps c : Int) := by omega
                have hn1 : (nxP ps c : Int) < (N : Int) := by omega
                generalize hnn : nxP ps c = q at *
                have HQ := Lib.hid hnn
                clear hnn hv6
                subst ea
                have kb0 : w6.drew.cell? ⟨pb, 0, none⟩ = some (.int .i64 (A : Int)) := k6.cell 0
                have kb1 : w6.drew.cell? ⟨pb, 1, none⟩ = some (.int .i64 (B : Int)) := k6.cell 1
                have K0 := Lib.hid (show w6.drew.cell? ⟨pb, 0, none⟩ = some (.int .i64 (A : Int)) ∧ w6.drew.cell? ⟨pb, 1, none⟩ = some (.int .i64 (B : Int)) ∧ w6.drew.cell? ⟨bv, ov + c, none⟩ = some (.int .i64 (iget ps.flatten c)) ∧ w6.drew.cell? ⟨bv, ov + q, none⟩ = some (.int .i64 (iget ps.flatten q)) from ⟨kb0, kb1, hcA, hcB⟩)
                go_upto_region 26 with fail
                go_region_held3 (fun w' => w'.cell? ⟨pb, 0, none⟩ = some (.int .i64 (A : Int)) ∧ w'.cell? ⟨pb, 1, none⟩ = some (.int .i64 (B : Int)) ∧ w'.cell? ⟨bv, ov + c, none⟩ = some (.int .i64 (iget ps.flatten c)) ∧ w'.cell? ⟨bv, ov + q, none⟩ = some (.int .i64 (iget ps.flatten q))) (first | exact K0.out) (fail)
                have m7 : MS wB w6.drew g0 r0 r1 r2 (2 * N) (((z0F ps N c).set A (B : Int)).set B (A : Int)) (oneL N) (List.replicate (2 * N) 0) := m6.drew
                have g7 : MapG w6.drew mb (gF ps c).1 us := g6
                have o7 : OwL (OwTs 171) w6.drew (mb + 1) us (gF ps c).2 := o6.below (innerTs _) (below_drew1 w6)
                have k7 : Blk w6.drew pb 171 #[.int .i64 (A : Int), .int .i64 (B : Int)] := k6
                have hk0 : vtx ps q < vtx ps c → keyS ps c = (vtx ps q, vtx ps c) ∧ nrmS ps c = ((B : Int), (A : Int)) := fun hlt => by
                  unfold keyS nrmS
                  rw [HQ.out, if_pos hlt, if_pos hlt, HA.out, HB.out]
                  exact ⟨rfl, rfl⟩
                have hk1 : ¬ vtx ps q < vtx ps c → keyS ps c = (vtx ps c, vtx ps q) ∧ nrmS ps c = ((A : Int), (B : Int)) := fun hlt => by
                  unfold keyS nrmS
                  rw [HQ.out, if_neg hlt, if_neg hlt, HA.out, HB.out]
                  exact ⟨rfl, rfl⟩
                have HK0 := Lib.hid hk0
                have HK1 := Lib.hid hk1
                clear m6 g6 o6 k6 K0 kb0 kb1 hcA hcB hk0 hk1
                generalize w6.drew = w7 at *
                have hvc : vtx ps c = iget ps.flatten c := rfl
                have hvq : vtx ps q = iget ps.flatten q := rfl
                rw [hvc, hvq] at HK0 HK1
                clear hvc hvq
                generalize iget ps.flatten c = vc at *
                generalize iget ps.flatten q = vq at *
                go_upto_if 119 with fail
                go_cut [17, 18] (fun s17 s18 wx => ∃ u v x y : Int, s17 = .int .i64 u ∧ s18 = .int .i64 v ∧ keyS ps c = (u, v) ∧ nrmS ps c = (x, y) ∧ MS wB wx g0 r0 r1 r2 (2 * N) (((z0F ps N c).set A (B : Int)).set B (A : Int)) (oneL N) (List.replicate (2 * N) 0) ∧ MapG wx mb (gF ps c).1 us ∧ OwL (OwTs 171) wx (mb + 1) us (gF ps c).2 ∧ Blk wx pb 171 #[.int .i64 x, .int .i64 y])
                case first =>
                  by_cases hcmp : vq < vc
                  · obtain ⟨e1, e2⟩ := HK0.out hcmp
                    have E1 := Lib.hid e1
                    have E2 := Lib.hid e2
                    clear e1 e2
                    have b0 := k7.cell 0
                    have b1 := k7.cell 1
                    have f0 := k7.frozen 0
                    have f1 := k7.frozen 1
                    have hs8 : ∀ g, g ≠ pb → ((w7.setCell ⟨pb, 0, none⟩ (.int .i64 (B : Int))).setCell ⟨pb, 1, none⟩ (.int .i64 (A : Int))).heap[g]? = w7.heap[g]? := fun g hg => (Below.heap_setCell _ _ _ g (by exact hg)).trans (Below.heap_setCell _ _ _ g (by exact hg))
                    have m8 := Lib.hid (m7.keep (w' := (w7.setCell ⟨pb, 0, none⟩ (.int .i64 (B : Int))).setCell ⟨pb, 1, none⟩ (.int .i64 (A : Int))) (fun g hg => hs8 g (by omega)) ((m7.bel.setCell (by show wB.heap.size ≤ pb; omega) _).setCell (by show wB.heap.size ≤ pb; omega) _) (by simp [World.setCell]))
                    have g8 := Lib.hid (g7.same (w' := (w7.setCell ⟨pb, 0, none⟩ (.int .i64 (B : Int))).setCell ⟨pb, 1, none⟩ (.int .i64 (A : Int))) (hs8 mb (by omega)))
                    have o8 := Lib.hid (o7.same (w' := (w7.setCell ⟨pb, 0, none⟩ (.int .i64 (B : Int))).setCell ⟨pb, 1, none⟩ (.int .i64 (A : Int))) (innerTs _) fun j u g hu hg => hs8 g (by have := hup j u g hu hg; omega))
                    have k8 : Hid (Blk ((w7.setCell ⟨pb, 0, none⟩ (.int .i64 (B : Int))).setCell ⟨pb, 1, none⟩ (.int .i64 (A : Int))) pb 171 #[.int .i64 (B : Int), .int .i64 (A : Int)]) := Lib.hid ((k7.set_ 0 (.int .i64 (B : Int))).set_ 1 (.int .i64 (A : Int)))
                    clear m7 g7 o7 k7 hs8
                    go_wp2_with fail
                    go_meet
                    case rel => exact ⟨vq, vc, B, A, rfl, rfl, E1.out, E2.out, m8.out, g8.out, o8.out, k8.out⟩
                  · obtain ⟨e1, e2⟩ := HK1.out hcmp
                    have E1 := Lib.hid e1
                    have E2 := Lib.hid e2
                    clear e1 e2
                    go_wp2_with fail
                    go_meet
                    case rel => exact ⟨vc, vq, A, B, rfl, rfl, E1.out, E2.out, m7, g7, o7, k7⟩
                case rest =>
                  obtain ⟨u, v, x, y, rfl, rfl, hkey, hnrm, m8, g8, o8, k8⟩ := hcut
                  clear HK0 HK1 m7 g7 o7 k7
                  have HKY := Lib.hid hkey
                  have HNR := Lib.hid hnrm
                  clear hkey hnrm
                  have hmb8 := g8.lt
                  have kb0 : wc.drew.cell? ⟨pb, 0, none⟩ = some (.int .i64 x) := k8.cell 0
                  have kb1 : wc.drew.cell? ⟨pb, 1, none⟩ = some (.int .i64 y) := k8.cell 1
                  generalize wc = w8 at *
                  have hlens := g8.lens
                  have W0 : (w8.alloc (.cells #[.int .i64 x, .int .i64 y] 171)).drew.cell? ⟨w8.heap.size, 0, none⟩ = some (.int .i64 x) := (show Blk (w8.alloc (.cells #[.int .i64 x, .int .i64 y] 171)) w8.heap.size 171 #[.int .i64 x, .int .i64 y] from blk_at rfl).cell 0
                  have W1 : (w8.alloc (.cells #[.int .i64 x, .int .i64 y] 171)).drew.cell? ⟨w8.heap.size, 1, none⟩ = some (.int .i64 y) := (show Blk (w8.alloc (.cells #[.int .i64 x, .int .i64 y] 171)) w8.heap.size 171 #[.int .i64 x, .int .i64 y] from blk_at rfl).cell 1
                  have W2 : mb + 1 ≤ (w8.alloc (.cells #[.int .i64 x, .int .i64 y] 171)).drew.heap.size := by show mb + 1 ≤ (w8.heap.push _).size; rw [Array.size_push]; omega
                  have W4 : (w8.alloc (.cells #[.int .i64 x, .int .i64 y] 171)).drew.heap[mb]? = w8.heap[mb]? := Below.heap_alloc _ _ _ hmb8
                  have bW : Below w8.heap.size w8 (w8.alloc (.cells #[.int .i64 x, .int .i64 y] 171)).drew := (below_alloc1 w8 (.cells #[.int .i64 x, .int .i64 y] 171)).drew
                  have hWs : (w8.alloc (.cells #[.int .i64 x, .int .i64 y] 171)).drew.heap.size = w8.heap.size + 1 := by show (w8.heap.push _).size = _; rw [Array.size_push]
                  have hgF := gF_ok ps c
                  have hsz8 := m8.sz
                  have hbel8 := m8.bel
                  have hZ : z0F ps N (c + 1) = ((z0F ps N c).set A (B : Int)).set B (A : Int) := by
                    have e : z0F ps N (c + 1) = ((z0F ps N c).set (2 * c) ((2 * nxP ps c + 1 : Nat) : Int)).set (2 * nxP ps c + 1) ((2 * c : Nat) : Int) := rfl
                    rw [e, HQ.out, ← HA.out, ← HB.out]
                  have hG0 : gF ps (c + 1) = match fndK (keyS ps c) (gF ps c).1 0 with
                    | some m => ((gF ps c).1, (gF ps c).2.set m (lget (gF ps c).2 m ++ [nrmS ps c]))
                    | none => ((gF ps c).1 ++ [keyS ps c], (gF ps c).2 ++ [[nrmS ps c]]) := rfl
                  rw [HKY.out, HNR.out] at hG0
                  have M8 := Lib.hid m8
                  have G8 := Lib.hid g8
                  have O8 := Lib.hid o8
                  have HZ := Lib.hid hZ
                  have HG0 := Lib.hid hG0
                  have HGF := Lib.hid hgF
                  have HLEN := Lib.hid hlens
                  clear m8 g8 o8 k8 hZ hG0 hgF hlens
                  go_upto_region 30 with fail
                  refine by_tail (α := World) (β := List Value) (γ := Value) (δ := Value) (H := fun w10 us' => Hid (DS wB w10 g0 r0 r1 r2 N mb ps (c + 1) us')) ?G (fun tail => ?main) ?tl
                  case main =>
                    cases hf : fndK (u, v) (gF ps c).1 0 with
                    | some m =>
                      have hG0 := HG0.out
                      rw [hf] at hG0
                      obtain ⟨hml, hmk⟩ := fndK_lt _ _ _ hf
                      obtain ⟨um, dm, hum, hdm, ⟨ao, n9, c9, rfl, ow⟩⟩ := O8.out.get (j := m) (by have := HLEN.out; omega)
                      have hG : gF ps (c + 1) = ((gF ps c).1, (gF ps c).2.set m (dm ++ [(x, y)])) := by rw [hG0]; show ((gF ps c).1, (gF ps c).2.set m (lget (gF ps c).2 m ++ [(x, y)])) = _; rw [lget_get? hdm]
                      have hgm : uget us m = .slice ao n9 c9 := by unfold uget; rw [List.getD_eq_getElem?_getD, hum]; rfl
                      have hlook : ∀ W : World, W.heap[mb]? = w8.heap[mb]? → (Instr.lookup 172 (.map (some mb)) (.agg #[.int .i64 u, .int .i64 v]) false).run Try.prog W = .ok (.slice ao n9 c9) W := fun W hW => by
                        have := lookG_run (u, v) (G8.out.same hW)
                        rw [hf] at this
                        simp only [hgm] at this
                        exact this
                      have l1 := hlook w8.drew rfl
                      have l3 := hlook (w8.alloc (.cells #[.int .i64 x, .int .i64 y] 171)).drew (Below.heap_alloc _ _ _ hmb8)
                      have hn9 : n9 + 1 ≤ 4398046511104 := by
                        have h1 : dm.length = n9 := ow.len
                        have h2 := HGF.out.el m _ hmk
                        rw [lget_get? hdm] at h2
                        have h3 := congrArg List.length h2
                        rw [List.length_map] at h3
                        have h4 : (sideL ps (u, v) c).length ≤ (List.range c).length := List.length_filter_le _ _
                        rw [List.length_range] at h4
                        omega
                      have hlow : ∀ g, bk ao = some g → mb + 1 ≤ g := fun g hg => O8.out.low m _ g hum (by rw [ownBlock_slice]; exact hg)
                      have OB := Lib.hid (own2_up ow hlow)
                      have HF := Lib.hid hf
                      have HUM := Lib.hid hum
                      have HG := Lib.hid hG
                      clear hlook hf hum hdm hgm ow hG0 hG hmk hml
                      have W3 := Lib.hid (OB.out.below bW)
                      have W5 : ∀ w9 : World, (w8.alloc (.cells #[.int .i64 x, .int .i64 y] 171)).drew.grownBy w9 (bk ao) → ∀ ao3 c3, ∃ ob, (Instr.mapUpdate 172 (.map (some mb)) (.agg #[.int .i64 u, .int .i64 v]) (.slice ao3 (n9 + 1) c3)).run Try.prog w9 = .ok () (Go.ChangeMaps.setBlock w9 mb ob) ∧ MapG (Go.ChangeMaps.setBlock w9 mb ob) mb (gF ps c).1 (us.set m (.slice ao3 (n9 + 1) c3)) := fun w9 g9 ao3 c3 => putG_old (u, v) (G8.out.same ((g9.block mb (by omega) (fun e => by have := hlow mb e.symm; omega)).trans W4)) HF.out (.slice ao3 (n9 + 1) c3)
                      go_region_law (refine step_apP (o := ⟨some 139, _, _, _, _, _⟩) etPair rfl (.tmp 136) (.tmp 138) rfl (mb + 1) ao n9 c9 dm rfl W3.out x y w8.heap.size 1 rfl W0 W1 hn9 W2 ?_; intro ao3 c3 w9 h9 g9 hb9; obtain ⟨ob, hput, hM9⟩ := W5 w9 g9 ao3 c3)
                      all_goals
                        have DSn : DS wB (Go.ChangeMaps.setBlock w9 mb ob) g0 r0 r1 r2 N mb ps (c + 1) (us.set m (.slice ao3 (n9 + 1) c3)) := by
                          have oW := O8.out.below (innerTs _) bW
                          have o9 := oW.upd (innerTs _) HUM.out (by rw [ownBlock_slice]; exact g9) (⟨ao3, n9 + 1, c3, rfl, h9.mono (Nat.zero_le _)⟩ : OwTs 171 w9 (.slice ao3 (n9 + 1) c3) (dm ++ [(x, y)])) (by
                            rw [ownBlock_slice, ownBlock_slice]
                            rcases hb9 with h | h
                            · exact .inr (.inl h)
                            · exact .inr (.inr ⟨_, h, Nat.le_refl _⟩)) W2
                          have m9 := (M8.out.below bW).keep (w' := w9) (fun g hg => g9.block g (by omega) (fun e => by have := hlow g e.symm; omega)) ((hbel8.trans (bW.mono (by omega))).grown g9 (by omega) (fun k e => by have := hlow k e; omega)) g9.size
                          refine ⟨?_, ?_, ?_⟩
                          · rw [HZ.out]; exact m9.only (only_blockG w9 mb ob) hmb
                          · rw [HG.out]; exact hM9
                          · rw [HG.out]; exact o9.same (innerTs _) fun j u' g hu hg => (only_blockG w9 mb ob).block g (o9.lt (innerTs _) hu hg) (.inr (o9.low j u' g hu hg))
                        have DN := Lib.hid DSn
                        clear DSn hput hM9 h9 g9 hb9 W5 l1 l3 HF HG
                        generalize Go.ChangeMaps.setBlock w9 mb ob = w10 at *
                        generalize us.set m (.slice ao3 (n9 + 1) c3) = us' at DN
                        generalize Value.slice ao3 (n9 + 1) c3 = s139 at DN ⊢
                        generalize Value.slice ao n9 c9 = s136
                        exact tail w10 us' s136 s139 DN
                    | none =>
                      have hG0 := HG0.out
                      rw [hf] at hG0
                      have hlook : ∀ W : World, W.heap[mb]? = w8.heap[mb]? → (Instr.lookup 172 (.map (some mb)) (.agg #[.int .i64 u, .int .i64 v]) false).run Try.prog W = .ok (.slice none 0 0) W := fun W hW => by
                        have := lookG_run (u, v) (G8.out.same hW)
                        rw [hf] at this
                        exact this
                      have l1 := hlook w8.drew rfl
                      have l3 := hlook (w8.alloc (.cells #[.int .i64 x, .int .i64 y] 171)).drew (Below.heap_alloc _ _ _ hmb8)
                      have HF := Lib.hid hf
                      have HG := Lib.hid hG0
                      clear hlook hf hG0
                      have W5 : ∀ w9 : World, (w8.alloc (.cells #[.int .i64 x, .int .i64 y] 171)).drew.grownBy w9 (bk none) → ∀ ao3 c3, ∃ ob, (Instr.mapUpdate 172 (.map (some mb)) (.agg #[.int .i64 u, .int .i64 v]) (.slice ao3 (0 + 1) c3)).run Try.prog w9 = .ok () (Go.ChangeMaps.setBlock w9 mb ob) ∧ MapG (Go.ChangeMaps.setBlock w9 mb ob) mb ((gF ps c).1 ++ [(u, v)]) (us ++ [.slice ao3 (0 + 1) c3]) := fun w9 g9 ao3 c3 => putG_new (u, v) (G8.out.same ((g9.block mb (by omega) (fun e => by cases e)).trans W4)) HF.out (.slice ao3 (0 + 1) c3)
                      go_region_law (refine step_apP (o := ⟨some 139, _, _, _, _, _⟩) etPair rfl (.tmp 136) (.tmp 138) rfl (mb + 1) none 0 0 [] rfl (Own2.nil_ _ _ _) x y w8.heap.size 1 rfl W0 W1 (by decide) W2 ?_; intro ao3 c3 w9 h9 g9 hb9; obtain ⟨ob, hput, hM9⟩ := W5 w9 g9 ao3 c3)
                      all_goals
                        have DSn : DS wB (Go.ChangeMaps.setBlock w9 mb ob) g0 r0 r1 r2 N mb ps (c + 1) (us ++ [.slice ao3 (0 + 1) c3]) := by
                          have oW := O8.out.below (innerTs _) bW
                          have hnb : ∀ g, bk ao3 = some g → (w8.alloc (.cells #[.int .i64 x, .int .i64 y] 171)).drew.heap.size ≤ g := fun g hg => by
                            rcases hb9 with h | h
                            · rw [h] at hg; cases hg
                            · rw [h] at hg; obtain rfl := Option.some.inj hg; exact Nat.le_refl _
                          have b9 : Below (w8.alloc (.cells #[.int .i64 x, .int .i64 y] 171)).drew.heap.size (w8.alloc (.cells #[.int .i64 x, .int .i64 y] 171)).drew w9 := (Below.refl _ _).grown g9 (Nat.le_refl _) (fun k e => by cases e)
                          have o9 := oW.push (innerTs _) b9 (⟨ao3, 0 + 1, c3, rfl, h9.mono (Nat.zero_le _)⟩ : OwTs 171 w9 (.slice ao3 (0 + 1) c3) ([] ++ [(x, y)])) (fun g hg => hnb g (by rw [ownBlock_slice] at hg; exact hg)) W2
                          have m9 := (M8.out.below bW).below b9
                          refine ⟨?_, ?_, ?_⟩
                          · rw [HZ.out]; exact m9.only (only_blockG w9 mb ob) hmb
                          · rw [HG.out]; exact hM9
                          · rw [HG.out]; exact o9.same (innerTs _) fun j u' g hu hg => (only_blockG w9 mb ob).block g (o9.lt (innerTs _) hu hg) (.inr (o9.low j u' g hu hg))
                        have DN := Lib.hid DSn
                        clear DSn hput hM9 h9 g9 hb9 W5 l1 l3 HF HG
                        generalize Go.ChangeMaps.setBlock w9 mb ob = w10 at *
                        generalize us ++ [.slice ao3 (0 + 1) c3] = us' at DN
                        generalize Value.slice ao3 (0 + 1) c3 = s139 at DN ⊢
                        generalize Value.slice none 0 0 = s136
                        exact tail w10 us' s136 s139 DN
                  case tl =>
                    clear W0 W1 W2 W4 bW hWs kb0 kb1 hbel8 M8 G8 O8 HZ HG0 HGF HLEN hq0 hq1 hq2 hq3 hq4 hq5 hq6 hq7
                    intro w10 us' s136 s139 DN
                    go_wp2_with fail
                    go_roundw
                    case rel => exact ⟨_, _, _, _, ⟨c + 1, by omega, by go_num, us', DN.out⟩, rfl, rfl, rfl, rfl⟩
                    case measure => simp [intOf]; omega
              · obtain rfl : N = c := by omega
                obtain ⟨es, clock, hmp, hks, hus, hbn, hnd⟩ := ds.mg
                have hA := adjNe_of ok
                have hNN := HN.out
                have hES := ES.start ds hNN hmb hmp
                have hrg : ∀ W, W = wr → (Instr.range 172 (.map (some mb))).run Try.prog W = .ok (.pointer (some ⟨wr.heap.size, 0, none⟩)) (wr.alloc (.mapIter (some mb) clock #[] clock)) := fun W hW => by subst hW; exact run_range_map _ _ _ _ mb es clock Try.underlying172 hmp
                have hrg1 := hrg wr rfl
                have hlen : es.toList.length = (gF ps (lenSS ps)).2.length := by
                  have h1 := congrArg List.length hks
                  have h2 := (gF_ok ps N).len
                  rw [← hNN, h2]; simpa using h1
                have HMB := Lib.hid hmb
                have HKS := Lib.hid hks
                have HUS := Lib.hid hus
                have HBN := Lib.hid hbn
                have HND := Lib.hid hnd
                have HLEN := Lib.hid hlen
                have HNN := Lib.hid hNN
                have E0 := Lib.hid hES
                clear hks hus hbn hnd hlen hNN hES ds hmp hmb hrg
                go_upto_region 32 with fail
                go_wp2_with fail
                clear hrg1
                generalize wr.alloc (.mapIter (some mb) clock #[] clock) = w3 at *
                generalize wr.heap.size = ib at *
                go_loopw [] (fun wi => ∃ (seen : Array Nat) (c0 : Nat) (z2 : List Int), ES wB wi g0 r0 r1 r2 N mb ib clock es ps us seen c0 z2 ∧ SN ps es seen z2) (fun wi => (leftOf es (wi.iterSeen ib)).size)
                case atStart => exact ⟨#[], clock, _, E0.out, fun m e he hs => by simp at hs⟩
                case round =>
                  clear E0
                  obtain ⟨seen, c0, z2, E1, hSN⟩ := hrel
                  have SN1 := Lib.hid hSN
                  clear hSN
                  have law := run_next_at (P := Try.prog) wr 0 ib mb clock c0 seen es clock E1.it E1.mp HBN.out E1.cl
                  have EH := Lib.hid E1
                  have hz2 := E1.ms.lens.2.2
                  clear E1
                  rcases law with ⟨h0, hrun⟩ | ⟨e, he, w1, hw1, hrun⟩
                  · have hnx : ∀ ty, (Instr.next (.pointer (some ⟨ib, 0, none⟩)) false ty).run Try.prog wr = .ok (.tuple #[.bool false]) wr := fun _ => hrun
                    obtain ⟨hz, hgd⟩ := SN1.out.all hA (by rw [hz2, HNN.out]) HLEN.out h0
                    rw [← HNN.out] at hz
                    subst hz
                    have HGD := Lib.hid hgd
                    clear hrun hgd SN1 h0 hz2
                    have hmM : mpM ps = [zerL ps N, oneL N, twoL ps N (2 * N)] := by rw [HNN.out]; rfl
                    have hOk : mpOk ps = manB (mpM ps) := by unfold mpOk; rw [HGD.out]; rfl
                    have HOK := Lib.hid hOk
                    have kN : Blk (wr.alloc (.cells #[.slice (some ⟨g0, 0, none⟩) 3 3] 41)) wr.heap.size 41 #[.slice (some ⟨g0, 0, none⟩) 3 3] := blk_at rfl
                    have ms5 := EH.out.ms.below (below_alloc1 wr (.cells #[.slice (some ⟨g0, 0, none⟩) 3 3] 41))
                    have HMM := Lib.hid hmM
                    clear hmM hOk
                    go_upto_region 44 with fail
                    clear hnx
                    generalize wr.alloc (.cells #[.slice (some ⟨g0, 0, none⟩) 3 3] 41) = w5 at *
                    generalize wr.heap.size = pn at *
                    have hb5 := ms5.bel
                    have kB := BX.out.belowS hb5
                    have hOW := ms5.owM (lo := wB.heap.size) (Nat.le_refl _)
                    have HOW := Lib.hid hOW
                    have MS5 := Lib.hid ms5
                    have x5 := kN.cell 0
                    clear hOW ms5 EH
                    have HL1 : (mpM ps).length ≤ 1048576 := by show 3 ≤ _; omega
                    have HL2 : ∀ i, i < (mpM ps).length → (lget (mpM ps) i).length ≤ 1048576 := fun i hi => by
                      have := mpM_rows _ (lget_mem hi)
                      have := HNN.out
                      omega
                    cases hman : manB (mpM ps) with
                    | false =>
                      have hno : mpOk ps = false := HOK.out.trans hman
                      have HNO := Lib.hid hno
                      have HMAN := Lib.hid hman
                      clear hno hman
                      go_wp2_with (go_at_call 114; refine (implManQ (d := mpM ps) w5 (by rw [HMM.out]; exact HOW.out) HL1 HL2).mono ?_; rintro e w6 ⟨rfl, b6⟩; rw [HMAN.out]; have x6 := (kB.belowS b6).cell 0; have f6 := (kB.belowS b6).frozen 0; have y9 := ((kB.belowS b6).set_ 0 (.slice none 0 0)).cell 0)
                      exact bodyPost_ret (v := .tuple #[.agg #[.slice none 0 0], .bool false]) (by simp [results, Try.f118, go_sem, y9]) rfl ⟨_, [], by rw [HNO.out], own_nilM, (fun e => absurd (HNO.out.symm.trans e) (by simp)), (below_tr b6 (below_tr hb5 BE.out)).setCell (Nat.le_refl _) _⟩
                    | true =>
                      have hno : mpOk ps = true := HOK.out.trans hman
                      have HNO := Lib.hid hno
                      have HMAN := Lib.hid hman
                      clear hno hman
                      go_wp2_with (go_at_call 114; refine (implManQ (d := mpM ps) w5 (by rw [HMM.out]; exact HOW.out) HL1 HL2).mono ?_; rintro e w6 ⟨rfl, b6⟩; rw [HMAN.out]; have x6 := (kB.belowS b6).cell 0; have f6 := (kB.belowS b6).frozen 0; have y6 := (kN.belowS b6).cell 0; have s6 := b6.size)
                      have y9 : (w6.setCell ⟨w.heap.size, 0, none⟩ (.slice (some ⟨g0, 0, none⟩) 3 3)).cell? ⟨w.heap.size, 0, none⟩ = some (.slice (some ⟨g0, 0, none⟩) 3 3) := ((kB.belowS b6).set_ 0 (.slice (some ⟨g0, 0, none⟩) 3 3)).cell 0
                      have o6 : OwM 2 49 w6 wB.heap.size w6.heap.size (.agg #[.slice (some ⟨g0, 0, none⟩) 3 3]) (mpM ps) := by rw [HMM.out]; exact (MS5.out.below b6).owM (Nat.le_refl _)
                      have o7 : OwM 2 49 (w6.setCell ⟨w.heap.size, 0, none⟩ (.slice (some ⟨g0, 0, none⟩) 3 3)) wB.heap.size w6.heap.size (.agg #[.slice (some ⟨g0, 0, none⟩) 3 3]) (mpM ps) := by
                        obtain ⟨a6, n6, c6, us6, e6, ho6⟩ := o6
                        exact ⟨a6, n6, c6, us6, e6, ho6.same (innerS _) fun g hg _ _ => Below.heap_setCell _ _ _ g (by show g ≠ w.heap.size; omega)⟩
                      exact bodyPost_ret (v := .tuple #[.agg #[.slice (some ⟨g0, 0, none⟩) 3 3], .bool true]) (by simp [results, Try.f118, go_sem, y9]) rfl ⟨_, mpM ps, by rw [HNO.out], o7.mono (by omega) (by simp [World.setCell]), (fun _ => rfl), (below_tr b6 (below_tr hb5 BE.out)).setCell (Nat.le_refl _) _⟩
                  · obtain ⟨hem, hsn⟩ := mem_left he
                    obtain ⟨m, hm⟩ := List.mem_iff_getElem?.1 hem
                    have hml : m < es.toList.length := (List.getElem?_eq_some_iff.1 hm).1
                    have hum : us[m]? = some e.val := by rw [← HUS.out, List.getElem?_map, hm]; rfl
                    obtain ⟨dm, hdm, ⟨ao, n9, c9, hval, ow⟩⟩ := EH.out.ol.some_ hum
                    have hnx : ∀ ty, (Instr.next (.pointer (some ⟨ib, 0, none⟩)) false ty).run Try.prog wr = .ok (.tuple #[.bool true, e.key, .slice ao n9 c9]) (Go.ChangeMaps.setBlock w1 ib (.mapIter (some mb) clock (seen.push e.born) clock)) := fun _ => by rw [← hval]; exact hrun
                    have E2 := EH.out.next hw1 e.born
                    have hdl : lget (gF ps (lenSS ps)).2 m = dm := by rw [← HNN.out]; exact lget_get? hdm
                    have hdn : dm.length = n9 := ow.len
                    have hm2 : m < (gF ps (lenSS ps)).2.length := by rw [← HLEN.out]; exact hml
                    have hen := run_entry_at (P := Try.prog) (Go.ChangeMaps.setBlock w1 ib (.mapIter (some mb) clock (seen.push e.born) clock)) ib mb clock seen es clock e E2.it E2.mp hem HND.out
                    rw [hval] at hen
                    have hmeas : (leftOf es (seen.push e.born)).size < (leftOf es (wr.iterSeen ib)).size := by
                      have : wr.iterSeen ib = seen := by unfold World.iterSeen; rw [EH.out.it]
                      rw [this]; exact left_shrinks es seen e he
                    have E2H := Lib.hid E2
                    have HM := Lib.hid hm
                    have HUM := Lib.hid (show us[m]? = some (.slice ao n9 c9) by rw [hum, hval])
                    have HDM := Lib.hid hdm
                    have HDL := Lib.hid hdl
                    have HME := Lib.hid hmeas
                    have HDN := Lib.hid hdn
                    clear hrun EH hmeas hdm hdl hum hm hval ow E2 hdn
                    by_cases h92 : n9 = 2
                    · subst h92
                      go_upto_region 37 with fail
                      clear hnx hen
                      generalize Go.ChangeMaps.setBlock w1 ib (.mapIter (some mb) clock (seen.push e.born) clock) = w9 at *
                      obtain ⟨a, b, hab, ha, hb, hK, hkb, hdm2⟩ := two_sides hm2 HDL.out HDN.out
                      have SN2 := Lib.hid (SN1.out.push (by rw [hz2, HNN.out]) HND.out HLEN.out HM.out hab ha hb hK hkb (HDL.out.trans hdm2))
                      have hX := nA_lt ha; have hX' := nA_lt hb; have hY := nB_lt ha; have hY' := nB_lt hb
                      have hXX := nA_inj ha hb hab
                      have hYY := nB_inj ha hb hab
                      rw [← HNN.out] at hX hX' hY hY'
                      have HDM2 := Lib.hid hdm2
                      clear hdm2 hK hkb ha hb hab SN1
                      generalize nA ps a = X at *
                      generalize nA ps b = X' at *
                      generalize nB ps a = Y at *
                      generalize nB ps b = Y' at *
                      go_wp2_with fail
                      go_loopw [151] (fun iv wi => ∃ k : Nat, k ≤ 2 ∧ iv = .int .i64 k ∧ ES wB wi g0 r0 r1 r2 N mb ib clock es ps us (seen.push e.born) clock (zK z2 X X' Y Y' k)) (fun iv _ => 2 - (intOf iv).toNat)
                      case atStart => exact ⟨0, by omega, rfl, E2H.out⟩
                      case round =>
                        clear E2H
                        obtain ⟨k, hk2, rfl, E3⟩ := hrel
                        by_cases hlt5 : k < 2
                        · have hst := zK_step (z := z2) (x := X) (x' := X') (y := Y) (y' := Y') hlt5
                          obtain ⟨ao4, n4, c4, e4, ow4⟩ := E3.ol.el m _ _ HUM.out HDM.out
                          injection e4 with e4 e5 e6
                          subst e4 e5 e6
                          obtain ⟨g4, e4, -, hg4l, -, hc4, -⟩ := ow4.form (by omega)
                          subst e4
                          obtain ⟨t0, t1⟩ := hc4 0 (by omega)
                          obtain ⟨t2, t3⟩ := hc4 1 (by omega)
                          rw [HDM2.out] at t0 t1 t2 t3
                          obtain ⟨P, hP⟩ : ∃ P, P = if k = 0 then X else Y := ⟨_, rfl⟩
                          obtain ⟨P', hP'⟩ : ∃ P', P' = if k = 0 then X' else Y' := ⟨_, rfl⟩
                          have u0 : wr.cell? ⟨g4, k, none⟩ = some (.int .i64 (P : Int)) := by
                            match k, hlt5 with
                            | 0, _ => rw [hP]; exact t0
                            | 1, _ => rw [hP]; exact t1
                          have u1 : wr.cell? ⟨g4, 2 + k, none⟩ = some (.int .i64 (P' : Int)) := by
                            match k, hlt5 with
                            | 0, _ => rw [hP']; exact t2
                            | 1, _ => rw [hP']; exact t3
                          rw [← hP, ← hP'] at hst
                          have hPn : P < 2 * N := by rw [hP]; split <;> omega
                          have hPn' : P' < 2 * N := by rw [hP']; split <;> omega
                          have hPP : P ≠ P' := by rw [hP, hP']; split <;> assumption
                          clear hP hP' t0 t1 t2 t3 hc4 ow4
                          have HST := Lib.hid hst
                          clear hst
                          generalize zK z2 X X' Y Y' k = z at *
                          have HE := Lib.hid E3
                          clear E3
                          go_upto_region 40 with fail
                          have hk0 : (0 : Int) ≤ (k : Int) := by omega
                          have hk1 : (k : Int) < 2 := by omega
                          have K0 := Lib.hid (show wr.drew.cell? ⟨g4, k, none⟩ = some (.int .i64 (P : Int)) ∧ wr.drew.cell? ⟨g4, 2 + k, none⟩ = some (.int .i64 (P' : Int)) from ⟨u0, u1⟩)
                          clear u0 u1
                          go_region_held3 (fun w' => w'.cell? ⟨g4, k, none⟩ = some (.int .i64 (P : Int)) ∧ w'.cell? ⟨g4, 2 + k, none⟩ = some (.int .i64 (P' : Int))) (first | exact K0.out) (fail)
                          have E5 := HE.out.put HE.out.ms.drew (fun g _ => rfl)
                          clear K0 HE
                          generalize wr.drew = w4 at *
                          go_upto_region 41 with fail
                          have E6 := E5.put E5.ms.drew (fun g _ => rfl)
                          obtain ⟨-, -, x2⟩ := E6.ms.cells
                          obtain ⟨y0, y1⟩ := MS.int wB E6.ms.o2 hPn
                          obtain ⟨z0, z1⟩ := MS.int wB E6.ms.o2 hPn'
                          have hPP2 : ¬ (P' = P) := fun e => hPP e.symm
                          have MS3 := E6.ms.st2 P (P' : Int)
                          obtain ⟨v0, v1⟩ := MS.int wB MS3.o2 hPn'
                          have v0b : (w4.setCell ⟨r2, P, none⟩ (.int .i64 (P' : Int))).drew.cell? ⟨r2, P', none⟩ = some (.int .i64 (iget (z.set P (P' : Int)) P')) := v0
                          have v1b : (w4.setCell ⟨r2, P, none⟩ (.int .i64 (P' : Int))).drew.frozen? ⟨r2, P', none⟩ = false := v1
                          have v0c : (w4.setCell ⟨r2, P, none⟩ (.int .i64 (P' : Int))).cell? ⟨r2, P', none⟩ = some (.int .i64 (iget (z.set P (P' : Int)) P')) := v0
                          have v1c : (w4.setCell ⟨r2, P, none⟩ (.int .i64 (P' : Int))).frozen? ⟨r2, P', none⟩ = false := v1
                          have v0d : w4.cell? ⟨r2, P', none⟩ = some (.int .i64 (iget z P')) := z0
                          have v1d : w4.frozen? ⟨r2, P', none⟩ = false := z1
                          have m4 := MS3.st2 P' (P : Int)
                          have hs4 : ∀ g, g ≠ r2 → ((w4.drew.setCell ⟨r2, P, none⟩ (.int .i64 (P' : Int))).setCell ⟨r2, P', none⟩ (.int .i64 (P : Int))).heap[g]? = w4.drew.heap[g]? := fun g hg => (Below.heap_setCell _ _ _ g (by exact hg)).trans (Below.heap_setCell _ _ _ g (by exact hg))
                          have E7 := Lib.hid (E6.put (z := zSt z P P') m4 hs4)
                          have K0 := Lib.hid (show w4.drew.cell? ⟨g0, 2, none⟩ = some (.slice (some ⟨r2, 0, none⟩) (2 * N) (2 * N)) from x2)
                          have K1 := Lib.hid (show (w4.drew.setCell ⟨r2, P, none⟩ (.int .i64 (P' : Int))).cell? ⟨g0, 2, none⟩ = some (.slice (some ⟨r2, 0, none⟩) (2 * N) (2 * N)) from MS3.cells.2.2)
                          have K2 := Lib.hid (show ((w4.drew.setCell ⟨r2, P, none⟩ (.int .i64 (P' : Int))).setCell ⟨r2, P', none⟩ (.int .i64 (P : Int))).cell? ⟨g0, 2, none⟩ = some (.slice (some ⟨r2, 0, none⟩) (2 * N) (2 * N)) from m4.cells.2.2)
                          clear E5 E6 MS3 m4 hs4 x2
                          have hA1 : (0 : Int) ≤ (P : Int) := by omega
                          have hA2 : (P : Int) < 2 * (N : Int) := by omega
                          have hB1 : (0 : Int) ≤ (P' : Int) := by omega
                          have hB2 : (P' : Int) < 2 * (N : Int) := by omega
                          go_region_held3 (fun w' => w'.cell? ⟨g0, 2, none⟩ = some (.slice (some ⟨r2, 0, none⟩) (2 * N) (2 * N))) (first | exact K0.out | exact K1.out | exact K2.out) (fail)
                          have E8 : ES wB ((w4.setCell ⟨r2, P, none⟩ (.int .i64 (P' : Int))).setCell ⟨r2, P', none⟩ (.int .i64 (P : Int))).drew g0 r0 r1 r2 N mb ib clock es ps us (seen.push e.born) clock (zSt z P P') := E7.out
                          have E9 := Lib.hid E8
                          clear E8 E7 K0 K1 K2 y0 y1 z0 z1 v0 v1 v0b v1b v0c v1c v0d v1d hA1 hA2 hB1 hB2
                          generalize ((w4.setCell ⟨r2, P, none⟩ (.int .i64 (P' : Int))).setCell ⟨r2, P', none⟩ (.int .i64 (P : Int))).drew = w5 at *
                          go_wp2_with fail
                          go_roundw
                          case rel => (repeat apply Exists.intro); exact ⟨⟨k + 1, by omega, by go_num, by rw [HST.out]; exact E9.out⟩, rfl⟩
                          case measure => simp [intOf]; omega
                        · obtain rfl : k = 2 := by omega
                          have E4 := Lib.hid E3
                          clear E3
                          go_wp2_with fail
                          go_roundw
                          case rel => exact ⟨seen.push e.born, clock, _, E4.out, SN2.out⟩
                          case measure =>
                            have : wr.iterSeen ib = seen.push e.born := by unfold World.iterSeen; rw [E4.out.it]
                            rw [this]; exact HME.out
                    · have hbad := good_no hA hm2 (by rw [HDL.out, HDN.out]; exact h92)
                      have HBAD := Lib.hid hbad
                      clear hbad
                      go_upto_region 36 with fail
                      clear hnx hen
                      generalize Go.ChangeMaps.setBlock w1 ib (.mapIter (some mb) clock (seen.push e.born) clock) = w9 at *
                      have k9 := BX.out.belowS E2H.out.ms.bel
                      have x9 := k9.cell 0
                      have f9 := k9.frozen 0
                      have y9 : (w9.setCell ⟨w.heap.size, 0, none⟩ (.slice none 0 0)).cell? ⟨w.heap.size, 0, none⟩ = some (.slice none 0 0) := (k9.set_ 0 (.slice none 0 0)).cell 0
                      have hno : mpOk ps = false := by unfold mpOk; rw [HBAD.out]; rfl
                      have HNO := Lib.hid hno
                      clear hno k9
                      go_wp2_with fail
                      exact bodyPost_ret (v := .tuple #[.agg #[.slice none 0 0], .bool false]) (by simp [results, Try.f118, go_sem, y9]) rfl ⟨_, [], by rw [HNO.out], own_nilM, (fun e => absurd (HNO.out.symm.trans e) (by simp)), (below_tr E2H.out.ms.bel BE.out).setCell (Nat.le_refl _) _⟩
end Go.Proofs.Ytpognnifgcacnaa

/- Maps of polygons: the program's contract whole. -/
namespace Go.Proofs.Ytpognnifgcacnaa
open Go.RowKit

theorem api_implMp {v : Value} {ps : List (List Int)} (n : Int) (w : World) (h : RdSSc w v ps) :
    Calls Try.prog 46 #[.int .i64 n, v] w fun e w' => ∃ r, e = .returned (.tuple #[r, .int .i64 (mpC n ps)]) ∧ OwM 2 49 w' w.heap.size w'.heap.size r (mpR n ps) ∧ Below w.heap.size w w' :=
  implMp_of (fun ok w h => mapI_any ok w h) n w h
theorem mpM_small {ps : List (List Int)} (h : lenSS ps ≤ 200) : (mpM ps).length ≤ 5 ∧ lenSS (mpM ps) ≤ 2000 := by
  have h1 : (zerL ps (lenSS ps)).length = 2 * lenSS ps := dupL_len _ _ _
  have h2 : (oneL (lenSS ps)).length = 2 * lenSS ps := dupL_len _ _ _
  have h3 := twoL_len ps (lenSS ps) (2 * lenSS ps)
  refine ⟨by show 3 ≤ 5; omega, ?_⟩
  show lenSS [zerL ps (lenSS ps), oneL (lenSS ps), twoL ps (lenSS ps) (2 * lenSS ps)] ≤ 2000
  generalize lenSS ps = N at *
  simp only [lenSS, List.map_cons, List.map_nil, List.sum_cons, List.sum_nil, h1, h2, h3]
  omega
theorem mpR_small (n : Int) (ps : List (List Int)) : (mpR n ps).length ≤ 5 ∧ lenSS (mpR n ps) ≤ 2000 := by
  unfold mpR
  split
  · rename_i h
    simp only [Bool.and_eq_true] at h
    exact mpM_small (psOk_of h.1.2).few
  · exact ⟨by simp, by simp [lenSS]⟩
end Go.Proofs.Ytpognnifgcacnaa

/- The walk of FnExactMapOfPolygons: true, whatever the arguments. Written by genwalk.py. -/
namespace Go.Proofs.Ytpognnifgcacnaa
open Go.RowKit

set_option maxHeartbeats 3200000 in
theorem walkMapOfPolygons (n : Int) {v1 : Value} {ps : List (List Int)} (w : World) (h1 : RdSS w v1 ps) (_hw : (Lit.int .i64 n).wf = true) :
    Calls Try.prog 9 #[.int .i64 n, v1] w fun e w' => e = .returned (.bool true) ∧ Below w.heap.size w w' := by
  have hsz := mpR_small n ps
  have B0 : Below w.heap.size w w := Below.refl _ _
  by_cases hx0 : budget1 1048576 (ps.length + lenSS ps) < 0
  · go_enter Try.func9, Try.ntmps9
    go_wp2_with fail
    refine (law_usSS (1048576) _ (h1.below B0) (by omega) (by omega)).mono ?_
    rintro e w1 ⟨rfl, b1⟩
    have s1 := b1.size
    have B1 : Below w.heap.size w w1 := B0.trans (b1.mono B0.size)
    go_wp2
    go_ret
    exact ⟨rfl, B1⟩
  · obtain ⟨ht1, he0⟩ := budget1_at hx0
    have hn0 : 0 ≤ budget1 1048576 (ps.length + lenSS ps) := by omega
    have hm0 : budget1 1048576 (ps.length + lenSS ps) ≤ 1048576 := by omega
    have HE0 := Lib.hid he0
    clear he0 hx0
    go_enter Try.func9, Try.ntmps9
    go_wp2_with fail
    refine (law_usSS (1048576) _ (h1.below B0) (by omega) (by omega)).mono ?_
    rintro e w1 ⟨rfl, b1⟩
    have s1 := b1.size
    have B1 : Below w.heap.size w w1 := B0.trans (b1.mono B0.size)
    go_wp2_with fail
    refine (law_toSS _ (h1.below B1) (by omega)).mono ?_
    rintro e w2 ⟨u2, rfl, o2, b2⟩
    have s2 := b2.size
    have B2 : Below w.heap.size w w2 := B1.trans (b2.mono B1.size)
    go_wp2_with fail
    refine (api_specMp n _ o2.rdc ).mono ?_
    rintro e w3 ⟨u3_0, rfl, o3_0, b3⟩
    obtain ⟨au3_0, nu3_0, cu3_0, rfl⟩ := o3_0.form
    have s3 := b3.size
    have B3 : Below w.heap.size w w3 := B2.trans (b3.mono B2.size)
    go_wp2_with fail
    have bx4 := below_alloc1 w3 (.cells #[.slice au3_0 nu3_0 cu3_0] 41)
    have kbw0_4 : Blk (w3.alloc (.cells #[.slice au3_0 nu3_0 cu3_0] 41)) w3.heap.size 41 #[.slice au3_0 nu3_0 cu3_0] := blk_at rfl
    generalize w3.alloc (.cells #[.slice au3_0 nu3_0 cu3_0] 41) = w4 at *
    have s4 := bx4.size
    have B4 : Below w.heap.size w w4 := B3.trans (bx4.mono B3.size)
    have xkbw0_4_0 : w4.cell? ⟨w3.heap.size, 0, none⟩ = some (.slice au3_0 nu3_0 cu3_0) := kbw0_4.cell 0
    have lkbw0_4 : w3.heap.size < w4.heap.size := kbw0_4.lt
    refine (law_toSS _ (h1.below B4) (by omega)).mono ?_
    rintro e w5 ⟨u5, rfl, o5, b5⟩
    have s5 := b5.size
    have B5 : Below w.heap.size w w5 := B4.trans (b5.mono B4.size)
    have kbw0_5 : Blk w5 (w3.heap.size) 41 #[.slice au3_0 nu3_0 cu3_0] := (kbw0_4.belowS b5)
    have xkbw0_5_0 : w5.cell? ⟨w3.heap.size, 0, none⟩ = some (.slice au3_0 nu3_0 cu3_0) := kbw0_5.cell 0
    have lkbw0_5 : w3.heap.size < w5.heap.size := kbw0_5.lt
    clear xkbw0_4_0
    go_wp2_with fail
    refine (api_implMp n _ o5.rdc ).mono ?_
    rintro e w6 ⟨u6_0, rfl, o6_0, b6⟩
    obtain ⟨au6_0, nu6_0, cu6_0, rfl⟩ := o6_0.form
    have s6 := b6.size
    have B6 : Below w.heap.size w w6 := B5.trans (b6.mono B5.size)
    have kbw0_6 : Blk w6 (w3.heap.size) 41 #[.slice au3_0 nu3_0 cu3_0] := (kbw0_5.belowS b6)
    have xkbw0_6_0 : w6.cell? ⟨w3.heap.size, 0, none⟩ = some (.slice au3_0 nu3_0 cu3_0) := kbw0_6.cell 0
    have lkbw0_6 : w3.heap.size < w6.heap.size := kbw0_6.lt
    clear xkbw0_5_0
    go_wp2_with fail
    have bx7 := below_alloc1 w6 (.cells #[.slice au6_0 nu6_0 cu6_0] 41)
    have kbg0_7 : Blk (w6.alloc (.cells #[.slice au6_0 nu6_0 cu6_0] 41)) w6.heap.size 41 #[.slice au6_0 nu6_0 cu6_0] := blk_at rfl
    generalize w6.alloc (.cells #[.slice au6_0 nu6_0 cu6_0] 41) = w7 at *
    have s7 := bx7.size
    have B7 : Below w.heap.size w w7 := B6.trans (bx7.mono B6.size)
    have kbw0_7 : Blk w7 (w3.heap.size) 41 #[.slice au3_0 nu3_0 cu3_0] := (kbw0_6.belowS bx7)
    have xkbw0_7_0 : w7.cell? ⟨w3.heap.size, 0, none⟩ = some (.slice au3_0 nu3_0 cu3_0) := kbw0_7.cell 0
    have lkbw0_7 : w3.heap.size < w7.heap.size := kbw0_7.lt
    have xkbg0_7_0 : w7.cell? ⟨w6.heap.size, 0, none⟩ = some (.slice au6_0 nu6_0 cu6_0) := kbg0_7.cell 0
    have lkbg0_7 : w6.heap.size < w7.heap.size := kbg0_7.lt
    clear xkbw0_6_0
    refine (law_eqM _ (o6_0.below bx7).rd ((((o3_0.below bx4).below b5).below b6).below bx7).rd).mono ?_
    rintro e w8 ⟨rfl, b8⟩
    have s8 := b8.size
    have B8 : Below w.heap.size w w8 := B7.trans (b8.mono B7.size)
    have kbw0_8 : Blk w8 (w3.heap.size) 41 #[.slice au3_0 nu3_0 cu3_0] := (kbw0_7.belowS b8)
    have xkbw0_8_0 : w8.cell? ⟨w3.heap.size, 0, none⟩ = some (.slice au3_0 nu3_0 cu3_0) := kbw0_8.cell 0
    have lkbw0_8 : w3.heap.size < w8.heap.size := kbw0_8.lt
    have kbg0_8 : Blk w8 (w6.heap.size) 41 #[.slice au6_0 nu6_0 cu6_0] := (kbg0_7.belowS b8)
    have xkbg0_8_0 : w8.cell? ⟨w6.heap.size, 0, none⟩ = some (.slice au6_0 nu6_0 cu6_0) := kbg0_8.cell 0
    have lkbg0_8 : w6.heap.size < w8.heap.size := kbg0_8.lt
    clear xkbw0_7_0 xkbg0_7_0
    go_wp2_with fail
    refine (law_toSS _ (h1.below B8) (by omega)).mono ?_
    rintro e w9 ⟨u9, rfl, o9, b9⟩
    have s9 := b9.size
    have B9 : Below w.heap.size w w9 := B8.trans (b9.mono B8.size)
    have kbw0_9 : Blk w9 (w3.heap.size) 41 #[.slice au3_0 nu3_0 cu3_0] := (kbw0_8.belowS b9)
    have xkbw0_9_0 : w9.cell? ⟨w3.heap.size, 0, none⟩ = some (.slice au3_0 nu3_0 cu3_0) := kbw0_9.cell 0
    have lkbw0_9 : w3.heap.size < w9.heap.size := kbw0_9.lt
    have kbg0_9 : Blk w9 (w6.heap.size) 41 #[.slice au6_0 nu6_0 cu6_0] := (kbg0_8.belowS b9)
    have xkbg0_9_0 : w9.cell? ⟨w6.heap.size, 0, none⟩ = some (.slice au6_0 nu6_0 cu6_0) := kbg0_9.cell 0
    have lkbg0_9 : w6.heap.size < w9.heap.size := kbg0_9.lt
    clear xkbw0_8_0 xkbg0_8_0
    go_wp2_with fail
    refine (law_eqSS _ ((((o5.below b6).below bx7).below b8).below b9).rd o9.rd).mono ?_
    rintro e w10 ⟨rfl, b10⟩
    have s10 := b10.size
    have B10 : Below w.heap.size w w10 := B9.trans (b10.mono B9.size)
    have kbw0_10 : Blk w10 (w3.heap.size) 41 #[.slice au3_0 nu3_0 cu3_0] := (kbw0_9.belowS b10)
    have xkbw0_10_0 : w10.cell? ⟨w3.heap.size, 0, none⟩ = some (.slice au3_0 nu3_0 cu3_0) := kbw0_10.cell 0
    have lkbw0_10 : w3.heap.size < w10.heap.size := kbw0_10.lt
    have kbg0_10 : Blk w10 (w6.heap.size) 41 #[.slice au6_0 nu6_0 cu6_0] := (kbg0_9.belowS b10)
    have xkbg0_10_0 : w10.cell? ⟨w6.heap.size, 0, none⟩ = some (.slice au6_0 nu6_0 cu6_0) := kbg0_10.cell 0
    have lkbg0_10 : w6.heap.size < w10.heap.size := kbg0_10.lt
    clear xkbw0_9_0 xkbg0_9_0
    go_wp2_with fail
    refine (law_markSS (1) _ (((((o5.below b6).below bx7).below b8).below b9).below b10) (by omega) (by omega)).mono ?_
    rintro e w11 ⟨rfl, o11, q11⟩
    have s11 := q11.size
    have B11 : Below w.heap.size w w11 := B10.trans (q11.below (by omega) B10.size)
    have kbw0_11 : Blk w11 (w3.heap.size) 41 #[.slice au3_0 nu3_0 cu3_0] := (kbw0_10.only q11 (by omega))
    have xkbw0_11_0 : w11.cell? ⟨w3.heap.size, 0, none⟩ = some (.slice au3_0 nu3_0 cu3_0) := kbw0_11.cell 0
    have lkbw0_11 : w3.heap.size < w11.heap.size := kbw0_11.lt
    have kbg0_11 : Blk w11 (w6.heap.size) 41 #[.slice au6_0 nu6_0 cu6_0] := (kbg0_10.only q11 (by omega))
    have xkbg0_11_0 : w11.cell? ⟨w6.heap.size, 0, none⟩ = some (.slice au6_0 nu6_0 cu6_0) := kbg0_11.cell 0
    have lkbg0_11 : w6.heap.size < w11.heap.size := kbg0_11.lt
    clear xkbw0_10_0 xkbg0_10_0
    go_wp2_with fail
    refine (law_eqM _ (((((o6_0.below bx7).below b8).below b9).below b10).only q11 (by omega)).rd ((((((((o3_0.below bx4).below b5).below b6).below bx7).below b8).below b9).below b10).only q11 (by omega)).rd).mono ?_
    rintro e w12 ⟨rfl, b12⟩
    have s12 := b12.size
    have B12 : Below w.heap.size w w12 := B11.trans (b12.mono B11.size)
    have kbw0_12 : Blk w12 (w3.heap.size) 41 #[.slice au3_0 nu3_0 cu3_0] := (kbw0_11.belowS b12)
    have xkbw0_12_0 : w12.cell? ⟨w3.heap.size, 0, none⟩ = some (.slice au3_0 nu3_0 cu3_0) := kbw0_12.cell 0
    have lkbw0_12 : w3.heap.size < w12.heap.size := kbw0_12.lt
    have kbg0_12 : Blk w12 (w6.heap.size) 41 #[.slice au6_0 nu6_0 cu6_0] := (kbg0_11.belowS b12)
    have xkbg0_12_0 : w12.cell? ⟨w6.heap.size, 0, none⟩ = some (.slice au6_0 nu6_0 cu6_0) := kbg0_12.cell 0
    have lkbg0_12 : w6.heap.size < w12.heap.size := kbg0_12.lt
    clear xkbw0_11_0 xkbg0_11_0
    go_wp2_with fail
    refine (law_markM (1) _ ((((((o6_0.below bx7).below b8).below b9).below b10).only q11 (by omega)).below b12) (by omega) (by omega)).mono ?_
    rintro e w13 ⟨rfl, o13, q13⟩
    have s13 := q13.size
    have B13 : Below w.heap.size w w13 := B12.trans (q13.below (by omega) B12.size)
    have kbw0_13 : Blk w13 (w3.heap.size) 41 #[.slice au3_0 nu3_0 cu3_0] := (kbw0_12.only q13 (by omega))
    have xkbw0_13_0 : w13.cell? ⟨w3.heap.size, 0, none⟩ = some (.slice au3_0 nu3_0 cu3_0) := kbw0_13.cell 0
    have lkbw0_13 : w3.heap.size < w13.heap.size := kbw0_13.lt
    have kbg0_13 : Blk w13 (w6.heap.size) 41 #[.slice au6_0 nu6_0 cu6_0] := (kbg0_12.only q13 (by omega))
    have xkbg0_13_0 : w13.cell? ⟨w6.heap.size, 0, none⟩ = some (.slice au6_0 nu6_0 cu6_0) := kbg0_13.cell 0
    have lkbg0_13 : w6.heap.size < w13.heap.size := kbg0_13.lt
    clear xkbw0_12_0 xkbg0_12_0
    go_wp2_with fail
    refine (law_heldM (1) _ o13.rd (by omega) (by omega)).mono ?_
    rintro e w14 ⟨rfl, b14⟩
    have s14 := b14.size
    have B14 : Below w.heap.size w w14 := B13.trans (b14.mono B13.size)
    have kbw0_14 : Blk w14 (w3.heap.size) 41 #[.slice au3_0 nu3_0 cu3_0] := (kbw0_13.belowS b14)
    have xkbw0_14_0 : w14.cell? ⟨w3.heap.size, 0, none⟩ = some (.slice au3_0 nu3_0 cu3_0) := kbw0_14.cell 0
    have lkbw0_14 : w3.heap.size < w14.heap.size := kbw0_14.lt
    have kbg0_14 : Blk w14 (w6.heap.size) 41 #[.slice au6_0 nu6_0 cu6_0] := (kbg0_13.belowS b14)
    have xkbg0_14_0 : w14.cell? ⟨w6.heap.size, 0, none⟩ = some (.slice au6_0 nu6_0 cu6_0) := kbg0_14.cell 0
    have lkbg0_14 : w6.heap.size < w14.heap.size := kbg0_14.lt
    clear xkbw0_13_0 xkbg0_13_0
    go_wp2_with fail
    refine (law_toSS _ (h1.below B14) (by omega)).mono ?_
    rintro e w15 ⟨u15, rfl, o15, b15⟩
    have s15 := b15.size
    have B15 : Below w.heap.size w w15 := B14.trans (b15.mono B14.size)
    have kbw0_15 : Blk w15 (w3.heap.size) 41 #[.slice au3_0 nu3_0 cu3_0] := (kbw0_14.belowS b15)
    have xkbw0_15_0 : w15.cell? ⟨w3.heap.size, 0, none⟩ = some (.slice au3_0 nu3_0 cu3_0) := kbw0_15.cell 0
    have lkbw0_15 : w3.heap.size < w15.heap.size := kbw0_15.lt
    have kbg0_15 : Blk w15 (w6.heap.size) 41 #[.slice au6_0 nu6_0 cu6_0] := (kbg0_14.belowS b15)
    have xkbg0_15_0 : w15.cell? ⟨w6.heap.size, 0, none⟩ = some (.slice au6_0 nu6_0 cu6_0) := kbg0_15.cell 0
    have lkbg0_15 : w6.heap.size < w15.heap.size := kbg0_15.lt
    clear xkbw0_14_0 xkbg0_14_0
    go_wp2_with fail
    refine (api_implMp n _ o15.rdc ).mono ?_
    rintro e w16 ⟨u16_0, rfl, o16_0, b16⟩
    obtain ⟨au16_0, nu16_0, cu16_0, rfl⟩ := o16_0.form
    have s16 := b16.size
    have B16 : Below w.heap.size w w16 := B15.trans (b16.mono B15.size)
    have kbw0_16 : Blk w16 (w3.heap.size) 41 #[.slice au3_0 nu3_0 cu3_0] := (kbw0_15.belowS b16)
    have xkbw0_16_0 : w16.cell? ⟨w3.heap.size, 0, none⟩ = some (.slice au3_0 nu3_0 cu3_0) := kbw0_16.cell 0
    have lkbw0_16 : w3.heap.size < w16.heap.size := kbw0_16.lt
    have kbg0_16 : Blk w16 (w6.heap.size) 41 #[.slice au6_0 nu6_0 cu6_0] := (kbg0_15.belowS b16)
    have xkbg0_16_0 : w16.cell? ⟨w6.heap.size, 0, none⟩ = some (.slice au6_0 nu6_0 cu6_0) := kbg0_16.cell 0
    have lkbg0_16 : w6.heap.size < w16.heap.size := kbg0_16.lt
    clear xkbw0_15_0 xkbg0_15_0
    go_wp2_with fail
    have bx17 := below_alloc1 w16 (.cells #[.slice au16_0 nu16_0 cu16_0] 41)
    have kbh0_17 : Blk (w16.alloc (.cells #[.slice au16_0 nu16_0 cu16_0] 41)) w16.heap.size 41 #[.slice au16_0 nu16_0 cu16_0] := blk_at rfl
    generalize w16.alloc (.cells #[.slice au16_0 nu16_0 cu16_0] 41) = w17 at *
    have s17 := bx17.size
    have B17 : Below w.heap.size w w17 := B16.trans (bx17.mono B16.size)
    have kbw0_17 : Blk w17 (w3.heap.size) 41 #[.slice au3_0 nu3_0 cu3_0] := (kbw0_16.belowS bx17)
    have xkbw0_17_0 : w17.cell? ⟨w3.heap.size, 0, none⟩ = some (.slice au3_0 nu3_0 cu3_0) := kbw0_17.cell 0
    have lkbw0_17 : w3.heap.size < w17.heap.size := kbw0_17.lt
    have kbg0_17 : Blk w17 (w6.heap.size) 41 #[.slice au6_0 nu6_0 cu6_0] := (kbg0_16.belowS bx17)
    have xkbg0_17_0 : w17.cell? ⟨w6.heap.size, 0, none⟩ = some (.slice au6_0 nu6_0 cu6_0) := kbg0_17.cell 0
    have lkbg0_17 : w6.heap.size < w17.heap.size := kbg0_17.lt
    have xkbh0_17_0 : w17.cell? ⟨w16.heap.size, 0, none⟩ = some (.slice au16_0 nu16_0 cu16_0) := kbh0_17.cell 0
    have lkbh0_17 : w16.heap.size < w17.heap.size := kbh0_17.lt
    clear xkbw0_16_0 xkbg0_16_0
    refine (law_eqM _ (o16_0.below bx17).rd ((((((((((((((o3_0.below bx4).below b5).below b6).below bx7).below b8).below b9).below b10).only q11 (by omega)).below b12).only q13 (by omega)).below b14).below b15).below b16).below bx17).rd).mono ?_
    rintro e w18 ⟨rfl, b18⟩
    have s18 := b18.size
    have B18 : Below w.heap.size w w18 := B17.trans (b18.mono B17.size)
    have kbw0_18 : Blk w18 (w3.heap.size) 41 #[.slice au3_0 nu3_0 cu3_0] := (kbw0_17.belowS b18)
    have xkbw0_18_0 : w18.cell? ⟨w3.heap.size, 0, none⟩ = some (.slice au3_0 nu3_0 cu3_0) := kbw0_18.cell 0
    have lkbw0_18 : w3.heap.size < w18.heap.size := kbw0_18.lt
    have kbg0_18 : Blk w18 (w6.heap.size) 41 #[.slice au6_0 nu6_0 cu6_0] := (kbg0_17.belowS b18)
    have xkbg0_18_0 : w18.cell? ⟨w6.heap.size, 0, none⟩ = some (.slice au6_0 nu6_0 cu6_0) := kbg0_18.cell 0
    have lkbg0_18 : w6.heap.size < w18.heap.size := kbg0_18.lt
    have kbh0_18 : Blk w18 (w16.heap.size) 41 #[.slice au16_0 nu16_0 cu16_0] := (kbh0_17.belowS b18)
    have xkbh0_18_0 : w18.cell? ⟨w16.heap.size, 0, none⟩ = some (.slice au16_0 nu16_0 cu16_0) := kbh0_18.cell 0
    have lkbh0_18 : w16.heap.size < w18.heap.size := kbh0_18.lt
    clear xkbw0_17_0 xkbg0_17_0 xkbh0_17_0
    go_wp2_with fail
    refine (law_heldM (1) _ (((((o13.below b14).below b15).below b16).below bx17).below b18).rd (by omega) (by omega)).mono ?_
    rintro e w19 ⟨rfl, b19⟩
    have s19 := b19.size
    have B19 : Below w.heap.size w w19 := B18.trans (b19.mono B18.size)
    have kbw0_19 : Blk w19 (w3.heap.size) 41 #[.slice au3_0 nu3_0 cu3_0] := (kbw0_18.belowS b19)
    have xkbw0_19_0 : w19.cell? ⟨w3.heap.size, 0, none⟩ = some (.slice au3_0 nu3_0 cu3_0) := kbw0_19.cell 0
    have lkbw0_19 : w3.heap.size < w19.heap.size := kbw0_19.lt
    have kbg0_19 : Blk w19 (w6.heap.size) 41 #[.slice au6_0 nu6_0 cu6_0] := (kbg0_18.belowS b19)
    have xkbg0_19_0 : w19.cell? ⟨w6.heap.size, 0, none⟩ = some (.slice au6_0 nu6_0 cu6_0) := kbg0_19.cell 0
    have lkbg0_19 : w6.heap.size < w19.heap.size := kbg0_19.lt
    have kbh0_19 : Blk w19 (w16.heap.size) 41 #[.slice au16_0 nu16_0 cu16_0] := (kbh0_18.belowS b19)
    have xkbh0_19_0 : w19.cell? ⟨w16.heap.size, 0, none⟩ = some (.slice au16_0 nu16_0 cu16_0) := kbh0_19.cell 0
    have lkbh0_19 : w16.heap.size < w19.heap.size := kbh0_19.lt
    clear xkbw0_18_0 xkbg0_18_0 xkbh0_18_0
    go_wp2
    go_ret
    exact ⟨rfl, B19⟩
end Go.Proofs.Ytpognnifgcacnaa
