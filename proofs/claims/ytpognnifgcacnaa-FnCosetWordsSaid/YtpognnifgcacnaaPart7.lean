/- Coset enumeration: each generator leads back; words lead back after some times. No program in sight. -/
import Derived.Test.YtpognnifgcacnaaPart4
import Derived.Test.YtpognnifgcacnaaPart2
import Derived.Test.YtpognnifgcacnaaPart6
import Derived.Test.YtpognnifgcacnaaProg
import Derived.Test.YtpognnifgcacnaaPart1
import Derived.Test.YtpognnifgcacnaaPart5
import Derived.BigQuiet
import Derived.RegionTactic
import Derived.Maps.AppendAt
import Derived.Test.YtpognnifgcacnaaPart3
namespace Go.Proofs.Ytpognnifgcacnaa

theorem root_root {less : List Int} (h : Down less) {c : Nat} (hc : c < less.length) : root less (root less c) = root less c := root_of (root_fix h c hc).1
theorem root_set {less : List Int} (h : Down less) {lo hi : Nat} (hlt : lo < hi) (hh : hi < less.length) (hl0 : iget less lo = (lo : Int)) (hh0 : iget less hi = (hi : Int)) : ∀ c, c < less.length → root (less.set hi (lo : Int)) c = if root less c = hi then lo else root less c := by
  have hd := down_set h (lo := lo) (hi := hi) (by omega)
  have hlo : iget (less.set hi (lo : Int)) lo = (lo : Int) := by rw [iget_set, if_neg (by omega)]; exact hl0
  intro c
  induction c using Nat.strongRecOn with
  | _ c ih =>
    intro hc
    by_cases e : iget less c = (c : Int)
    · rw [root_of e]
      by_cases e2 : c = hi
      · subst e2
        rw [if_pos rfl]
        have h1 : iget (less.set c (lo : Int)) c = (lo : Int) := by rw [iget_set, if_pos ⟨rfl, hh⟩]
        rw [root_step hd (by rw [List.length_set]; exact hc) (by rw [h1]; omega), h1, Int.toNat_natCast]
        exact root_of hlo
      · rw [if_neg e2]
        exact root_of (by rw [iget_set, if_neg (by omega)]; exact e)
    · have hb := h c hc
      have hne : c ≠ hi := fun e2 => by subst e2; exact e hh0
      have h1 : iget (less.set hi (lo : Int)) c = iget less c := by rw [iget_set, if_neg (by omega)]
      rw [root_step hd (by rw [List.length_set]; exact hc) (by rw [h1]; exact e), h1, root_step h hc e]
      exact ih _ (by omega) (by omega)
theorem root_app {less : List Int} (h : Down less) : ∀ c, c < less.length → root (less ++ [(less.length : Int)]) c = root less c := by
  have hd : Down (less ++ [(less.length : Int)]) := fun c hc => by
    by_cases e : c < less.length
    · rw [iget_app_lt e]; exact h c e
    · obtain rfl : c = less.length := by simp at hc; omega
      rw [iget_app_eq]; omega
  intro c
  induction c using Nat.strongRecOn with
  | _ c ih =>
    intro hc
    have h1 : iget (less ++ [(less.length : Int)]) c = iget less c := iget_app_lt hc
    by_cases e : iget less c = (c : Int)
    · rw [root_of e, root_of (h1.trans e)]
    · have hb := h c hc
      rw [root_step hd (by simp; omega) (by rw [h1]; exact e), h1, root_step h hc e]
      exact ih _ (by omega) (by omega)

/-- equal, as far as the identifications and the queue say -/
inductive Eqv (less : List Int) (q : List (Int × Int)) : Nat → Nat → Prop where
  | refl (a : Nat) : Eqv less q a a
  | symm {a b : Nat} (h : Eqv less q a b) : Eqv less q b a
  | trans {a b c : Nat} (h : Eqv less q a b) (k : Eqv less q b c) : Eqv less q a c
  | root (a : Nat) (h : a < less.length) : Eqv less q a (root less a)
  | pair (p : Int × Int) (h : p ∈ q) : Eqv less q p.1.toNat p.2.toNat
theorem Eqv.mono {less less' : List Int} {q q' : List (Int × Int)} (h1 : ∀ a, a < less.length → Eqv less' q' a (Proofs.Ytpognnifgcacnaa.root less a)) (h2 : ∀ p ∈ q, Eqv less' q' p.1.toNat p.2.toNat) {a b : Nat} (h : Eqv less q a b) : Eqv less' q' a b := by
  induction h with
  | refl a => exact .refl a
  | symm _ ih => exact .symm ih
  | trans _ _ ih1 ih2 => exact .trans ih1 ih2
  | root a h => exact h1 a h
  | pair p h => exact h2 p h
theorem Eqv.root_eq {less : List Int} (hd : Down less) {a b : Nat} (h : Eqv less [] a b) : Proofs.Ytpognnifgcacnaa.root less a = Proofs.Ytpognnifgcacnaa.root less b := by
  induction h with
  | refl a => rfl
  | symm _ ih => exact ih.symm
  | trans _ _ ih1 ih2 => exact ih1.trans ih2
  | root a h => exact (root_root hd h).symm
  | pair p h => simp at h
/-- where a live coset leads, there its generator leads back -/
def Back (ng : Nat) (im : List (List Int)) (less : List Int) (q : List (Int × Int)) : Prop :=
  ∀ c g, c < less.length → iget less c = (c : Int) → g < ng → 0 ≤ ent im c g → 0 ≤ ent im (root less (ent im c g).toNat) g ∧ Eqv less q (ent im (root less (ent im c g).toNat) g).toNat c
theorem mergeUp_spec {ng lo hi : Nat} {im : List (List Int)} {less : List Int} {q : List (Int × Int)} (h : WF ng im less) (hlo : lo < im.length) (hne : lo ≠ hi) : ∀ g, g ≤ ng →
    (∀ c k, (c ≠ lo ∨ g ≤ k) → ent (mergeUp lo hi (im, q) g).1 c k = ent im c k) ∧ (∀ k, k < g → ent (mergeUp lo hi (im, q) g).1 lo k = if ent im hi k < 0 then ent im lo k else if 0 ≤ ent im lo k then ent im lo k else ent im hi k) ∧
    (∀ p ∈ q, p ∈ (mergeUp lo hi (im, q) g).2) ∧ (∀ k, k < g → 0 ≤ ent im hi k → 0 ≤ ent im lo k → (ent im hi k, ent im lo k) ∈ (mergeUp lo hi (im, q) g).2) ∧ ((mergeUp lo hi (im, q) g).1.length = im.length ∧ ∀ c, (lget (mergeUp lo hi (im, q) g).1 c).length = (lget im c).length)
  | 0, _ => ⟨fun _ _ _ => rfl, fun k hk => by omega, fun _ h => h, fun k hk => by omega, rfl, fun _ => rfl⟩
  | g + 1, hg => by
    obtain ⟨h1, h2, h3, h4, h5, h6⟩ := mergeUp_spec h hlo hne g (by omega) (q := q)
    have ehi : ent (mergeUp lo hi (im, q) g).1 hi g = ent im hi g := h1 hi g (.inl (fun e => hne e.symm))
    have elo : ent (mergeUp lo hi (im, q) g).1 lo g = ent im lo g := h1 lo g (.inr (Nat.le_refl _))
    simp only [mergeUp, stepG, ehi, elo]
    split
    · rename_i hn
      refine ⟨fun c k hk => h1 c k (hk.imp id fun h => by omega), fun k hk => ?_, h3, fun k hk a b => ?_, h5, h6⟩
      · by_cases e : k = g
        · subst e; rw [elo, if_pos hn]
        · exact h2 k (by omega)
      · by_cases e : k = g
        · subst e; omega
        · exact h4 k (by omega) a b
    · rename_i hn
      split
      · rename_i hp
        refine ⟨fun c k hk => h1 c k (hk.imp id fun h => by omega), fun k hk => ?_, fun p hp' => by simp [h3 p hp'], fun k hk a b => ?_, h5, h6⟩
        · by_cases e : k = g
          · subst e; rw [elo, if_neg hn, if_pos hp]
          · exact h2 k (by omega)
        · by_cases e : k = g
          · subst e; simp
          · simp [h4 k (by omega) a b]
      · rename_i hp
        have hlen : lo < (mergeUp lo hi (im, q) g).1.length := by rw [h5]; exact hlo
        have hrow : g < (lget (mergeUp lo hi (im, q) g).1 lo).length := by rw [h6, h.row lo hlo]; omega
        refine ⟨fun c k hk => ?_, fun k hk => ?_, h3, fun k hk a b => ?_, by rw [rset_len]; exact h5, fun c => by rw [rset_row]; exact h6 c⟩
        · dsimp only
          rw [ent_rset hlen hrow, if_neg (by rcases hk with hk | hk <;> omega)]
          exact h1 c k (hk.imp id fun h => by omega)
        · dsimp only
          rw [ent_rset hlen hrow]
          by_cases e : k = g
          · subst e; rw [if_pos ⟨rfl, rfl⟩, if_neg hn, if_neg hp]
          · rw [if_neg (by omega)]; exact h2 k (by omega)
        · by_cases e : k = g
          · subst e; omega
          · exact h4 k (by omega) a b
theorem Back.merge {ng lo hi : Nat} {im : List (List Int)} {less : List Int} {p : Int × Int} {q : List (Int × Int)} (h : WF ng im less) (hB : Back ng im less (p :: q)) (hp : p.1.toNat < less.length ∧ p.2.toNat < less.length) (hlt : lo < hi) (hhi : hi < less.length) (hl0 : iget less lo = (lo : Int)) (hh0 : iget less hi = (hi : Int))
    (hr : (root less p.1.toNat = lo ∧ root less p.2.toNat = hi) ∨ (root less p.1.toNat = hi ∧ root less p.2.toNat = lo)) : Back ng (mergeUp lo hi (im, q) ng).1 (less.set hi (lo : Int)) (mergeUp lo hi (im, q) ng).2 := by
  have hil : lo < im.length := by rw [h.len]; omega
  obtain ⟨m1, m2, m3, m4, _⟩ := mergeUp_spec (q := q) h hil (by omega : lo ≠ hi) ng (Nat.le_refl _)
  have hrs := root_set h.down hlt hhi hl0 hh0
  have hd := down_set h.down (lo := lo) (hi := hi) (by omega)
  generalize (mergeUp lo hi (im, q) ng).1 = im' at *
  generalize (mergeUp lo hi (im, q) ng).2 = q' at *
  have hlh : Eqv (less.set hi (lo : Int)) q' hi lo := by
    have := Eqv.root (less := less.set hi (lo : Int)) (q := q') hi (by rw [List.length_set]; exact hhi)
    rwa [hrs hi hhi, root_of hh0, if_pos rfl] at this
  have hroot : ∀ a, a < less.length → Eqv (less.set hi (lo : Int)) q' a (root less a) := fun a ha => by
    have := Eqv.root (less := less.set hi (lo : Int)) (q := q') a (by rw [List.length_set]; exact ha)
    rw [hrs a ha] at this
    by_cases e : root less a = hi
    · rw [if_pos e] at this; rw [e]; exact this.trans hlh.symm
    · rwa [if_neg e] at this
  have hmono : ∀ {a b : Nat}, Eqv less (p :: q) a b → Eqv (less.set hi (lo : Int)) q' a b := fun hab => by
    refine Eqv.mono hroot (fun x hx => ?_) hab
    rcases List.mem_cons.1 hx with rfl | hx
    · have k1 := hroot _ hp.1
      have k2 := hroot _ hp.2
      rcases hr with ⟨r1, r2⟩ | ⟨r1, r2⟩
      · rw [r1] at k1; rw [r2] at k2; exact k1.trans (hlh.symm.trans k2.symm)
      · rw [r1] at k1; rw [r2] at k2; exact k1.trans (hlh.trans k2.symm)
    · exact .pair x (m3 x hx)
  -- the row of lo now
  have elo : ∀ g, g < ng → (0 ≤ ent im lo g → ent im' lo g = ent im lo g) ∧ (0 ≤ ent im hi g → 0 ≤ ent im' lo g ∧ Eqv (less.set hi (lo : Int)) q' (ent im' lo g).toNat (ent im hi g).toNat) := fun g hg => by
    have e := m2 g hg
    refine ⟨fun h0 => ?_, fun h0 => ?_⟩
    · rw [e]; split <;> first | rfl | rw [if_pos h0]
    · by_cases h1 : 0 ≤ ent im lo g
      · rw [e, if_neg (by omega), if_pos h1]
        exact ⟨h1, (Eqv.pair _ (m4 g hg h0 h1)).symm⟩
      · rw [e, if_neg (by omega), if_neg h1]
        exact ⟨h0, .refl _⟩
  -- where a root's entry is now
  have key : ∀ r g, r < less.length → g < ng → 0 ≤ ent im r g → 0 ≤ ent im' (if r = hi then lo else r) g ∧ Eqv (less.set hi (lo : Int)) q' (ent im' (if r = hi then lo else r) g).toNat (ent im r g).toNat := fun r g hr' hg h0 => by
    by_cases e : r = hi
    · subst e; rw [if_pos rfl]; exact (elo g hg).2 h0
    · rw [if_neg e]
      by_cases e2 : r = lo
      · subst e2; rw [(elo g hg).1 h0]; exact ⟨h0, .refl _⟩
      · rw [m1 r g (.inl e2)]; exact ⟨h0, .refl _⟩
  intro c g hc hlive hg h0
  rw [List.length_set] at hc
  have hch : c ≠ hi := fun e => by subst e; rw [iget_set, if_pos ⟨rfl, hhi⟩] at hlive; omega
  have hlv : iget less c = (c : Int) := by rw [iget_set, if_neg (fun e => hch e.1.symm)] at hlive; exact hlive
  -- the entry comes of c itself, or of hi
  have src : (0 ≤ ent im c g ∧ ent im' c g = ent im c g) ∨ (c = lo ∧ ent im c g < 0 ∧ 0 ≤ ent im hi g ∧ ent im' c g = ent im hi g) := by
    by_cases e : c = lo
    · subst e
      have e' := m2 g hg
      by_cases h1 : 0 ≤ ent im c g
      · exact .inl ⟨h1, (elo g hg).1 h1⟩
      · right
        rw [e'] at h0 ⊢
        split at h0
        · omega
        · rename_i h2
          rw [if_neg h2, if_neg h1]
          exact ⟨rfl, by omega, by omega, rfl⟩
    · rw [m1 c g (.inl e)] at h0
      exact .inl ⟨h0, m1 c g (.inl e)⟩
  have hcl : c < im.length := by rw [h.len]; exact hc
  rcases src with ⟨h1, h2⟩ | ⟨rfl, h1, h2, h3⟩
  · rw [h2]
    obtain ⟨k1, k2⟩ := hB c g hc hlv hg h1
    have hel := h.ent c g hcl hg
    have hrl := root_lt h.down (c := (ent im c g).toNat) (by omega)
    rw [hrs _ (by omega)]
    obtain ⟨k3, k4⟩ := key _ g hrl hg k1
    exact ⟨k3, k4.trans (hmono k2)⟩
  · rw [h3]
    obtain ⟨k1, k2⟩ := hB hi g hhi hh0 hg h2
    have hel := h.ent hi g (by rw [h.len]; exact hhi) hg
    have hrl := root_lt h.down (c := (ent im hi g).toNat) (by omega)
    rw [hrs _ (by omega)]
    obtain ⟨k3, k4⟩ := key _ g hrl hg k1
    exact ⟨k3, (k4.trans (hmono k2)).trans hlh⟩
theorem Back.less_q {ng : Nat} {im : List (List Int)} {less : List Int} {q q' : List (Int × Int)} (hB : Back ng im less q) (hq : ∀ p ∈ q, Eqv less q' p.1.toNat p.2.toNat) : Back ng im less q' := fun c g hc hl hg h0 => by
  obtain ⟨k1, k2⟩ := hB c g hc hl hg h0
  exact ⟨k1, k2.mono (fun a ha => .root a ha) hq⟩
theorem identLoop_back {ng n : Nat} : ∀ (f : Nat) (im : List (List Int)) (less : List Int) (q : List (Int × Int)), WF ng im less → less.length = n → QOK n q → fuel ng less q ≤ f → Back ng im less q → Back ng (identLoop ng f im less q).1 (identLoop ng f im less q).2 []
  | 0, im, less, q, h, hn, hq, hf, hB => by
    have : q = [] := List.eq_nil_of_length_eq_zero (by unfold fuel at hf; omega)
    subst this; exact hB
  | f + 1, im, less, [], h, hn, hq, hf, hB => hB
  | f + 1, im, less, p :: q, h, hn, hq, hf, hB => by
    have hp := hq p (by simp)
    have hq' : QOK less.length q := fun x hx => hn ▸ hq x (by simp [hx])
    have hr1 := root_fix h.down p.1.toNat (by omega)
    have hr2 := root_fix h.down p.2.toNat (by omega)
    have hfu : fuel ng less (p :: q) = fuel ng less q + 1 := by unfold fuel; simp; omega
    simp only [identLoop]
    split
    · rename_i he
      refine identLoop_back f im less q h hn (fun x hx => hq x (by simp [hx])) (by omega) (hB.less_q fun x hx => ?_)
      rcases List.mem_cons.1 hx with rfl | hx
      · have k1 := Eqv.root (less := less) (q := q) x.1.toNat (by omega)
        have k2 := Eqv.root (less := less) (q := q) x.2.toNat (by omega)
        rw [he] at k1; exact k1.trans k2.symm
      · exact .pair x hx
    · rename_i hne
      have hid := ident_merge h (hn ▸ hq) hne
      unfold mergeSt at hid
      obtain ⟨_, w1, w2, w3⟩ := hid
      have hroots : iget less (min (root less p.1.toNat) (root less p.2.toNat)) = ((min (root less p.1.toNat) (root less p.2.toNat) : Nat) : Int) ∧ iget less (max (root less p.1.toNat) (root less p.2.toNat)) = ((max (root less p.1.toNat) (root less p.2.toNat) : Nat) : Int) := by
        rcases Nat.le_total (root less p.1.toNat) (root less p.2.toNat) with h5 | h5
        · rw [Nat.min_eq_left h5, Nat.max_eq_right h5]; exact ⟨hr1.1, hr2.1⟩
        · rw [Nat.min_eq_right h5, Nat.max_eq_left h5]; exact ⟨hr2.1, hr1.1⟩
      have hbk := hB.merge h (by omega) (lo := min (root less p.1.toNat) (root less p.2.toNat)) (hi := max (root less p.1.toNat) (root less p.2.toNat)) (by omega) (by omega) hroots.1 hroots.2 (by
        rcases Nat.le_total (root less p.1.toNat) (root less p.2.toNat) with h5 | h5
        · left; rw [Nat.min_eq_left h5, Nat.max_eq_right h5]; exact ⟨rfl, rfl⟩
        · right; rw [Nat.min_eq_right h5, Nat.max_eq_left h5]; exact ⟨rfl, rfl⟩)
      exact identLoop_back f _ _ _ w1 (by rw [List.length_set]; exact hn) (hn ▸ w2) (by omega) hbk
theorem ident_back {ng : Nat} {im : List (List Int)} {less : List Int} {p : Int × Int} (h : WF ng im less) (hq : QOK less.length [p]) (hB : Back ng im less []) : Back ng (ident ng im less [p]).1 (ident ng im less [p]).2 [] :=
  identLoop_back _ im less [p] h rfl hq (Nat.le_refl _) (hB.less_q fun x hx => by simp at hx)

section
variable {ng : Nat} {im : List (List Int)} {less : List Int}
theorem Back.fix (hB : Back ng im less []) (h : WF ng im less) {c g : Nat} (hc : c < less.length) (hl : iget less c = (c : Int)) (hg : g < ng) (h0 : 0 ≤ ent im c g) : 0 ≤ ent im (root less (ent im c g).toNat) g ∧ root less (ent im (root less (ent im c g).toNat) g).toNat = c := by
  obtain ⟨k1, k2⟩ := hB c g hc hl hg h0
  exact ⟨k1, (k2.root_eq h.down).trans (root_of hl)⟩
theorem Back.of (h : ∀ c g, c < less.length → iget less c = (c : Int) → g < ng → 0 ≤ ent im c g → 0 ≤ ent im (root less (ent im c g).toNat) g ∧ root less (ent im (root less (ent im c g).toNat) g).toNat = c) (hw : WF ng im less) : Back ng im less [] := fun c g hc hl hg h0 => by
  obtain ⟨k1, k2⟩ := h c g hc hl hg h0
  refine ⟨k1, ?_⟩
  have he := hw.ent c g (by rw [hw.len]; exact hc) hg
  have hrl := root_lt hw.down (c := (ent im c g).toNat) (by omega)
  have he2 := hw.ent (root less (ent im c g).toNat) g (by rw [hw.len]; exact hrl) hg
  have := Eqv.root (less := less) (q := []) (ent im (root less (ent im c g).toNat) g).toNat (by omega)
  rwa [k2] at this
/-- two cosets become images of each other -/
theorem Back.link (hB : Back ng im less []) (hw : WF ng im less) {c d g : Nat} (hc : c < less.length) (hd : d < less.length) (hlc : iget less c = (c : Int)) (hld : iget less d = (d : Int)) (hg : g < ng) (h1 : ent im c g < 0) (h2 : ent im d g < 0) : Back ng (rset (rset im d g (c : Int)) c g (d : Int)) less [] := by
  have hl := hw.len
  have w1 := hw.set_im (c := d) (g := g) (z := (c : Int)) (by omega) hg (by omega)
  have w2 := w1.set_im (c := c) (g := g) (z := (d : Int)) (by rw [rset_len]; omega) hg (by omega)
  have ee : ∀ a k, ent (rset (rset im d g (c : Int)) c g (d : Int)) a k = if c = a ∧ g = k then (d : Int) else if d = a ∧ g = k then (c : Int) else ent im a k := fun a k => by
    rw [ent_rset (by rw [rset_len]; omega) (by rw [rset_row, hw.row c (by omega)]; exact hg), ent_rset (by omega) (by rw [hw.row d (by omega)]; exact hg)]
  refine Back.of (fun a k ha hla hk h0 => ?_) w2
  have e0 := ee a k
  by_cases e1 : c = a ∧ g = k
  · obtain ⟨rfl, rfl⟩ := e1
    rw [if_pos ⟨rfl, rfl⟩] at e0
    rw [e0, Int.toNat_natCast, root_of hld]
    have e3 := ee d g
    by_cases e2 : c = d
    · subst e2; rw [if_pos ⟨rfl, rfl⟩] at e3; rw [e3, Int.toNat_natCast]; exact ⟨by omega, root_of hlc⟩
    · rw [if_neg (fun h => e2 h.1), if_pos ⟨rfl, rfl⟩] at e3; rw [e3, Int.toNat_natCast]; exact ⟨by omega, root_of hlc⟩
  · rw [if_neg e1] at e0
    by_cases e2 : d = a ∧ g = k
    · obtain ⟨rfl, rfl⟩ := e2
      rw [if_pos ⟨rfl, rfl⟩] at e0
      rw [e0, Int.toNat_natCast, root_of hlc]
      have e3 := ee c g
      rw [if_pos ⟨rfl, rfl⟩] at e3
      rw [e3, Int.toNat_natCast]; exact ⟨by omega, root_of hld⟩
    · rw [if_neg e2] at e0
      rw [e0] at h0 ⊢
      obtain ⟨k1, k2⟩ := hB.fix hw ha hla hk h0
      have n1 : ¬ (c = root less (ent im a k).toNat ∧ g = k) := fun h => by rw [← h.1, ← h.2] at k1; omega
      have n2 : ¬ (d = root less (ent im a k).toNat ∧ g = k) := fun h => by rw [← h.1, ← h.2] at k1; omega
      have e3 := ee (root less (ent im a k).toNat) k
      rw [if_neg n1, if_neg n2] at e3
      rw [e3]
      exact ⟨k1, k2⟩
theorem Back.app (hB : Back ng im less []) (hw : WF ng im less) : Back ng (im ++ [List.replicate ng (-1)]) (less ++ [(less.length : Int)]) [] := by
  have hl := hw.len
  have hra := root_app hw.down
  refine Back.of (fun a k ha hla hk h0 => ?_) hw.app
  by_cases e : a < less.length
  · have e1 : ∀ b, b < less.length → ent (im ++ [List.replicate ng (-1)]) b k = ent im b k := fun b hb => by unfold ent; rw [lget_app_lt (by omega)]
    rw [e1 a e] at h0 ⊢
    rw [iget_app_lt e] at hla
    obtain ⟨k1, k2⟩ := hB.fix hw e hla hk h0
    have he := hw.ent a k (by omega) hk
    have hrl := root_lt hw.down (c := (ent im a k).toNat) (by omega)
    have he2 := hw.ent (root less (ent im a k).toNat) k (by omega) hk
    rw [hra _ (by omega), e1 _ hrl, hra _ (by omega)]
    exact ⟨k1, k2⟩
  · obtain rfl : a = less.length := by simp at ha; omega
    exfalso
    unfold ent at h0
    rw [← hl, lget_app_eq, iget_rep hk] at h0
    omega
theorem Back.next (hB : Back ng im less []) (hw : WF ng im less) {c g : Nat} (hc : c < less.length) (hlc : iget less c = (c : Int)) (hg : g < ng) (hn : less.length ≤ 2000) :
    Back ng (nextC ng im less c g).1 (nextC ng im less c g).2.1 [] ∧ ((nextC ng im less c g).2.2.1 = false → iget (nextC ng im less c g).2.1 (nextC ng im less c g).2.2.2 = ((nextC ng im less c g).2.2.2 : Int)) ∧ (∀ a, a < less.length → iget (nextC ng im less c g).2.1 a = iget less a) := by
  unfold nextC
  split
  · rename_i h0
    have he := hw.ent c g (by rw [hw.len]; exact hc) hg
    exact ⟨hB, fun _ => (root_fix hw.down _ (by omega)).1, fun _ _ => rfl⟩
  · rename_i h0
    split
    · exact ⟨hB, (fun h => nomatch h), fun _ _ => rfl⟩
    · have hl := hw.len
      have b1 := hB.app hw
      have w1 := hw.app
      refine ⟨?_, fun _ => iget_app_eq, fun a ha => iget_app_lt ha⟩
      have hcc : c < (less ++ [(less.length : Int)]).length := by simp; omega
      have := b1.link w1 (c := less.length) (d := c) (g := g) (by simp) hcc iget_app_eq (by rw [iget_app_lt hc]; exact hlc) hg (by unfold ent; rw [← hl, lget_app_eq, iget_rep hg]; omega) (by unfold ent at h0 ⊢; rw [lget_app_lt (by omega)]; omega)
      exact this
end
theorem goC_back {ng n0 : Nat} : ∀ (w : List Nat) (s : List (List Int) × List Int × Bool × Nat), GoOK ng n0 s → Back ng s.1 s.2.1 [] → (s.2.2.1 = false → iget s.2.1 s.2.2.2 = (s.2.2.2 : Int)) → (∀ g ∈ w, g < ng) →
    Back ng (goC ng s w).1 (goC ng s w).2.1 [] ∧ ((goC ng s w).2.2.1 = false → iget (goC ng s w).2.1 (goC ng s w).2.2.2 = ((goC ng s w).2.2.2 : Int)) ∧ (∀ a, a < s.2.1.length → iget (goC ng s w).2.1 a = iget s.2.1 a)
  | [], s, h, hB, hl, _ => ⟨hB, hl, fun _ _ => rfl⟩
  | g :: r, s, h, hB, hl, hg => by
    unfold goC
    split
    · exact ⟨hB, hl, fun _ _ => rfl⟩
    · rename_i hf
      obtain ⟨b1, b2, b3⟩ := hB.next h.wf h.d (hl (by simpa using hf)) (hg g (by simp)) h.hi
      obtain ⟨h1, h2, h3, h4, _⟩ := nextC_ok h.wf h.d (hg g (by simp)) h.hi
      obtain ⟨c1, c2, c3⟩ := goC_back (n0 := n0) r _ ⟨h1, Nat.le_trans h.lo h2, h3, h4⟩ b1 b2 fun x hx => hg x (by simp [hx])
      exact ⟨c1, c2, fun a ha => (c3 a (by omega)).trans (b3 a ha)⟩
theorem closeC_back {ng : Nat} {im : List (List Int)} {less : List Int} {c : Nat} {w : List Nat} (h : WF ng im less) (hB : Back ng im less []) (hc : c < less.length) (hl : iget less c = (c : Int)) (hn : less.length ≤ 2000) (hg : ∀ g ∈ w, g < ng) : Back ng (closeC ng im less c w).1 (closeC ng im less c w).2.1 [] := by
  unfold closeC
  cases hw : w.getLast? with
  | none => exact hB
  | some g =>
    have hgl : g < ng := hg g (List.mem_of_getLast? hw)
    have ok := goC_ok (n0 := less.length) w.dropLast (im, less, false, c) ⟨h, Nat.le_refl _, hn, hc⟩ fun x hx => hg x (List.dropLast_subset _ hx)
    obtain ⟨b1, b2, b3⟩ := goC_back (n0 := less.length) w.dropLast (im, less, false, c) ⟨h, Nat.le_refl _, hn, hc⟩ hB (fun _ => hl) fun x hx => hg x (List.dropLast_subset _ hx)
    generalize goC ng (im, less, false, c) w.dropLast = s at *
    have hcs : c < s.2.1.length := Nat.lt_of_lt_of_le hc ok.lo
    have hlc : iget s.2.1 c = (c : Int) := (b3 c hc).trans hl
    dsimp only
    split
    · exact b1
    · rename_i hf
      have e1 := image_lt ok.wf ok.d hgl
      have e2 := image_lt ok.wf hcs hgl
      have hd := ok.d
      split
      · rename_i he
        exact ident_back ok.wf (fun p hp => by simp at hp; subst hp; exact ⟨⟨he, e1⟩, by omega, by dsimp only; omega⟩) b1
      · rename_i he
        split
        · rename_i hf
          exact ident_back ok.wf (fun p hp => by simp at hp; subst hp; exact ⟨⟨hf, e2⟩, by omega, by dsimp only; omega⟩) b1
        · rename_i hf2
          refine b1.link ok.wf hcs hd hlc (b2 (by simpa using hf)) hgl ?_ ?_
          · unfold image at hf2; split at hf2 <;> omega
          · unfold image at he; split at he <;> omega
/-- well formed, and generators lead back -/
def BK (ng n : Nat) (s : CSt) : Prop := CloseOK ng n s ∧ Back ng s.1 s.2.1 []
theorem close0_back {ng n : Nat} {s : CSt} {w : List Int} (h : BK ng n s) (hn : 0 < n) (hw : Letters ng w) : BK ng n (close0 ng s w) := by
  refine ⟨close0_ok h.1 hn hw, ?_⟩
  have h0 : 0 < s.2.1.length := Nat.lt_of_lt_of_le hn h.1.lo
  unfold close0
  split
  · exact h.2
  · exact closeC_back h.1.wf h.2 h0 (by have := h.1.wf.down 0 h0; omega) h.1.hi hw.nat
theorem close1_back {ng n c : Nat} {s : CSt} {w : List Int} (h : BK ng n s) (hn : c < n) (hw : Letters ng w) : BK ng n (close1 ng c s w) := by
  refine ⟨close1_ok h.1 hn hw, ?_⟩
  unfold close1
  split
  · rename_i hl
    exact closeC_back h.1.wf h.2 (Nat.lt_of_lt_of_le hn h.1.lo) (by unfold liveC at hl; simp at hl; exact hl.1) h.1.hi hw.nat
  · exact h.2
theorem next1_back {ng n c g : Nat} {s : CSt} (h : BK ng n s) (hn : c < n) (hg : g < ng) : BK ng n (next1 ng c s g) := by
  refine ⟨next1_ok h.1 hn hg, ?_⟩
  unfold next1
  split
  · rename_i hl
    exact (h.2.next h.1.wf (Nat.lt_of_lt_of_le hn h.1.lo) (by unfold liveC at hl; simp at hl; exact hl.1) hg h.1.hi).1
  · exact h.2
theorem foldl_back {α : Type} {ng n : Nat} {f : CSt → α → CSt} {p : α → Prop} (hf : ∀ s x, BK ng n s → p x → BK ng n (f s x)) : ∀ (l : List α) (s : CSt), BK ng n s → (∀ x ∈ l, p x) → BK ng n (l.foldl f s)
  | [], s, h, _ => h
  | x :: r, s, h, hp => foldl_back hf r _ (hf s x h (hp x (by simp))) fun y hy => hp y (by simp [hy])
theorem coset1_back {ng n c : Nat} {rels : List (List Int)} {s : CSt} (h : BK ng n s) (hn : c < n) (hr : ∀ w ∈ rels, Letters ng w) : BK ng n (coset1 ng rels c s) :=
  foldl_back (p := fun g => g < ng) (fun s g h hg => next1_back h hn hg) _ _ (foldl_back (p := Letters ng) (fun s w h hw => close1_back h hn hw) _ _ h hr) fun g hg => List.mem_range.1 hg
theorem outer_back {ng n : Nat} {rels : List (List Int)} (hr : ∀ w ∈ rels, Letters ng w) : ∀ (f c : Nat) (s : CSt), BK ng n s → BK ng n (outer ng rels f c s)
  | 0, _, s, h => h
  | f + 1, c, s, h => by
    unfold outer
    split
    · rename_i hc
      have := coset1_back (n := s.2.1.length) ⟨⟨h.1.wf, Nat.le_refl _, h.1.hi⟩, h.2⟩ hc.1 hr
      exact outer_back hr f _ _ ⟨this.1.le h.1.lo, this.2⟩
    · exact h
theorem startC_back (ng : Nat) : BK ng 1 (startC ng) := ⟨startC_ok ng, fun c g hc _ hg h0 => by
  exfalso
  obtain rfl : c = 0 := by simp [startC] at hc; omega
  simp [startC, ent, lget, iget, hg] at h0⟩
theorem runC_back {ng : Nat} {rels words : List (List Int)} (hr : ∀ w ∈ rels, Letters ng w) (hw : ∀ w ∈ words, Letters ng w) : BK ng 1 (runC ng rels words) :=
  outer_back hr _ _ _ (foldl_back (p := Letters ng) (fun s w h hw => close0_back h (by omega) hw) _ _ (startC_back ng) hw)
theorem image_back {ng : Nat} {im : List (List Int)} {less : List Int} (hF : Full ng im less) (hB : Back ng im less []) {c g : Nat} (hc : c < less.length) (hl : iget less c = (c : Int)) (hg : g < ng) : image im less (image im less c g).toNat g = (c : Int) := by
  have h0 := hF.full c hc hl g hg
  obtain ⟨k1, k2⟩ := hB.fix hF.wf hc hl hg h0
  have e : image im less c g = (root less (ent im c g).toNat : Nat) := by unfold image; rw [if_neg (by omega)]
  rw [e, Int.toNat_natCast]
  unfold image
  rw [if_neg (by omega), k2]

/-- the numbers lead back to the cosets -/
def NBack (n : Nat) (s : NSt) : Prop := ∀ d, d < n → 0 ≤ iget s.2 d → iget s.1 (iget s.2 d).toNat = (d : Int)
theorem visit_nback {n : Nat} {less : List Int} {s : NSt} {d : Nat} (h : TOK n less s) (hb : NBack n s) (hd : d < n) : NBack n (visit s d) := by
  unfold visit
  split
  · rename_i hn
    intro e he h0
    dsimp only at h0 ⊢
    rw [iget_set] at h0 ⊢
    split
    · rename_i h1; rw [Int.toNat_natCast, iget_app_eq, h1.1]
    · rename_i h1
      rw [if_neg h1] at h0
      rw [iget_app_lt (by have := h.num e he h0; omega)]
      exact hb e he h0
  · exact hb
theorem row_nback {ng : Nat} {im : List (List Int)} {less : List Int} (hF : Full ng im less) {i : Nat} {s : NSt} (h : TOK less.length less s) (hb : NBack less.length s) (hi : i < s.1.length) : ∀ m, m ≤ ng → NBack less.length ((List.range m).foldl (visitG im less i) s)
  | 0, _ => hb
  | m + 1, hm => by
    have ih := row_nback hF h hb hi m (by omega)
    obtain ⟨h1, h2, _⟩ := tabRow_ok hF h hi m (by omega)
    rw [List.range_succ, List.foldl_append]
    generalize (List.range m).foldl (visitG im less i) s = t at *
    obtain ⟨d, k1, k2, k3, _⟩ := h1.live i (Nat.lt_of_lt_of_le hi h2.len)
    obtain ⟨e, e1, e2, _⟩ := hF.image k2 k3 (g := m) (by omega)
    show NBack less.length (visitG im less i t m)
    unfold visitG
    rw [k1, Int.toNat_natCast, e1, Int.toNat_natCast]
    exact visit_nback h1 ih e2
theorem loop_nback {ng : Nat} {im : List (List Int)} {less : List Int} (hF : Full ng im less) : ∀ (f i : Nat) (s : NSt), TOK less.length less s → NBack less.length s → NBack less.length (tabLoop ng im less f i s)
  | 0, i, s, _, hb => hb
  | f + 1, i, s, h, hb => by
    unfold tabLoop
    split
    · rename_i hlt
      exact loop_nback hF f (i + 1) _ (tabRow_ok hF h hlt ng (Nat.le_refl _)).1 (row_nback hF h hb hlt ng (Nat.le_refl _))
    · exact hb
theorem numbered_nback {ng : Nat} {im : List (List Int)} {less : List Int} (hF : Full ng im less) : NBack less.length (numbered ng im less) :=
  loop_nback hF _ _ _ (tabStart_ok hF) fun d hd h0 => by
    have hp := hF.pos
    have h0 : 0 ≤ iget ((List.replicate less.length (-1)).set 0 0) d := h0
    show iget [0] (iget ((List.replicate less.length (-1)).set 0 0) d).toNat = _
    rw [iget_set] at h0 ⊢
    split
    · rename_i h1; rw [← h1.1]; rfl
    · rename_i h1; rw [if_neg h1, iget_rep hd] at h0; omega
/-- the entry of the table -/
def tEnt (ng : Nat) (im : List (List Int)) (less : List Int) (k g : Nat) : Int := iget (numbered ng im less).2 (image im less (iget (numbered ng im less).1 k).toNat g).toNat
theorem tEnt_back {ng : Nat} {im : List (List Int)} {less : List Int} (hF : Full ng im less) (hB : Back ng im less []) {k g : Nat} (hk : k < (numbered ng im less).1.length) (hg : g < ng) : tEnt ng im less (tEnt ng im less k g).toNat g = (k : Int) := by
  obtain ⟨h, hs⟩ := numbered_ok hF
  obtain ⟨d, h1, h2, h3, h4⟩ := h.live k hk
  obtain ⟨e, e1, e2, e3⟩ := hF.image h2 h3 hg
  have h0 := hs k hk g hg
  have hn := numbered_nback hF e e2
  have hi := image_back hF hB h2 h3 hg
  unfold tEnt
  rw [h1, Int.toNat_natCast, e1, Int.toNat_natCast] at h0 ⊢
  rw [e1, Int.toNat_natCast] at hi
  rw [hn h0, Int.toNat_natCast, hi, Int.toNat_natCast, h4]
end Go.Proofs.Ytpognnifgcacnaa

/- Coset enumeration: no image is lost, up to identifications; words stay closed. No program in sight. -/
namespace Go.Proofs.Ytpognnifgcacnaa

/-- what a state says of images and of equal cosets, the later one says too -/
structure Ext (ng : Nat) (im : List (List Int)) (less : List Int) (im' : List (List Int)) (less' : List Int) : Prop where
  len : less.length ≤ less'.length
  eqv : ∀ a b, a < less.length → b < less.length → root less a = root less b → root less' a = root less' b
  img : ∀ c g, c < less.length → g < ng → 0 ≤ ent im (root less c) g → 0 ≤ ent im' (root less' c) g ∧ root less' (ent im' (root less' c) g).toNat = root less' (ent im (root less c) g).toNat
theorem Ext.refl (ng : Nat) (im : List (List Int)) (less : List Int) : Ext ng im less im less := ⟨Nat.le_refl _, fun _ _ _ _ h => h, fun _ _ _ _ h => ⟨h, rfl⟩⟩
theorem Ext.trans {ng : Nat} {a b c : List (List Int)} {x y z : List Int} (h : Ext ng a x b y) (k : Ext ng b y c z) (ha : WF ng a x) (hb : WF ng b y) : Ext ng a x c z :=
  ⟨Nat.le_trans h.len k.len, fun i j hi hj e => k.eqv i j (Nat.lt_of_lt_of_le hi h.len) (Nat.lt_of_lt_of_le hj h.len) (h.eqv i j hi hj e), fun i g hi hg h0 => by
    obtain ⟨h1, h2⟩ := h.img i g hi hg h0
    have hl := h.len
    have hi' : i < y.length := by omega
    obtain ⟨h3, h4⟩ := k.img i g hi' hg h1
    have e1 := hb.ent (root y i) g (by rw [hb.len]; exact root_lt hb.down hi') hg
    have e2 := ha.ent (root x i) g (by rw [ha.len]; exact root_lt ha.down hi) hg
    exact ⟨h3, h4.trans (k.eqv _ _ (by omega) (by omega) h2)⟩⟩
/-- the coset to which a word leads -/
def pth (im : List (List Int)) (less : List Int) (c : Nat) : List Nat → Option Nat
  | [] => some (root less c)
  | g :: r => if 0 ≤ ent im (root less c) g then pth im less (ent im (root less c) g).toNat r else none
theorem pth_root {im : List (List Int)} {less : List Int} {a b : Nat} (h : root less a = root less b) (w : List Nat) : pth im less a w = pth im less b w := by
  cases w with
  | nil => simp [pth, h]
  | cons g r => simp only [pth, h]
theorem pth_snoc {im : List (List Int)} {less : List Int} : ∀ (u : List Nat) (c d g : Nat), pth im less c u = some d → 0 ≤ ent im d g → pth im less c (u ++ [g]) = some (root less (ent im d g).toNat)
  | [], c, d, g, h, h0 => by
    simp [pth] at h; subst h
    simp [pth, h0]
  | k :: r, c, d, g, h, h0 => by
    simp only [List.cons_append, pth] at h ⊢
    split at h
    · rename_i h1
      rw [if_pos h1]; exact pth_snoc r _ d g h h0
    · cases h
theorem Ext.path {ng : Nat} {im im' : List (List Int)} {less less' : List Int} (h : Ext ng im less im' less') (hw : WF ng im less) : ∀ (w : List Nat) (c d : Nat), c < less.length → (∀ g ∈ w, g < ng) → pth im less c w = some d → pth im' less' c w = some (root less' d)
  | [], c, d, hc, _, hp => by
    simp [pth] at hp; subst hp
    simp only [pth]
    rw [h.eqv c (root less c) hc (root_lt hw.down hc) (root_root hw.down hc).symm]
  | g :: r, c, d, hc, hg, hp => by
    simp only [pth] at hp ⊢
    split at hp
    · rename_i h0
      obtain ⟨h1, h2⟩ := h.img c g hc (hg g (by simp)) h0
      have e := hw.ent (root less c) g (by rw [hw.len]; exact root_lt hw.down hc) (hg g (by simp))
      rw [if_pos h1, pth_root h2]
      exact h.path hw r _ d (by omega) (fun x hx => hg x (by simp [hx])) hp
    · cases hp
theorem Ext.set {ng : Nat} {im : List (List Int)} {less : List Int} (hw : WF ng im less) {c g : Nat} {z : Int} (hc : c < less.length) (hg : g < ng) (h0 : ent im c g < 0) : Ext ng im less (rset im c g z) less :=
  ⟨Nat.le_refl _, fun _ _ _ _ h => h, fun a k _ _ hp => by
    have e := ent_rset (im := im) (c := c) (g := g) (k := root less a) (j := k) (z := z) (by rw [hw.len]; exact hc) (by rw [hw.row c (by rw [hw.len]; exact hc)]; exact hg)
    rw [if_neg (by rintro ⟨e1, e2⟩; rw [← e1, ← e2] at hp; omega)] at e
    rw [e]; exact ⟨hp, rfl⟩⟩
theorem Ext.app {ng : Nat} {im : List (List Int)} {less : List Int} (hw : WF ng im less) : Ext ng im less (im ++ [List.replicate ng (-1)]) (less ++ [(less.length : Int)]) := by
  have hl := hw.len
  have hra := root_app hw.down
  refine ⟨by simp, fun a b ha hb h => by rw [hra a ha, hra b hb, h], fun a k ha hk h0 => ?_⟩
  have hr := root_lt hw.down ha
  have e : ent (im ++ [List.replicate ng (-1)]) (root less a) k = ent im (root less a) k := by unfold ent; rw [lget_app_lt (by omega)]
  rw [hra a ha, e]
  exact ⟨h0, rfl⟩
theorem nextC_ext {ng : Nat} {im : List (List Int)} {less : List Int} {c g : Nat} (hw : WF ng im less) (hc : c < less.length) (hg : g < ng) (hlc : iget less c = (c : Int)) : Ext ng im less (nextC ng im less c g).1 (nextC ng im less c g).2.1 ∧
    ((nextC ng im less c g).2.2.1 = false → 0 ≤ ent (nextC ng im less c g).1 c g ∧ root (nextC ng im less c g).2.1 (ent (nextC ng im less c g).1 c g).toNat = (nextC ng im less c g).2.2.2 ∧ root (nextC ng im less c g).2.1 c = c) := by
  unfold nextC
  split
  · rename_i h0
    exact ⟨Ext.refl _ _ _, fun _ => ⟨h0, rfl, root_of hlc⟩⟩
  · rename_i h0
    split
    · exact ⟨Ext.refl _ _ _, fun h => nomatch h⟩
    · have hl := hw.len
      have w1 := hw.app
      have ec : ent (im ++ [List.replicate ng (-1)]) c g = ent im c g := by unfold ent; rw [lget_app_lt (by omega)]
      have en : ent (im ++ [List.replicate ng (-1)]) less.length g = -1 := by unfold ent; rw [← hl, lget_app_eq, iget_rep hg]
      have w2 := w1.set_im (c := c) (g := g) (z := (less.length : Int)) (by simp; omega) hg (by simp; omega)
      have e2 : ∀ a k, ent (rset (im ++ [List.replicate ng (-1)]) c g (less.length : Int)) a k = if c = a ∧ g = k then (less.length : Int) else ent (im ++ [List.replicate ng (-1)]) a k := fun a k => ent_rset (by simp; omega) (by rw [w1.row _ (by simp; omega)]; exact hg)
      have e3 : ∀ a k, ent (addC ng im less.length c g) a k = if less.length = a ∧ g = k then (c : Int) else ent (rset (im ++ [List.replicate ng (-1)]) c g (less.length : Int)) a k := fun a k => by
        unfold addC
        exact ent_rset (by rw [rset_len]; simp; omega) (by rw [w2.row _ (by rw [rset_len]; simp; omega)]; exact hg)
      have x1 := Ext.app (ng := ng) hw
      have x2 := Ext.set (z := (less.length : Int)) w1 (c := c) (g := g) (by simp; omega) hg (by omega)
      have x3 := Ext.set (z := (c : Int)) w2 (c := less.length) (g := g) (by simp) hg (by rw [e2, if_neg (by omega)]; omega)
      refine ⟨(x1.trans x2 hw w1).trans x3 hw w2, fun _ => ?_⟩
      have e4 := e3 c g
      rw [if_neg (by omega), e2, if_pos ⟨rfl, rfl⟩] at e4
      dsimp only
      rw [e4]
      exact ⟨by omega, by rw [Int.toNat_natCast]; exact root_of iget_app_eq, root_of (by rw [iget_app_lt hc]; exact hlc)⟩

/-- a merge: what was equal stays so; where an entry of a root lies now -/
theorem merge_key {ng lo hi : Nat} {im : List (List Int)} {less : List Int} {p : Int × Int} {q : List (Int × Int)} (h : WF ng im less) (hp : p.1.toNat < less.length ∧ p.2.toNat < less.length) (hlt : lo < hi) (hhi : hi < less.length) (hl0 : iget less lo = (lo : Int)) (hh0 : iget less hi = (hi : Int))
    (hr : (root less p.1.toNat = lo ∧ root less p.2.toNat = hi) ∨ (root less p.1.toNat = hi ∧ root less p.2.toNat = lo)) :
    (∀ a b, Eqv less (p :: q) a b → Eqv (less.set hi (lo : Int)) (mergeUp lo hi (im, q) ng).2 a b) ∧
    ∀ r g, r < less.length → g < ng → 0 ≤ ent im r g → 0 ≤ ent (mergeUp lo hi (im, q) ng).1 (if r = hi then lo else r) g ∧ Eqv (less.set hi (lo : Int)) (mergeUp lo hi (im, q) ng).2 (ent (mergeUp lo hi (im, q) ng).1 (if r = hi then lo else r) g).toNat (ent im r g).toNat := by
  have hil : lo < im.length := by rw [h.len]; omega
  obtain ⟨m1, m2, m3, m4, _⟩ := mergeUp_spec (q := q) h hil (by omega : lo ≠ hi) ng (Nat.le_refl _)
  have hrs := root_set h.down hlt hhi hl0 hh0
  generalize (mergeUp lo hi (im, q) ng).1 = im' at *
  generalize (mergeUp lo hi (im, q) ng).2 = q' at *
  have hlh : Eqv (less.set hi (lo : Int)) q' hi lo := by
    have := Eqv.root (less := less.set hi (lo : Int)) (q := q') hi (by rw [List.length_set]; exact hhi)
    rwa [hrs hi hhi, root_of hh0, if_pos rfl] at this
  have hroot : ∀ a, a < less.length → Eqv (less.set hi (lo : Int)) q' a (root less a) := fun a ha => by
    have := Eqv.root (less := less.set hi (lo : Int)) (q := q') a (by rw [List.length_set]; exact ha)
    rw [hrs a ha] at this
    by_cases e : root less a = hi
    · rw [if_pos e] at this; rw [e]; exact this.trans hlh.symm
    · rwa [if_neg e] at this
  have elo : ∀ g, g < ng → (0 ≤ ent im lo g → ent im' lo g = ent im lo g) ∧ (0 ≤ ent im hi g → 0 ≤ ent im' lo g ∧ Eqv (less.set hi (lo : Int)) q' (ent im' lo g).toNat (ent im hi g).toNat) := fun g hg => by
    have e := m2 g hg
    refine ⟨fun h0 => ?_, fun h0 => ?_⟩
    · rw [e]; split <;> first | rfl | rw [if_pos h0]
    · by_cases h1 : 0 ≤ ent im lo g
      · rw [e, if_neg (by omega), if_pos h1]
        exact ⟨h1, (Eqv.pair _ (m4 g hg h0 h1)).symm⟩
      · rw [e, if_neg (by omega), if_neg h1]
        exact ⟨h0, .refl _⟩
  refine ⟨fun a b hab => Eqv.mono hroot (fun x hx => ?_) hab, fun r g hr' hg h0 => ?_⟩
  · rcases List.mem_cons.1 hx with rfl | hx
    · have k1 := hroot _ hp.1
      have k2 := hroot _ hp.2
      rcases hr with ⟨r1, r2⟩ | ⟨r1, r2⟩
      · rw [r1] at k1; rw [r2] at k2; exact k1.trans (hlh.symm.trans k2.symm)
      · rw [r1] at k1; rw [r2] at k2; exact k1.trans (hlh.trans k2.symm)
    · exact .pair x (m3 x hx)
  · by_cases e : r = hi
    · subst e; rw [if_pos rfl]; exact (elo g hg).2 h0
    · rw [if_neg e]
      by_cases e2 : r = lo
      · subst e2; rw [(elo g hg).1 h0]; exact ⟨h0, .refl _⟩
      · rw [m1 r g (.inl e2)]; exact ⟨h0, .refl _⟩
/-- what a state says of images and equal cosets, the state and the queue say too -/
structure EInv (ng : Nat) (im0 : List (List Int)) (less0 : List Int) (im : List (List Int)) (less : List Int) (q : List (Int × Int)) : Prop where
  eqv : ∀ a b, a < less0.length → b < less0.length → root less0 a = root less0 b → Eqv less q a b
  img : ∀ c g, c < less0.length → g < ng → 0 ≤ ent im0 (root less0 c) g → 0 ≤ ent im (root less c) g ∧ Eqv less q (ent im (root less c) g).toNat (ent im0 (root less0 c) g).toNat
theorem identLoop_ext {ng n a0 b0 : Nat} {im0 : List (List Int)} {less0 : List Int} (h0 : less0.length = n) : ∀ (f : Nat) (im : List (List Int)) (less : List Int) (q : List (Int × Int)), WF ng im less → less.length = n → QOK n q → fuel ng less q ≤ f → EInv ng im0 less0 im less q → Eqv less q a0 b0 →
    EInv ng im0 less0 (identLoop ng f im less q).1 (identLoop ng f im less q).2 [] ∧ Eqv (identLoop ng f im less q).2 [] a0 b0
  | 0, im, less, q, h, hn, hq, hf, hE, hab => by
    have : q = [] := List.eq_nil_of_length_eq_zero (by unfold fuel at hf; omega)
    subst this; exact ⟨hE, hab⟩
  | f + 1, im, less, [], h, hn, hq, hf, hE, hab => ⟨hE, hab⟩
  | f + 1, im, less, p :: q, h, hn, hq, hf, hE, hab => by
    have hp := hq p (by simp)
    have hq' : QOK less.length q := fun x hx => hn ▸ hq x (by simp [hx])
    have hr1 := root_fix h.down p.1.toNat (by omega)
    have hr2 := root_fix h.down p.2.toNat (by omega)
    have hfu : fuel ng less (p :: q) = fuel ng less q + 1 := by unfold fuel; simp; omega
    simp only [identLoop]
    split
    · rename_i he
      have mono : ∀ a b, Eqv less (p :: q) a b → Eqv less q a b := fun a b hab => hab.mono (fun a ha => .root a ha) fun x hx => by
        rcases List.mem_cons.1 hx with rfl | hx
        · have k1 := Eqv.root (less := less) (q := q) x.1.toNat (by omega)
          have k2 := Eqv.root (less := less) (q := q) x.2.toNat (by omega)
          rw [he] at k1; exact k1.trans k2.symm
        · exact .pair x hx
      exact identLoop_ext h0 f im less q h hn (fun x hx => hq x (by simp [hx])) (by omega) ⟨fun a b ha hb e => mono _ _ (hE.eqv a b ha hb e), fun c g hc hg e => ⟨(hE.img c g hc hg e).1, mono _ _ (hE.img c g hc hg e).2⟩⟩ (mono _ _ hab)
    · rename_i hne
      have hid := ident_merge h (hn ▸ hq) hne
      unfold mergeSt at hid
      obtain ⟨_, w1, w2, w3⟩ := hid
      have hroots : iget less (min (root less p.1.toNat) (root less p.2.toNat)) = ((min (root less p.1.toNat) (root less p.2.toNat) : Nat) : Int) ∧ iget less (max (root less p.1.toNat) (root less p.2.toNat)) = ((max (root less p.1.toNat) (root less p.2.toNat) : Nat) : Int) := by
        rcases Nat.le_total (root less p.1.toNat) (root less p.2.toNat) with h5 | h5
        · rw [Nat.min_eq_left h5, Nat.max_eq_right h5]; exact ⟨hr1.1, hr2.1⟩
        · rw [Nat.min_eq_right h5, Nat.max_eq_left h5]; exact ⟨hr2.1, hr1.1⟩
      obtain ⟨k1, k2⟩ := merge_key (q := q) h (p := p) (by omega) (lo := min (root less p.1.toNat) (root less p.2.toNat)) (hi := max (root less p.1.toNat) (root less p.2.toNat)) (by omega) (by omega) hroots.1 hroots.2 (by
        rcases Nat.le_total (root less p.1.toNat) (root less p.2.toNat) with h5 | h5
        · left; rw [Nat.min_eq_left h5, Nat.max_eq_right h5]; exact ⟨rfl, rfl⟩
        · right; rw [Nat.min_eq_right h5, Nat.max_eq_left h5]; exact ⟨rfl, rfl⟩)
      have hrs := root_set h.down (lo := min (root less p.1.toNat) (root less p.2.toNat)) (hi := max (root less p.1.toNat) (root less p.2.toNat)) (by omega) (by omega) hroots.1 hroots.2
      refine identLoop_ext h0 f _ _ _ w1 (by rw [List.length_set]; exact hn) (hn ▸ w2) (by omega) ⟨fun a b ha hb e => k1 _ _ (hE.eqv a b ha hb e), fun c g hc hg e => ?_⟩ (k1 _ _ hab)
      obtain ⟨e1, e2⟩ := hE.img c g hc hg e
      have hcl : c < less.length := by omega
      obtain ⟨e3, e4⟩ := k2 (root less c) g (root_lt h.down hcl) hg e1
      rw [hrs c hcl]
      exact ⟨e3, e4.trans (k1 _ _ e2)⟩
theorem ident_ext {ng : Nat} {im : List (List Int)} {less : List Int} {p : Int × Int} (h : WF ng im less) (hq : QOK less.length [p]) :
    Ext ng im less (ident ng im less [p]).1 (ident ng im less [p]).2 ∧ root (ident ng im less [p]).2 p.1.toNat = root (ident ng im less [p]).2 p.2.toNat := by
  obtain ⟨w, hl⟩ := ident_ok h rfl hq
  have hh : ∀ a, a < less.length → Eqv less [p] a (root less a) := fun a ha => .root a ha
  obtain ⟨hE, hab⟩ := identLoop_ext (im0 := im) (less0 := less) rfl (fuel ng less [p]) im less [p] h rfl hq (Nat.le_refl _) ⟨fun a b ha hb e => (hh a ha).trans (e ▸ (hh b hb).symm), fun c g _ _ e => ⟨e, .refl _⟩⟩ (Eqv.pair (less := less) p (by simp))
  have hE : EInv ng im less (ident ng im less [p]).1 (ident ng im less [p]).2 [] := hE
  have hab : Eqv (ident ng im less [p]).2 [] p.1.toNat p.2.toNat := hab
  exact ⟨⟨Nat.le_of_eq hl.symm, fun a b ha hb e => (hE.eqv a b ha hb e).root_eq w.down, fun c g hc hg e => ⟨(hE.img c g hc hg e).1, (hE.img c g hc hg e).2.root_eq w.down⟩⟩, hab.root_eq w.down⟩
theorem goC_ext {ng n0 : Nat} : ∀ (w : List Nat) (s : List (List Int) × List Int × Bool × Nat), GoOK ng n0 s → Back ng s.1 s.2.1 [] → (s.2.2.1 = false → iget s.2.1 s.2.2.2 = (s.2.2.2 : Int)) → (∀ g ∈ w, g < ng) →
    Ext ng s.1 s.2.1 (goC ng s w).1 (goC ng s w).2.1 ∧ ((goC ng s w).2.2.1 = false → pth (goC ng s w).1 (goC ng s w).2.1 s.2.2.2 w = some (goC ng s w).2.2.2)
  | [], s, h, hB, hl, _ => ⟨Ext.refl _ _ _, fun hf => by simp only [goC, pth]; rw [root_of (hl hf)]⟩
  | g :: r, s, h, hB, hl, hg => by
    unfold goC
    split
    · rename_i hf
      exact ⟨Ext.refl _ _ _, fun h0 => by rw [hf] at h0; cases h0⟩
    · rename_i hf
      have hld := hl (by simpa using hf)
      obtain ⟨b1, b2, b3⟩ := hB.next h.wf h.d hld (hg g (by simp)) h.hi
      obtain ⟨h1, h2, h3, h4, _⟩ := nextC_ok h.wf h.d (hg g (by simp)) h.hi
      obtain ⟨x1, y1⟩ := nextC_ext h.wf h.d (hg g (by simp)) hld
      obtain ⟨x2, y2⟩ := goC_ext (n0 := n0) r (nextC ng s.1 s.2.1 s.2.2.2 g) ⟨h1, Nat.le_trans h.lo h2, h3, h4⟩ b1 b2 fun x hx => hg x (by simp [hx])
      refine ⟨x1.trans x2 h.wf h1, fun hff => ?_⟩
      have ht : (nextC ng s.1 s.2.1 s.2.2.2 g).2.2.1 = false := by
        cases e : (nextC ng s.1 s.2.1 s.2.2.2 g).2.2.1 with
        | false => rfl
        | true => rw [goC_failed e] at hff; rw [e] at hff; cases hff
      obtain ⟨z1, z2, z3⟩ := y1 ht
      have hd := h.d
      have hdt : s.2.2.2 < (nextC ng s.1 s.2.1 s.2.2.2 g).2.1.length := by omega
      have he := h1.ent s.2.2.2 g (by rw [h1.len]; exact hdt) (hg g (by simp))
      obtain ⟨i1, i2⟩ := x2.img s.2.2.2 g hdt (hg g (by simp)) (by rw [z3]; exact z1)
      rw [z3] at i2
      have i3 := x2.eqv (ent (nextC ng s.1 s.2.1 s.2.2.2 g).1 s.2.2.2 g).toNat (nextC ng s.1 s.2.1 s.2.2.2 g).2.2.2 (by omega) h4 (by rw [z2, root_of (b2 ht)])
      simp only [pth]
      rw [if_pos i1, pth_root (i2.trans i3)]
      exact y2 hff
/-- a word leads from a coset back to it -/
def ClN (im : List (List Int)) (less : List Int) (c : Nat) (w : List Nat) : Prop := pth im less c w = some (root less c)
theorem Ext.cl {ng : Nat} {im im' : List (List Int)} {less less' : List Int} (h : Ext ng im less im' less') (hw : WF ng im less) {c : Nat} {w : List Nat} (hc : c < less.length) (hg : ∀ g ∈ w, g < ng) (hcl : ClN im less c w) : ClN im' less' c w := by
  unfold ClN
  rw [h.path hw w c _ hc hg hcl, h.eqv (root less c) c (root_lt hw.down hc) hc (root_root hw.down hc)]
theorem closeC_ext {ng : Nat} {im : List (List Int)} {less : List Int} {c : Nat} {w : List Nat} (h : WF ng im less) (hB : Back ng im less []) (hc : c < less.length) (hl : iget less c = (c : Int)) (hn : less.length ≤ 2000) (hg : ∀ g ∈ w, g < ng) :
    Ext ng im less (closeC ng im less c w).1 (closeC ng im less c w).2.1 ∧ ((closeC ng im less c w).2.2 = false → ClN (closeC ng im less c w).1 (closeC ng im less c w).2.1 c w) := by
  unfold closeC
  cases hlast : w.getLast? with
  | none =>
    have : w = [] := List.getLast?_eq_none_iff.1 hlast
    subst this
    exact ⟨Ext.refl _ _ _, fun _ => rfl⟩
  | some g =>
    have hgl : g < ng := hg g (List.mem_of_getLast? hlast)
    have hgd : ∀ x ∈ w.dropLast, x < ng := fun x hx => hg x (List.dropLast_subset _ hx)
    have ok := goC_ok (n0 := less.length) w.dropLast (im, less, false, c) ⟨h, Nat.le_refl _, hn, hc⟩ hgd
    obtain ⟨b1, b2, b3⟩ := goC_back (n0 := less.length) w.dropLast (im, less, false, c) ⟨h, Nat.le_refl _, hn, hc⟩ hB (fun _ => hl) hgd
    obtain ⟨x1, y1⟩ := goC_ext (n0 := less.length) w.dropLast (im, less, false, c) ⟨h, Nat.le_refl _, hn, hc⟩ hB (fun _ => hl) hgd
    have hww : w = w.dropLast ++ [g] := by
      obtain ⟨ys, rfl⟩ := List.getLast?_eq_some_iff.1 hlast
      simp
    generalize hwd : w.dropLast = u at *
    generalize goC ng (im, less, false, c) u = s at *
    have hcs : c < s.2.1.length := Nat.lt_of_lt_of_le hc ok.lo
    have hlc : iget s.2.1 c = (c : Int) := (b3 c hc).trans hl
    have x1 : Ext ng im less s.1 s.2.1 := x1
    dsimp only
    split
    · exact ⟨x1, fun h => nomatch h⟩
    · rename_i hf
      have y1 : pth s.1 s.2.1 c u = some s.2.2.2 := y1 (by simpa using hf)
      have hld : iget s.2.1 s.2.2.2 = (s.2.2.2 : Int) := b2 (by simpa using hf)
      have e1 := image_lt ok.wf ok.d hgl
      have e2 := image_lt ok.wf hcs hgl
      have hd := ok.d
      split
      · rename_i he
        have qok : QOK s.2.1.length [(image s.1 s.2.1 s.2.2.2 g, (c : Int))] := fun p hp => by simp at hp; subst hp; exact ⟨⟨he, e1⟩, by omega, by dsimp only; omega⟩
        obtain ⟨x2, r2⟩ := ident_ext ok.wf qok
        refine ⟨x1.trans x2 h ok.wf, fun _ => ?_⟩
        have hee : 0 ≤ ent s.1 s.2.2.2 g := by unfold image at he; split at he <;> omega
        have hei : (image s.1 s.2.1 s.2.2.2 g).toNat = root s.2.1 (ent s.1 s.2.2.2 g).toNat := by unfold image; rw [if_neg (by omega)]; simp
        have p1 := pth_snoc u c s.2.2.2 g y1 hee
        rw [← hww] at p1
        have p2 := x2.path ok.wf w c _ hcs hg p1
        unfold ClN
        rw [p2, ← hei]
        exact congrArg some r2
      · rename_i he
        split
        · rename_i hf2
          have qok : QOK s.2.1.length [(image s.1 s.2.1 c g, (s.2.2.2 : Int))] := fun p hp => by simp at hp; subst hp; exact ⟨⟨hf2, e2⟩, by omega, by dsimp only; omega⟩
          obtain ⟨x2, r2⟩ := ident_ext ok.wf qok
          obtain ⟨w2, l2⟩ := ident_ok ok.wf rfl qok
          have b4 := ident_back ok.wf qok b1
          refine ⟨x1.trans x2 h ok.wf, fun _ => ?_⟩
          have hee : 0 ≤ ent s.1 c g := by unfold image at hf2; split at hf2 <;> omega
          have hei : (image s.1 s.2.1 c g).toNat = root s.2.1 (ent s.1 c g).toNat := by unfold image; rw [if_neg (by omega)]; simp
          have p2 := x2.path ok.wf u c _ hcs (fun x hx => hgd x hx) y1
          obtain ⟨i1, i2⟩ := x2.img c g hcs hgl (by rw [root_of hlc]; exact hee)
          rw [root_of hlc] at i2
          have hent := ok.wf.ent c g (by rw [ok.wf.len]; exact hcs) hgl
          have i3 := x2.eqv (ent s.1 c g).toNat (root s.2.1 (ent s.1 c g).toNat) (by omega) (root_lt ok.wf.down (by omega)) (root_root ok.wf.down (by omega)).symm
          dsimp only at r2
          rw [hei, Int.toNat_natCast] at r2
          generalize hS : ident ng s.1 s.2.1 [(image s.1 s.2.1 c g, (s.2.2.2 : Int))] = S at *
          have hcl : c < S.2.length := by omega
          obtain ⟨j1, j2⟩ := b4.fix w2 (root_lt w2.down hcl) (root_fix w2.down c hcl).1 hgl i1
          have e5 : root S.2 (ent S.1 (root S.2 c) g).toNat = root S.2 s.2.2.2 := i2.trans (i3.trans r2)
          rw [e5] at j1 j2
          have p3 := pth_snoc u c (root S.2 s.2.2.2) g p2 j1
          rw [← hww, j2] at p3
          exact p3
        · rename_i hf2
          have n1 : ent s.1 c g < 0 := by unfold image at hf2; split at hf2 <;> omega
          have n2 : ent s.1 s.2.2.2 g < 0 := by unfold image at he; split at he <;> omega
          have w1 := ok.wf.set_im (c := s.2.2.2) (g := g) (z := (c : Int)) (by rw [ok.wf.len]; omega) hgl (by omega)
          have w2 := w1.set_im (c := c) (g := g) (z := (s.2.2.2 : Int)) (by rw [rset_len, ok.wf.len]; omega) hgl (by omega)
          have ea : ∀ a k, ent (rset s.1 s.2.2.2 g (c : Int)) a k = if s.2.2.2 = a ∧ g = k then (c : Int) else ent s.1 a k := fun a k => ent_rset (by rw [ok.wf.len]; omega) (by rw [ok.wf.row _ (by rw [ok.wf.len]; omega)]; exact hgl)
          have ee : ∀ a k, ent (rset (rset s.1 s.2.2.2 g (c : Int)) c g (s.2.2.2 : Int)) a k = if c = a ∧ g = k then (s.2.2.2 : Int) else if s.2.2.2 = a ∧ g = k then (c : Int) else ent s.1 a k := fun a k => by
            rw [ent_rset (by rw [rset_len, ok.wf.len]; omega) (by rw [rset_row, ok.wf.row c (by rw [ok.wf.len]; omega)]; exact hgl), ea]
          have x2 : Ext ng s.1 s.2.1 (rset (rset s.1 s.2.2.2 g (c : Int)) c g (s.2.2.2 : Int)) s.2.1 := ⟨Nat.le_refl _, fun _ _ _ _ h => h, fun a k _ _ hp => by
            have e := ee (root s.2.1 a) k
            rw [if_neg (by rintro ⟨e1, e2⟩; rw [← e1, ← e2] at hp; omega), if_neg (by rintro ⟨e1, e2⟩; rw [← e1, ← e2] at hp; omega)] at e
            rw [e]; exact ⟨hp, rfl⟩⟩
          refine ⟨x1.trans x2 h ok.wf, fun _ => ?_⟩
          have p2 := x2.path ok.wf u c _ hcs (fun x hx => hgd x hx) y1
          rw [root_of hld] at p2
          have e6 := ee s.2.2.2 g
          have e7 : ent (rset (rset s.1 s.2.2.2 g (c : Int)) c g (s.2.2.2 : Int)) s.2.2.2 g = (c : Int) := by
            rw [e6]
            by_cases e : c = s.2.2.2
            · rw [if_pos ⟨e, rfl⟩, ← e]
            · rw [if_neg (fun h => e h.1), if_pos ⟨rfl, rfl⟩]
          have p3 := pth_snoc u c s.2.2.2 g p2 (by rw [e7]; omega)
          rw [← hww, e7, Int.toNat_natCast] at p3
          exact p3
end Go.Proofs.Ytpognnifgcacnaa

/- Coset enumeration: at the end each relator leads back from each coset, each subgroup word from coset 0. No program in sight. -/
namespace Go.Proofs.Ytpognnifgcacnaa

abbrev ExtC (ng : Nat) (s s' : CSt) : Prop := Ext ng s.1 s.2.1 s'.1 s'.2.1
abbrev Cl (s : CSt) (c : Nat) (w : List Int) : Prop := ClN s.1 s.2.1 c (w.map Int.toNat)
theorem Ext.cls {ng : Nat} {s s' : CSt} (h : ExtC ng s s') (hw : WF ng s.1 s.2.1) {c : Nat} {w : List Int} (hc : c < s.2.1.length) (hl : Letters ng w) (hcl : Cl s c w) : Cl s' c w := h.cl hw hc hl.nat hcl
theorem close0_ext {ng n : Nat} {s : CSt} {w : List Int} (h : BK ng n s) (hn : 0 < n) (hw : Letters ng w) : ExtC ng s (close0 ng s w) ∧ ((close0 ng s w).2.2 = false → Cl (close0 ng s w) 0 w) := by
  have h0 : 0 < s.2.1.length := Nat.lt_of_lt_of_le hn h.1.lo
  unfold close0
  split
  · rename_i hf
    exact ⟨Ext.refl _ _ _, fun h => by rw [hf] at h; cases h⟩
  · exact closeC_ext h.1.wf h.2 h0 (by have := h.1.wf.down 0 h0; omega) h.1.hi hw.nat
theorem close1_ext {ng n c : Nat} {s : CSt} {w : List Int} (h : BK ng n s) (hn : c < n) (hw : Letters ng w) : ExtC ng s (close1 ng c s w) ∧ (liveC s c = true → (close1 ng c s w).2.2 = false → Cl (close1 ng c s w) c w) := by
  have hc := Nat.lt_of_lt_of_le hn h.1.lo
  unfold close1
  split
  · rename_i hl
    have hl' : iget s.2.1 c = (c : Int) ∧ s.2.2 = false := by unfold liveC at hl; simpa using hl
    have := closeC_ext h.1.wf h.2 hc hl'.1 h.1.hi hw.nat
    exact ⟨this.1, fun _ => this.2⟩
  · rename_i hl
    exact ⟨Ext.refl _ _ _, fun h => absurd h hl⟩
theorem next1_ext {ng n c g : Nat} {s : CSt} (h : BK ng n s) (hn : c < n) (hg : g < ng) : ExtC ng s (next1 ng c s g) := by
  have hc := Nat.lt_of_lt_of_le hn h.1.lo
  unfold next1
  split
  · rename_i hl
    have hl' : iget s.2.1 c = (c : Int) ∧ s.2.2 = false := by unfold liveC at hl; simpa using hl
    exact (nextC_ext h.1.wf hc hg hl'.1).1
  · exact Ext.refl _ _ _
theorem close1_failed {ng c : Nat} {s : CSt} (h : s.2.2 = true) (w : List Int) : close1 ng c s w = s := close1_dead (by unfold liveC; simp [h]) w
theorem next1_failed {ng c : Nat} {s : CSt} (h : s.2.2 = true) (g : Nat) : next1 ng c s g = s := next1_dead (by unfold liveC; simp [h]) g
theorem fold_stay {α : Type} {f : CSt → α → CSt} (hf : ∀ s x, s.2.2 = true → f s x = s) : ∀ (l : List α) (s : CSt), s.2.2 = true → l.foldl f s = s
  | [], _, _ => rfl
  | x :: r, s, h => by rw [List.foldl_cons, hf s x h]; exact fold_stay hf r s h
theorem fold_flag {α : Type} {f : CSt → α → CSt} (hf : ∀ s x, s.2.2 = true → f s x = s) {l : List α} {s : CSt} (h : (l.foldl f s).2.2 = false) : s.2.2 = false := by
  cases e : s.2.2 with
  | false => rfl
  | true => rw [fold_stay hf l s e, e] at h; cases h
theorem rels_cl {ng n c : Nat} {R : List (List Int)} (hR : ∀ w ∈ R, Letters ng w) (hn : c < n) : ∀ (l : List (List Int)) (s : CSt), (∀ w ∈ l, w ∈ R) → BK ng n s → (∀ i, i < c → ∀ w ∈ R, Cl s i w) →
    BK ng n (l.foldl (close1 ng c) s) ∧ ExtC ng s (l.foldl (close1 ng c) s) ∧ ((l.foldl (close1 ng c) s).2.2 = false → ∀ w ∈ l, Cl (l.foldl (close1 ng c) s) c w)
  | [], s, _, h, _ => ⟨h, Ext.refl _ _ _, fun _ w hw => by simp at hw⟩
  | x :: r, s, hl, h, hc => by
    have hx := hR x (hl x (by simp))
    have b1 := close1_back (c := c) h hn hx
    obtain ⟨x1, c1⟩ := close1_ext (c := c) h hn hx
    have hlen := h.1.lo
    have hc1 : ∀ i, i < c → ∀ w ∈ R, Cl (close1 ng c s x) i w := fun i hi w hw => x1.cls h.1.wf (by omega) (hR w hw) (hc i hi w hw)
    obtain ⟨b2, x2, c2⟩ := rels_cl hR hn r (close1 ng c s x) (fun w hw => hl w (by simp [hw])) b1 hc1
    rw [List.foldl_cons]
    refine ⟨b2, x1.trans x2 h.1.wf b1.1.wf, fun hf w hw => ?_⟩
    rcases List.mem_cons.1 hw with rfl | hw
    · refine x2.cls b1.1.wf (Nat.lt_of_lt_of_le hn b1.1.lo) hx ?_
      have hf1 := fold_flag (f := close1 ng c) (fun s x h => close1_failed h x) hf
      cases e : liveC s c with
      | true => exact c1 e hf1
      | false =>
        rw [close1_dead e] at hf1 ⊢
        have hne : iget s.2.1 c ≠ (c : Int) := by unfold liveC at e; rw [hf1] at e; simpa using e
        have hcs : c < s.2.1.length := by omega
        have hd := h.1.wf.down
        have hfix := root_fix hd c hcs
        have hlt : root s.2.1 c < c := by
          rcases Nat.lt_or_ge (root s.2.1 c) c with h1 | h1
          · exact h1
          · exfalso
            have h2 : root s.2.1 c = c := by omega
            rw [h2] at hfix; exact hne hfix.1
        have := hc (root s.2.1 c) hlt w (hl w (by simp))
        show pth s.1 s.2.1 c (w.map Int.toNat) = some (root s.2.1 c)
        rw [← pth_root (root_root hd hcs)]
        have h3 : pth s.1 s.2.1 (root s.2.1 c) (w.map Int.toNat) = some (root s.2.1 (root s.2.1 c)) := this
        rw [h3, root_root hd hcs]
    · exact c2 hf w hw
theorem gens_ext {ng n c : Nat} (hn : c < n) : ∀ (l : List Nat) (s : CSt), (∀ g ∈ l, g < ng) → BK ng n s → BK ng n (l.foldl (next1 ng c) s) ∧ ExtC ng s (l.foldl (next1 ng c) s)
  | [], s, _, h => ⟨h, Ext.refl _ _ _⟩
  | g :: r, s, hg, h => by
    have b1 := next1_back (c := c) h hn (hg g (by simp))
    have x1 := next1_ext (c := c) h hn (hg g (by simp))
    obtain ⟨b2, x2⟩ := gens_ext hn r (next1 ng c s g) (fun x hx => hg x (by simp [hx])) b1
    rw [List.foldl_cons]
    exact ⟨b2, x1.trans x2 h.1.wf b1.1.wf⟩
theorem coset1_cl {ng n c : Nat} {R : List (List Int)} {s : CSt} (hR : ∀ w ∈ R, Letters ng w) (hn : c < n) (h : BK ng n s) (hc : ∀ i, i < c → ∀ w ∈ R, Cl s i w) :
    BK ng n (coset1 ng R c s) ∧ ExtC ng s (coset1 ng R c s) ∧ ((coset1 ng R c s).2.2 = false → ∀ i, i < c + 1 → ∀ w ∈ R, Cl (coset1 ng R c s) i w) := by
  obtain ⟨b1, x1, c1⟩ := rels_cl hR hn R s (fun _ h => h) h hc
  obtain ⟨b2, x2⟩ := gens_ext hn (List.range ng) (R.foldl (close1 ng c) s) (fun g hg => List.mem_range.1 hg) b1
  have hlen := h.1.lo
  have x : ExtC ng s (coset1 ng R c s) := x1.trans x2 h.1.wf b1.1.wf
  refine ⟨b2, x, fun hf i hi w hw => ?_⟩
  by_cases e : i = c
  · subst e
    exact x2.cls b1.1.wf (Nat.lt_of_lt_of_le hn b1.1.lo) (hR w hw) (c1 (fold_flag (f := next1 ng i) (fun s x h => next1_failed h x) hf) w hw)
  · exact x.cls h.1.wf (by omega) (hR w hw) (hc i (by omega) w hw)
theorem BK.full {ng n : Nat} {s : CSt} (h : BK ng n s) : BK ng s.2.1.length s := ⟨⟨h.1.wf, Nat.le_refl _, h.1.hi⟩, h.2⟩
theorem outer_cl {ng : Nat} {R : List (List Int)} (hR : ∀ w ∈ R, Letters ng w) : ∀ (f c : Nat) (s : CSt), BK ng 1 s → 2001 ≤ f + c → c ≤ s.2.1.length → (∀ i, i < c → ∀ w ∈ R, Cl s i w) →
    BK ng 1 (outer ng R f c s) ∧ ExtC ng s (outer ng R f c s) ∧ ((outer ng R f c s).2.2 = false → ∀ i, i < (outer ng R f c s).2.1.length → ∀ w ∈ R, Cl (outer ng R f c s) i w)
  | 0, c, s, h, hf, hc, hcl => by have := h.1.hi; omega
  | f + 1, c, s, h, hf, hc, hcl => by
    unfold outer
    by_cases hcond : c < s.2.1.length ∧ s.2.2 = false
    · rw [if_pos hcond]
      obtain ⟨b1, x1, c1⟩ := coset1_cl hR hcond.1 h.full hcl
      have hle := h.1.lo
      have b1' : BK ng 1 (coset1 ng R c s) := ⟨b1.1.le hle, b1.2⟩
      cases e : (coset1 ng R c s).2.2 with
      | true =>
        rw [outer_failed e]
        exact ⟨b1', x1, fun h => by rw [e] at h; cases h⟩
      | false =>
        obtain ⟨b2, x2, c2⟩ := outer_cl hR f (c + 1) (coset1 ng R c s) b1' (by omega) (by have := x1.len; omega) (c1 e)
        exact ⟨b2, x1.trans x2 h.1.wf b1.1.wf, c2⟩
    · rw [if_neg hcond]
      refine ⟨h, Ext.refl _ _ _, fun hnf i hi => hcl i ?_⟩
      by_cases e : c < s.2.1.length
      · exact absurd ⟨e, hnf⟩ hcond
      · omega
theorem words_cl {ng : Nat} {W : List (List Int)} (hW : ∀ w ∈ W, Letters ng w) : ∀ (l : List (List Int)) (s : CSt), (∀ w ∈ l, w ∈ W) → BK ng 1 s →
    BK ng 1 (l.foldl (close0 ng) s) ∧ ExtC ng s (l.foldl (close0 ng) s) ∧ ((l.foldl (close0 ng) s).2.2 = false → ∀ w ∈ l, Cl (l.foldl (close0 ng) s) 0 w)
  | [], s, _, h => ⟨h, Ext.refl _ _ _, fun _ w hw => by simp at hw⟩
  | x :: r, s, hl, h => by
    have hx := hW x (hl x (by simp))
    have b1 := close0_back h (by omega) hx
    obtain ⟨x1, c1⟩ := close0_ext h (by omega) hx
    obtain ⟨b2, x2, c2⟩ := words_cl hW r (close0 ng s x) (fun w hw => hl w (by simp [hw])) b1
    rw [List.foldl_cons]
    refine ⟨b2, x1.trans x2 h.1.wf b1.1.wf, fun hf w hw => ?_⟩
    rcases List.mem_cons.1 hw with rfl | hw
    · exact x2.cls b1.1.wf (by have := b1.1.lo; omega) hx (c1 (fold_flag (f := close0 ng) (fun s x h => close0_failed h x) hf))
    · exact c2 hf w hw
/-- the procedure that does not fail: relators close at all cosets, subgroup words at coset 0 -/
theorem runC_closed {ng : Nat} {R W : List (List Int)} (hR : ∀ w ∈ R, Letters ng w) (hW : ∀ w ∈ W, Letters ng w) (hnf : (runC ng R W).2.2 = false) :
    (∀ i, i < (runC ng R W).2.1.length → ∀ w ∈ R, Cl (runC ng R W) i w) ∧ ∀ w ∈ W, Cl (runC ng R W) 0 w := by
  obtain ⟨b1, x1, c1⟩ := words_cl hW W (startC ng) (fun _ h => h) (startC_back ng)
  obtain ⟨b2, x2, c2⟩ := outer_cl hR 2001 0 (W.foldl (close0 ng) (startC ng)) b1 (by omega) (by omega) (fun i hi => by omega)
  refine ⟨c2 hnf, fun w hw => x2.cls b1.1.wf (by have := b1.1.lo; omega) (hW w hw) (c1 ?_ w hw)⟩
  cases e : (W.foldl (close0 ng) (startC ng)).2.2 with
  | false => rfl
  | true => 
    have : (runC ng R W) = W.foldl (close0 ng) (startC ng) := outer_failed e _ _
    rw [this, e] at hnf; cases hnf
end Go.Proofs.Ytpognnifgcacnaa

/- Coset enumeration: each action in which the words hold is an image of the table. No program in sight. -/
namespace Go.Proofs.Ytpognnifgcacnaa

/-- h leads cosets to points on which the generators act by f -/
structure Hom {X : Type} (ng : Nat) (f : Nat → X → X) (im : List (List Int)) (less : List Int) (h : Nat → X) : Prop where
  entv : ∀ c g, c < less.length → g < ng → 0 ≤ ent im c g → h (ent im c g).toNat = f g (h c)
  lessv : ∀ c, c < less.length → h (iget less c).toNat = h c
def actW {X : Type} (f : Nat → X → X) (x : X) (w : List Nat) : X := w.foldl (fun y g => f g y) x
section
variable {X : Type} {ng : Nat} {f : Nat → X → X} {im : List (List Int)} {less : List Int} {h : Nat → X}
theorem Hom.root (H : Hom ng f im less h) (hd : Down less) : ∀ c, c < less.length → h (root less c) = h c := by
  intro c
  induction c using Nat.strongRecOn with
  | _ c ih =>
    intro hc
    by_cases e : iget less c = (c : Int)
    · rw [root_of e]
    · have hb := hd c hc
      rw [root_step hd hc e, ih _ (by omega) (by omega)]
      exact H.lessv c hc
theorem Hom.img (H : Hom ng f im less h) (hw : WF ng im less) {c g : Nat} (hc : c < less.length) (hg : g < ng) (h0 : 0 ≤ image im less c g) : h (image im less c g).toNat = f g (h c) := by
  unfold image at h0 ⊢
  by_cases e : ent im c g < 0
  · rw [if_pos e] at h0; omega
  · rw [if_neg e]
    have := hw.ent c g (by rw [hw.len]; exact hc) hg
    rw [Int.toNat_natCast, H.root hw.down _ (by omega), H.entv c g hc hg (by omega)]
theorem Hom.set (H : Hom ng f im less h) (hw : WF ng im less) {c g z : Nat} (hc : c < less.length) (hg : g < ng) (hz : h z = f g (h c)) : Hom ng f (rset im c g (z : Int)) less h :=
  ⟨fun a k ha hk h0 => by
    have e := ent_rset (im := im) (c := c) (g := g) (k := a) (j := k) (z := (z : Int)) (by rw [hw.len]; exact hc) (by rw [hw.row c (by rw [hw.len]; exact hc)]; exact hg)
    rw [e] at h0 ⊢
    by_cases e2 : c = a ∧ g = k
    · rw [if_pos e2, Int.toNat_natCast, hz, e2.1, e2.2]
    · rw [if_neg e2] at h0 ⊢; exact H.entv a k ha hk h0, H.lessv⟩
theorem Hom.next (H : Hom ng f im less h) (hinv : ∀ g x, g < ng → f g (f g x) = x) (hw : WF ng im less) {c g : Nat} (hc : c < less.length) (hg : g < ng) :
    ∃ h', Hom ng f (nextC ng im less c g).1 (nextC ng im less c g).2.1 h' ∧ (∀ a, a < less.length → h' a = h a) ∧ ((nextC ng im less c g).2.2.1 = false → h' (nextC ng im less c g).2.2.2 = f g (h c)) := by
  unfold nextC
  split
  · rename_i h0
    have he := hw.ent c g (by rw [hw.len]; exact hc) hg
    exact ⟨h, H, fun _ _ => rfl, fun _ => by rw [H.root hw.down _ (by omega)]; exact H.entv c g hc hg h0⟩
  · split
    · exact ⟨h, H, fun _ _ => rfl, fun h => nomatch h⟩
    · have hl := hw.len
      have w1 := hw.app
      have ha : ∀ a, a < less.length → (fun a => if a = less.length then f g (h c) else h a) a = h a := fun a ha => if_neg (by omega)
      have hn : (fun a => if a = less.length then f g (h c) else h a) less.length = f g (h c) := if_pos rfl
      refine ⟨fun a => if a = less.length then f g (h c) else h a, ?_, ha, fun _ => hn⟩
      generalize (fun a => if a = less.length then f g (h c) else h a) = h' at *
      have H1 : Hom ng f (im ++ [List.replicate ng (-1)]) (less ++ [(less.length : Int)]) h' := by
        refine ⟨fun a k hka hk h0 => ?_, fun a hka => ?_⟩
        · by_cases e : a < less.length
          · have e1 : ent (im ++ [List.replicate ng (-1)]) a k = ent im a k := by unfold Proofs.Ytpognnifgcacnaa.ent; rw [lget_app_lt (by omega)]
            rw [e1] at h0 ⊢
            have := hw.ent a k (by omega) hk
            rw [ha _ (by omega), ha a e]; exact H.entv a k e hk h0
          · obtain rfl : a = less.length := by simp at hka; omega
            exfalso
            unfold Proofs.Ytpognnifgcacnaa.ent at h0
            rw [← hl, lget_app_eq, iget_rep hk] at h0
            omega
        · by_cases e : a < less.length
          · have := hw.down a e
            rw [iget_app_lt e, ha _ (by omega), ha a e]; exact H.lessv a e
          · obtain rfl : a = less.length := by simp at hka; omega
            rw [iget_app_eq, Int.toNat_natCast]
      have H2 := H1.set w1 (c := c) (g := g) (z := less.length) (by simp; omega) hg (by rw [hn, ha c hc])
      have w2 := w1.set_im (c := c) (g := g) (z := (less.length : Int)) (by simp; omega) hg (by simp; omega)
      exact H2.set w2 (c := less.length) (g := g) (z := c) (by simp) hg (by rw [hn, ha c hc, hinv g _ hg])
end
section
variable {X : Type} {ng : Nat} {f : Nat → X → X}
theorem goC_hom (hinv : ∀ g x, g < ng → f g (f g x) = x) {n0 : Nat} : ∀ (w : List Nat) (s : List (List Int) × List Int × Bool × Nat) (h : Nat → X), GoOK ng n0 s → Hom ng f s.1 s.2.1 h → (∀ g ∈ w, g < ng) →
    ∃ h', Hom ng f (goC ng s w).1 (goC ng s w).2.1 h' ∧ (∀ a, a < s.2.1.length → h' a = h a) ∧ ((goC ng s w).2.2.1 = false → h' (goC ng s w).2.2.2 = actW f (h s.2.2.2) w)
  | [], s, h, _, H, _ => ⟨h, H, fun _ _ => rfl, fun _ => rfl⟩
  | g :: r, s, h, ok, H, hg => by
    unfold goC
    split
    · rename_i hf
      exact ⟨h, H, fun _ _ => rfl, fun h0 => by rw [hf] at h0; cases h0⟩
    · obtain ⟨h1, H1, a1, v1⟩ := H.next hinv ok.wf ok.d (hg g (by simp))
      obtain ⟨k1, k2, k3, k4, _⟩ := nextC_ok ok.wf ok.d (hg g (by simp)) ok.hi
      obtain ⟨h2, H2, a2, v2⟩ := goC_hom hinv (n0 := n0) r _ h1 ⟨k1, Nat.le_trans ok.lo k2, k3, k4⟩ H1 fun x hx => hg x (by simp [hx])
      refine ⟨h2, H2, fun a ha => (a2 a (by omega)).trans (a1 a ha), fun hf => ?_⟩
      have hf1 : (nextC ng s.1 s.2.1 s.2.2.2 g).2.2.1 = false := by
        cases e : (nextC ng s.1 s.2.1 s.2.2.2 g).2.2.1 with
        | false => rfl
        | true => rw [goC_failed e] at hf; rw [e] at hf; cases hf
      rw [v2 hf, v1 hf1]; rfl
theorem mergeUp_hom {lo hi : Nat} {im : List (List Int)} {less : List Int} {q : List (Int × Int)} {h : Nat → X} (hw : WF ng im less) (H : Hom ng f im less h) (hlo : lo < im.length) (hhi : hi < im.length) (hq : QOK less.length q) (he : h lo = h hi) (hp : ∀ p ∈ q, h p.1.toNat = h p.2.toNat) :
    ∀ g, g ≤ ng → Hom ng f (mergeUp lo hi (im, q) g).1 less h ∧ ∀ p ∈ (mergeUp lo hi (im, q) g).2, h p.1.toNat = h p.2.toNat
  | 0, _ => ⟨H, hp⟩
  | g + 1, hg => by
    obtain ⟨H1, p1⟩ := mergeUp_hom hw H hlo hhi hq he hp g (by omega)
    obtain ⟨w1, _, _, w4⟩ := mergeUp_ok hw hlo hhi hq g (by omega)
    have hl := hw.len
    simp only [mergeUp, stepG]
    split
    · exact ⟨H1, p1⟩
    · rename_i hn
      have e1 := w1.ent hi g (by omega) (by omega)
      have v1 := H1.entv hi g (by omega) (by omega) (by omega)
      split
      · rename_i hpos
        refine ⟨H1, fun p hp' => ?_⟩
        rcases List.mem_append.1 hp' with h5 | h5
        · exact p1 p h5
        · simp at h5; subst h5
          dsimp only
          rw [v1, H1.entv lo g (by omega) (by omega) hpos, he]
      · refine ⟨?_, p1⟩
        have hz : ent (mergeUp lo hi (im, q) g).1 hi g = (((ent (mergeUp lo hi (im, q) g).1 hi g).toNat : Nat) : Int) := by omega
        have := H1.set w1 (c := lo) (g := g) (z := (ent (mergeUp lo hi (im, q) g).1 hi g).toNat) (by omega) (by omega) (by rw [v1, he])
        rw [← hz] at this
        exact this
theorem identLoop_hom {h : Nat → X} {n : Nat} : ∀ (k : Nat) (im : List (List Int)) (less : List Int) (q : List (Int × Int)), WF ng im less → less.length = n → QOK n q → Hom ng f im less h → (∀ p ∈ q, h p.1.toNat = h p.2.toNat) → Hom ng f (identLoop ng k im less q).1 (identLoop ng k im less q).2 h
  | 0, im, less, q, _, _, _, H, _ => H
  | k + 1, im, less, [], _, _, _, H, _ => H
  | k + 1, im, less, p :: q, hw, hn, hq, H, hp => by
    have hpp := hq p (by simp)
    have hq' : QOK less.length q := fun x hx => hn ▸ hq x (by simp [hx])
    have hr1 := root_lt hw.down (c := p.1.toNat) (by omega)
    have hr2 := root_lt hw.down (c := p.2.toNat) (by omega)
    have v1 := H.root hw.down p.1.toNat (by omega)
    have v2 := H.root hw.down p.2.toNat (by omega)
    have v3 := hp p (by simp)
    simp only [identLoop]
    split
    · exact identLoop_hom k im less q hw hn (fun x hx => hq x (by simp [hx])) H fun x hx => hp x (by simp [hx])
    · rename_i hne
      have hl := hw.len
      have hlh : h (min (root less p.1.toNat) (root less p.2.toNat)) = h (max (root less p.1.toNat) (root less p.2.toNat)) := by
        rcases Nat.le_total (root less p.1.toNat) (root less p.2.toNat) with h5 | h5
        · rw [Nat.min_eq_left h5, Nat.max_eq_right h5, v1, v2, v3]
        · rw [Nat.min_eq_right h5, Nat.max_eq_left h5, v1, v2, v3]
      obtain ⟨w1, w2, w3, w4⟩ := mergeUp_ok hw (lo := min (root less p.1.toNat) (root less p.2.toNat)) (hi := max (root less p.1.toNat) (root less p.2.toNat)) (by rw [hw.len]; omega) (by rw [hw.len]; omega) hq' ng (Nat.le_refl _)
      obtain ⟨H1, p1⟩ := mergeUp_hom hw H (lo := min (root less p.1.toNat) (root less p.2.toNat)) (hi := max (root less p.1.toNat) (root less p.2.toNat)) (by rw [hw.len]; omega) (by rw [hw.len]; omega) hq' hlh (fun x hx => hp x (by simp [hx])) ng (Nat.le_refl _)
      refine identLoop_hom k _ _ _ (w1.set_less (by omega)) (by rw [List.length_set]; exact hn) (hn ▸ w2) ⟨fun c g hc => H1.entv c g (by rwa [List.length_set] at hc), fun c hc => ?_⟩ p1
      rw [List.length_set] at hc
      rw [iget_set]
      split
      · rename_i e; rw [Int.toNat_natCast, hlh, e.1]
      · exact H1.lessv c hc
theorem closeC_hom (hinv : ∀ g x, g < ng → f g (f g x) = x) {im : List (List Int)} {less : List Int} {h : Nat → X} {c : Nat} {w : List Nat} (hw : WF ng im less) (H : Hom ng f im less h) (hc : c < less.length) (hn : less.length ≤ 2000) (hg : ∀ g ∈ w, g < ng) (hcl : actW f (h c) w = h c) :
    ∃ h', Hom ng f (closeC ng im less c w).1 (closeC ng im less c w).2.1 h' ∧ ∀ a, a < less.length → h' a = h a := by
  unfold closeC
  cases hlast : w.getLast? with
  | none => exact ⟨h, H, fun _ _ => rfl⟩
  | some g =>
    have hgl : g < ng := hg g (List.mem_of_getLast? hlast)
    have ok := goC_ok (n0 := less.length) w.dropLast (im, less, false, c) ⟨hw, Nat.le_refl _, hn, hc⟩ fun x hx => hg x (List.dropLast_subset _ hx)
    obtain ⟨h1, H1, a1, v1⟩ := goC_hom hinv (n0 := less.length) w.dropLast (im, less, false, c) h ⟨hw, Nat.le_refl _, hn, hc⟩ H fun x hx => hg x (List.dropLast_subset _ hx)
    have hww : w = w.dropLast ++ [g] := by
      obtain ⟨ys, rfl⟩ := List.getLast?_eq_some_iff.1 hlast
      simp
    generalize goC ng (im, less, false, c) w.dropLast = s at *
    have hcs : c < s.2.1.length := Nat.lt_of_lt_of_le hc ok.lo
    dsimp only at a1 v1 ⊢
    split
    · exact ⟨h1, H1, a1⟩
    · rename_i hf
      have vd : f g (h1 s.2.2.2) = h1 c := by
        rw [v1 (by simpa using hf), a1 c hc]
        have := hcl
        rw [hww] at this
        unfold actW at this
        rw [List.foldl_append] at this
        exact this
      have e1 := image_lt ok.wf ok.d hgl
      have e2 := image_lt ok.wf hcs hgl
      have hd := ok.d
      split
      · rename_i he
        refine ⟨h1, identLoop_hom _ _ _ _ ok.wf rfl (fun p hp => by simp at hp; subst hp; exact ⟨⟨he, e1⟩, by omega, by dsimp only; omega⟩) H1 (fun p hp => by simp at hp; subst hp; dsimp only; rw [Int.toNat_natCast, H1.img ok.wf ok.d hgl he, vd]), a1⟩
      · split
        · rename_i hf2
          refine ⟨h1, identLoop_hom _ _ _ _ ok.wf rfl (fun p hp => by simp at hp; subst hp; exact ⟨⟨hf2, e2⟩, by omega, by dsimp only; omega⟩) H1 (fun p hp => by simp at hp; subst hp; dsimp only; rw [Int.toNat_natCast, H1.img ok.wf hcs hgl hf2, ← vd, hinv g _ hgl]), a1⟩
        · have k1 := ok.wf.set_im (c := s.2.2.2) (g := g) (z := (c : Int)) (by rw [ok.wf.len]; exact hd) hgl (by omega)
          exact ⟨h1, (H1.set ok.wf hd hgl vd.symm).set k1 hcs hgl (by rw [← vd, hinv g _ hgl]), a1⟩
/-- a homomorphism, base point x0 -/
def HomS (ng : Nat) (f : Nat → X → X) (x0 : X) (n : Nat) (s : CSt) : Prop := CloseOK ng n s ∧ ∃ h, Hom ng f s.1 s.2.1 h ∧ h 0 = x0
theorem close0_hom (hinv : ∀ g x, g < ng → f g (f g x) = x) {x0 : X} {n : Nat} {s : CSt} {w : List Int} (h : HomS ng f x0 n s) (hn : 0 < n) (hw : Letters ng w ∧ actW f x0 (w.map Int.toNat) = x0) : HomS ng f x0 n (close0 ng s w) := by
  refine ⟨close0_ok h.1 hn hw.1, ?_⟩
  obtain ⟨h0, H, e0⟩ := h.2
  have hl : 0 < s.2.1.length := Nat.lt_of_lt_of_le hn h.1.lo
  unfold close0
  split
  · exact ⟨h0, H, e0⟩
  · obtain ⟨h1, H1, a1⟩ := closeC_hom hinv h.1.wf H hl h.1.hi hw.1.nat (by rw [e0]; exact hw.2)
    exact ⟨h1, H1, (a1 0 hl).trans e0⟩
theorem close1_hom (hinv : ∀ g x, g < ng → f g (f g x) = x) {x0 : X} {n c : Nat} {s : CSt} {w : List Int} (h : HomS ng f x0 n s) (hn : c < n) (hw : Letters ng w ∧ ∀ x, actW f x (w.map Int.toNat) = x) : HomS ng f x0 n (close1 ng c s w) := by
  refine ⟨close1_ok h.1 hn hw.1, ?_⟩
  obtain ⟨h0, H, e0⟩ := h.2
  have hl : c < s.2.1.length := Nat.lt_of_lt_of_le hn h.1.lo
  unfold close1
  split
  · obtain ⟨h1, H1, a1⟩ := closeC_hom hinv h.1.wf H hl h.1.hi hw.1.nat (hw.2 _)
    exact ⟨h1, H1, (a1 0 (by omega)).trans e0⟩
  · exact ⟨h0, H, e0⟩
theorem next1_hom (hinv : ∀ g x, g < ng → f g (f g x) = x) {x0 : X} {n c g : Nat} {s : CSt} (h : HomS ng f x0 n s) (hn : c < n) (hg : g < ng) : HomS ng f x0 n (next1 ng c s g) := by
  refine ⟨next1_ok h.1 hn hg, ?_⟩
  obtain ⟨h0, H, e0⟩ := h.2
  have hl : c < s.2.1.length := Nat.lt_of_lt_of_le hn h.1.lo
  unfold next1
  split
  · obtain ⟨h1, H1, a1, _⟩ := H.next hinv h.1.wf hl hg
    exact ⟨h1, H1, (a1 0 (by omega)).trans e0⟩
  · exact ⟨h0, H, e0⟩
theorem foldl_hom {α : Type} {x0 : X} {n : Nat} {k : CSt → α → CSt} {p : α → Prop} (hf : ∀ s x, HomS ng f x0 n s → p x → HomS ng f x0 n (k s x)) : ∀ (l : List α) (s : CSt), HomS ng f x0 n s → (∀ x ∈ l, p x) → HomS ng f x0 n (l.foldl k s)
  | [], s, h, _ => h
  | x :: r, s, h, hp => foldl_hom hf r _ (hf s x h (hp x (by simp))) fun y hy => hp y (by simp [hy])
theorem outer_hom (hinv : ∀ g x, g < ng → f g (f g x) = x) {x0 : X} {n : Nat} {rels : List (List Int)} (hr : ∀ w ∈ rels, Letters ng w ∧ ∀ x, actW f x (w.map Int.toNat) = x) : ∀ (k c : Nat) (s : CSt), HomS ng f x0 n s → HomS ng f x0 n (outer ng rels k c s)
  | 0, _, s, h => h
  | k + 1, c, s, h => by
    unfold outer
    split
    · rename_i hc
      have h' : HomS ng f x0 s.2.1.length s := ⟨⟨h.1.wf, Nat.le_refl _, h.1.hi⟩, h.2⟩
      have := foldl_hom (p := fun g => g < ng) (fun s g h hg => next1_hom hinv h hc.1 hg) (List.range ng) _ (foldl_hom (p := fun w => Letters ng w ∧ ∀ x, actW f x (w.map Int.toNat) = x) (fun s w h hw => close1_hom hinv h hc.1 hw) _ _ h' hr) fun g hg => List.mem_range.1 hg
      exact outer_hom hinv hr k _ _ ⟨this.1.le h.1.lo, this.2⟩
    · exact h
theorem runC_hom (hinv : ∀ g x, g < ng → f g (f g x) = x) {x0 : X} {rels words : List (List Int)} (hr : ∀ w ∈ rels, Letters ng w ∧ ∀ x, actW f x (w.map Int.toNat) = x) (hw : ∀ w ∈ words, Letters ng w ∧ actW f x0 (w.map Int.toNat) = x0) : HomS ng f x0 1 (runC ng rels words) :=
  outer_hom hinv hr _ _ _ (foldl_hom (p := fun w => Letters ng w ∧ actW f x0 (w.map Int.toNat) = x0) (fun s w h hw => close0_hom hinv h (by omega) hw) _ _ ⟨startC_ok ng, fun _ => x0, ⟨fun _ _ _ _ _ => rfl.trans (by
    rename_i c g hc hg h0
    exfalso
    obtain rfl : c = 0 := by simp [startC] at hc; omega
    simp [startC, ent, lget, iget, hg] at h0), fun _ _ => rfl⟩, rfl⟩ hw)
end
end Go.Proofs.Ytpognnifgcacnaa

/- The table of cosets: relators lead back everywhere, subgroup words at 0; maps from the table. No program in sight. -/
namespace Go.Proofs.Ytpognnifgcacnaa

/-- the coset with number k -/
def cosA (ng : Nat) (im : List (List Int)) (less : List Int) (k : Nat) : Nat := (iget (numbered ng im less).1 k).toNat
def cosM (ng : Nat) (im : List (List Int)) (less : List Int) : Nat := (numbered ng im less).1.length
section
variable {ng : Nat} {im : List (List Int)} {less : List Int}
theorem tableC_get {k g : Nat} (hk : k < cosM ng im less) (hg : g < ng) : iget (lget (tableC ng im less) g) k = tEnt ng im less k g := by
  unfold cosM at hk
  simp [tableC, lget, iget, tEnt, hg, hk]
theorem cosA_live (hF : Full ng im less) {k : Nat} (hk : k < cosM ng im less) : cosA ng im less k < less.length ∧ iget less (cosA ng im less k) = (cosA ng im less k : Nat) ∧ iget (numbered ng im less).2 (cosA ng im less k) = (k : Int) ∧ iget (numbered ng im less).1 k = (cosA ng im less k : Nat) := by
  obtain ⟨h, _⟩ := numbered_ok hF
  obtain ⟨d, h1, h2, h3, h4⟩ := h.live k hk
  unfold cosA
  rw [h1, Int.toNat_natCast]
  exact ⟨h2, h3, h4, rfl⟩
theorem cosA_inj (hF : Full ng im less) {j k : Nat} (hj : j < cosM ng im less) (hk : k < cosM ng im less) (e : cosA ng im less j = cosA ng im less k) : j = k := by
  have h1 := (cosA_live hF hj).2.2.1
  have h2 := (cosA_live hF hk).2.2.1
  rw [e] at h1; omega
theorem tEnt_step (hF : Full ng im less) {k g : Nat} (hk : k < cosM ng im less) (hg : g < ng) :
    0 ≤ tEnt ng im less k g ∧ tEnt ng im less k g < cosM ng im less ∧ 0 ≤ ent im (cosA ng im less k) g ∧ root less (ent im (cosA ng im less k) g).toNat = cosA ng im less (tEnt ng im less k g).toNat := by
  obtain ⟨k1, k2, k3, k4⟩ := cosA_live hF hk
  obtain ⟨e, e1, e2, e3⟩ := hF.image k1 k2 hg
  have h0 := hF.full _ k1 k2 g hg
  have hent := tableC_entry hF hk hg
  rw [k4, Int.toNat_natCast] at hent
  have ht : tEnt ng im less k g = iget (numbered ng im less).2 (image im less (cosA ng im less k) g).toNat := by unfold tEnt; rw [k4, Int.toNat_natCast]
  rw [← ht] at hent
  refine ⟨hent.1, hent.2, h0, ?_⟩
  have hi : image im less (cosA ng im less k) g = (root less (ent im (cosA ng im less k) g).toNat : Nat) := by unfold image; rw [if_neg (by omega)]
  have hn := numbered_nback hF e e2
  rw [e1] at ht hi
  rw [Int.toNat_natCast] at ht
  have := hn (by rw [← ht]; exact hent.1)
  have h5 : cosA ng im less (tEnt ng im less k g).toNat = e := by unfold cosA; rw [ht, this, Int.toNat_natCast]
  rw [h5]; omega
theorem lead_path (hF : Full ng im less) : ∀ (w : List Int) (k : Nat), Letters ng w → k < cosM ng im less → ∃ j : Nat, leadL (tableC ng im less) k w = (j : Int) ∧ j < cosM ng im less ∧ pth im less (cosA ng im less k) (w.map Int.toNat) = some (cosA ng im less j)
  | [], k, _, hk => ⟨k, rfl, hk, by simp only [List.map_nil, pth]; rw [root_of (cosA_live hF hk).2.1]⟩
  | z :: r, k, hw, hk => by
    have hz := hw z (by simp)
    obtain ⟨k1, k2, _, _⟩ := cosA_live hF hk
    obtain ⟨t1, t2, t3, t4⟩ := tEnt_step hF hk (g := z.toNat) (by omega)
    obtain ⟨j, j1, j2, j3⟩ := lead_path hF r (tEnt ng im less k z.toNat).toNat (fun x hx => hw x (by simp [hx])) (by omega)
    refine ⟨j, ?_, j2, ?_⟩
    · show leadL (tableC ng im less) (iget (lget (tableC ng im less) z.toNat) (k : Int).toNat) r = j
      rw [Int.toNat_natCast, tableC_get hk (by omega), ← j1, Int.toNat_of_nonneg t1]
    · simp only [List.map_cons, pth]
      rw [root_of k2, if_pos t3]
      have hent := hF.wf.ent (cosA ng im less k) z.toNat (by rw [hF.wf.len]; exact k1) (by omega)
      rw [← pth_root (root_root hF.wf.down (by omega)), t4]
      exact j3
/-- a closed word leads back in the table -/
theorem lead_closed (hF : Full ng im less) {w : List Int} {k : Nat} (hw : Letters ng w) (hk : k < cosM ng im less) (hc : ClN im less (cosA ng im less k) (w.map Int.toNat)) : leadL (tableC ng im less) k w = (k : Int) := by
  obtain ⟨j, j1, j2, j3⟩ := lead_path hF w k hw hk
  unfold ClN at hc
  rw [root_of (cosA_live hF hk).2.1, j3] at hc
  rw [j1, cosA_inj hF j2 hk (Option.some.inj hc)]
theorem tabLoop_zero : ∀ (f i : Nat) (s : NSt), 0 < s.1.length → iget s.1 0 = 0 → 0 < (tabLoop ng im less f i s).1.length ∧ iget (tabLoop ng im less f i s).1 0 = 0
  | 0, _, s, h, h0 => ⟨h, h0⟩
  | f + 1, i, s, h, h0 => by
    unfold tabLoop
    split
    · have key : ∀ (l : List Nat) (s : NSt), 0 < s.1.length → iget s.1 0 = 0 → 0 < (l.foldl (visitG im less i) s).1.length ∧ iget (l.foldl (visitG im less i) s).1 0 = 0 := by
        intro l
        induction l with
        | nil => intro s h h0; exact ⟨h, h0⟩
        | cons x r ih =>
          intro s h h0
          rw [List.foldl_cons]
          refine ih _ ?_ ?_
          · unfold visitG visit; split
            · simp
            · exact h
          · unfold visitG visit; split
            · dsimp only; rw [iget_app_lt h]; exact h0
            · exact h0
      obtain ⟨h1, h2⟩ := key (List.range ng) s h h0
      exact tabLoop_zero f (i + 1) _ h1 h2
    · exact ⟨h, h0⟩
theorem cosA_zero : 0 < cosM ng im less ∧ cosA ng im less 0 = 0 := by
  obtain ⟨h1, h2⟩ := tabLoop_zero (ng := ng) (im := im) (less := less) (less.length + 1) 0 (tabStart less.length) (by simp [tabStart]) (by simp [tabStart, iget])
  exact ⟨h1, by unfold cosA; show (iget (numbered ng im less).1 0).toNat = 0; unfold numbered; rw [h2]; rfl⟩
/-- a map from the table -/
theorem lead_hom {X : Type} {f : Nat → X → X} {h : Nat → X} (hF : Full ng im less) (H : Hom ng f im less h) {k g : Nat} (hk : k < cosM ng im less) (hg : g < ng) :
    h (cosA ng im less (tEnt ng im less k g).toNat) = f g (h (cosA ng im less k)) := by
  obtain ⟨t1, t2, t3, t4⟩ := tEnt_step hF hk hg
  obtain ⟨k1, k2, _, _⟩ := cosA_live hF hk
  have hent := hF.wf.ent (cosA ng im less k) g (by rw [hF.wf.len]; exact k1) hg
  rw [← t4, H.root hF.wf.down _ (by omega), H.entv _ g k1 hg t3]
end
section
variable {ng : Nat} {R W : List (List Int)}
abbrev ctb (ng : Nat) (R W : List (List Int)) : List (List Int) := tableC ng (runC ng R W).1 (runC ng R W).2.1
abbrev cnm (ng : Nat) (R W : List (List Int)) : Nat := cosM ng (runC ng R W).1 (runC ng R W).2.1
theorem ctb_rels (hR : ∀ w ∈ R, Letters ng w) (hW : ∀ w ∈ W, Letters ng w) (hnf : (runC ng R W).2.2 = false) {w : List Int} (hw : w ∈ R) {k : Nat} (hk : k < cnm ng R W) : leadL (ctb ng R W) k w = (k : Int) := by
  have hF := full_run hR hW hnf
  exact lead_closed hF (hR w hw) hk ((runC_closed hR hW hnf).1 _ (cosA_live hF hk).1 w hw)
theorem ctb_words (hR : ∀ w ∈ R, Letters ng w) (hW : ∀ w ∈ W, Letters ng w) (hnf : (runC ng R W).2.2 = false) {w : List Int} (hw : w ∈ W) : leadL (ctb ng R W) (0 : Nat) w = ((0 : Nat) : Int) := by
  have hF := full_run hR hW hnf
  have hz := cosA_zero (ng := ng) (im := (runC ng R W).1) (less := (runC ng R W).2.1)
  have := (runC_closed hR hW hnf).2 w hw
  exact lead_closed hF (hW w hw) hz.1 (by rw [hz.2]; exact this)
/-- each action of involutions in which the words hold is an image of the table -/
theorem ctb_hom {X : Type} {f : Nat → X → X} {x0 : X} (hinv : ∀ g x, g < ng → f g (f g x) = x) (hR : ∀ w ∈ R, Letters ng w ∧ ∀ x, actW f x (w.map Int.toNat) = x) (hW : ∀ w ∈ W, Letters ng w ∧ actW f x0 (w.map Int.toNat) = x0) (hnf : (runC ng R W).2.2 = false) :
    ∃ φ : Nat → X, φ 0 = x0 ∧ ∀ (w : List Int) (k : Nat), Letters ng w → k < cnm ng R W → φ (leadL (ctb ng R W) k w).toNat = actW f (φ k) (w.map Int.toNat) := by
  have hF := full_run (fun w hw => (hR w hw).1) (fun w hw => (hW w hw).1) hnf
  obtain ⟨_, h, H, h0⟩ := runC_hom hinv hR hW
  refine ⟨fun k => h (cosA ng (runC ng R W).1 (runC ng R W).2.1 k), by dsimp only; rw [cosA_zero.2]; exact h0, fun w => ?_⟩
  induction w with
  | nil => intro k _ _; simp [leadL, actW]
  | cons z r ih =>
    intro k hw hk
    have hz := hw z (by simp)
    obtain ⟨t1, t2, _, _⟩ := tEnt_step hF hk (g := z.toNat) (by omega)
    have e : leadL (ctb ng R W) k (z :: r) = leadL (ctb ng R W) ((tEnt ng (runC ng R W).1 (runC ng R W).2.1 k z.toNat).toNat : Nat) r := by
      show leadL (ctb ng R W) (iget (lget (ctb ng R W) z.toNat) (k : Int).toNat) r = _
      rw [Int.toNat_natCast, tableC_get hk (by omega), Int.toNat_of_nonneg t1]
    rw [e, ih _ (fun x hx => hw x (by simp [hx])) (by unfold cnm; omega)]
    dsimp only
    rw [lead_hom hF H hk (by omega)]
    simp [actW]
end
end Go.Proofs.Ytpognnifgcacnaa

/- Words by their lengths and letters; the words of cosets come in this order. No program in sight. -/
namespace Go.Proofs.Ytpognnifgcacnaa

def lexB : List Int → List Int → Bool
  | x :: a, y :: b => if x = y then lexB a b else decide (x < y)
  | _, _ => false
/-- u comes before v -/
def befB (u v : List Int) : Bool := if u.length = v.length then lexB u v else decide (u.length < v.length)
theorem lexB_irr : ∀ u, lexB u u = false
  | [] => rfl
  | x :: a => by unfold lexB; rw [if_pos rfl]; exact lexB_irr a
theorem lexB_tr : ∀ {u v w : List Int}, lexB u v = true → lexB v w = true → lexB u w = true
  | [], _, _, h, _ => by simp [lexB] at h
  | _ :: _, [], _, h, _ => by simp [lexB] at h
  | _ :: _, _ :: _, [], _, h => by simp [lexB] at h
  | x :: a, y :: b, z :: c, h, k => by
    unfold lexB at h k ⊢
    split at h
    · rename_i e
      subst e
      split at k
      · rename_i e2; subst e2; rw [if_pos rfl]; exact lexB_tr h k
      · rename_i e2; rw [if_neg e2]; exact k
    · rename_i e
      have h := of_decide_eq_true h
      split at k
      · rename_i e2; subst e2; rw [if_neg e]; exact decide_eq_true h
      · have k := of_decide_eq_true k
        rw [if_neg (by omega)]; exact decide_eq_true (by omega)
theorem lexB_app : ∀ {u v : List Int} (a b : List Int), lexB u v = true → lexB (u ++ a) (v ++ b) = true
  | [], _, _, _, h => by simp [lexB] at h
  | _ :: _, [], _, _, h => by simp [lexB] at h
  | x :: u, y :: v, a, b, h => by
    rw [List.cons_append, List.cons_append]
    unfold lexB at h ⊢
    split at h
    · rename_i e; rw [if_pos e]; exact lexB_app a b h
    · rename_i e; rw [if_neg e]; exact h
theorem lexB_last {g h : Int} (hgh : g < h) : ∀ u : List Int, lexB (u ++ [g]) (u ++ [h]) = true
  | [] => by simp only [List.nil_append, lexB]; rw [if_neg (by omega)]; exact decide_eq_true hgh
  | x :: u => by rw [List.cons_append, List.cons_append]; unfold lexB; rw [if_pos rfl]; exact lexB_last hgh u
theorem befB_irr (u : List Int) : befB u u = false := by unfold befB; rw [if_pos rfl]; exact lexB_irr u
theorem befB_tr {u v w : List Int} (h : befB u v = true) (k : befB v w = true) : befB u w = true := by
  unfold befB at h k ⊢
  split at h
  · rename_i e
    rw [e]
    split at k
    · rename_i e2; rw [if_pos e2]; exact lexB_tr h k
    · rename_i e2; rw [if_neg e2]; exact k
  · have h := of_decide_eq_true h
    split at k
    · rename_i e2; rw [if_neg (by omega)]; exact decide_eq_true (by omega)
    · have k := of_decide_eq_true k
      rw [if_neg (by omega)]; exact decide_eq_true (by omega)
theorem befB_app {u v : List Int} (g h : Int) (k : befB u v = true) : befB (u ++ [g]) (v ++ [h]) = true := by
  unfold befB at k ⊢
  rw [List.length_append, List.length_append]
  split at k
  · rename_i e; rw [if_pos (by simp [e])]; exact lexB_app _ _ k
  · rename_i e; have k := of_decide_eq_true k; rw [if_neg (by simp; omega)]; exact decide_eq_true (by simp; omega)
theorem befB_last {g h : Int} (hgh : g < h) (u : List Int) : befB (u ++ [g]) (u ++ [h]) = true := by
  unfold befB; rw [if_pos (by simp)]; exact lexB_last hgh u
theorem befB_nil (u : List Int) (g : Int) : befB [] (u ++ [g]) = true := by
  unfold befB; rw [if_neg (by simp)]; simp
def leW (u v : List Int) : Prop := u = v ∨ befB u v = true
theorem leW.tr {u v w : List Int} (h : leW u v) (k : leW v w) : leW u w := by
  rcases h with rfl | h
  · exact k
  · rcases k with rfl | k
    · exact .inr h
    · exact .inr (befB_tr h k)
theorem leW.app {u v : List Int} (h : leW u v) (g : Int) : leW (u ++ [g]) (v ++ [g]) := by
  rcases h with rfl | h
  · exact .inl rfl
  · exact .inr (befB_app g g h)
theorem leW.not {u v : List Int} (h : leW u v) : befB v u = false := by
  cases hb : befB v u with
  | false => rfl
  | true =>
    rcases h with rfl | h
    · rw [befB_irr] at hb; cases hb
    · have := befB_tr h hb
      rw [befB_irr] at this; cases this
/-- the search for words on a table whose cosets are numbered as they are met -/
structure BSk (T : List (List Int)) (ng n : Nat) (s : BSt) (c i m : Nat) : Prop where
  q : s.2.2.length = c
  qk : ∀ k, k < c → iget s.2.2 k = (k : Int)
  met : ∀ d, d < n → (bat s.2.1 d = true ↔ d < c)
  l1 : s.1.length = n
  l2 : s.2.1.length = n
  cn : c ≤ n
  c1 : 1 ≤ c
  zero : lget s.1 0 = []
  src : ∀ d, 1 ≤ d → d < c → ∃ p h : Nat, lget s.1 d = lget s.1 p ++ [(h : Int)] ∧ p < d ∧ h < ng ∧ (p < i ∨ (p = i ∧ h < m)) ∧ bTo T p h = d
  mono : ∀ d e, d < e → e < c → befB (lget s.1 d) (lget s.1 e) = true
  edge : ∀ a h : Nat, h < ng → (a < i ∨ (a = i ∧ h < m)) → bTo T a h < c ∧ leW (lget s.1 (bTo T a h)) (lget s.1 a ++ [(h : Int)])
theorem BSk.step {T : List (List Int)} {ng n c i m : Nat} {s : BSt} (hs : BSk T ng n s c i m) (hi : i < c) (hm : m < ng) (ht : bTo T i m < n) (hc : bTo T i m ≤ c) :
    BSk T ng n (bStep T i s m) (if bTo T i m = c then c + 1 else c) i (m + 1) := by
  unfold bStep bVisit
  generalize hte : bTo T i m = t at *
  -- any coset met so far comes before the word that is tried
  have key : ∀ d, d < c → befB (lget s.1 d) (lget s.1 i ++ [(m : Int)]) = true := fun d hd => by
    rcases Nat.eq_zero_or_pos d with rfl | h0
    · rw [hs.zero]; exact befB_nil _ _
    · obtain ⟨p, h, e, h1, h2, h3, h4⟩ := hs.src d h0 hd
      rw [e]
      rcases h3 with h3 | ⟨rfl, h3⟩
      · exact befB_app _ _ (hs.mono p i h3 hi)
      · exact befB_last (by omega) _
  by_cases e : t = c
  · subst e
    have hb : bat s.2.1 t = false := by
      cases hb : bat s.2.1 t with
      | false => rfl
      | true => have := (hs.met t ht).1 hb; omega
    rw [hb, if_neg (by decide), if_pos rfl]
    have g1 : ∀ d, d < t → lget (s.1.set t (lget s.1 i ++ [(m : Int)])) d = lget s.1 d := fun d hd => by rw [lget_set, if_neg (by omega)]
    have g2 : lget (s.1.set t (lget s.1 i ++ [(m : Int)])) t = lget s.1 i ++ [(m : Int)] := by rw [lget_set, if_pos ⟨rfl, by rw [hs.l1]; exact ht⟩]
    refine { q := by dsimp only; rw [List.length_append, hs.q]; rfl, qk := fun k hk => ?_, met := fun d hd => ?_, l1 := by dsimp only; rw [List.length_set]; exact hs.l1, l2 := by dsimp only; rw [List.length_set]; exact hs.l2, cn := by omega, c1 := by omega, zero := by dsimp only; rw [g1 0 (by have := hs.c1; omega)]; exact hs.zero, src := fun d h1 h2 => ?_, mono := fun d f h1 h2 => ?_, edge := fun a h h1 h2 => ?_ }
    · dsimp only
      by_cases ek : k < t
      · rw [iget_app_lt (by rw [hs.q]; exact ek)]; exact hs.qk k ek
      · obtain rfl : k = t := by omega
        have h9 : iget (s.2.2 ++ [(k : Int)]) s.2.2.length = (k : Int) := iget_app_eq
        rwa [hs.q] at h9
    · dsimp only
      rw [bat_set, hs.l2]
      by_cases ed : t = d
      · subst ed; rw [if_pos ⟨rfl, hd⟩]; simp
      · rw [if_neg (fun h => ed h.1), hs.met d hd]; omega
    · dsimp only
      by_cases ed : d < t
      · obtain ⟨p, h, e1, e2, e3, e4, e5⟩ := hs.src d h1 ed
        exact ⟨p, h, by rw [g1 d ed, g1 p (by omega)]; exact e1, e2, e3, by omega, e5⟩
      · obtain rfl : d = t := by omega
        exact ⟨i, m, by rw [g2, g1 i hi], hi, hm, .inr ⟨rfl, by omega⟩, hte⟩
    · dsimp only
      rw [g1 d (by omega)]
      by_cases ef : f < t
      · rw [g1 f ef]; exact hs.mono d f h1 ef
      · obtain rfl : f = t := by omega
        rw [g2]; exact key d h1
    · dsimp only
      by_cases ea : a = i ∧ h = m
      · obtain ⟨rfl, rfl⟩ := ea
        rw [hte, g2, g1 a hi]
        exact ⟨by omega, .inl rfl⟩
      · obtain ⟨k1, k2⟩ := hs.edge a h h1 (by omega)
        rw [g1 _ k1, g1 a (by omega)]
        exact ⟨by omega, k2⟩
  · have hlt : t < c := by omega
    rw [(hs.met t ht).2 hlt, if_pos rfl, if_neg e]
    refine { hs with src := fun d h1 h2 => ?_, edge := fun a h h1 h2 => ?_ }
    · obtain ⟨p, h, e1, e2, e3, e4, e5⟩ := hs.src d h1 h2
      exact ⟨p, h, e1, e2, e3, by omega, e5⟩
    · by_cases ea : a = i ∧ h = m
      · obtain ⟨rfl, rfl⟩ := ea
        rw [hte]
        exact ⟨hlt, .inr (key t hlt)⟩
      · exact hs.edge a h h1 (by omega)
theorem BSk.row {T : List (List Int)} {ng n c i : Nat} {s : BSt} (hs : BSk T ng n s c i ng) : BSk T ng n s c (i + 1) 0 :=
  { hs with
    src := fun d h1 h2 => by
      obtain ⟨p, h, e1, e2, e3, e4, e5⟩ := hs.src d h1 h2
      exact ⟨p, h, e1, e2, e3, by omega, e5⟩
    edge := fun a h h1 h2 => hs.edge a h h1 (by omega) }
section
variable {ng : Nat} {im : List (List Int)} {less : List Int}
theorem fold_grow (i : Nat) : ∀ (l : List Nat) (s : NSt), NGrow s (l.foldl (visitG im less i) s)
  | [], s => NGrow.refl s
  | g :: r, s => (visit_grow s _).trans (fold_grow i r _)
theorem row_grow (i m : Nat) (hm : m < ng) (s : NSt) : NGrow (visitG im less i ((List.range m).foldl (visitG im less i) s) m) (tabRow ng im less i s) := by
  unfold tabRow
  have e : List.range ng = List.range m ++ m :: ((List.range (ng - (m + 1))).map (fun x => m + 1 + x)) := by
    have h1 : List.range ng = List.range ((m + 1) + (ng - (m + 1))) := by congr 1; omega
    rw [h1, List.range_add, List.range_succ]
    simp
  rw [e, List.foldl_append, List.foldl_cons]
  exact fold_grow i _ _
theorem std_step (hF : Full ng im less) {i m : Nat} {s : NSt} (h : TOK less.length less s) (hi : i < s.1.length) (hm : m < ng) (hg : NGrow (visitG im less i s m) (numbered ng im less)) :
    bTo (tableC ng im less) i m ≤ s.1.length ∧ (visitG im less i s m).1.length = if bTo (tableC ng im less) i m = s.1.length then s.1.length + 1 else s.1.length := by
  have hvg := visit_grow s (image im less (iget s.1 i).toNat m).toNat
  have hin : i < cosM ng im less := Nat.lt_of_lt_of_le hi (hvg.trans hg).len
  unfold bTo
  rw [tableC_get hin hm]
  unfold tEnt
  rw [(hvg.trans hg).pre i hi]
  obtain ⟨d, h1, h2, h3, _⟩ := h.live i hi
  obtain ⟨e, e1, e2, e3⟩ := hF.image h2 h3 hm
  unfold visitG at hg ⊢
  rw [h1, Int.toNat_natCast, e1, Int.toNat_natCast] at hg ⊢
  unfold visit at hg ⊢
  split at hg
  · rename_i hn
    have hv : iget (numbered ng im less).2 e = (s.1.length : Int) := by
      rw [hg.num e (by dsimp only; rw [iget_set, if_pos ⟨rfl, by rw [h.len]; exact e2⟩]; omega)]
      dsimp only
      rw [iget_set, if_pos ⟨rfl, by rw [h.len]; exact e2⟩]
    rw [if_pos hn, hv, Int.toNat_natCast]
    simp
  · rename_i hn
    rw [if_neg hn, hg.num e (by omega)]
    have := h.num e e2 (by omega)
    exact ⟨by omega, by rw [if_neg (by omega)]⟩
theorem joint_row (hF : Full ng im less) {i : Nat} {s : NSt} {b : BSt} (h : TOK less.length less s) (hi : i < s.1.length) (hg : NGrow (tabRow ng im less i s) (numbered ng im less))
    (hb : BSk (tableC ng im less) ng (cosM ng im less) b s.1.length i 0) : ∀ m, m ≤ ng → BSk (tableC ng im less) ng (cosM ng im less) ((List.range m).foldl (bStep (tableC ng im less) i) b) ((List.range m).foldl (visitG im less i) s).1.length i m
  | 0, _ => hb
  | m + 1, hm => by
    have ih := joint_row hF h hi hg hb m (by omega)
    obtain ⟨h1, h2, _⟩ := tabRow_ok hF h hi m (by omega)
    have hgr := (row_grow (im := im) (less := less) i m (by omega : m < ng) s).trans hg
    rw [List.range_succ, List.foldl_append, List.foldl_append]
    generalize (List.range m).foldl (visitG im less i) s = sm at *
    generalize (List.range m).foldl (bStep (tableC ng im less) i) b = bm at *
    have him : i < sm.1.length := Nat.lt_of_lt_of_le hi h2.len
    obtain ⟨k1, k2⟩ := std_step hF h1 him (by omega) hgr
    show BSk _ _ _ (bStep (tableC ng im less) i bm m) (visitG im less i sm m).1.length i (m + 1)
    rw [k2]
    have hin : i < cosM ng im less := Nat.lt_of_lt_of_le him (by have := ((visit_grow sm (image im less (iget sm.1 i).toNat m).toNat).trans hgr).len; exact this)
    refine ih.step him (by omega) ?_ k1
    unfold bTo
    rw [tableC_get hin (by omega)]
    have := tEnt_step hF hin (show m < ng by omega)
    omega
theorem joint (hF : Full ng im less) : ∀ (f' f i : Nat) (s : NSt) (b : BSt), TOK less.length less s → tabLoop ng im less f i s = numbered ng im less → less.length + 1 ≤ f + i → i ≤ s.1.length → cosM ng im less + 1 ≤ f' + i →
    BSk (tableC ng im less) ng (cosM ng im less) b s.1.length i 0 → BSk (tableC ng im less) ng (cosM ng im less) (bLoop (tableC ng im less) ng f' i b) (cosM ng im less) (cosM ng im less) 0 := by
  intro f'
  induction f' with
  | zero =>
    intro f i s b h he hf hi hf' hb
    exfalso
    have := hb.cn
    omega
  | succ f' ih =>
    intro f i s b h he hf hi hf' hb
    by_cases hlt : i < s.1.length
    · have hle := h.le
      obtain ⟨f1, rfl⟩ : ∃ f1, f = f1 + 1 := ⟨f - 1, by omega⟩
      unfold tabLoop at he
      rw [if_pos hlt] at he
      obtain ⟨h1, _, _⟩ := tabRow_ok hF h hlt ng (Nat.le_refl _)
      have hg : NGrow (tabRow ng im less i s) (numbered ng im less) := by rw [← he]; exact tabLoop_grow hF f1 (i + 1) _ h1
      have hr := (joint_row hF h hlt hg hb ng (Nat.le_refl _)).row
      rw [bLoop_step (by rw [hb.q]; exact hlt), hb.qk i hlt, Int.toNat_natCast]
      exact ih f1 (i + 1) _ _ h1 he (by omega) (by have := (fold_grow (im := im) (less := less) i (List.range ng) s).len; omega) (by omega) hr
    · have hii : i = s.1.length := by omega
      have hs : s = numbered ng im less := by
        cases f with
        | zero => exact he
        | succ f => unfold tabLoop at he; rw [if_neg hlt] at he; exact he
      have hn : i = cosM ng im less := by rw [hii, hs]; rfl
      unfold bLoop
      rw [if_neg (by rw [hb.q]; exact hlt)]
      rw [← hii] at hb
      rw [← hn]
      rw [← hn] at hb
      exact hb
theorem start_sk (hn : 0 < cosM ng im less) : BSk (tableC ng im less) ng (cosM ng im less) (bStart (cosM ng im less)) 1 0 0 where
  q := rfl
  qk := fun k hk => by obtain rfl : k = 0 := by omega
                       rfl
  met := fun d hd => by
    show bat ((List.replicate (cosM ng im less) false).set 0 true) d = true ↔ d < 1
    rw [bat_set]
    by_cases e : 0 = d
    · subst e; rw [if_pos ⟨rfl, by simpa using hn⟩]; simp
    · rw [if_neg (fun h => e h.1)]
      simp [bat, hd]; omega
  l1 := by simp [bStart]
  l2 := by simp [bStart]
  cn := hn
  c1 := Nat.le_refl _
  zero := by simp [bStart, lget, hn]
  src := fun d h1 h2 => by omega
  mono := fun d e h1 h2 => by omega
  edge := fun a h h1 h2 => by omega
theorem bfs_sk (hF : Full ng im less) : BSk (tableC ng im less) ng (cosM ng im less) (bfs (tableC ng im less) ng (cosM ng im less)) (cosM ng im less) (cosM ng im less) 0 := by
  have hz := cosA_zero (ng := ng) (im := im) (less := less)
  exact joint hF _ _ 0 _ _ (tabStart_ok hF) rfl (by omega) (Nat.zero_le _) (by omega) (start_sk hz.1)
end
end Go.Proofs.Ytpognnifgcacnaa

/- The table of cosets: how cosets were met; lists that are their own inverses. No program in sight. -/
namespace Go.Proofs.Ytpognnifgcacnaa

/-- each coset but the first one was met as the image of one before it -/
def NPar (ng : Nat) (im : List (List Int)) (less : List Int) (s : NSt) : Prop := ∀ k, 1 ≤ k → k < s.1.length → ∃ i g, i < k ∧ g < ng ∧ image im less (iget s.1 i).toNat g = iget s.1 k
theorem row_npar {ng : Nat} {im : List (List Int)} {less : List Int} (hF : Full ng im less) {i : Nat} {s : NSt} (h : TOK less.length less s) (hb : NPar ng im less s) (hi : i < s.1.length) : ∀ m, m ≤ ng → NPar ng im less ((List.range m).foldl (visitG im less i) s)
  | 0, _ => hb
  | m + 1, hm => by
    have ih := row_npar hF h hb hi m (by omega)
    obtain ⟨h1, h2, _⟩ := tabRow_ok hF h hi m (by omega)
    rw [List.range_succ, List.foldl_append]
    generalize (List.range m).foldl (visitG im less i) s = t at *
    have hit : i < t.1.length := Nat.lt_of_lt_of_le hi h2.len
    obtain ⟨d, k1, k2, k3, _⟩ := h1.live i hit
    obtain ⟨e, e1, e2, _⟩ := hF.image k2 k3 (g := m) (by omega)
    show NPar ng im less (visitG im less i t m)
    unfold visitG
    rw [k1, Int.toNat_natCast, e1, Int.toNat_natCast]
    unfold visit
    split
    · intro k hk1 hk2
      dsimp only at hk2 ⊢
      by_cases ek : k < t.1.length
      · obtain ⟨j, g, j1, j2, j3⟩ := ih k hk1 ek
        exact ⟨j, g, j1, j2, by rw [iget_app_lt (by omega), iget_app_lt ek]; exact j3⟩
      · obtain rfl : k = t.1.length := by simp at hk2; omega
        exact ⟨i, m, hit, by omega, by rw [iget_app_lt hit, iget_app_eq, k1, Int.toNat_natCast, e1]⟩
    · exact ih
theorem loop_npar {ng : Nat} {im : List (List Int)} {less : List Int} (hF : Full ng im less) : ∀ (f i : Nat) (s : NSt), TOK less.length less s → NPar ng im less s → NPar ng im less (tabLoop ng im less f i s)
  | 0, i, s, _, hb => hb
  | f + 1, i, s, h, hb => by
    unfold tabLoop
    split
    · rename_i hlt
      exact loop_npar hF f (i + 1) _ (tabRow_ok hF h hlt ng (Nat.le_refl _)).1 (row_npar hF h hb hlt ng (Nat.le_refl _))
    · exact hb
/-- each list of the table is its own inverse -/
def Invol (T : List (List Int)) (m : Nat) : Prop := ∀ g, g < T.length → ∀ x, x < m → iget (lget T g) (iget (lget T g) x).toNat = (x : Int)
end Go.Proofs.Ytpognnifgcacnaa

/- Groups by their tables: an action is a table's image; regular tables; an index divides an order. No program in sight. -/
namespace Go.Proofs.Ytpognnifgcacnaa

/-- the table as an action on all numbers -/
def tabF (T : List (List Int)) (m : Nat) (g x : Nat) : Nat := if x < m then (iget (lget T g) x).toNat else x
section
variable {T : List (List Int)} {m : Nat}
theorem tabF_inv (hT : Leads T m) (hI : Invol T m) (g x : Nat) (hg : g < T.length) : tabF T m g (tabF T m g x) = x := by
  unfold tabF
  by_cases h : x < m
  · rw [if_pos h]
    have h1 := hT.within g hg x h
    have h2 := hI g hg x h
    rw [if_pos (by omega), h2]; rfl
  · rw [if_neg h, if_neg h]
theorem actW_out : ∀ (w : List Nat) (x : Nat), ¬ x < m → actW (tabF T m) x w = x
  | [], _, _ => rfl
  | g :: r, x, h => by
    have e : tabF T m g x = x := if_neg h
    show actW (tabF T m) (tabF T m g x) r = x
    rw [e]; exact actW_out r x h
theorem actW_tab (hT : Leads T m) : ∀ (w : List Int) (x : Nat), Letters T.length w → x < m → ((actW (tabF T m) x (w.map Int.toNat) : Nat) : Int) = leadL T x w
  | [], _, _, _ => rfl
  | z :: r, x, hw, h => by
    have hz := hw z (by simp)
    have h1 := hT.within z.toNat (by omega) x h
    have e : tabF T m z.toNat x = (iget (lget T z.toNat) x).toNat := if_pos h
    have ih := actW_tab hT r (iget (lget T z.toNat) x).toNat (fun y hy => hw y (by simp [hy])) (by omega)
    show ((actW (tabF T m) (tabF T m z.toNat x) (r.map Int.toNat) : Nat) : Int) = leadL T (iget (lget T z.toNat) (x : Int).toNat) r
    rw [e, ih, Int.toNat_of_nonneg h1.1, Int.toNat_natCast]
theorem lead_nat (hT : Leads T m) {w : List Int} {x : Nat} (hw : Letters T.length w) (hx : x < m) : ∃ y : Nat, leadL T x w = (y : Int) ∧ y < m := by
  have := hT.lead (c := (x : Int)) ⟨by omega, by omega⟩ hw
  exact ⟨(leadL T x w).toNat, by omega, by omega⟩
/-- the word the other way round leads back -/
theorem lead_rev (hT : Leads T m) (hI : Invol T m) : ∀ (w : List Int) (x y : Nat), Letters T.length w → x < m → leadL T x w = (y : Int) → leadL T y w.reverse = (x : Int)
  | [], x, y, _, _, h => by
    have : (x : Int) = y := h
    show (y : Int) = x
    omega
  | z :: r, x, y, hw, hx, h => by
    have hz := hw z (by simp)
    have h1 := hT.within z.toNat (by omega) x hx
    have h2 := hI z.toNat (by omega) x hx
    have h : leadL T (iget (lget T z.toNat) (x : Int).toNat) r = (y : Int) := h
    rw [Int.toNat_natCast, ← Int.toNat_of_nonneg h1.1] at h
    have ih := lead_rev hT hI r (iget (lget T z.toNat) x).toNat y (fun a ha => hw a (by simp [ha])) (by omega) h
    rw [List.reverse_cons, leadL_snoc, ih, Int.toNat_natCast]
    exact h2
end
section
variable {ng : Nat} {im : List (List Int)} {less : List Int}
theorem tab_leads (hF : Full ng im less) : Leads (tableC ng im less) (cosM ng im less) := by
  refine ⟨fun k hk => ?_, fun k hk x hx => ?_⟩
  · simp [tableC] at hk
    simp [tableC, lget, hk, cosM]
  · simp [tableC] at hk
    rw [tableC_get hx hk]
    exact ⟨(tEnt_step hF hx hk).1, (tEnt_step hF hx hk).2.1⟩
theorem tab_len : (tableC ng im less).length = ng := by simp [tableC]
theorem tab_invol (hF : Full ng im less) (hB : Back ng im less []) : Invol (tableC ng im less) (cosM ng im less) := fun g hg x hx => by
  rw [tab_len] at hg
  obtain ⟨t1, t2, _⟩ := tEnt_step hF hx hg
  rw [tableC_get hx hg, tableC_get (by omega) hg]
  exact tEnt_back hF hB hx hg
theorem tab_reach (hF : Full ng im less) : ∀ k, k < cosM ng im less → ∃ u, Letters ng u ∧ leadL (tableC ng im less) (0 : Nat) u = (k : Int) := by
  have hp : NPar ng im less (numbered ng im less) := loop_npar hF _ _ _ (tabStart_ok hF) fun k h1 h2 => by simp [tabStart] at h2; omega
  intro k
  induction k using Nat.strongRecOn with
  | _ k ih =>
    intro hk
    rcases Nat.eq_zero_or_pos k with rfl | h0
    · exact ⟨[], fun _ h => (by simp at h), rfl⟩
    · obtain ⟨i, g, i1, i2, i3⟩ := hp k h0 hk
      obtain ⟨u, u1, u2⟩ := ih i i1 (by omega)
      obtain ⟨hT, _⟩ := numbered_ok hF
      obtain ⟨d, d1, _, _, d4⟩ := hT.live k hk
      refine ⟨u ++ [(g : Int)], fun z hz => ?_, ?_⟩
      · rcases List.mem_append.1 hz with hz | hz
        · exact u1 z hz
        · simp at hz; omega
      · rw [leadL_snoc, u2, Int.toNat_natCast, Int.toNat_natCast, tableC_get (by omega) i2]
        unfold tEnt
        rw [i3, d1, Int.toNat_natCast, d4]
end
section
variable {ng : Nat} {R W R' W' : List (List Int)}
/-- a run that ends well -/
structure Ran (ng : Nat) (R W : List (List Int)) : Prop where
  r : ∀ w ∈ R, Letters ng w
  w : ∀ w ∈ W, Letters ng w
  nf : (runC ng R W).2.2 = false
theorem Ran.full (h : Ran ng R W) : Full ng (runC ng R W).1 (runC ng R W).2.1 := full_run h.r h.w h.nf
theorem Ran.leads (h : Ran ng R W) : Leads (ctb ng R W) (cnm ng R W) := tab_leads h.full
theorem Ran.invol (h : Ran ng R W) : Invol (ctb ng R W) (cnm ng R W) := tab_invol h.full (runC_back h.r h.w).2
theorem ctb_len : (ctb ng R W).length = ng := tab_len
/-- a table whose words hold in another one leads onto it -/
theorem Ran.map (h : Ran ng R W) (k : Ran ng R' W') {j : Nat} (hj : j < cnm ng R' W') (hR : ∀ w ∈ R, ∀ x, x < cnm ng R' W' → leadL (ctb ng R' W') x w = (x : Int)) (hW : ∀ w ∈ W, leadL (ctb ng R' W') j w = (j : Int)) :
    ∃ φ : Nat → Nat, φ 0 = j ∧ (∀ x, x < cnm ng R W → φ x < cnm ng R' W') ∧ ∀ (w : List Int) (x : Nat), Letters ng w → x < cnm ng R W → ((φ (leadL (ctb ng R W) x w).toNat : Nat) : Int) = leadL (ctb ng R' W') (φ x : Nat) w := by
  have hT := k.leads
  have hI := k.invol
  have hlen : (ctb ng R' W').length = ng := ctb_len
  obtain ⟨φ, h0, h1⟩ := ctb_hom (f := tabF (ctb ng R' W') (cnm ng R' W')) (x0 := j) (R := R) (W := W) (ng := ng) (fun g x hg => tabF_inv hT hI g x (by rw [hlen]; exact hg))
    (fun w hw => ⟨h.r w hw, fun x => by
      by_cases hx : x < cnm ng R' W'
      · have := actW_tab hT w x (by rw [hlen]; exact h.r w hw) hx
        rw [hR w hw x hx] at this; omega
      · exact actW_out _ _ hx⟩)
    (fun w hw => ⟨h.w w hw, by
      have := actW_tab hT w j (by rw [hlen]; exact h.w w hw) hj
      rw [hW w hw] at this; omega⟩) h.nf
  have hlt : ∀ x, x < cnm ng R W → φ x < cnm ng R' W' := fun x hx => by
    obtain ⟨u, u1, u2⟩ := tab_reach h.full x hx
    have e := h1 u 0 u1 (by omega)
    have u2 : leadL (ctb ng R W) (0 : Nat) u = (x : Int) := u2
    rw [u2, Int.toNat_natCast, h0] at e
    have e2 := actW_tab hT u j (by rw [hlen]; exact u1) hj
    obtain ⟨y, y1, y2⟩ := lead_nat hT (w := u) (by rw [hlen]; exact u1) hj
    rw [e]; omega
  exact ⟨φ, h0, hlt, fun w x hw hx => by rw [h1 w x hw hx]; exact actW_tab hT w (φ x) (by rw [hlen]; exact hw) (hlt x hx)⟩
/-- the table of the group itself: what leads 0 back leads each coset back -/
theorem Ran.regular (h : Ran ng R []) {w : List Int} (hw : Letters ng w) (h0 : leadL (ctb ng R []) (0 : Nat) w = ((0 : Nat) : Int)) {k : Nat} (hk : k < cnm ng R []) : leadL (ctb ng R []) k w = (k : Int) := by
  obtain ⟨φ, p0, _, p1⟩ := h.map h hk (fun w hw x hx => ctb_rels h.r h.w h.nf hw hx) (fun w hw => by simp at hw)
  have := p1 w 0 hw (by omega)
  rw [h0, Int.toNat_natCast, p0] at this
  omega
end
end Go.Proofs.Ytpognnifgcacnaa

/- Counting: fibres of the same size; free cycles; an index divides an order, an order of a word divides the group's. No program in sight. -/
namespace Go.Proofs.Ytpognnifgcacnaa

theorem nodup_len : ∀ (l1 l2 : List Nat), l1.Nodup → (∀ x ∈ l1, x ∈ l2) → l1.length ≤ l2.length
  | [], _, _, _ => by simp
  | x :: r, l2, h, hs => by
    rw [List.nodup_cons] at h
    have hx := hs x (by simp)
    have := nodup_len r (l2.erase x) h.2 fun y hy => (List.mem_erase_of_ne (fun e : y = x => h.1 (by rw [← e]; exact hy))).2 (hs y (by simp [hy]))
    rw [List.length_erase_of_mem hx] at this
    have := List.length_pos_of_mem hx
    simp; omega
theorem nodup_map {σ : Nat → Nat} : ∀ {l : List Nat}, l.Nodup → (∀ x ∈ l, ∀ y ∈ l, σ x = σ y → x = y) → (l.map σ).Nodup
  | [], _, _ => by simp
  | a :: r, h, hi => by
    rw [List.nodup_cons] at h
    rw [List.map_cons, List.nodup_cons]
    refine ⟨fun hm => ?_, nodup_map h.2 fun x hx y hy => hi x (by simp [hx]) y (by simp [hy])⟩
    obtain ⟨y, hy, e⟩ := List.mem_map.1 hm
    exact h.1 (hi y (by simp [hy]) a (by simp) e ▸ hy)
/-- the points below n that φ leads to j -/
def fib (φ : Nat → Nat) (n j : Nat) : List Nat := (List.range n).filter fun x => φ x == j
theorem mem_fib {φ : Nat → Nat} {n j x : Nat} : x ∈ fib φ n j ↔ x < n ∧ φ x = j := by simp [fib]
theorem fib_nodup (φ : Nat → Nat) (n j : Nat) : (fib φ n j).Nodup := List.nodup_range.filter _
theorem fib_le {φ σ : Nat → Nat} {n j k : Nat} (hs : ∀ x, x < n → φ x = j → σ x < n ∧ φ (σ x) = k) (hi : ∀ x y, x < n → y < n → σ x = σ y → x = y) : (fib φ n j).length ≤ (fib φ n k).length := by
  have h := nodup_len ((fib φ n j).map σ) (fib φ n k) (nodup_map (fib_nodup φ n j) fun x hx y hy => hi x y (mem_fib.1 hx).1 (mem_fib.1 hy).1) fun z hz => by
    obtain ⟨x, hx, rfl⟩ := List.mem_map.1 hz
    exact mem_fib.2 (hs x (mem_fib.1 hx).1 (mem_fib.1 hx).2)
  simpa using h
def sumN (f : Nat → Nat) : Nat → Nat
  | 0 => 0
  | m + 1 => sumN f m + f m
theorem sumN_add (f g : Nat → Nat) : ∀ m, sumN (fun j => f j + g j) m = sumN f m + sumN g m
  | 0 => rfl
  | m + 1 => by simp only [sumN, sumN_add f g m]; omega
theorem sumN_zero {f : Nat → Nat} : ∀ {m : Nat}, (∀ j, j < m → f j = 0) → sumN f m = 0
  | 0, _ => rfl
  | m + 1, h => by simp only [sumN]; rw [sumN_zero fun j hj => h j (by omega), h m (by omega)]
theorem sumN_one {c : Nat} : ∀ {m : Nat}, c < m → sumN (fun j => if c = j then 1 else 0) m = 1
  | m + 1, h => by
    simp only [sumN]
    by_cases e : c = m
    · subst e; rw [if_pos rfl, sumN_zero fun j hj => if_neg (by omega)]
    · rw [if_neg e, sumN_one (by omega)]
theorem sumN_const {f : Nat → Nat} {c : Nat} : ∀ {m : Nat}, (∀ j, j < m → f j = c) → sumN f m = m * c
  | 0, _ => by simp [sumN]
  | m + 1, h => by
    simp only [sumN]
    rw [sumN_const fun j hj => h j (by omega), h m (by omega), Nat.add_mul]; omega
theorem sumN_congr {f g : Nat → Nat} : ∀ {m : Nat}, (∀ j, j < m → f j = g j) → sumN f m = sumN g m
  | 0, _ => rfl
  | m + 1, h => by simp only [sumN]; rw [sumN_congr fun j hj => h j (by omega), h m (by omega)]
theorem fib_sum {φ : Nat → Nat} {m : Nat} : ∀ (n : Nat), (∀ x, x < n → φ x < m) → sumN (fun j => (fib φ n j).length) m = n
  | 0, _ => sumN_zero fun j _ => by simp [fib]
  | n + 1, h => by
    have e : ∀ j, (fib φ (n + 1) j).length = (fib φ n j).length + if φ n = j then 1 else 0 := fun j => by
      unfold fib
      rw [List.range_succ, List.filter_append, List.length_append]
      by_cases e : φ n = j <;> simp [e]
    rw [sumN_congr fun j _ => e j, sumN_add, fib_sum n fun x hx => h x (by omega), sumN_one (h n (by omega))]

section
variable {ng : Nat} {R W R' W' : List (List Int)}
/-- the index divides -/
theorem Ran.divides (h : Ran ng R W) (k : Ran ng R' W') (hR : ∀ w ∈ R, ∀ x, x < cnm ng R' W' → leadL (ctb ng R' W') x w = (x : Int)) (hW : ∀ w ∈ W, leadL (ctb ng R' W') (0 : Nat) w = ((0 : Nat) : Int)) : cnm ng R' W' ∣ cnm ng R W := by
  have hz : 0 < cnm ng R' W' := cosA_zero.1
  have hz' : 0 < cnm ng R W := cosA_zero.1
  obtain ⟨φ, p0, p1, p2⟩ := h.map k hz hR hW
  have hT := h.leads
  have hI := h.invol
  have hl : (ctb ng R W).length = ng := ctb_len
  have hl' : (ctb ng R' W').length = ng := ctb_len
  -- a word's action on the points
  have act : ∀ (u : List Int) (i j : Nat), Letters ng u → i < cnm ng R' W' → leadL (ctb ng R' W') i u = (j : Int) → (fib φ (cnm ng R W) i).length ≤ (fib φ (cnm ng R W) j).length := fun u i j hu hi hj => by
    refine fib_le (σ := fun x => (leadL (ctb ng R W) x u).toNat) (fun x hx e => ?_) (fun x y hx hy e => ?_)
    · obtain ⟨y, y1, y2⟩ := lead_nat hT (w := u) (by rw [hl]; exact hu) hx
      have := p2 u x hu hx
      rw [e, hj, y1, Int.toNat_natCast] at this
      rw [y1, Int.toNat_natCast]
      exact ⟨y2, by omega⟩
    · obtain ⟨a, a1, a2⟩ := lead_nat hT (w := u) (by rw [hl]; exact hu) hx
      obtain ⟨b, b1, b2⟩ := lead_nat hT (w := u) (by rw [hl]; exact hu) hy
      rw [a1, b1, Int.toNat_natCast, Int.toNat_natCast] at e
      subst e
      have r1 := lead_rev hT hI u x a (by rw [hl]; exact hu) hx a1
      have r2 := lead_rev hT hI u y a (by rw [hl]; exact hu) hy b1
      omega
  have all : ∀ j, j < cnm ng R' W' → (fib φ (cnm ng R W) j).length = (fib φ (cnm ng R W) 0).length := fun j hj => by
    obtain ⟨u, u1, u2⟩ := tab_reach k.full j hj
    have u2 : leadL (ctb ng R' W') (0 : Nat) u = (j : Int) := u2
    have r := lead_rev k.leads k.invol u 0 j (by rw [hl']; exact u1) hz u2
    exact Nat.le_antisymm (act u.reverse j 0 (fun z hz => u1 z (by simpa using hz)) hj r) (act u 0 j u1 hz u2)
  have hs := fib_sum (φ := φ) (m := cnm ng R' W') (cnm ng R W) p1
  rw [sumN_const all] at hs
  exact ⟨_, hs.symm⟩
end

end Go.Proofs.Ytpognnifgcacnaa

/- Permutations: the program's isPermutation and the reference's l01Perm compute one Bool. -/
namespace Go.Proofs.Ytpognnifgcacnaa
open Go.RowKit

/-- the numbers that are still to come are within 0 to n - 1, and none of them has been seen, nor comes twice -/
def permGo (n : Nat) : List Bool → List Int → Bool
  | _, [] => true
  | seen, z :: r => inB z 0 ((n : Int) - 1) && !(seen.getD z.toNat false) && permGo n (seen.set z.toNat true) r
/-- a permutation of at most 400 points -/
def isPerm (zs : List Int) : Bool := decide (zs.length ≤ 400) && permGo zs.length (List.replicate zs.length false) zs

end Go.Proofs.Ytpognnifgcacnaa

/- What a permutation's numbers are. No program in sight. -/
namespace Go.Proofs.Ytpognnifgcacnaa

end Go.Proofs.Ytpognnifgcacnaa

/- Words that lead points through permutations: l11Lead, applied, then, isIdentity, arePermutations. -/
namespace Go.Proofs.Ytpognnifgcacnaa
open Go.RowKit

/-- whether each number stands at its own place -/
def isIden (zs : List Int) : Bool := (List.range zs.length).all fun i => iget zs i == (i : Int)
theorem isIden_true {zs : List Int} : isIden zs = true ↔ ∀ i, i < zs.length → iget zs i = i := by
  unfold isIden; rw [List.all_eq_true]
  exact ⟨fun h i hi => by have := h i (List.mem_range.2 hi); simpa using this, fun h i hi => by have := h i (List.mem_range.1 hi); simpa using this⟩
/-- first p, then q -/
def thenL (p q : List Int) : List Int := p.map fun x => iget q x.toNat
theorem length_thenL (p q : List Int) : (thenL p q).length = p.length := by simp [thenL]
theorem iget_thenL {p q : List Int} {k : Nat} (h : k < p.length) : iget (thenL p q) k = iget q (iget p k).toNat := by
  rw [iget_lt (by rw [length_thenL]; exact h), iget_lt h]; simp [thenL]

end Go.Proofs.Ytpognnifgcacnaa

/- holdIn: whether permutations hold a presentation. -/
namespace Go.Proofs.Ytpognnifgcacnaa
open Go.RowKit

/-- a word leads every one of m points to itself -/
def fixes (qs : List (List Int)) (m : Nat) (w : List Int) : Bool := (List.range m).all fun x => leadL qs x w == (x : Int)
theorem fixes_true {qs : List (List Int)} {m : Nat} {w : List Int} : fixes qs m w = true ↔ ∀ x, x < m → leadL qs x w = x := by
  unfold fixes; rw [List.all_eq_true]
  exact ⟨fun h i hi => by have := h i (List.mem_range.2 hi); simpa using this, fun h i hi => by have := h i (List.mem_range.1 hi); simpa using this⟩
/-- each permutation is its own inverse -/
def involsL (qs : List (List Int)) : Bool := qs.all fun q => isIden (thenL q q)
def fixAll (qs : List (List Int)) (m : Nat) (ws : List (List Int)) : Bool := ws.all fun w => fixes qs m w
/-- the permutations hold the relators -/
def holdB (ws qs : List (List Int)) : Bool := involsL qs && fixAll qs (lget qs 0).length ws

theorem involsL_true {qs : List (List Int)} : involsL qs = true ↔ ∀ k, k < qs.length → isIden (thenL (lget qs k) (lget qs k)) = true := by
  unfold involsL; rw [List.all_eq_true]
  exact ⟨fun h k hk => h _ (lget_mem hk), fun h q hq => by obtain ⟨k, hk, rfl⟩ := List.getElem_of_mem hq; rw [← lget_lt hk]; exact h k hk⟩
theorem fixAll_true {qs ws : List (List Int)} {m : Nat} : fixAll qs m ws = true ↔ ∀ i, i < ws.length → ∀ x, x < m → leadL qs x (lget ws i) = x := by
  unfold fixAll; rw [List.all_eq_true]
  exact ⟨fun h k hk => fixes_true.1 (h _ (lget_mem hk)), fun h q hq => by obtain ⟨k, hk, rfl⟩ := List.getElem_of_mem hq; rw [← lget_lt hk]; exact fixes_true.2 (h k hk)⟩
end Go.Proofs.Ytpognnifgcacnaa

/- A region that draws its order, whose operations only read and whose callees make new memory alone: one walk, in the order of the text. (The steps are printed by fill.py out of the mark CALM.) -/
namespace Go.Proofs.Ytpognnifgcacnaa
open Go.RowKit

section
variable {P : Program} {ops : Array Oper} {C : World → Prop} {o : Oper} {a : Act} {K : Act → Prop}
theorem quiet_val {u : Value} (h : ∀ w, C w → (execOp a.eval o).run P w = .ok (.value u) w) (hk : K (a.put o.dst u)) : o.quiet P a C K :=
  ⟨u, fun w hw => by unfold Oper.quietAt; rw [h w hw]; exact ⟨rfl, rfl⟩, hk⟩
theorem quiet_call {f : FuncId} {args : Array Value} {v : Value} (h : ∀ w, C w → (execOp a.eval o).run P w = .ok (.enter f args) w) (hc : ∀ w, C w → Calls P f args w (fun e w'' => e = .returned v ∧ C w'')) (hk : K (a.put o.dst v)) : o.quiet P a C K :=
  ⟨v, fun w hw => by unfold Oper.quietAt; rw [h w hw]; exact ⟨rfl, hc w hw⟩, hk⟩
theorem wp_region_calm {id : Nat} {Q : Exit → Act → World → Prop} {w : World} {l : List Oper} (hm : P.follows .mixedOrders = true) (hB : Region.lexB .any l.toArray = true)
    (h : wpQuiet P l.toArray (fun w' => Below w.heap.size w w') (fun a' => ∀ w', Below w.heap.size w w' → Q .normal a' w') l a) : (Code.region id l.toArray true).wp P Q a w :=
  wp_region_quiet (C := fun w' => Below w.heap.size w w') hm hB (below_drew1 w) (by simpa using h)
end

end Go.Proofs.Ytpognnifgcacnaa

/- HoldIn, the reference's. -/
namespace Go.Proofs.Ytpognnifgcacnaa
open Go.RowKit

/-- permutations of equally many points -/
def isPerms (qs : List (List Int)) : Bool := qs.all fun q => isPerm q && decide (q.length = (lget qs 0).length)
theorem isPerms_true {qs : List (List Int)} : isPerms qs = true ↔ ∀ k, k < qs.length → isPerm (lget qs k) = true ∧ (lget qs k).length = (lget qs 0).length := by
  unfold isPerms; rw [List.all_eq_true]
  exact ⟨fun h k hk => by have := h _ (lget_mem hk); rw [Bool.and_eq_true] at this; exact ⟨this.1, of_decide_eq_true this.2⟩, fun h q hq => by obtain ⟨k, hk, rfl⟩ := List.getElem_of_mem hq; rw [← lget_lt hk, Bool.and_eq_true]; exact ⟨(h k hk).1, decide_eq_true (h k hk).2⟩⟩
/-- whether the arguments are what HoldIn wants -/
def holdArgs (d : PresD) (qs : List (List Int)) : Bool := isPres d && decide ((qs.length : Int) = d.1) && isPerms qs
def holdR (d : PresD) (qs : List (List Int)) : Bool := holdArgs d qs && holdB d.2 qs
def holdC (d : PresD) (qs : List (List Int)) : Int := if holdArgs d qs = true then 0 else 1

end Go.Proofs.Ytpognnifgcacnaa

/- Orders of words: l11Order, periodOf; OrderOfElement. -/
namespace Go.Proofs.Ytpognnifgcacnaa
open Go.RowKit

section
variable {T : List (List Int)} {W : List Int} {m : Nat}
end
theorem cosTab_invol {ng : Nat} {rels ws : List (List Int)} (h : Good ng rels ws) (hf : (runC ng rels ws).2.2 = false) : Invol (cosTab ((ng : Int), rels) ws) (cosN ((ng : Int), rels) ws) := fun k hk x hx => by
  rw [cosTab_len] at hk
  have hF := full_run h.rl h.wl hf
  rw [cosTab_nat]
  rw [cosN_nat] at hx
  have hr := tableC_entry hF hx hk
  have hb := tEnt_back hF (runC_back h.rl h.wl).2 hx hk
  have he : ∀ y, y < (numbered ng (runC ng rels ws).1 (runC ng rels ws).2.1).1.length → iget (lget (tableC ng (runC ng rels ws).1 (runC ng rels ws).2.1) k) y = tEnt ng (runC ng rels ws).1 (runC ng rels ws).2.1 y k := fun y hy => by
    simp [tableC, lget, iget, hk, hy, tEnt]
  have hr : 0 ≤ tEnt ng (runC ng rels ws).1 (runC ng rels ws).2.1 x k ∧ tEnt ng (runC ng rels ws).1 (runC ng rels ws).2.1 x k < _ := hr
  rw [he x hx, he _ (by omega)]
  exact hb

end Go.Proofs.Ytpognnifgcacnaa

/- What the table of cosets tells, of the program's own numbers. No program in sight. -/
namespace Go.Proofs.Ytpognnifgcacnaa

theorem nodup_iget {zs : List Int} (h : ∀ i j, i < zs.length → j < zs.length → iget zs i = iget zs j → i = j) : zs.Nodup := by
  rw [List.nodup_iff_pairwise_ne, List.pairwise_iff_getElem]
  intro i j hi hj hij e
  have := h i j hi hj (by rw [iget_lt hi, iget_lt hj]; exact e)
  omega
theorem permGo_ok {n : Nat} : ∀ (zs : List Int) (seen : List Bool), seen.length = n → (∀ z ∈ zs, 0 ≤ z ∧ z < n) → zs.Nodup → (∀ z ∈ zs, seen.getD z.toNat false = false) → permGo n seen zs = true
  | [], _, _, _, _, _ => rfl
  | z :: r, seen, hs, hz, hn, hf => by
    rw [List.nodup_cons] at hn
    have h0 := hz z (by simp)
    unfold permGo
    rw [Bool.and_eq_true, Bool.and_eq_true]
    refine ⟨⟨inB_true.2 (by omega), by rw [hf z (by simp)]; rfl⟩, permGo_ok r _ (by rw [List.length_set]; exact hs) (fun x hx => hz x (by simp [hx])) hn.2 fun x hx => ?_⟩
    have hx0 := hz x (by simp [hx])
    have hne : z ≠ x := fun e => hn.1 (e ▸ hx)
    have := hf x (by simp [hx])
    rw [List.getD_eq_getElem?_getD] at this ⊢
    rw [List.getElem?_set_ne (by omega)]
    exact this
theorem isPerm_ok {zs : List Int} (hl : zs.length ≤ 400) (hz : ∀ k, k < zs.length → 0 ≤ iget zs k ∧ iget zs k < zs.length) (hi : ∀ i j, i < zs.length → j < zs.length → iget zs i = iget zs j → i = j) : isPerm zs = true := by
  unfold isPerm
  rw [Bool.and_eq_true]
  refine ⟨decide_eq_true hl, permGo_ok zs _ (by simp) (fun z hzm => ?_) (nodup_iget hi) fun z hzm => ?_⟩
  · obtain ⟨j, hj, rfl⟩ := List.getElem_of_mem hzm
    rw [← iget_lt hj]; exact hz j hj
  · rw [List.getD_eq_getElem?_getD, List.getElem?_replicate]
    split <;> rfl
/-- what the laws ask of a table of cosets -/
structure CtOk (d : PresD) (ws : List (List Int)) (n : Nat) : Prop where
  len : ((ctR d ws).length : Int) = d.1
  pos : 0 < (ctR d ws).length
  leads : Leads (ctR d ws) n
  idxc : idxC d ws = 0
  idxr : idxR d ws = (n : Int)
  n1 : 1 ≤ n
  n4 : n ≤ 400
  holdc : holdC d (ctR d ws) = 0
  holdr : holdR d (ctR d ws) = true
  low : ∀ i, i < ws.length → ∀ z ∈ lget ws i, 0 ≤ z ∧ z < (ctR d ws).length
  home : ∀ i, i < ws.length → leadL (ctR d ws) (0 : Nat) (lget ws i) = ((0 : Nat) : Int)
  few : ws.length ≤ 24
  dvd : idxC d [] = 0 → ∃ m : Nat, idxR d [] = (m : Int) ∧ n ∣ m ∧ m ≤ 2000
theorem ctC_zero {d : PresD} {ws : List (List Int)} (h : ctC d ws = 0) : withOk d ws = true ∧ smallOk d ws = true := by
  unfold ctC at h
  split at h
  · split at h
    · exact ⟨by assumption, by assumption⟩
    · cases h
  · cases h
theorem idx_zero {d : PresD} {ws : List (List Int)} (h : idxC d ws = 0) : withOk d ws = true ∧ (cosX d ws).2.2 = false := by
  unfold idxC at h
  split at h
  · split at h
    · cases h
    · rename_i h1 h2
      exact ⟨h1, by simpa using h2⟩
  · cases h
theorem ct_ok {d : PresD} {ws : List (List Int)} (h : ctC d ws = 0) : ∃ n, CtOk d ws n := by
  obtain ⟨g, rels⟩ := d
  obtain ⟨hw, hsm⟩ := ctC_zero h
  obtain ⟨ng, rfl, hG⟩ := good_of hw
  have hs := smallOk_run hsm
  have hR : ctR ((ng : Int), rels) ws = cosTab ((ng : Int), rels) ws := by unfold ctR; rw [if_pos hw, if_pos hsm]
  have hT := cosTab_leads hG hs.1
  have hI := cosTab_invol hG hs.1
  have hm := cosN_pos hG hs.1
  have hRan : Ran ng rels ws := ⟨hG.rl, hG.wl, hs.1⟩
  have hTe : cosTab ((ng : Int), rels) ws = ctb ng rels ws := cosTab_nat ng rels ws
  have hNe : cosN ((ng : Int), rels) ws = cnm ng rels ws := cosN_nat ng rels ws
  have hlen := cosTab_len ng rels ws
  have hng := hG.pos
  have hp : isPres ((ng : Int), rels) = true := by
    unfold withOk at hw
    rw [Bool.and_eq_true] at hw; exact hw.1
  have hrow : (lget (cosTab ((ng : Int), rels) ws) 0).length = cosN ((ng : Int), rels) ws := hT.len 0 (by omega)
  have hrel : ∀ i, i < rels.length → ∀ x, x < cosN ((ng : Int), rels) ws → leadL (cosTab ((ng : Int), rels) ws) (x : Nat) (lget rels i) = (x : Int) := fun i hi x hx => by
    rw [hTe]; exact ctb_rels hG.rl hG.wl hs.1 (lget_mem hi) (by rw [← hNe]; exact hx)
  have hperms : isPerms (cosTab ((ng : Int), rels) ws) = true := isPerms_true.2 fun k hk => by
    have hl := hT.len k hk
    refine ⟨isPerm_ok (by rw [hl]; exact hs.2) (fun x hx => by rw [hl] at hx ⊢; exact hT.within k hk x hx) (fun i j hi hj e => ?_), by rw [hl, hrow]⟩
    rw [hl] at hi hj
    have a := hI k hk i hi
    have b := hI k hk j hj
    rw [e] at a; omega
  have hargs : holdArgs ((ng : Int), rels) (cosTab ((ng : Int), rels) ws) = true := by
    unfold holdArgs
    rw [hp, hperms, hlen]; simp
  have hB : holdB rels (cosTab ((ng : Int), rels) ws) = true := by
    unfold holdB
    rw [Bool.and_eq_true]
    refine ⟨involsL_true.2 fun k hk => isIden_true.2 fun i hi => ?_, fixAll_true.2 fun i hi x hx => ?_⟩
    · rw [length_thenL] at hi
      rw [iget_thenL hi]
      rw [hT.len k hk] at hi
      exact hI k hk i hi
    · rw [hrow] at hx
      exact hrel i hi x hx
  refine ⟨cosN ((ng : Int), rels) ws, ?_⟩
  refine { len := ?_, pos := ?_, leads := ?_, idxc := ?_, idxr := ?_, n1 := hm, n4 := hs.2, holdc := ?_, holdr := ?_, low := ?_, home := ?_, few := hG.w, dvd := ?_ }
  · rw [hR, hlen]
  · rw [hR, hlen]; exact hng
  · rw [hR]; exact hT
  · unfold idxC; rw [if_pos hw, cosX_nat, if_neg (by rw [hs.1]; decide)]
  · unfold idxR; rw [if_pos hw, cosX_nat, if_neg (by rw [hs.1]; decide)]
  · rw [hR]; unfold holdC; rw [if_pos hargs]
  · rw [hR]; unfold holdR; rw [hargs, hB]; rfl
  · intro i hi z hz
    rw [hR, hlen]
    exact hG.wl _ (lget_mem hi) z hz
  · intro i hi
    rw [hR, hTe]
    exact ctb_words hG.rl hG.wl hs.1 (lget_mem hi)
  · intro h0
    obtain ⟨hw0, hx0⟩ := idx_zero h0
    obtain ⟨ng', hng', hG0⟩ := good_of hw0
    have hng'' : ng' = ng := by omega
    subst hng''
    rw [cosX_nat] at hx0
    have hRan0 : Ran ng' rels [] := ⟨hG0.rl, hG0.wl, hx0⟩
    refine ⟨cosN ((ng' : Int), rels) [], ?_, ?_, cosN_le hG0 hx0⟩
    · unfold idxR; rw [if_pos hw0, cosX_nat, if_neg (by rw [hx0]; decide)]
    · rw [hNe, cosN_nat ng' rels []]
      exact hRan0.divides hRan (fun w hw x hx => ctb_rels hG.rl hG.wl hs.1 hw hx) (fun w hw => by simp at hw)
end Go.Proofs.Ytpognnifgcacnaa

/- slices.Clone at []int64. -/
namespace Go.Proofs.Ytpognnifgcacnaa
open Go.RowKit

set_option maxHeartbeats 400000 in
theorem clone_any (ao : Option Addr) (n c : Nat) (zs : List Int) (w : World) (h : Ints w ao n zs) (hn : n ≤ 1048576) :
    Calls Try.prog 184 #[.slice ao n c] w fun e w' => ∃ ao' c', e = .returned (.slice ao' n c') ∧ Own w' w.heap.size 2 ao' n c' (zs.map (Value.int .i64)) ∧ Below w.heap.size w w' := by
  have he := fun (w : World) => Lib.run_eql_slice_nil (P := Try.prog) w 49 2 ao n c 0 0 Try.underlying49
  cases ao with
  | none =>
    obtain ⟨rfl, rfl⟩ := h.of_none
    go_enter Try.func184, Try.ntmps184
    go_wp2
    go_ret
    exact ⟨_, _, rfl, Own.nil_ _ _ _, Below.refl _ _⟩
  | some ad =>
    have h2 : Ints (w.alloc (.cells #[] 2)) (some ad) n zs := h.below ((Below.refl _ _).alloc (Nat.le_refl _) _)
    have H2 := Lib.hid h2
    clear h2
    go_enter Try.func184, Try.ntmps184
    go_wp2_with (at_builtin; refine wpList_apN etI _ rfl _ _ rfl w.heap.size _ 0 0 [] rfl (Own.empty_ w _ (Nat.le_refl _)) (some ad) n c zs rfl H2.out (by omega) (by simp) ?_; intro ao2 c2 w2 ho2 hg2 hblk)
    go_ret
    refine ⟨_, _, rfl, by simpa using ho2, ((Below.refl _ _).alloc (Nat.le_refl _) _).grown hg2 (by simp) (fun g hg => ?_)⟩
    simp [bk] at hg; omega
end Go.Proofs.Ytpognnifgcacnaa

/- The reference's l01Own. -/
namespace Go.Proofs.Ytpognnifgcacnaa
open Go.RowKit

set_option maxRecDepth 100000 in
set_option maxHeartbeats 400000 in
theorem own_any (ao : Option Addr) (n c : Nat) (zs : List Int) (w : World) (h : Ints w ao n zs) (hn : n ≤ 1048576) :
    Calls Try.prog 121 #[.slice ao n c] w fun e w' => ∃ ao' c', e = .returned (.slice ao' n c') ∧ Own w' w.heap.size 2 ao' n c' (zs.map (Value.int .i64)) ∧ Below w.heap.size w w' := by
  have h2 : Ints (w.alloc (.cells #[] 2)) ao n zs := h.below (below_alloc1 _ _)
  have H2 := Lib.hid h2
  clear h2
  go_enter Try.func121, Try.ntmps121
  go_wp2_with (at_builtin; refine wpList_apN etI _ rfl _ _ rfl w.heap.size _ 0 0 [] rfl (Own.empty_ w _ (Nat.le_refl _)) ao n c zs rfl H2.out (by omega) (by simp) ?_; intro ao2 c2 w2 ho2 hg2 hblk)
  go_ret
  refine ⟨_, _, rfl, by simpa using ho2, (below_alloc1 w _).grown hg2 (by simp) (fun g hg => ?_)⟩
  simp [bk] at hg; omega

end Go.Proofs.Ytpognnifgcacnaa

/- Shortest words to all cosets: l11Shortest. -/
namespace Go.Proofs.Ytpognnifgcacnaa
open Go.RowKit

theorem specOwn_fc (x y i n : Nat) (zss : List (List Int)) (hi : i < zss.length) (hn : (lget zss i).length = n) (hl : n ≤ 1000000) :
    FC Try.prog 121 [(x, imRo zss)] [o1 (.esl x i 0 n)] [(y, leOw (lget zss i))] (o1 (.sl y 0 n)) [] := by
  subst hn
  exact fc_of_own fun w η ω us hm ⟨hl', ha⟩ => by
    obtain ⟨u0, g0, d0⟩ := ha 0 _ rfl
    obtain ⟨ao, c, rfl, hr⟩ := rdE (x := x) (zss := zss) hm (lk_self _ _) hi d0 (by omega)
    rw [one_of hl' g0]
    refine (own_any ao _ c _ w hr (by omega)).mono ?_
    rintro e w' ⟨ao', c', rfl, ho, hb⟩
    exact ⟨ao', c', rfl, ho, hb⟩
theorem implClone_fc (x y i n : Nat) (zss : List (List Int)) (hi : i < zss.length) (hn : (lget zss i).length = n) (hl : n ≤ 1000000) :
    FC Try.prog 184 [(x, imRo zss)] [o1 (.esl x i 0 n)] [(y, leOw (lget zss i))] (o1 (.sl y 0 n)) [] := by
  subst hn
  exact fc_of_own fun w η ω us hm ⟨hl', ha⟩ => by
    obtain ⟨u0, g0, d0⟩ := ha 0 _ rfl
    obtain ⟨ao, c, rfl, hr⟩ := rdE (x := x) (zss := zss) hm (lk_self _ _) hi d0 (by omega)
    rw [one_of hl' g0]
    refine (clone_any ao _ c _ w hr (by omega)).mono ?_
    rintro e w' ⟨ao', c', rfl, ho, hb⟩
    exact ⟨ao', c', rfl, ho, hb⟩

set_option maxRecDepth 100000 in
set_option maxHeartbeats 2000000 in
theorem specShort_fc (T : List (List Int)) (ng n : Nat) (hng : T.length = ng) (hpos : 0 < ng) (hT : Leads T n) (hn : 0 < n) (hn4 : n ≤ 400) (hg5 : ng ≤ 5) :
    FC Try.prog 151 [(1005, imRo T)] [o1 (.sl 1005 0 ng)] [(13, imOw (bfs T ng n).1)] (o1 (.sl 13 0 n)) [] := by
  have hlen : (irows T).length = ng := by rw [irows_len, hng]
  have hr0 : (lget T 0).length = n := hT.len 0 (by omega)
  have hrow : (irows T)[0]? = some (ivals (lget T 0)) := irows_get (by omega)
  refine fc_enter (nt := 69) Try.func151 rfl rfl (by simp) fun w0 ω0 => ?_
  have hbl0 : (bvals (List.replicate n false)).length = n := by rw [bvals_len]; simp
  rw [← hr0] at hbl0
  have hrp : (List.replicate (lget T 0).length false).length = (lget T 0).length := by simp
  (refine goes_seq ?_; refine goes_region ?_; apply run_step rfl; (exact stp_assign rfl rfl); refine run_nil ?_; refine fin_seq ?_; refine goes_seq ?_; refine goes_region ?_; apply run_step rfl; (exact stp_move rfl rfl); apply run_step rfl; (first | exact stp_ix (j := 0) rfl rfl rfl rfl rfl (by as_aux_lemma => kernel_rfl) rfl hpos (Nat.le_of_eq hlen.symm) | exact stp_makeB (E := 4) rfl (by as_aux_lemma => kernel_rfl) (by as_aux_lemma => kernel_rfl) rfl rfl rfl rfl (by omega) | exact stp_ix (j := 0) rfl rfl rfl rfl rfl (by as_aux_lemma => kernel_rfl) rfl (by omega) (Nat.le_of_eq hbl0.symm) | exact stp_stB (bs := List.replicate (lget T 0).length false) rfl rfl rfl rfl rfl (by rw [hrp]; omega) (by as_aux_lemma => kernel_rfl)); apply run_step rfl; (exact stp_loadR rfl (by as_aux_lemma => kernel_rfl) rfl rfl rfl (by first | assumption | exact ivals_get (by assumption) | exact irows_get (by assumption) | exact ivals_get (by omega) | exact irows_get (by omega) | rfl) (by first | exact ivals_len _ | assumption | rfl)); apply run_step rfl; (exact stp_len rfl rfl rfl (by as_aux_lemma => kernel_rfl)); apply run_step rfl; (exact stp_makeR (E := 49) (F := 2) rfl (by as_aux_lemma => kernel_rfl) (by as_aux_lemma => kernel_rfl) (by as_aux_lemma => kernel_rfl) rfl rfl rfl rfl (by omega)); apply run_step rfl; (exact stp_assign rfl rfl); refine run_nil ?_; refine fin_seq ?_; refine goes_seq ?_; refine goes_region ?_; apply run_step rfl; (exact stp_move rfl rfl); apply run_step rfl; (exact stp_len rfl rfl rfl (by as_aux_lemma => kernel_rfl)); apply run_step rfl; (first | exact stp_ix (j := 0) rfl rfl rfl rfl rfl (by as_aux_lemma => kernel_rfl) rfl hpos (Nat.le_of_eq hlen.symm) | exact stp_makeB (E := 4) rfl (by as_aux_lemma => kernel_rfl) (by as_aux_lemma => kernel_rfl) rfl rfl rfl rfl (by omega) | exact stp_ix (j := 0) rfl rfl rfl rfl rfl (by as_aux_lemma => kernel_rfl) rfl (by omega) (Nat.le_of_eq hbl0.symm) | exact stp_stB (bs := List.replicate (lget T 0).length false) rfl rfl rfl rfl rfl (by rw [hrp]; omega) (by as_aux_lemma => kernel_rfl)); apply run_step rfl; (exact stp_assign rfl rfl); refine run_nil ?_; refine fin_seq ?_; refine goes_seq ?_; refine goes_region ?_; apply run_step rfl; (exact stp_move rfl rfl); apply run_step rfl; (first | exact stp_ix (j := 0) rfl rfl rfl rfl rfl (by as_aux_lemma => kernel_rfl) rfl hpos (Nat.le_of_eq hlen.symm) | exact stp_makeB (E := 4) rfl (by as_aux_lemma => kernel_rfl) (by as_aux_lemma => kernel_rfl) rfl rfl rfl rfl (by omega) | exact stp_ix (j := 0) rfl rfl rfl rfl rfl (by as_aux_lemma => kernel_rfl) rfl (by omega) (Nat.le_of_eq hbl0.symm) | exact stp_stB (bs := List.replicate (lget T 0).length false) rfl rfl rfl rfl rfl (by rw [hrp]; omega) (by as_aux_lemma => kernel_rfl)); apply run_step rfl; (first | exact stp_ix (j := 0) rfl rfl rfl rfl rfl (by as_aux_lemma => kernel_rfl) rfl hpos (Nat.le_of_eq hlen.symm) | exact stp_makeB (E := 4) rfl (by as_aux_lemma => kernel_rfl) (by as_aux_lemma => kernel_rfl) rfl rfl rfl rfl (by omega) | exact stp_ix (j := 0) rfl rfl rfl rfl rfl (by as_aux_lemma => kernel_rfl) rfl (by omega) (Nat.le_of_eq hbl0.symm) | exact stp_stB (bs := List.replicate (lget T 0).length false) rfl rfl rfl rfl rfl (by rw [hrp]; omega) (by as_aux_lemma => kernel_rfl)); refine run_nil ?_; refine fin_seq ?_; refine goes_seq ?_; refine goes_region ?_; apply run_step rfl; (exact stp_lit1I (E := 2) rfl (by as_aux_lemma => kernel_rfl) rfl); apply run_step rfl; (exact stp_assign rfl rfl); refine run_nil ?_; refine fin_seq ?_; refine goes_seq ?_; refine goes_seq ?_; refine goes_region ?_; apply run_step rfl; (exact stp_assign rfl rfl); refine run_nil ?_; refine fin_seq ?_; refine goes_block ?_)
  refine goes_loop (fun q : Nat × BSt => St.of [(0, o1 (.sl 1005 0 ng)), (3, o1 (.sl 13 0 n)), (4, o1 (.sl 16 0 n)), (5, o1 (.sl 19 0 q.2.2.2.length)), (6, vv (I6 q.1))] [(1005, imRo T), (13, imOw q.2.1), (16, boOw q.2.2.1), (19, leOw q.2.2.2)])
    (fun q => q.1 ≤ q.2.2.2.length ∧ BOK n q.2 ∧ bLoop T ng (n + 1 - q.1) q.1 q.2 = bfs T ng n) (fun q => n + 1 - q.1) (0, bStart n) ⟨Nat.zero_le _, bStart_ok hn, rfl⟩ (Wk.of ⟨rfl, by rw [← hr0]; rfl, by rw [← hr0]; rfl, rfl, rfl, trivial⟩ ⟨rfl, by rw [← hr0]; rfl, by rw [← hr0]; rfl, rfl, trivial⟩ trivial) ?_
  clear hbl0 hrp
  rintro ⟨i, W, B, O⟩ ⟨hi, hok, hl⟩
  dsimp only at hi hl ⊢
  have hOn : O.length ≤ n := hok.le
  (refine goes_seq ?_; refine goes_seq ?_; refine goes_region ?_; apply run_step rfl; (exact stp_move rfl rfl); apply run_step rfl; (exact stp_move rfl rfl); apply run_step rfl; (exact stp_len rfl rfl rfl (by as_aux_lemma => kernel_rfl)); apply run_step rfl; (exact stp_bin rfl rfl rfl rfl); refine run_nil ?_; refine fin_seq ?_)
  refine goes_if rfl (fun h => ?_) (fun h => ?_)
  · have hlt : i < O.length := by omega
    have hl' : bLoop T ng (n - i) (i + 1) (bRow T ng (iget O i).toNat (W, B, O)) = bfs T ng n := by
      rw [← hl, show n + 1 - i = (n - i) + 1 by omega]; exact (bLoop_step (T := T) (ng := ng) (s := (W, B, O)) hlt).symm
    obtain ⟨c, hc1, hc2, _⟩ := hok.q i hlt
    dsimp only at hc1
    rw [hc1, Int.toNat_natCast] at hl'
    obtain ⟨s0, hs0⟩ : ∃ s0 : BSt, s0 = (W, B, O) := ⟨_, rfl⟩
    have hro : ∀ m, m ≤ ng → BOK n ((List.range m).foldl (bStep T c) s0) ∧ BGrow n s0 ((List.range m).foldl (bStep T c) s0) := fun m hm => bRow_ok hT hng hc2 (by rw [hs0]; exact hok) m hm
    have hO0 : s0.2.2.length = O.length := by rw [hs0]
    have hc0 : iget s0.2.2 i = (c : Int) := by rw [hs0]; exact hc1
    have hfin : bLoop T ng (n - i) (i + 1) ((List.range ng).foldl (bStep T c) s0) = bfs T ng n := by rw [hs0]; exact hl'
    (refine goes_skip ?_; refine fin_seq ?_; refine goes_seq ?_; refine goes_block ?_; refine goes_seq ?_; refine goes_region ?_; apply run_step rfl; (exact stp_assign rfl rfl); refine run_nil ?_; refine fin_seq ?_; refine goes_block ?_)
    refine goes_loop (fun q : Nat × BSt => St.of [(0, o1 (.sl 1005 0 ng)), (3, o1 (.sl 13 0 n)), (4, o1 (.sl 16 0 n)), (5, o1 (.sl 19 0 q.2.2.2.length)), (6, vv (I6 i)), (7, vv (I6 q.1))] [(1005, imRo T), (13, imOw q.2.1), (16, boOw q.2.2.1), (19, leOw q.2.2.2)])
      (fun q => q.1 ≤ ng ∧ (List.range q.1).foldl (bStep T c) s0 = q.2) (fun q => ng - q.1) (0, (W, B, O)) ⟨Nat.zero_le _, hs0⟩ (Wk.of ⟨rfl, rfl, rfl, rfl, rfl, rfl, trivial⟩ ⟨rfl, rfl, rfl, rfl, trivial⟩ trivial) ?_
    clear hl hl' hok hs0 hc1
    generalize O.length = on at *
    rintro ⟨g, W, B, O⟩ ⟨hg, hfo⟩
    dsimp only at hg hfo ⊢
    obtain ⟨hok, grw⟩ := hro g hg
    rw [hfo] at hok grw
    have hOl : O.length ≤ n := hok.le
    have hiO : i < O.length := Nat.lt_of_lt_of_le (by omega) grw.len
    have hWl : W.length = n := hok.l1
    have hBl : B.length = n := hok.l2
    have hbl : (bvals B).length = n := by rw [bvals_len]; exact hBl
    have hci : iget O i = (c : Int) := (grw.pre i (by omega)).trans hc0
    have hget : (ivals O)[i]? = some (I6 (c : Int)) := by rw [ivals_get hiO, hci]
    (refine goes_seq ?_; refine goes_seq ?_; refine goes_region ?_; apply run_step rfl; (exact stp_move rfl rfl); apply run_step rfl; (exact stp_move rfl rfl); apply run_step rfl; (exact stp_len rfl rfl rfl (by as_aux_lemma => kernel_rfl)); apply run_step rfl; (exact stp_bin rfl rfl rfl rfl); refine run_nil ?_; refine fin_seq ?_)
    refine goes_if rfl (fun h2 => ?_) (fun h2 => ?_)
    · have hgn : g < ng := by omega
      have hd := bTo_lt hT hc2 (g := g) (by omega)
      have hrl : (lget T g).length = n := hT.len g (by omega)
      obtain ⟨d, hdd⟩ : ∃ d, bTo T c g = d := ⟨_, rfl⟩
      have hst : (List.range (g + 1)).foldl (bStep T c) s0 = bVisit (W, B, O) c g d := by
        rw [List.range_succ, List.foldl_append, hfo, ← hdd]; rfl
      rw [hdd] at hd
      have hgetd : (ivals (lget T g))[c]? = some (I6 (d : Int)) := by rw [ivals_get (by omega), hd.2]
      have hgb : (bvals B)[d]? = some (.bool (bat B d)) := bvals_get (by omega)
      have hWc : (lget W c).length < O.length := hok.len c
      have hOw := specOwn_fc 13 59 c (lget W c).length W (by omega) rfl (by omega)
      (refine goes_skip ?_; refine fin_seq ?_; refine goes_seq ?_; refine goes_block ?_; refine goes_seq ?_)
      apply goes_draw 10 [] [[], [], [0, 1], [0, 1, 2], [], [], [4, 5], [4, 5, 6], [0, 1, 2, 3, 4, 5, 6, 7], [0, 1, 2, 3, 4, 5, 6, 7, 8], [0, 1, 2, 3, 4, 5, 6, 7, 8, 9]] [32, 33, 34, 35, 36, 37, 38, 39, 40, 41] [] (by kernel_rfl) (by kernel_rfl)
      · (apply draw_put rfl; (intro S1 hS; exact stp_move rfl (hS.op rfl)); apply draw_put rfl; (intro S1 hS; exact stp_move rfl (hS.op rfl)); apply draw_put rfl; (intro S1 hS; exact stp_ix rfl (hS.op rfl) (hS.op rfl) (hS.ch _ _ rfl) rfl (by as_aux_lemma => kernel_rfl) (by first | rfl | exact (Int.toNat_of_nonneg (by omega)).symm) (by first | assumption | omega | (simp; omega)) (by first | exact Nat.le_refl _ | exact Nat.le_of_eq (ivals_len _).symm | exact Nat.le_of_eq (irows_len _).symm | (refine Nat.le_trans ?_ (Nat.le_of_eq (ivals_len _).symm); (first | omega | (simp; done) | (simp; omega))) | (refine Nat.le_trans ?_ (Nat.le_of_eq (irows_len _).symm); (first | omega | (simp; done) | (simp; omega))))); apply draw_put rfl; (intro S1 hS; exact stp_loadR rfl (by as_aux_lemma => kernel_rfl) (hS.op rfl) (hS.ch _ _ rfl) rfl (by first | assumption | exact ivals_get (by assumption) | exact irows_get (by assumption) | exact ivals_get (by omega) | exact irows_get (by omega) | rfl) (by first | exact ivals_len _ | assumption | rfl)); apply draw_put rfl; (intro S1 hS; exact stp_move rfl (hS.op rfl)); apply draw_put rfl; (intro S1 hS; exact stp_move rfl (hS.op rfl)); apply draw_put rfl; (intro S1 hS; exact stp_ix rfl (hS.op rfl) (hS.op rfl) (hS.ch _ _ rfl) rfl (by as_aux_lemma => kernel_rfl) (by first | rfl | exact (Int.toNat_of_nonneg (by omega)).symm) (by first | assumption | omega | (simp; omega)) (by first | exact Nat.le_refl _ | exact Nat.le_of_eq (ivals_len _).symm | exact Nat.le_of_eq (irows_len _).symm | (refine Nat.le_trans ?_ (Nat.le_of_eq (ivals_len _).symm); (first | omega | (simp; done) | (simp; omega))) | (refine Nat.le_trans ?_ (Nat.le_of_eq (irows_len _).symm); (first | omega | (simp; done) | (simp; omega))))); apply draw_put rfl; (intro S1 hS; exact stp_loadV rfl (by as_aux_lemma => kernel_rfl) (hS.op rfl) (hS.ch _ _ rfl) rfl (by first | assumption | exact ivals_get (by assumption) | exact irows_get (by assumption) | exact ivals_get (by omega) | exact irows_get (by omega) | rfl)); apply draw_put rfl; (intro S1 hS; exact stp_ixE rfl (hS.op rfl) (hS.op rfl) (hS.ch _ _ rfl) rfl (by as_aux_lemma => kernel_rfl) (by first | assumption | exact ivals_get (by assumption) | exact irows_get (by assumption) | exact ivals_get (by omega) | exact irows_get (by omega) | rfl) (by first | rfl | exact (Int.toNat_of_nonneg (by omega)).symm) (by first | assumption | omega | (simp; omega)) (by first | exact Nat.le_refl _ | exact Nat.le_of_eq (ivals_len _).symm | exact Nat.le_of_eq (irows_len _).symm | (refine Nat.le_trans ?_ (Nat.le_of_eq (ivals_len _).symm); (first | omega | (simp; done) | (simp; omega))) | (refine Nat.le_trans ?_ (Nat.le_of_eq (irows_len _).symm); (first | omega | (simp; done) | (simp; omega))))); apply draw_put rfl; (intro S1 hS; exact stp_loadE' rfl (by as_aux_lemma => kernel_rfl) (hS.op rfl) (hS.ch _ _ rfl) rfl (by first | assumption | exact ivals_get (by assumption) | exact irows_get (by assumption) | exact ivals_get (by omega) | exact irows_get (by omega) | rfl) (by first | assumption | exact ivals_get (by assumption) | exact irows_get (by assumption) | exact ivals_get (by omega) | exact irows_get (by omega) | rfl)); exact Draw.nil)
      · rfl
      ((apply rest_one 10 rfl (by as_aux_lemma => kernel_rfl) rfl rfl; (exact stp_assign rfl rfl)); (refine rest_done (by as_aux_lemma => kernel_rfl) ?_; skip))
      (refine fin_seq ?_; refine goes_seq ?_; refine goes_region ?_; apply run_step rfl; (exact stp_move rfl rfl); apply run_step rfl; (exact stp_move rfl rfl); apply run_step rfl; (exact stp_ix rfl rfl rfl rfl rfl (by as_aux_lemma => kernel_rfl) rfl hd.1 (Nat.le_of_eq hbl.symm)); apply run_step rfl; (exact stp_loadV rfl (by as_aux_lemma => kernel_rfl) rfl rfl rfl (by first | assumption | exact ivals_get (by assumption) | exact irows_get (by assumption) | exact ivals_get (by omega) | exact irows_get (by omega) | rfl)); apply run_step rfl; (exact stp_not rfl rfl); refine run_nil ?_; refine fin_seq ?_)
      refine goes_cond rfl (fun hb => ?_) (fun hb => ?_)
      · have hb : bat B d = false := by simpa using hb
        have hv : bVisit (W, B, O) c g d = (W.set d (lget W c ++ [(g : Int)]), B.set d true, O ++ [(d : Int)]) := if_neg (by rw [hb]; simp)
        have hset : (irows W).set d (ivals (lget W c ++ [(g : Int)])) = irows (W.set d (lget W c ++ [(g : Int)])) := irows_set _ _ _
        have hrW : (irows W)[c]? = some (ivals (lget W c)) := irows_get (by omega)
        (refine goes_seq ?_; refine goes_region ?_; apply run_step rfl; (exact stp_move rfl rfl); apply run_step rfl; (exact stp_move rfl rfl); apply run_step rfl; (first | exact stp_ix rfl rfl rfl rfl rfl (by as_aux_lemma => kernel_rfl) rfl hd.1 (Nat.le_of_eq hbl.symm) | exact stp_stB rfl rfl rfl rfl rfl (by rw [hBl]; exact hd.1) (by as_aux_lemma => kernel_rfl) | (apply call_gate 121; exact stp_callN hOw (by as_aux_lemma => kernel_rfl) rfl rfl ⟨rfl, trivial⟩ ⟨⟨_, rfl, .inr rfl⟩, trivial⟩ rfl rfl rfl) | exact stp_storeRow (n := 13) (z := 59) (i := d) rfl rfl (by simp) rfl rfl (by rw [ivals_len]; simp) rfl (by rw [irows_len, hWl]; exact hd.1) (by as_aux_lemma => kernel_rfl)); apply run_step rfl; (first | exact stp_ix rfl rfl rfl rfl rfl (by as_aux_lemma => kernel_rfl) rfl hd.1 (Nat.le_of_eq hbl.symm) | exact stp_stB rfl rfl rfl rfl rfl (by rw [hBl]; exact hd.1) (by as_aux_lemma => kernel_rfl) | (apply call_gate 121; exact stp_callN hOw (by as_aux_lemma => kernel_rfl) rfl rfl ⟨rfl, trivial⟩ ⟨⟨_, rfl, .inr rfl⟩, trivial⟩ rfl rfl rfl) | exact stp_storeRow (n := 13) (z := 59) (i := d) rfl rfl (by simp) rfl rfl (by rw [ivals_len]; simp) rfl (by rw [irows_len, hWl]; exact hd.1) (by as_aux_lemma => kernel_rfl)); refine run_nil ?_; refine fin_seq ?_; refine goes_seq ?_; refine goes_region ?_; apply run_step rfl; (exact stp_move rfl rfl); apply run_step rfl; (exact stp_move rfl rfl); apply run_step rfl; (exact stp_move rfl rfl); apply run_step rfl; (exact stp_move rfl rfl); apply run_step rfl; (exact stp_move rfl rfl); apply run_step rfl; (exact stp_ix rfl rfl rfl rfl rfl (by as_aux_lemma => kernel_rfl) (by first | rfl | exact (Int.toNat_of_nonneg (by omega)).symm) (by first | assumption | omega | (simp; omega)) (by first | exact Nat.le_refl _ | exact Nat.le_of_eq (ivals_len _).symm | exact Nat.le_of_eq (irows_len _).symm | (refine Nat.le_trans ?_ (Nat.le_of_eq (ivals_len _).symm); (first | omega | (simp; done) | (simp; omega))) | (refine Nat.le_trans ?_ (Nat.le_of_eq (irows_len _).symm); (first | omega | (simp; done) | (simp; omega))))); apply run_step rfl; (exact stp_loadV rfl (by as_aux_lemma => kernel_rfl) rfl rfl rfl (by first | assumption | exact ivals_get (by assumption) | exact irows_get (by assumption) | exact ivals_get (by omega) | exact irows_get (by omega) | rfl)); apply run_step rfl; (exact stp_ix rfl rfl rfl rfl rfl (by as_aux_lemma => kernel_rfl) (by first | rfl | exact (Int.toNat_of_nonneg (by omega)).symm) (by first | assumption | omega | (simp; omega)) (by first | exact Nat.le_refl _ | exact Nat.le_of_eq (ivals_len _).symm | exact Nat.le_of_eq (irows_len _).symm | (refine Nat.le_trans ?_ (Nat.le_of_eq (ivals_len _).symm); (first | omega | (simp; done) | (simp; omega))) | (refine Nat.le_trans ?_ (Nat.le_of_eq (irows_len _).symm); (first | omega | (simp; done) | (simp; omega))))); apply run_step rfl; (exact stp_loadR rfl (by as_aux_lemma => kernel_rfl) rfl rfl rfl (by first | assumption | exact ivals_get (by assumption) | exact irows_get (by assumption) | exact ivals_get (by omega) | exact irows_get (by omega) | rfl) (by first | exact ivals_len _ | assumption | rfl)); apply run_step rfl; (first | exact stp_ix rfl rfl rfl rfl rfl (by as_aux_lemma => kernel_rfl) rfl hd.1 (Nat.le_of_eq hbl.symm) | exact stp_stB rfl rfl rfl rfl rfl (by rw [hBl]; exact hd.1) (by as_aux_lemma => kernel_rfl) | (apply call_gate 121; exact stp_callN hOw (by as_aux_lemma => kernel_rfl) rfl rfl ⟨rfl, trivial⟩ ⟨⟨_, rfl, .inr rfl⟩, trivial⟩ rfl rfl rfl) | exact stp_storeRow (n := 13) (z := 59) (i := d) rfl rfl (by simp) rfl rfl (by rw [ivals_len]; simp) rfl (by rw [irows_len, hWl]; exact hd.1) (by as_aux_lemma => kernel_rfl)); apply run_step rfl; (exact stp_move rfl rfl); apply run_step rfl; (exact stp_lit1I (E := 2) rfl (by as_aux_lemma => kernel_rfl) rfl); apply run_step rfl; (exact stp_appI rfl (by as_aux_lemma => kernel_rfl) rfl rfl rfl (by first | rfl | assumption | (simp; done)) rfl rfl (by omega)); apply run_step rfl; (exact stp_ix rfl rfl rfl rfl rfl (by as_aux_lemma => kernel_rfl) (by first | rfl | exact (Int.toNat_of_nonneg (by omega)).symm) (by first | assumption | omega | (simp; omega)) (by first | exact Nat.le_refl _ | exact Nat.le_of_eq (ivals_len _).symm | exact Nat.le_of_eq (irows_len _).symm | (refine Nat.le_trans ?_ (Nat.le_of_eq (ivals_len _).symm); (first | omega | (simp; done) | (simp; omega))) | (refine Nat.le_trans ?_ (Nat.le_of_eq (irows_len _).symm); (first | omega | (simp; done) | (simp; omega))))); apply run_step rfl; (first | exact stp_ix rfl rfl rfl rfl rfl (by as_aux_lemma => kernel_rfl) rfl hd.1 (Nat.le_of_eq hbl.symm) | exact stp_stB rfl rfl rfl rfl rfl (by rw [hBl]; exact hd.1) (by as_aux_lemma => kernel_rfl) | (apply call_gate 121; exact stp_callN hOw (by as_aux_lemma => kernel_rfl) rfl rfl ⟨rfl, trivial⟩ ⟨⟨_, rfl, .inr rfl⟩, trivial⟩ rfl rfl rfl) | exact stp_storeRow (n := 13) (z := 59) (i := d) rfl rfl (by simp) rfl rfl (by rw [ivals_len]; simp) rfl (by rw [irows_len, hWl]; exact hd.1) (by as_aux_lemma => kernel_rfl)); refine run_nil ?_; refine fin_seq ?_; refine goes_region ?_; apply run_step rfl; (exact stp_move rfl rfl); apply run_step rfl; (exact stp_move rfl rfl); apply run_step rfl; (exact stp_lit1I (E := 2) rfl (by as_aux_lemma => kernel_rfl) rfl); apply run_step rfl; (exact stp_appI rfl (by as_aux_lemma => kernel_rfl) rfl rfl rfl (by first | rfl | assumption | (simp; done)) rfl rfl (by omega)); apply run_step rfl; (exact stp_assign rfl rfl); refine run_nil ?_; refine fin_block ?_; refine fin_seq ?_; refine goes_region ?_; apply run_step rfl; (exact stp_move rfl rfl); apply run_step rfl; (exact stp_add rfl rfl rfl (by first | exact IntWalk.i64_in _ (by omega) | rfl)); apply run_step rfl; (exact stp_assign rfl rfl); refine run_nil ?_)
        exact fin_round (g + 1, (W.set d (lget W c ++ [(g : Int)]), B.set d true, O ++ [(d : Int)])) ⟨hgn, hst.trans hv⟩ (by show ng - (g + 1) < ng - g; omega) (Wk.of ⟨rfl, rfl, rfl, by simp; rfl, rfl, rfl, trivial⟩ ⟨rfl, congrArg (fun l => some (⟨true, 49, 1, .rows 2 l []⟩ : Ch)) hset, rfl, rfl, trivial⟩ trivial)
      · have hb : bat B d = true := by simpa using hb
        have hv : bVisit (W, B, O) c g d = (W, B, O) := if_pos hb
        (refine goes_skip ?_; refine fin_block ?_; refine fin_seq ?_; refine goes_region ?_; apply run_step rfl; (exact stp_move rfl rfl); apply run_step rfl; (exact stp_add rfl rfl rfl (by first | exact IntWalk.i64_in _ (by omega) | rfl)); apply run_step rfl; (exact stp_assign rfl rfl); refine run_nil ?_)
        exact fin_round (g + 1, (W, B, O)) ⟨hgn, hst.trans hv⟩ (by show ng - (g + 1) < ng - g; omega) (Wk.of ⟨rfl, rfl, rfl, rfl, rfl, rfl, trivial⟩ ⟨rfl, rfl, rfl, rfl, trivial⟩ trivial)
    · obtain rfl : g = ng := by omega
      (refine goes_exit ?_; refine fin_exit_then ?_; refine fin_exit_then ?_; refine fin_exit_eq ?_; refine fin_block ?_; refine fin_seq ?_; refine goes_region ?_; apply run_step rfl; (exact stp_move rfl rfl); apply run_step rfl; (exact stp_add rfl rfl rfl (by first | exact IntWalk.i64_in _ (by omega) | rfl)); apply run_step rfl; (exact stp_assign rfl rfl); refine run_nil ?_)
      exact fin_round (i + 1, (W, B, O)) ⟨hiO, hok, by rw [← hfin, hfo]; show bLoop _ _ (n + 1 - (i + 1)) _ _ = _; rw [show n + 1 - (i + 1) = n - i by omega]⟩ (by show n + 1 - (i + 1) < n + 1 - i; omega) (Wk.of ⟨rfl, rfl, rfl, rfl, rfl, trivial⟩ ⟨rfl, rfl, rfl, rfl, trivial⟩ trivial)
  · have hio : i = O.length := by omega
    have hOM : bfs T ng n = (W, B, O) := by
      rw [← hl, show n + 1 - i = (n - i) + 1 by omega, bLoop, if_neg (by show ¬ i < O.length; omega)]
    rw [hOM]
    (refine goes_exit ?_; refine fin_exit_then ?_; refine fin_exit_then ?_; refine fin_exit_eq ?_; refine fin_seq ?_; refine goes_seq ?_; refine goes_region ?_; apply run_step rfl; (exact stp_move rfl rfl); apply run_step rfl; (exact stp_assign rfl rfl); refine run_nil ?_; refine fin_seq ?_; refine goes_ret ?_)
    exact fin_ret1 (.inl rfl) rfl (.tmp rfl) ⟨rfl, trivial⟩ trivial
end Go.Proofs.Ytpognnifgcacnaa
