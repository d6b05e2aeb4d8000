/- Coset enumeration: new cosets and words that are closed, on lists. No program in sight. -/
import Derived.Test.YtmdhljleaijkbaaPart4
import Derived.Test.YtmdhljleaijkbaaPart1
import Derived.Test.YtmdhljleaijkbaaPart3
import Derived.Test.YtmdhljleaijkbaaPart2
import Derived.Deep.QuietTactic
import Derived.Deep.DeepCutAuto
namespace Go.Proofs.Ytmdhljleaijkbaa

/-- a new coset, the image of c under g -/
def addC (ng : Nat) (im : List (List Int)) (n c g : Nat) : List (List Int) := rset (rset (im ++ [List.replicate ng (-1)]) c g n) n g c
/-- the image of c under g, which is defined if there is none; whether it fails -/
def nextC (ng : Nat) (im : List (List Int)) (less : List Int) (c g : Nat) : List (List Int) × List Int × Bool × Nat :=
  if 0 ≤ ent im c g then (im, less, false, root less (ent im c g).toNat)
  else if less.length = 2000 then (im, less, true, 0)
  else (addC ng im less.length c g, less ++ [(less.length : Int)], false, less.length)

theorem WF.app {ng : Nat} {im : List (List Int)} {less : List Int} (h : WF ng im less) : WF ng (im ++ [List.replicate ng (-1)]) (less ++ [(less.length : Int)]) :=
  { len := by simp [h.len]
    row := fun c hc => by
      by_cases e : c < im.length
      · rw [lget_app_lt e]; exact h.row c e
      · obtain rfl : c = im.length := by simp at hc; omega
        rw [lget_app_eq]; simp
    down := fun c hc => by
      by_cases e : c < less.length
      · rw [iget_app_lt e]; exact h.down c e
      · obtain rfl : c = less.length := by simp at hc; omega
        rw [iget_app_eq]; omega
    ent := fun c g hc hg => by
      unfold Proofs.Ytmdhljleaijkbaa.ent
      by_cases e : c < im.length
      · rw [lget_app_lt e]
        have := h.ent c g e hg
        unfold Proofs.Ytmdhljleaijkbaa.ent at this
        simp; omega
      · obtain rfl : c = im.length := by simp at hc; omega
        rw [lget_app_eq, iget_rep hg]; omega }
theorem WF.addC {ng : Nat} {im : List (List Int)} {less : List Int} {c g : Nat} (h : WF ng im less) (hc : c < less.length) (hg : g < ng) : WF ng (addC ng im less.length c g) (less ++ [(less.length : Int)]) := by
  have h1 := h.app
  have hl := h.len
  unfold Proofs.Ytmdhljleaijkbaa.addC
  refine (h1.set_im (c := c) (g := g) (z := (less.length : Int)) (by simp; omega) hg (by simp; omega)).set_im (c := less.length) (g := g) (z := (c : Int)) ?_ hg ?_
  · rw [rset_len]; simp; omega
  · simp; omega
structure GoOK (ng n0 : Nat) (s : List (List Int) × List Int × Bool × Nat) : Prop where
  wf : WF ng s.1 s.2.1
  lo : n0 ≤ s.2.1.length
  hi : s.2.1.length ≤ 2000
  d : s.2.2.2 < s.2.1.length
structure CloseOK (ng n0 : Nat) (s : List (List Int) × List Int × Bool) : Prop where
  wf : WF ng s.1 s.2.1
  lo : n0 ≤ s.2.1.length
  hi : s.2.1.length ≤ 2000
end Go.Proofs.Ytmdhljleaijkbaa

/- Coset enumeration: the whole procedure, on lists. No program in sight. -/
namespace Go.Proofs.Ytmdhljleaijkbaa

/-- images, the smaller cosets, whether it has failed -/
abbrev CSt := List (List Int) × List Int × Bool
theorem CloseOK.refl {ng : Nat} {s : CSt} (h : WF ng s.1 s.2.1) (hi : s.2.1.length ≤ 2000) : CloseOK ng s.2.1.length s := ⟨h, Nat.le_refl _, hi⟩
theorem CloseOK.le {ng n m : Nat} {s : CSt} (h : CloseOK ng n s) (hm : m ≤ n) : CloseOK ng m s := ⟨h.wf, Nat.le_trans hm h.lo, h.hi⟩
end Go.Proofs.Ytmdhljleaijkbaa

/- Coset enumeration: images are never lost; the table is complete at the end. No program in sight. -/
namespace Go.Proofs.Ytmdhljleaijkbaa

structure Grow (ng : Nat) (im : List (List Int)) (less : List Int) (im' : List (List Int)) (less' : List Int) : Prop where
  len : less.length ≤ less'.length
  ent : ∀ c g, c < less.length → g < ng → 0 ≤ ent im c g → 0 ≤ ent im' c g
  dead : ∀ c, c < less.length → iget less c ≠ c → iget less' c ≠ c
theorem Grow.refl (ng : Nat) (im : List (List Int)) (less : List Int) : Grow ng im less im less := ⟨Nat.le_refl _, fun _ _ _ _ h => h, fun _ _ h => h⟩
theorem Grow.trans {ng : Nat} {a b c : List (List Int)} {x y z : List Int} (h : Grow ng a x b y) (k : Grow ng b y c z) : Grow ng a x c z :=
  ⟨Nat.le_trans h.len k.len, fun i g hi hg h1 => k.ent i g (Nat.lt_of_lt_of_le hi h.len) hg (h.ent i g hi hg h1), fun i hi h1 => k.dead i (Nat.lt_of_lt_of_le hi h.len) (h.dead i hi h1)⟩
end Go.Proofs.Ytmdhljleaijkbaa

/- Coset enumeration: cosets numbered anew, and the table. No program in sight. -/
namespace Go.Proofs.Ytmdhljleaijkbaa

/-- the order in which cosets are met, and the number of each (-1: not met) -/
abbrev NSt := List Int × List Int
def visit (s : NSt) (d : Nat) : NSt := if iget s.2 d < 0 then (s.1 ++ [(d : Int)], s.2.set d (s.1.length : Int)) else s
def visitG (im : List (List Int)) (less : List Int) (i : Nat) (s : NSt) (g : Nat) : NSt := visit s (image im less (iget s.1 i).toNat g).toNat
def tabRow (ng : Nat) (im : List (List Int)) (less : List Int) (i : Nat) (s : NSt) : NSt := (List.range ng).foldl (visitG im less i) s
def tabLoop (ng : Nat) (im : List (List Int)) (less : List Int) : Nat → Nat → NSt → NSt
  | 0, _, s => s
  | f + 1, i, s => if i < s.1.length then tabLoop ng im less f (i + 1) (tabRow ng im less i s) else s
def tabStart (n : Nat) : NSt := ([0], (List.replicate n (-1)).set 0 0)
def numbered (ng : Nat) (im : List (List Int)) (less : List Int) : NSt := tabLoop ng im less (less.length + 1) 0 (tabStart less.length)
/-- how many have a number -/
def cnt (l : List Int) : Nat := (l.filter fun z => decide (0 ≤ z)).length
theorem cnt_le (l : List Int) : cnt l ≤ l.length := List.length_filter_le _ _
theorem cnt_set : ∀ (l : List Int) (d : Nat) (z : Int), d < l.length → iget l d < 0 → 0 ≤ z → cnt (l.set d z) = cnt l + 1
  | [], d, z, h, _, _ => by simp at h
  | x :: r, 0, z, _, h, hz => by
    have h : x < 0 := by simpa [iget] using h
    simp [cnt, show ¬ 0 ≤ x by omega, hz]
  | x :: r, d + 1, z, hd, h, hz => by
    have ih := cnt_set r d z (by simpa using hd) (by simpa [iget] using h) hz
    unfold cnt at ih ⊢
    simp only [List.set_cons_succ, List.filter_cons]
    split
    · simp only [List.length_cons]; omega
    · exact ih

/-- complete: live cosets have all images -/
structure Full (ng : Nat) (im : List (List Int)) (less : List Int) : Prop where
  wf : WF ng im less
  pos : 0 < less.length
  full : ∀ c, c < less.length → iget less c = (c : Int) → ∀ g, g < ng → 0 ≤ ent im c g
theorem Full.zero {ng : Nat} {im : List (List Int)} {less : List Int} (h : Full ng im less) : iget less 0 = ((0 : Nat) : Int) := by
  have := h.wf.down 0 h.pos; omega
theorem Full.image {ng : Nat} {im : List (List Int)} {less : List Int} (h : Full ng im less) {c g : Nat} (hc : c < less.length) (hl : iget less c = (c : Int)) (hg : g < ng) :
    ∃ d : Nat, image im less c g = (d : Int) ∧ d < less.length ∧ iget less d = (d : Int) := by
  have h1 := h.full c hc hl g hg
  have h2 := h.wf.ent c g (by rw [h.wf.len]; exact hc) hg
  refine ⟨root less (ent im c g).toNat, by unfold Proofs.Ytmdhljleaijkbaa.image; rw [if_neg (by omega)], root_lt h.wf.down (by omega), ?_⟩
  exact (root_fix h.wf.down _ (by omega)).1

structure TOK (n : Nat) (less : List Int) (s : NSt) : Prop where
  len : s.2.length = n
  cnt : cnt s.2 = s.1.length
  live : ∀ k, k < s.1.length → ∃ d : Nat, iget s.1 k = (d : Int) ∧ d < n ∧ iget less d = (d : Int) ∧ iget s.2 d = (k : Int)
  num : ∀ d, d < n → 0 ≤ iget s.2 d → iget s.2 d < s.1.length
theorem TOK.le {n : Nat} {less : List Int} {s : NSt} (h : TOK n less s) : s.1.length ≤ n := by
  have := cnt_le s.2; rw [h.cnt, h.len] at this; exact this
theorem visit_ok {n : Nat} {less : List Int} {s : NSt} {d : Nat} (h : TOK n less s) (hd : d < n) (hl : iget less d = (d : Int)) : TOK n less (visit s d) := by
  unfold visit
  split
  · rename_i hn
    refine ⟨by rw [List.length_set]; exact h.len, ?_, fun k hk => ?_, fun e he h0 => ?_⟩
    · dsimp only; rw [cnt_set _ _ _ (by rw [h.len]; exact hd) hn (by omega), h.cnt]; simp
    · dsimp only at hk ⊢
      by_cases e : k < s.1.length
      · obtain ⟨d', h1, h2, h3, h4⟩ := h.live k e
        refine ⟨d', by rw [iget_app_lt e]; exact h1, h2, h3, ?_⟩
        rw [iget_set]
        split
        · rename_i e2; rw [e2.1] at hn; omega
        · exact h4
      · obtain rfl : k = s.1.length := by simp at hk; omega
        exact ⟨d, iget_app_eq, hd, hl, by rw [iget_set, if_pos ⟨rfl, by rw [h.len]; exact hd⟩]⟩
    · dsimp only at h0 ⊢
      rw [iget_set] at h0 ⊢
      rw [List.length_append]
      split
      · simp; omega
      · rename_i hne
        rw [if_neg hne] at h0
        have := h.num e he h0
        simp; omega
  · exact h
/-- numbers are kept -/
structure NGrow (s s' : NSt) : Prop where
  pre : ∀ k, k < s.1.length → iget s'.1 k = iget s.1 k
  len : s.1.length ≤ s'.1.length
  num : ∀ d, 0 ≤ iget s.2 d → iget s'.2 d = iget s.2 d
theorem NGrow.refl (s : NSt) : NGrow s s := ⟨fun _ _ => rfl, Nat.le_refl _, fun _ _ => rfl⟩
theorem NGrow.trans {a b c : NSt} (h : NGrow a b) (k : NGrow b c) : NGrow a c :=
  ⟨fun i hi => (k.pre i (Nat.lt_of_lt_of_le hi h.len)).trans (h.pre i hi), Nat.le_trans h.len k.len, fun d hd => (k.num d (by rw [h.num d hd]; exact hd)).trans (h.num d hd)⟩
theorem visit_grow (s : NSt) (d : Nat) : NGrow s (visit s d) := by
  unfold visit
  split
  · rename_i hn
    refine ⟨fun k hk => iget_app_lt hk, by simp, fun e he => ?_⟩
    dsimp only
    rw [iget_set, if_neg]
    rintro ⟨rfl, _⟩
    omega
  · exact NGrow.refl s
theorem visit_num {n : Nat} {less : List Int} {s : NSt} {d : Nat} (h : TOK n less s) (hd : d < n) : 0 ≤ iget (visit s d).2 d := by
  unfold visit
  split
  · dsimp only; rw [iget_set, if_pos ⟨rfl, by rw [h.len]; exact hd⟩]; omega
  · rename_i hn; omega
theorem visitG_ok {ng : Nat} {im : List (List Int)} {less : List Int} (hF : Full ng im less) {i g : Nat} {s : NSt} (h : TOK less.length less s) (hi : i < s.1.length) (hg : g < ng) :
    TOK less.length less (visitG im less i s g) ∧ NGrow s (visitG im less i s g) ∧ 0 ≤ iget (visitG im less i s g).2 (image im less (iget s.1 i).toNat g).toNat := by
  obtain ⟨d, h1, h2, h3, _⟩ := h.live i hi
  obtain ⟨e, e1, e2, e3⟩ := hF.image h2 h3 hg
  unfold visitG
  rw [h1, Int.toNat_natCast, e1, Int.toNat_natCast]
  exact ⟨visit_ok h e2 e3, visit_grow s e, visit_num h e2⟩
theorem tabRow_ok {ng : Nat} {im : List (List Int)} {less : List Int} (hF : Full ng im less) {i : Nat} {s : NSt} (h : TOK less.length less s) (hi : i < s.1.length) : ∀ m, m ≤ ng →
    TOK less.length less ((List.range m).foldl (visitG im less i) s) ∧ NGrow s ((List.range m).foldl (visitG im less i) s) ∧ ∀ g, g < m → 0 ≤ iget ((List.range m).foldl (visitG im less i) s).2 (image im less (iget s.1 i).toNat g).toNat
  | 0, _ => ⟨h, NGrow.refl s, fun g hg => by omega⟩
  | m + 1, hm => by
    obtain ⟨h1, h2, h3⟩ := tabRow_ok hF h hi m (by omega)
    rw [List.range_succ, List.foldl_append]
    generalize (List.range m).foldl (visitG im less i) s = t at *
    obtain ⟨k1, k2, k3⟩ := visitG_ok hF (i := i) (g := m) h1 (Nat.lt_of_lt_of_le hi h2.len) (by omega)
    rw [h2.pre i hi] at k3
    refine ⟨k1, h2.trans k2, fun g hg => ?_⟩
    by_cases e : g = m
    · subst e; exact k3
    · have := h3 g (by omega)
      show 0 ≤ iget (visitG im less i t m).2 _
      rw [k2.num _ this]; exact this
/-- all images of the first i cosets have numbers -/
def Seen (ng : Nat) (im : List (List Int)) (less : List Int) (i : Nat) (s : NSt) : Prop := ∀ k, k < i → ∀ g, g < ng → 0 ≤ iget s.2 (image im less (iget s.1 k).toNat g).toNat
theorem Seen.row {ng : Nat} {im : List (List Int)} {less : List Int} (hF : Full ng im less) {i : Nat} {s : NSt} (h : TOK less.length less s) (hi : i < s.1.length) (hs : Seen ng im less i s) : Seen ng im less (i + 1) (tabRow ng im less i s) := by
  obtain ⟨_, h2, h3⟩ := tabRow_ok hF h hi ng (Nat.le_refl _)
  intro k hk g hg
  show 0 ≤ iget (tabRow ng im less i s).2 _
  have e : iget (tabRow ng im less i s).1 k = iget s.1 k := h2.pre k (by omega)
  rw [e]
  by_cases e2 : k = i
  · subst e2; exact h3 g hg
  · have := hs k (by omega) g hg
    have e3 := h2.num _ this
    unfold tabRow
    rw [e3]; exact this
end Go.Proofs.Ytmdhljleaijkbaa

/- Coset enumeration: each generator leads back; words lead back after some times. No program in sight. -/
namespace Go.Proofs.Ytmdhljleaijkbaa

theorem root_root {less : List Int} (h : Down less) {c : Nat} (hc : c < less.length) : root less (root less c) = root less c := root_of (root_fix h c hc).1
theorem root_app {less : List Int} (h : Down less) : ∀ c, c < less.length → root (less ++ [(less.length : Int)]) c = root less c := by
  have hd : Down (less ++ [(less.length : Int)]) := fun c hc => by
    by_cases e : c < less.length
    · rw [iget_app_lt e]; exact h c e
    · obtain rfl : c = less.length := by simp at hc; omega
      rw [iget_app_eq]; omega
  intro c
  induction c using Nat.strongRecOn with
  | _ c ih =>
    intro hc
    have h1 : iget (less ++ [(less.length : Int)]) c = iget less c := iget_app_lt hc
    by_cases e : iget less c = (c : Int)
    · rw [root_of e, root_of (h1.trans e)]
    · have hb := h c hc
      rw [root_step hd (by simp; omega) (by rw [h1]; exact e), h1, root_step h hc e]
      exact ih _ (by omega) (by omega)

/-- equal, as far as the identifications and the queue say -/
inductive Eqv (less : List Int) (q : List (Int × Int)) : Nat → Nat → Prop where
  | refl (a : Nat) : Eqv less q a a
  | symm {a b : Nat} (h : Eqv less q a b) : Eqv less q b a
  | trans {a b c : Nat} (h : Eqv less q a b) (k : Eqv less q b c) : Eqv less q a c
  | root (a : Nat) (h : a < less.length) : Eqv less q a (root less a)
  | pair (p : Int × Int) (h : p ∈ q) : Eqv less q p.1.toNat p.2.toNat
theorem Eqv.mono {less less' : List Int} {q q' : List (Int × Int)} (h1 : ∀ a, a < less.length → Eqv less' q' a (Proofs.Ytmdhljleaijkbaa.root less a)) (h2 : ∀ p ∈ q, Eqv less' q' p.1.toNat p.2.toNat) {a b : Nat} (h : Eqv less q a b) : Eqv less' q' a b := by
  induction h with
  | refl a => exact .refl a
  | symm _ ih => exact .symm ih
  | trans _ _ ih1 ih2 => exact .trans ih1 ih2
  | root a h => exact h1 a h
  | pair p h => exact h2 p h
theorem Eqv.root_eq {less : List Int} (hd : Down less) {a b : Nat} (h : Eqv less [] a b) : Proofs.Ytmdhljleaijkbaa.root less a = Proofs.Ytmdhljleaijkbaa.root less b := by
  induction h with
  | refl a => rfl
  | symm _ ih => exact ih.symm
  | trans _ _ ih1 ih2 => exact ih1.trans ih2
  | root a h => exact (root_root hd h).symm
  | pair p h => simp at h
/-- where a live coset leads, there its generator leads back -/
def Back (ng : Nat) (im : List (List Int)) (less : List Int) (q : List (Int × Int)) : Prop :=
  ∀ c g, c < less.length → iget less c = (c : Int) → g < ng → 0 ≤ ent im c g → 0 ≤ ent im (root less (ent im c g).toNat) g ∧ Eqv less q (ent im (root less (ent im c g).toNat) g).toNat c
section
variable {ng : Nat} {im : List (List Int)} {less : List Int}
theorem Back.fix (hB : Back ng im less []) (h : WF ng im less) {c g : Nat} (hc : c < less.length) (hl : iget less c = (c : Int)) (hg : g < ng) (h0 : 0 ≤ ent im c g) : 0 ≤ ent im (root less (ent im c g).toNat) g ∧ root less (ent im (root less (ent im c g).toNat) g).toNat = c := by
  obtain ⟨k1, k2⟩ := hB c g hc hl hg h0
  exact ⟨k1, (k2.root_eq h.down).trans (root_of hl)⟩
theorem Back.of (h : ∀ c g, c < less.length → iget less c = (c : Int) → g < ng → 0 ≤ ent im c g → 0 ≤ ent im (root less (ent im c g).toNat) g ∧ root less (ent im (root less (ent im c g).toNat) g).toNat = c) (hw : WF ng im less) : Back ng im less [] := fun c g hc hl hg h0 => by
  obtain ⟨k1, k2⟩ := h c g hc hl hg h0
  refine ⟨k1, ?_⟩
  have he := hw.ent c g (by rw [hw.len]; exact hc) hg
  have hrl := root_lt hw.down (c := (ent im c g).toNat) (by omega)
  have he2 := hw.ent (root less (ent im c g).toNat) g (by rw [hw.len]; exact hrl) hg
  have := Eqv.root (less := less) (q := []) (ent im (root less (ent im c g).toNat) g).toNat (by omega)
  rwa [k2] at this
/-- two cosets become images of each other -/
theorem Back.link (hB : Back ng im less []) (hw : WF ng im less) {c d g : Nat} (hc : c < less.length) (hd : d < less.length) (hlc : iget less c = (c : Int)) (hld : iget less d = (d : Int)) (hg : g < ng) (h1 : ent im c g < 0) (h2 : ent im d g < 0) : Back ng (rset (rset im d g (c : Int)) c g (d : Int)) less [] := by
  have hl := hw.len
  have w1 := hw.set_im (c := d) (g := g) (z := (c : Int)) (by omega) hg (by omega)
  have w2 := w1.set_im (c := c) (g := g) (z := (d : Int)) (by rw [rset_len]; omega) hg (by omega)
  have ee : ∀ a k, ent (rset (rset im d g (c : Int)) c g (d : Int)) a k = if c = a ∧ g = k then (d : Int) else if d = a ∧ g = k then (c : Int) else ent im a k := fun a k => by
    rw [ent_rset (by rw [rset_len]; omega) (by rw [rset_row, hw.row c (by omega)]; exact hg), ent_rset (by omega) (by rw [hw.row d (by omega)]; exact hg)]
  refine Back.of (fun a k ha hla hk h0 => ?_) w2
  have e0 := ee a k
  by_cases e1 : c = a ∧ g = k
  · obtain ⟨rfl, rfl⟩ := e1
    rw [if_pos ⟨rfl, rfl⟩] at e0
    rw [e0, Int.toNat_natCast, root_of hld]
    have e3 := ee d g
    by_cases e2 : c = d
    · subst e2; rw [if_pos ⟨rfl, rfl⟩] at e3; rw [e3, Int.toNat_natCast]; exact ⟨by omega, root_of hlc⟩
    · rw [if_neg (fun h => e2 h.1), if_pos ⟨rfl, rfl⟩] at e3; rw [e3, Int.toNat_natCast]; exact ⟨by omega, root_of hlc⟩
  · rw [if_neg e1] at e0
    by_cases e2 : d = a ∧ g = k
    · obtain ⟨rfl, rfl⟩ := e2
      rw [if_pos ⟨rfl, rfl⟩] at e0
      rw [e0, Int.toNat_natCast, root_of hlc]
      have e3 := ee c g
      rw [if_pos ⟨rfl, rfl⟩] at e3
      rw [e3, Int.toNat_natCast]; exact ⟨by omega, root_of hld⟩
    · rw [if_neg e2] at e0
      rw [e0] at h0 ⊢
      obtain ⟨k1, k2⟩ := hB.fix hw ha hla hk h0
      have n1 : ¬ (c = root less (ent im a k).toNat ∧ g = k) := fun h => by rw [← h.1, ← h.2] at k1; omega
      have n2 : ¬ (d = root less (ent im a k).toNat ∧ g = k) := fun h => by rw [← h.1, ← h.2] at k1; omega
      have e3 := ee (root less (ent im a k).toNat) k
      rw [if_neg n1, if_neg n2] at e3
      rw [e3]
      exact ⟨k1, k2⟩
theorem Back.app (hB : Back ng im less []) (hw : WF ng im less) : Back ng (im ++ [List.replicate ng (-1)]) (less ++ [(less.length : Int)]) [] := by
  have hl := hw.len
  have hra := root_app hw.down
  refine Back.of (fun a k ha hla hk h0 => ?_) hw.app
  by_cases e : a < less.length
  · have e1 : ∀ b, b < less.length → ent (im ++ [List.replicate ng (-1)]) b k = ent im b k := fun b hb => by unfold ent; rw [lget_app_lt (by omega)]
    rw [e1 a e] at h0 ⊢
    rw [iget_app_lt e] at hla
    obtain ⟨k1, k2⟩ := hB.fix hw e hla hk h0
    have he := hw.ent a k (by omega) hk
    have hrl := root_lt hw.down (c := (ent im a k).toNat) (by omega)
    have he2 := hw.ent (root less (ent im a k).toNat) k (by omega) hk
    rw [hra _ (by omega), e1 _ hrl, hra _ (by omega)]
    exact ⟨k1, k2⟩
  · obtain rfl : a = less.length := by simp at ha; omega
    exfalso
    unfold ent at h0
    rw [← hl, lget_app_eq, iget_rep hk] at h0
    omega
theorem Back.next (hB : Back ng im less []) (hw : WF ng im less) {c g : Nat} (hc : c < less.length) (hlc : iget less c = (c : Int)) (hg : g < ng) (hn : less.length ≤ 2000) :
    Back ng (nextC ng im less c g).1 (nextC ng im less c g).2.1 [] ∧ ((nextC ng im less c g).2.2.1 = false → iget (nextC ng im less c g).2.1 (nextC ng im less c g).2.2.2 = ((nextC ng im less c g).2.2.2 : Int)) ∧ (∀ a, a < less.length → iget (nextC ng im less c g).2.1 a = iget less a) := by
  unfold nextC
  split
  · rename_i h0
    have he := hw.ent c g (by rw [hw.len]; exact hc) hg
    exact ⟨hB, fun _ => (root_fix hw.down _ (by omega)).1, fun _ _ => rfl⟩
  · rename_i h0
    split
    · exact ⟨hB, (fun h => nomatch h), fun _ _ => rfl⟩
    · have hl := hw.len
      have b1 := hB.app hw
      have w1 := hw.app
      refine ⟨?_, fun _ => iget_app_eq, fun a ha => iget_app_lt ha⟩
      have hcc : c < (less ++ [(less.length : Int)]).length := by simp; omega
      have := b1.link w1 (c := less.length) (d := c) (g := g) (by simp) hcc iget_app_eq (by rw [iget_app_lt hc]; exact hlc) hg (by unfold ent; rw [← hl, lget_app_eq, iget_rep hg]; omega) (by unfold ent at h0 ⊢; rw [lget_app_lt (by omega)]; omega)
      exact this
end
end Go.Proofs.Ytmdhljleaijkbaa

/- The numbers of orbits, the reference's: l01Orbits; sizes of orbits, the program's: orbitSizes; the greatest number. -/
namespace Go.Proofs.Ytmdhljleaijkbaa
open Go.RowKit

section
variable {T : List (List Int)} {n : Nat}
theorem orb_mem (hT : Leads T n) {c : Nat} (hc : c < n) {d : Nat} (hd : d < n) : rch T n c d = true ↔ ∃ k, k < (orb T n c).2.length ∧ iget (orb T n c).2 k = (d : Int) := by
  have h := orb_ok hT hc
  refine ⟨fun hr => h.cov d hd hr, fun ⟨k, hk, e⟩ => ?_⟩
  obtain ⟨d', e', _, hb⟩ := h.q k hk
  have : d' = d := by omega
  subst this; exact hb
theorem ints_ext {a b : List Int} (hl : a.length = b.length) (h : ∀ k, k < a.length → iget a k = iget b k) : a = b := by
  refine List.ext_getElem hl fun k h1 h2 => ?_
  have := h k h1
  simpa [iget, h1, h2] using this
end
set_option maxRecDepth 100000 in
set_option maxHeartbeats 2000000 in
theorem orbsS_fc (zss : List (List Int)) (n ng : Nat) (hng : zss.length = ng) (hT : Leads zss n) (hpos : 0 < ng) (hn : n ≤ 1000000) (hg : ng ≤ 1000000) :
    FC Try.prog 94 [(1003, rowsRo zss)] [vv (I6 n), o1 (.sl 1003 0 ng)] [(11, leOw (labs zss n).1)] (o1 (.sl 11 0 n)) [] := by
  subst hng
  refine fc_enter (nt := 49) Try.func94 rfl rfl (by simp) fun w0 ω0 => ?_
  (refine goes_seq ?_; refine goes_region ?_; apply run_step rfl; (exact stp_assign rfl rfl); refine run_nil ?_; refine fin_seq ?_; refine goes_seq ?_; refine goes_region ?_; apply run_step rfl; (exact stp_lit0 (E := 2) (k := 1) rfl (by as_aux_lemma => kernel_rfl)); apply run_step rfl; (exact stp_assign rfl rfl); refine run_nil ?_; refine fin_seq ?_; refine goes_seq ?_; refine goes_seq ?_; refine goes_region ?_; apply run_step rfl; (exact stp_assign rfl rfl); refine run_nil ?_; refine fin_seq ?_; refine goes_block ?_)
  refine goes_loop (fun k : Nat => St.of [(0, vv (I6 n)), (1, o1 (.sl 1003 0 zss.length)), (5, o1 (.sl 11 0 k)), (6, vv (I6 k))] [(1003, rowsRo zss), (11, leOw (List.replicate k (-1)))]) (fun k => k ≤ n) (fun k => n - k) 0 (Nat.zero_le _) (Wk.of ⟨rfl, rfl, rfl, rfl, trivial⟩ ⟨rfl, rfl, trivial⟩ trivial) ?_
  intro k hk
  have hkl : (ivals (List.replicate k (-1))).length = k := by rw [ivals_len, List.length_replicate]
  (refine goes_seq ?_; refine goes_seq ?_; refine goes_region ?_; apply run_step rfl; (exact stp_move rfl rfl); apply run_step rfl; (exact stp_move rfl rfl); apply run_step rfl; (exact stp_bin rfl rfl rfl rfl); refine run_nil ?_; refine fin_seq ?_)
  refine goes_if rfl (fun h => ?_) (fun h => ?_)
  · have hkn : k < n := by omega
    (refine goes_skip ?_; refine fin_seq ?_; refine goes_seq ?_; refine goes_block ?_; refine goes_region ?_; apply run_step rfl; (exact stp_move rfl rfl); apply run_step rfl; (exact stp_lit1I (E := 2) rfl (by as_aux_lemma => kernel_rfl) rfl); apply run_step rfl; (exact stp_appI rfl (by as_aux_lemma => kernel_rfl) rfl rfl rfl (by first | rfl | assumption | (simp; done)) rfl rfl (by omega)); apply run_step rfl; (exact stp_assign rfl rfl); refine run_nil ?_; refine fin_block ?_; refine fin_seq ?_; refine goes_region ?_; apply run_step rfl; (exact stp_move rfl rfl); apply run_step rfl; (exact stp_add rfl rfl rfl (by first | exact IntWalk.i64_in _ (by omega) | rfl)); apply run_step rfl; (exact stp_assign rfl rfl); refine run_nil ?_)
    exact fin_round (k + 1) hkn (by show n - (k + 1) < n - k; omega) (Wk.of ⟨rfl, rfl, rfl, rfl, trivial⟩ ⟨rfl, congrArg (fun l => some (leOw l)) (List.replicate_succ' (n := k) (a := (-1 : Int))).symm, trivial⟩ trivial)
  · obtain rfl : k = n := by omega
    (refine goes_exit ?_; refine fin_exit_then ?_; refine fin_exit_then ?_; refine fin_exit_eq ?_; refine fin_seq ?_; refine goes_seq ?_; refine goes_region ?_; apply run_step rfl; (exact stp_assign rfl rfl); refine run_nil ?_; refine fin_seq ?_; refine goes_seq ?_; refine goes_seq ?_; refine goes_region ?_; apply run_step rfl; (exact stp_assign rfl rfl); refine run_nil ?_; refine fin_seq ?_; refine goes_block ?_)
    refine goes_loop (fun q : Nat × LSt => St.of [(0, vv (I6 k)), (1, o1 (.sl 1003 0 zss.length)), (5, o1 (.sl 11 0 k)), (7, vv (I6 q.2.2)), (8, vv (I6 q.1))] [(1003, rowsRo zss), (11, leOw q.2.1)]) (fun q => q.1 ≤ k ∧ labTo zss k q.1 = q.2) (fun q => k - q.1) (0, labStart k) ⟨Nat.zero_le _, rfl⟩ (Wk.of ⟨rfl, rfl, rfl, rfl, rfl, trivial⟩ ⟨rfl, rfl, trivial⟩ trivial) ?_
    rintro ⟨i, L, m⟩ ⟨hi, hl⟩
    dsimp only at hi hl ⊢
    have hLl : L.length = k := by
      have hlen : ∀ j, (labTo zss k j).1.length = k := fun j => by
        induction j with
        | zero => simp [labTo, labStart]
        | succ j ih => rw [labTo_succ]; unfold labStep; split; exact ih; exact labSet_len
      have := hlen i
      rw [hl] at this; exact this
    have hil : k ≤ (ivals L).length := by rw [ivals_len, hLl]; exact Nat.le_refl _
    have hnext := labTo_succ (T := zss) (n := k) i
    rw [hl] at hnext
    unfold labStep at hnext
    have hmi : m ≤ i := by
      have hk : ∀ j, (labTo zss k j).2 ≤ j := fun j => by
        induction j with
        | zero => exact Nat.le_refl _
        | succ j ih => rw [labTo_succ]; unfold labStep; split; omega; show (labTo zss k j).2 + 1 ≤ j + 1; omega
      have := hk i
      rw [hl] at this; exact this
    (refine goes_seq ?_; refine goes_seq ?_; refine goes_region ?_; apply run_step rfl; (exact stp_move rfl rfl); apply run_step rfl; (exact stp_move rfl rfl); apply run_step rfl; (exact stp_bin rfl rfl rfl rfl); refine run_nil ?_; refine fin_seq ?_)
    refine goes_if rfl (fun h1 => ?_) (fun h1 => ?_)
    · have hik : i < k := by omega
      have gi : (ivals L)[i]? = some (I6 (iget L i)) := ivals_get (by omega)
      (refine goes_skip ?_; refine fin_seq ?_; refine goes_seq ?_; refine goes_block ?_; refine goes_seq ?_; refine goes_seq ?_; refine goes_region ?_; apply run_step rfl; (exact stp_move rfl rfl); apply run_step rfl; (exact stp_move rfl rfl); apply run_step rfl; (exact stp_ix (j := i) rfl rfl rfl rfl rfl (by as_aux_lemma => kernel_rfl) rfl hik hil); apply run_step rfl; (exact stp_loadV rfl (by as_aux_lemma => kernel_rfl) rfl rfl rfl (by first | assumption | exact ivals_get (by assumption) | exact irows_get (by assumption) | exact ivals_get (by omega) | exact irows_get (by omega) | rfl)); apply run_step rfl; (exact stp_bin rfl rfl rfl rfl); refine run_nil ?_; refine fin_seq ?_)
      refine goes_if rfl (fun h2 => ?_) (fun h2 => ?_)
      · have h2' : 0 ≤ iget L i := h2
        rw [if_pos h2'] at hnext
        (refine goes_exit ?_; refine fin_exit_then ?_; refine fin_exit_eq ?_; refine fin_seq ?_; refine goes_region ?_; apply run_step rfl; (exact stp_move rfl rfl); apply run_step rfl; (exact stp_add rfl rfl rfl (by first | exact IntWalk.i64_in _ (by omega) | rfl)); apply run_step rfl; (exact stp_assign rfl rfl); refine run_nil ?_)
        exact fin_round (i + 1, L, m) ⟨hik, hnext⟩ (by show k - (i + 1) < k - i; omega) (Wk.of ⟨rfl, rfl, rfl, rfl, rfl, trivial⟩ ⟨rfl, rfl, trivial⟩ trivial)
      · have h2' : ¬ 0 ≤ iget L i := h2
        rw [if_neg h2'] at hnext
        have hO := (orbS_fc zss k i hT hpos hn hg hik).nm [(1003, 1003), (12, 32)] (by kernel_rfl)
        have hO : FC Try.prog 99 [(1003, rowsRo zss)] [o1 (.sl 1003 0 zss.length), vv (I6 i)] [(32, leOw (orb zss k i).2)] (o1 (.sl 32 0 (orb zss k i).2.length)) [] := hO
        have hok := orb_ok hT hik
        have hol := hok.le
        have hmem : ∀ d, d < k → (rch zss k i d = true ↔ ∃ p, p < (orb zss k i).2.length ∧ iget (orb zss k i).2 p = (d : Int)) := fun d hd => orb_mem hT hik hd
        have hq := hok.q
        generalize (orb zss k i).2 = O at *
        (refine goes_skip ?_; refine fin_seq ?_; refine goes_seq ?_; refine goes_region ?_; apply run_step rfl; (exact stp_move rfl rfl); apply run_step rfl; (exact stp_move rfl rfl); apply run_step rfl; (apply call_gate 99; exact stp_callN hO (by as_aux_lemma => kernel_rfl) rfl rfl ⟨rfl, rfl, trivial⟩ ⟨⟨_, rfl, .inl rfl⟩, trivial⟩ rfl rfl rfl); apply run_step rfl; (exact stp_assign rfl rfl); refine run_nil ?_; refine fin_seq ?_; refine goes_seq ?_; refine goes_seq ?_; refine goes_region ?_; apply run_step rfl; (exact stp_assign rfl rfl); refine run_nil ?_; refine fin_seq ?_; refine goes_block ?_)
        refine goes_loop (fun q : Nat × List Int => St.of [(0, vv (I6 k)), (1, o1 (.sl 1003 0 zss.length)), (5, o1 (.sl 11 0 k)), (7, vv (I6 m)), (8, vv (I6 i)), (9, o1 (.sl 32 0 O.length)), (10, vv (I6 q.1))] [(1003, rowsRo zss), (11, leOw q.2), (32, leOw O)])
          (fun q => q.1 ≤ O.length ∧ q.2.length = k ∧ ∀ d, d < k → iget q.2 d = if (∃ p, p < q.1 ∧ iget O p = (d : Int)) then (m : Int) else iget L d) (fun q => O.length - q.1) (0, L) ⟨Nat.zero_le _, hLl, fun d _ => by rw [if_neg (by rintro ⟨p, hp, _⟩; omega)]⟩ (Wk.of ⟨rfl, rfl, rfl, rfl, rfl, rfl, rfl, trivial⟩ ⟨rfl, rfl, rfl, trivial⟩ trivial) ?_
        rintro ⟨p, M⟩ ⟨hp, hMl, hM⟩
        dsimp only at hp hMl hM ⊢
        have hMi : k ≤ (ivals M).length := by rw [ivals_len, hMl]; exact Nat.le_refl _
        (refine goes_seq ?_; refine goes_seq ?_; refine goes_region ?_; apply run_step rfl; (exact stp_move rfl rfl); apply run_step rfl; (exact stp_move rfl rfl); apply run_step rfl; (exact stp_len rfl rfl rfl (by as_aux_lemma => kernel_rfl)); apply run_step rfl; (exact stp_bin rfl rfl rfl rfl); refine run_nil ?_; refine fin_seq ?_)
        refine goes_if rfl (fun h3 => ?_) (fun h3 => ?_)
        · have hpl : p < O.length := by omega
          obtain ⟨d, hd1, hd2, _⟩ := hq p hpl
          have gp : (ivals O)[p]? = some (I6 (d : Int)) := by rw [ivals_get hpl, hd1]
          have hOi : O.length ≤ (ivals O).length := by rw [ivals_len]; exact Nat.le_refl _
          (refine goes_skip ?_; refine fin_seq ?_; refine goes_seq ?_; refine goes_block ?_; refine goes_region ?_; apply run_step rfl; (exact stp_move rfl rfl); apply run_step rfl; (exact stp_move rfl rfl); apply run_step rfl; (exact stp_move rfl rfl); apply run_step rfl; (first | exact stp_ix (j := p) rfl rfl rfl rfl rfl (by as_aux_lemma => kernel_rfl) rfl hpl hOi | exact stp_ix (j := d) rfl rfl rfl rfl rfl (by as_aux_lemma => kernel_rfl) rfl hd2 hMi | exact stp_stI rfl rfl rfl rfl rfl (by omega) (by as_aux_lemma => kernel_rfl)); apply run_step rfl; (exact stp_loadV rfl (by as_aux_lemma => kernel_rfl) rfl rfl rfl (by first | assumption | exact ivals_get (by assumption) | exact irows_get (by assumption) | exact ivals_get (by omega) | exact irows_get (by omega) | rfl)); apply run_step rfl; (exact stp_move rfl rfl); apply run_step rfl; (first | exact stp_ix (j := p) rfl rfl rfl rfl rfl (by as_aux_lemma => kernel_rfl) rfl hpl hOi | exact stp_ix (j := d) rfl rfl rfl rfl rfl (by as_aux_lemma => kernel_rfl) rfl hd2 hMi | exact stp_stI rfl rfl rfl rfl rfl (by omega) (by as_aux_lemma => kernel_rfl)); apply run_step rfl; (first | exact stp_ix (j := p) rfl rfl rfl rfl rfl (by as_aux_lemma => kernel_rfl) rfl hpl hOi | exact stp_ix (j := d) rfl rfl rfl rfl rfl (by as_aux_lemma => kernel_rfl) rfl hd2 hMi | exact stp_stI rfl rfl rfl rfl rfl (by omega) (by as_aux_lemma => kernel_rfl)); refine run_nil ?_; refine fin_block ?_; refine fin_seq ?_; refine goes_region ?_; apply run_step rfl; (exact stp_move rfl rfl); apply run_step rfl; (exact stp_add rfl rfl rfl (by first | exact IntWalk.i64_in _ (by omega) | rfl)); apply run_step rfl; (exact stp_assign rfl rfl); refine run_nil ?_)
          exact fin_round (p + 1, M.set d (m : Int)) ⟨hpl, by rw [List.length_set]; exact hMl, fun e he => by
            rw [iget_setD]
            by_cases e1 : d = e
            · subst e1
              rw [if_pos ⟨rfl, by omega⟩, if_pos ⟨p, by omega, hd1⟩]
            · rw [if_neg (fun h => e1 h.1), hM e he]
              by_cases e2 : ∃ p', p' < p ∧ iget O p' = (e : Int)
              · rw [if_pos e2, if_pos (by obtain ⟨p', a, b⟩ := e2; exact ⟨p', by omega, b⟩)]
              · rw [if_neg e2, if_neg (by
                  rintro ⟨p', a, b⟩
                  by_cases e3 : p' = p
                  · subst e3; omega
                  · exact e2 ⟨p', by omega, b⟩)]⟩ (by show O.length - (p + 1) < O.length - p; omega) (Wk.of ⟨rfl, rfl, rfl, rfl, rfl, rfl, rfl, trivial⟩ ⟨rfl, rfl, rfl, trivial⟩ trivial)
        · obtain rfl : p = O.length := by omega
          have hfin : M = (labSet zss k i (L, m)).1 := by
            refine ints_ext (by rw [labSet_len, hMl]) fun d hd => ?_
            rw [hMl] at hd
            rw [hM d hd, labSet_get hd]
            by_cases e : rch zss k i d = true
            · rw [if_pos ((hmem d hd).1 e), if_pos e]
            · rw [if_neg (fun h => e ((hmem d hd).2 h)), if_neg e]
          have hm1 : (((labSet zss k i (L, m)).2 : Nat) : Int) = (m : Int) + 1 := by show ((m + 1 : Nat) : Int) = _; omega
          (refine goes_exit ?_; refine fin_exit_then ?_; refine fin_exit_then ?_; refine fin_exit_eq ?_; refine fin_seq ?_; refine goes_region ?_; apply run_step rfl; (exact stp_move rfl rfl); apply run_step rfl; (exact stp_add rfl rfl rfl (by first | exact IntWalk.i64_in _ (by omega) | rfl)); apply run_step rfl; (exact stp_assign rfl rfl); refine run_nil ?_; refine fin_block ?_; refine fin_seq ?_; refine goes_region ?_; apply run_step rfl; (exact stp_move rfl rfl); apply run_step rfl; (exact stp_add rfl rfl rfl (by first | exact IntWalk.i64_in _ (by omega) | rfl)); apply run_step rfl; (exact stp_assign rfl rfl); refine run_nil ?_)
          exact fin_round (i + 1, labSet zss k i (L, m)) ⟨hik, hnext⟩ (by show k - (i + 1) < k - i; omega) (Wk.of ⟨rfl, rfl, rfl, congrArg (fun z => some (vv (I6 z))) hm1.symm, rfl, trivial⟩ ⟨rfl, congrArg (fun l => some (leOw l)) hfin, trivial⟩ trivial)
    · obtain rfl : i = k := by omega
      have hfin : labs zss i = (L, m) := hl
      rw [hfin]
      (refine goes_exit ?_; refine fin_exit_then ?_; refine fin_exit_then ?_; refine fin_exit_eq ?_; refine fin_seq ?_; refine goes_seq ?_; refine goes_region ?_; apply run_step rfl; (exact stp_move rfl rfl); apply run_step rfl; (exact stp_assign rfl rfl); refine run_nil ?_; refine fin_seq ?_; refine goes_ret ?_)
      exact fin_ret1 (.inl rfl) rfl (.tmp rfl) ⟨rfl, trivial⟩ trivial
end Go.Proofs.Ytmdhljleaijkbaa

/- Sizes of orbits, the program's: orbitSizes; the greatest number, the reference's: l02Greatest. -/
namespace Go.Proofs.Ytmdhljleaijkbaa
open Go.RowKit

def grStep (o z : Int) : Int := if o ≤ z then z + 1 else o
/-- one more than the greatest number -/
def grt (zs : List Int) : Int := zs.foldl grStep 0
theorem grt_take {zs : List Int} {k : Nat} (h : k < zs.length) : grt (zs.take (k + 1)) = grStep (grt (zs.take k)) (iget zs k) := by
  unfold grt; rw [take_iget h, List.foldl_append]; rfl
theorem grt_bound {zs : List Int} (hz : ∀ z ∈ zs, -1 ≤ z ∧ z ≤ 1000000) : ∀ k, k ≤ zs.length → 0 ≤ grt (zs.take k) ∧ grt (zs.take k) ≤ 1000001 ∧ (∀ j, j < k → iget zs j < grt (zs.take k)) ∧ (grt (zs.take k) = 0 ∨ ∃ j, j < k ∧ iget zs j + 1 = grt (zs.take k))
  | 0, _ => ⟨by simp [grt], by simp [grt], fun j hj => by omega, .inl (by simp [grt])⟩
  | k + 1, hk => by
    obtain ⟨h1, h2, h3, h4⟩ := grt_bound hz k (by omega)
    have hzk := hz (iget zs k) (iget_mem (by omega))
    rw [grt_take (by omega)]
    generalize grt (zs.take k) = o at *
    unfold grStep
    split
    · rename_i h5
      refine ⟨by omega, by omega, fun j hj => ?_, .inr ⟨k, by omega, rfl⟩⟩
      by_cases e : j = k
      · subst e; omega
      · have := h3 j (by omega); omega
    · rename_i h5
      refine ⟨h1, h2, fun j hj => ?_, ?_⟩
      · by_cases e : j = k
        · subst e; omega
        · exact h3 j (by omega)
      · rcases h4 with h4 | ⟨j, a, b⟩
        · exact .inl h4
        · exact .inr ⟨j, by omega, b⟩
set_option maxRecDepth 100000 in
theorem greatest_fc (zs : List Int) (hl : zs.length ≤ 1000000) (hz : ∀ z ∈ zs, -1 ≤ z ∧ z ≤ 1000000) :
    FC Try.prog 122 [(1003, wRo zs)] [o1 (.sl 1003 0 zs.length)] [] (vv (I6 (grt zs))) [] := by
  refine fc_enter (nt := 23) Try.func122 rfl rfl (by simp) fun w0 ω0 => ?_
  (refine goes_seq ?_; refine goes_region ?_; apply run_step rfl; (exact stp_assign rfl rfl); refine run_nil ?_; refine fin_seq ?_; refine goes_seq ?_; refine goes_region ?_; apply run_step rfl; (exact stp_assign rfl rfl); refine run_nil ?_; refine fin_seq ?_; refine goes_seq ?_; refine goes_seq ?_; refine goes_region ?_; apply run_step rfl; (exact stp_assign rfl rfl); refine run_nil ?_; refine fin_seq ?_; refine goes_block ?_)
  refine goes_loop (fun q : Nat × Int => St.of [(0, o1 (.sl 1003 0 zs.length)), (3, vv (I6 q.2)), (4, vv (I6 q.1))] [(1003, wRo zs)]) (fun q => q.1 ≤ zs.length ∧ grt (zs.take q.1) = q.2) (fun q => zs.length - q.1) (0, 0) ⟨Nat.zero_le _, by simp [grt]⟩ (Wk.of ⟨rfl, rfl, rfl, trivial⟩ ⟨rfl, trivial⟩ trivial) ?_
  rintro ⟨k, o⟩ ⟨hk, ho⟩
  dsimp only at hk ho ⊢
  have hb := grt_bound hz k hk
  rw [ho] at hb
  have hzi : zs.length ≤ (ivals zs).length := by rw [ivals_len]; exact Nat.le_refl _
  (refine goes_seq ?_; refine goes_seq ?_; refine goes_region ?_; apply run_step rfl; (exact stp_move rfl rfl); apply run_step rfl; (exact stp_move rfl rfl); apply run_step rfl; (exact stp_len rfl rfl rfl (by as_aux_lemma => kernel_rfl)); apply run_step rfl; (exact stp_bin rfl rfl rfl rfl); refine run_nil ?_; refine fin_seq ?_)
  refine goes_if rfl (fun h => ?_) (fun h => ?_)
  · have hkz : k < zs.length := by omega
    have hn := grt_take hkz
    rw [ho] at hn
    have hzk := hz (iget zs k) (iget_mem hkz)
    have gk : (ivals zs)[k]? = some (I6 (iget zs k)) := ivals_get hkz
    generalize iget zs k = z at *
    unfold grStep at hn
    (refine goes_skip ?_; refine fin_seq ?_; refine goes_seq ?_; refine goes_block ?_; refine goes_seq ?_; refine goes_region ?_; apply run_step rfl; (exact stp_move rfl rfl); apply run_step rfl; (exact stp_move rfl rfl); apply run_step rfl; (exact stp_ix (j := k) rfl rfl rfl rfl rfl (by as_aux_lemma => kernel_rfl) rfl hkz hzi); apply run_step rfl; (exact stp_loadV rfl (by as_aux_lemma => kernel_rfl) rfl rfl rfl (by first | assumption | exact ivals_get (by assumption) | exact irows_get (by assumption) | exact ivals_get (by omega) | exact irows_get (by omega) | rfl)); apply run_step rfl; (exact stp_move rfl rfl); apply run_step rfl; (exact stp_bin rfl rfl rfl rfl); refine run_nil ?_; refine fin_seq ?_)
    refine goes_if rfl (fun h1 => ?_) (fun h1 => ?_)
    · have h1' : o ≤ z := h1
      rw [if_pos h1'] at hn
      (refine goes_region ?_; apply run_step rfl; (exact stp_move rfl rfl); apply run_step rfl; (exact stp_move rfl rfl); apply run_step rfl; (exact stp_ix (j := k) rfl rfl rfl rfl rfl (by as_aux_lemma => kernel_rfl) rfl hkz hzi); apply run_step rfl; (exact stp_loadV rfl (by as_aux_lemma => kernel_rfl) rfl rfl rfl (by first | assumption | exact ivals_get (by assumption) | exact irows_get (by assumption) | exact ivals_get (by omega) | exact irows_get (by omega) | rfl)); apply run_step rfl; (exact stp_add rfl rfl rfl (by first | exact IntWalk.i64_in _ (by omega) | rfl)); apply run_step rfl; (exact stp_assign rfl rfl); refine run_nil ?_; refine fin_block ?_; refine fin_seq ?_; refine goes_region ?_; apply run_step rfl; (exact stp_move rfl rfl); apply run_step rfl; (exact stp_add rfl rfl rfl (by first | exact IntWalk.i64_in _ (by omega) | rfl)); apply run_step rfl; (exact stp_assign rfl rfl); refine run_nil ?_)
      exact fin_round (k + 1, z + 1) ⟨hkz, hn⟩ (by show zs.length - (k + 1) < zs.length - k; omega) (Wk.of ⟨rfl, rfl, rfl, trivial⟩ ⟨rfl, trivial⟩ trivial)
    · have h1' : ¬ o ≤ z := h1
      rw [if_neg h1'] at hn
      (refine goes_skip ?_; refine fin_block ?_; refine fin_seq ?_; refine goes_region ?_; apply run_step rfl; (exact stp_move rfl rfl); apply run_step rfl; (exact stp_add rfl rfl rfl (by first | exact IntWalk.i64_in _ (by omega) | rfl)); apply run_step rfl; (exact stp_assign rfl rfl); refine run_nil ?_)
      exact fin_round (k + 1, o) ⟨hkz, hn⟩ (by show zs.length - (k + 1) < zs.length - k; omega) (Wk.of ⟨rfl, rfl, rfl, trivial⟩ ⟨rfl, trivial⟩ trivial)
  · obtain rfl : k = zs.length := by omega
    rw [List.take_length] at ho
    rw [ho]
    (refine goes_exit ?_; refine fin_exit_then ?_; refine fin_exit_then ?_; refine fin_exit_eq ?_; refine fin_seq ?_; refine goes_seq ?_; refine goes_region ?_; apply run_step rfl; (exact stp_move rfl rfl); apply run_step rfl; (exact stp_assign rfl rfl); refine run_nil ?_; refine fin_seq ?_; refine goes_ret ?_)
    exact fin_ret1 (.inl rfl) rfl (.tmp rfl) trivial trivial
end Go.Proofs.Ytmdhljleaijkbaa

/- IsMap. guards: -/
namespace Go.Proofs.Ytmdhljleaijkbaa
open Go.RowKit

end Go.Proofs.Ytmdhljleaijkbaa

/- Sizes of faces of a map: sizesOf, l14Sizes, FaceSizes. -/
namespace Go.Proofs.Ytmdhljleaijkbaa
open Go.RowKit

section
variable {T : List (List Int)} {n : Nat}
/-- all points have labels below the number of labels; the last one stands somewhere -/
theorem labs_allS (hT : Leads T n) (hB : SymR T n) : (labs T n).1.length = n ∧ (labs T n).2 ≤ n ∧ (∀ p, p < n → ∃ d : Nat, iget (labs T n).1 p = (d : Int) ∧ d < (labs T n).2) := by
  have h := labTo_okS hT hB n (Nat.le_refl _)
  have hk : ∀ j, (labTo T n j).2 ≤ j := fun j => by
    induction j with
    | zero => exact Nat.le_refl _
    | succ j ih => rw [labTo_succ]; unfold labStep; split; omega; show (labTo T n j).2 + 1 ≤ j + 1; omega
  refine ⟨h.len, hk n, fun p hp => ?_⟩
  have h0 := (h.met p hp).2 ⟨p, hp, rch_refl hT hp⟩
  have h1 := h.low p hp
  exact ⟨(iget (labTo T n n).1 p).toNat, by unfold labs; omega, by unfold labs; omega⟩
theorem labTo_lastS (hT : Leads T n) (hB : SymR T n) : ∀ i, i ≤ n → 0 < (labTo T n i).2 → ∃ p, p < n ∧ iget (labTo T n i).1 p + 1 = ((labTo T n i).2 : Nat)
  | 0, _, h => by simp [labTo, labStart] at h
  | i + 1, hi, h => by
    rw [labTo_succ] at h ⊢
    have ih := labTo_lastS hT hB i (by omega)
    generalize labTo T n i = s at *
    unfold labStep at h ⊢
    split
    · rename_i hl
      rw [if_pos hl] at h
      exact ih h
    · rename_i hl
      refine ⟨i, hi, ?_⟩
      rw [labSet_get hi, if_pos (rch_refl hT hi)]
      show (s.2 : Int) + 1 = ((s.2 + 1 : Nat) : Int)
      omega
theorem grt_labsS (hT : Leads T n) (hB : SymR T n) (hn : 0 < n) (hn4 : n ≤ 1000) : grt (labs T n).1 = ((labs T n).2 : Int) := by
  obtain ⟨h1, h2, h3⟩ := labs_allS hT hB
  have hz : ∀ z ∈ (labs T n).1, -1 ≤ z ∧ z ≤ 1000000 := fun z hz => by
    obtain ⟨j, hj, rfl⟩ := List.getElem_of_mem hz
    obtain ⟨d, hd1, hd2⟩ := h3 j (by omega)
    rw [← iget_lt hj, hd1]; omega
  have hb := grt_bound hz n (by omega)
  rw [List.take_of_length_le (by omega)] at hb
  obtain ⟨b1, _, b3, b4⟩ := hb
  obtain ⟨d0, e0, e1⟩ := h3 0 hn
  obtain ⟨p, hp1, hp2⟩ := labTo_lastS hT hB n (Nat.le_refl _) (by show 0 < (labs T n).2; omega)
  have hp2 : iget (labs T n).1 p + 1 = ((labs T n).2 : Nat) := hp2
  have k1 := b3 p hp1
  rcases b4 with b4 | ⟨j, a, b⟩
  · omega
  · obtain ⟨d, hd1, hd2⟩ := h3 j a
    omega
end
theorem toS_call {f : FuncId} {args : Array Value} {w : World} {x m : Nat} {zs : List Int} (hm : zs.length = m) (hm4 : m ≤ 1000000)
    (h : Calls Try.prog f args w fun e w' => ∃ v η ω, e = .returned v ∧ Den η (o1 (.sl x 0 m)) v ∧ Mem η ω w' (fun y => lk y [(x, leOw zs)]) ∧ Below w.heap.size w w' ∧ ∀ b, b < w.heap.size → ω b = none) :
    Calls Try.prog f args w fun e w' => ∃ v, e = .returned v ∧ OwnS 2 w' w.heap.size w'.heap.size v zs ∧ Below w.heap.size w w' := by
  refine h.mono ?_
  rintro e w' ⟨v, η, ω, rfl, hd, hmem, hb, hlo⟩
  subst hm
  exact ⟨v, rfl, toS hmem hlo (by simp [lk]) hd (by omega), hb⟩
theorem orbsS_anyS {d : List (List Int)} {n : Nat} {v : Value} (w : World) (h : RdSSc w v d) (hT : Leads d n) (hB : SymR d n) (hn : n ≤ 1000) (hd : d.length ≤ 1000) (hd0 : 0 < d.length) :
    Calls Try.prog 94 #[.int .i64 n, v] w fun e w' => ∃ v', e = .returned v' ∧ OwnS 2 w' w.heap.size w'.heap.size v' (labs d n).1 ∧ Below w.heap.size w w' :=
  toS_call (labs_allS hT hB).1 (by omega) (callNR (orbsS_fc d n d.length rfl hT hd0 (by omega) (by omega)) h)
end Go.Proofs.Ytmdhljleaijkbaa

/- Draws of maniplexes: l04Section from the flag 0, all moves. guards: -/
namespace Go.Proofs.Ytmdhljleaijkbaa
open Go.RowKit

theorem RdSSc.form_ {w : World} {ao : Option Addr} {n c : Nat} {d : List (List Int)} (h : RdSSc w (.slice ao n c) d) (hn : 0 < n) : n ≤ c ∧ ∃ b off, ao = some ⟨b, off, none⟩ := by
  have hl := h.intss.1
  obtain ⟨a', c1, e, hn', hc⟩ := h
  injection e with e1 e2 e3
  obtain ⟨h1, b, off, h2, -⟩ := hc (by omega)
  exact ⟨by omega, b, off, by rw [e1, h2]⟩
theorem orbO_any {d : List (List Int)} {N c : Nat} {v : Value} {z : Int} (hz : z = (c : Int)) (w : World) (h : RdSSc w v d) (hT : Leads d N) (hpos : 0 < d.length) (hN : N ≤ 1000) (hd : d.length ≤ 1000) (hc : c < N) :
    Calls Try.prog 99 #[v, .int .i64 z] w fun e w' => ∃ a c2, e = .returned (.slice a (orb d N c).2.length c2) ∧ Own w' w.heap.size 2 a (orb d N c).2.length c2 ((orb d N c).2.map (Value.int .i64)) ∧ Below w.heap.size w w' := by
  subst hz
  obtain ⟨hd', r, rfl, hv⟩ := ofSSc 1003 32 2 h
  have hO := orbS_fc d N c hT hpos (by omega) (by omega) hc
  have hlen : (orb d N c).2.length ≤ N := (orb_ok hT hc).le
  refine (toS_call (x := 12) (m := (orb d N c).2.length) rfl (by omega) (hO.call (l := [(1003, (rowsRo d, hd', r))]) (us := [_, .int .i64 c]) (fun p hp => by simp at hp; subst hp; exact hv) rfl (denL2 (den_sl (q := (rowsRo d, hd', r)) rfl) rfl))).mono ?_
  rintro e w' ⟨v, rfl, ⟨⟨a, n, c2, rfl, ho⟩, hin⟩, hb⟩
  have hn : n = (orb d N c).2.length := by have := ho.len; rw [List.length_map] at this; exact this.symm
  subst hn
  exact ⟨a, c2, rfl, own_baseL ho (fun g hg => (hin g (by rw [ownBlock_slice]; exact hg)).1), hb⟩
theorem orb_one {d : List (List Int)} {N c : Nat} (hT : Leads d N) (hc : c < N) : 1 ≤ (orb d N c).2.length := by
  obtain ⟨k, hk, _⟩ := (orb_ok hT hc).cov c hc (rch_refl hT hc)
  have hk : k < (orb d N c).2.length := hk
  omega
/-- the orbit as a list of numbers -/
theorem orb_gl {w : World} {lo c2 N c : Nat} {a : Option Addr} {d : List (List Int)} (hT : Leads d N) (hc : c < N) (h : Own w lo 2 a (orb d N c).2.length c2 ((orb d N c).2.map (Value.int .i64))) : Gl w lo a (orb d N c).2.length c2 N :=
  ⟨_, rfl, fun z hz => by
    obtain ⟨k, hk, rfl⟩ := List.getElem_of_mem hz
    obtain ⟨x, hx, hl, _⟩ := (orb_ok hT hc).q k hk
    have hx : iget (orb d N c).2 k = (x : Int) := hx
    rw [iget_lt hk] at hx
    rw [hx]; omega, h⟩
set_option maxRecDepth 100000 in
set_option maxHeartbeats 6400000 in
theorem section_any (ao : Option Addr) (n c N : Nat) (z : Int) (d : List (List Int)) (w : World) (hd : RdSSc w (.slice ao n c) d) (hT : Leads d N) (hn : 1 ≤ n) (hn9 : n ≤ 100) (hz : z + 1 = n) (hN : 1 ≤ N) (hN9 : N ≤ 1000) :
    Calls Try.prog 152 #[.agg #[.slice ao n c], .int .i64 0, .int .i64 0, .int .i64 z] w fun e w' => ∃ v r L, e = .returned v ∧ OwM 2 32 w' w.heap.size w'.heap.size v r ∧ r.length = n ∧ Sq r L ∧ 1 ≤ L ∧ L ≤ N ∧ Below w.heap.size w w' := by
  have hdl := hd.intss.1
  have hl0 : (lget d 0).length = N := hT.len 0 (by omega)
  obtain ⟨hnc, b, off, rfl⟩ := hd.form_ hn
  obtain ⟨L, hL⟩ : ∃ L, (orb d N 0).2.length = L := ⟨_, rfl⟩
  have hL1 : 1 ≤ L := by rw [← hL]; exact orb_one hT (by omega)
  have hLN : L ≤ N := by rw [← hL]; exact (orb_ok hT (by omega)).le
  have b1 := below_alloc2 w (.cells #[.slice (some ⟨b, off, none⟩) n c] 28) (.cells #[.slice none 0 0] 28)
  have k1 : Blk ((w.alloc (.cells #[.slice (some ⟨b, off, none⟩) n c] 28)).alloc (.cells #[.slice none 0 0] 28)) w.heap.size 28 #[.slice (some ⟨b, off, none⟩) n c] := (blk_at rfl).alloc _
  have k3 : Blk ((w.alloc (.cells #[.slice (some ⟨b, off, none⟩) n c] 28)).alloc (.cells #[.slice none 0 0] 28)) (w.heap.size + 1) 28 #[.slice none 0 0] := blk_at (by simp)
  have hz1 : w.heap.size + 2 = ((w.alloc (.cells #[.slice (some ⟨b, off, none⟩) n c] 28)).alloc (.cells #[.slice none 0 0] 28)).heap.size := by simp
  have HD := Lib.hid (hd.below b1)
  have HT := Lib.hid hT
  have HLL := Lib.hid hL
  have hzw : IntKind.i64.wrap (z + 1) = (n : Int) := by rw [hz]; exact IntWalk.i64_in _ (by omega)
  have hn0 : (0 : Int) ≤ (n : Int) := by omega
  have hnci : (n : Int) ≤ (c : Int) := by omega
  have hnt : ((n : Int)).toNat = n := by omega
  clear hd hT hL
  go_enter Try.func152, Try.ntmps152
  go_upto_region 1 with fail
  generalize (w.alloc (.cells #[.slice (some ⟨b, off, none⟩) n c] 28)).alloc (.cells #[.slice none 0 0] 28) = w1 at *
  have x1 := k1.cell 0
  simp at x1
  have K1 := Lib.hid k1
  have K3 := Lib.hid k3
  have B1 := Lib.hid b1
  clear k1 k3 b1
  go_wp2_with fail
  refine (orbO_any (c := 0) rfl w1 HD.out HT.out (by omega) hN9 (by omega) (by omega)).mono ?_
  rw [HLL.out]
  rintro e w2 ⟨oa, oc, rfl, ho, b2⟩
  have hG := orb_gl HT.out (show 0 < N by omega) (by rw [HLL.out]; exact ho)
  rw [HLL.out] at hG
  have B2 := Lib.hid (B1.out.trans (b2.mono (by omega)))
  have z12 := b2.size
  have HD2 := Lib.hid (HD.out.below b2)
  have HO2 := Lib.hid hG
  have x2 := (K1.out.belowS b2).cell 0
  simp at x2
  have K1' := Lib.hid (K1.out.belowS b2)
  have K3' := Lib.hid (K3.out.belowS b2)
  clear hG ho b2 HD K1 K3 B1 x1
  go_wp2_with fail
  refine (flagsS_any (some ⟨b, off, none⟩) n c N d w2 HD2.out.rd (by omega) hl0 (by omega)).mono ?_
  rintro e w3 ⟨rfl, b3⟩
  have z23 := b3.size
  have B3 := Lib.hid (B2.out.trans (b3.mono (by omega)))
  have HD3 := Lib.hid (HD2.out.below b3)
  have HO3 := Lib.hid (HO2.out.below b3)
  have K33 := Lib.hid (K3'.out.belowS b3)
  clear b3 B2 HD2 HO2 x2 K1' K3'
  go_wp2_with (at_make; refine wpList_mk etI _ rfl _ _ rfl w3.heap.size _ _ _ _ N rfl rfl rfl rfl (by omega) (Nat.le_refl _) ?_; intro w4 o4 g4 s4)
  have b4 : Below w3.heap.size w3 w4 := (Below.refl _ _).grown g4 (Nat.le_refl _) (by simp)
  obtain ⟨gn, hgn⟩ : ∃ gn, w3.heap.size = gn := ⟨_, rfl⟩
  have G4 := Lib.hid (gl_made (N := L) (Nat.le_refl w3.heap.size) rfl (by omega) hL1 o4)
  have B4 := Lib.hid b4
  have HGN := Lib.hid hgn
  rw [hgn] at G4 ⊢
  clear o4 g4 s4 b4 hgn
  go_wp2_with fail
  go_loopw [12] (fun iv wr => ∃ i : Nat, iv = .int .i64 i ∧ i ≤ L ∧ Gl wr gn (some ⟨gn, 0, none⟩) N N L ∧ Below w3.heap.size w3 wr) (fun iv _ => L - (intOf iv).toNat)
  case atStart => exact ⟨0, rfl, Nat.zero_le _, G4.out, B4.out⟩
  case round =>
    clear G4 B4
    obtain ⟨i, rfl, hi, hg, hb⟩ := hrel
    by_cases hlt : i < L
    · obtain ⟨og, x, rfl, hx, hcx, hfx, -, -⟩ := (HO3.out.below hb).cell hlt
      obtain ⟨g', y, e, hy, hcy, hfy, -, -⟩ := hg.cell hx
      injection e with e; injection e with e; subst e
      obtain ⟨p1, p2⟩ := hg.put x (y := (i : Int)) (by omega)
      have P1 := Lib.hid p1
      have P2 := Lib.hid (hb.grown p2 (by have := hb.size; omega) (fun g e => by injection e with e; rw [← e, HGN.out]; exact Nat.le_refl _))
      have hxi : (x : Int) < (N : Int) := by omega
      have hii : (i : Int) < (L : Int) := by omega
      clear p1 p2 hg hb
      go_wp2_with fail
      go_roundw
      case rel => exact ⟨i + 1, by go_num, by omega, P1.out, P2.out⟩
      case measure => simp [intOf]; omega
    · obtain rfl : i = L := by omega
      obtain ⟨wB, rfl⟩ : ∃ x, x = wr := ⟨_, rfl⟩
      have HG := Lib.hid hg
      have HB := Lib.hid hb
      have hzB := hb.size
      have b7 := (Below.refl wB.heap.size wB).alloc (Nat.le_refl _) (.cells #[.slice none 0 0] 28)
      have ST := Lib.hid (MBx.start (w := wB) b7 (Blk.new wB 28 #[.slice none 0 0]) (Nat.le_refl _))
      have hz7 : wB.heap.size < (wB.alloc (.cells #[.slice none 0 0] 28)).heap.size := by simp
      clear b7 hb hg
      go_upto_region 9 with fail
      generalize wB.alloc (.cells #[.slice none 0 0] 28) = w7 at *
      obtain ⟨bx, hbx⟩ : ∃ bx, wB.heap.size = bx := ⟨_, rfl⟩
      have HBX := Lib.hid hbx
      rw [hbx] at ST hz7 ⊢
      clear hbx
      go_wp2_with fail
      go_loopw [14] (fun kv wr => ∃ (q : Nat) (am : Option Addr) (cm : Nat) (us : List Value) (ds : List (List Int)), kv = .int .i64 q ∧ q ≤ n ∧ Sq ds i ∧ MBx wB wr bx (bx + 1) am q cm us ds) (fun kv _ => n - (intOf kv).toNat)
      case atStart => exact ⟨0, none, 0, [], [], rfl, Nat.zero_le _, sq_nil _, ST.out⟩
      case round =>
        clear ST hz7
        obtain ⟨q, am, cm, um, ds, rfl, hq, hds, st⟩ := hrel
        obtain ⟨wA, rfl⟩ : ∃ x, x = wr := ⟨_, rfl⟩
        have ST := Lib.hid st
        have hbw := Lib.hid st.bel
        have hzr := hbw.out.size
        have HBA := Lib.hid (HB.out.trans (hbw.out.mono hzB))
        by_cases hltq : q < n
        · have hqi : (q : Int) < (n : Int) := by omega
          have HDS := Lib.hid hds
          have E0 := Lib.hid (Gl.empty_ wA wA.heap.size i (Nat.le_refl _) rfl)
          have hbA := below_alloc1 wA (.cells #[] 2)
          have HBE := Lib.hid hbA
          clear st hds hbA
          go_wp2_with fail
          go_loopw [15, 16] (fun sv iv w8 => ∃ (f : Nat) (a : Option Addr) (cc : Nat), f ≤ i ∧ sv = .slice a f cc ∧ iv = .int .i64 f ∧ Gl w8 wA.heap.size a f cc i ∧ Below wA.heap.size wA w8) (fun _ iv _ => i - (intOf iv).toNat)
          case atStart => exact ⟨0, _, _, Nat.zero_le _, rfl, rfl, E0.out, HBE.out⟩
          case round =>
            clear E0 HBE
            obtain ⟨f, a, cc, hf, rfl, rfl, hg, hb8⟩ := hrel
            obtain ⟨w8, rfl⟩ : ∃ x, x = wr := ⟨_, rfl⟩
            have hz8 := hb8.size
            have HBW := Lib.hid (HBA.out.trans (hb8.mono (by omega)))
            have HBX2 := Lib.hid (hbw.out.trans (hb8.mono hzr))
            have HB8 := Lib.hid hb8
            have HG8 := Lib.hid hg
            clear hb8 hg
            by_cases hltf : f < i
            · have hfi : (f : Int) < (i : Int) := by omega
              obtain ⟨og, x, rfl, hx, hcx, hfx, -, -⟩ := (HO3.out.below HBW.out).cell hltf
              obtain ⟨b2, off2, a2, n2, c2, e2, hc2, hi2⟩ := (HD3.out.intss.below HBW.out).at_ hltq
              injection e2 with e2
              injection e2 with e21 e22
              subst e21 e22
              have hn2 : n2 = N := by rw [← hi2.1]; exact HT.out.len q (by omega)
              subst hn2
              obtain ⟨b4, off4, rfl, hc4⟩ := hi2.at_ hx
              have hy := bTo_lt HT.out hx (g := q) (by omega)
              obtain ⟨y, hye⟩ : ∃ y, bTo d x q = y := ⟨_, rfl⟩
              rw [hy.2, hye] at hc4
              rw [hye] at hy
              have hyN := hy.1
              obtain ⟨g5, u, e5, hu, hcu, hfu, -, -⟩ := (HG.out.below HBX2.out).cell hyN
              injection e5 with e5; injection e5 with e5; subst e5
              have hxi : (x : Int) < (n2 : Int) := by omega
              have hyi : (y : Int) < (n2 : Int) := by omega
              clear hi2 hy hye
              go_upto_region 16 with fail
              go_region_law (refine gl_step (o := ⟨some 71, _, _, _, _, _⟩) etI rfl (.tmp 56) (.tmp 70) rfl wA.heap.size a f cc i rfl HG8.out (u : Int) rfl (by omega) (by omega) hz8 ?_; intro a9 c9 w9 g9 B9 gr9 hat9)
              all_goals
                have HG9 := Lib.hid g9
                have HB9 := Lib.hid (HB8.out.trans B9)
                clear g9 B9 gr9 hat9
                go_wp2_with fail
                go_roundw
              all_goals first | exact ⟨f + 1, a9, c9, by omega, rfl, by go_num, HG9.out, HB9.out⟩ | (simp [intOf]; omega)
            · obtain rfl : f = i := by omega
              have STB := Lib.hid (ST.out.below HB8.out)
              obtain ⟨zs, n8, m8, o8⟩ := HG8.out
              have HO8 := Lib.hid o8
              have xb := STB.out.cell
              have hlo8 := STB.out.at_.2.2
              clear o8
              go_wp2_with (at_builtin; refine wpList_ap1 etSS _ rfl _ _ rfl (bx + 1) am q cm _ rfl STB.out.row.own (.slice a f cc) rfl rfl (by omega) hlo8 ?_; intro ao2 c2' w4 ho2 hg2 hat; have x4 := (STB.out.boxG hg2).cell 0; have f4 := (STB.out.boxG hg2).frozen 0)
              have SP := Lib.hid (ST.out.push (by omega) HB8.out HO8.out (Below.refl _ _) ho2 hg2 (hat.imp id fun e => ⟨_, e, Nat.le_succ _⟩))
              clear ho2 hg2 hat STB ST
              go_roundw
              case rel => exact ⟨q + 1, ao2, c2', _, _, by go_num, by omega, HDS.out.app n8 m8, SP.out⟩
              case measure => simp [intOf]; omega
        · obtain rfl : q = n := by omega
          have xb := st.cell
          have KRr := K33.out.belowS HBA.out
          have xr := KRr.cell 0
          have fr := KRr.frozen 0
          have BF := Lib.hid (B3.out.trans (HBA.out.mono (by omega)))
          have hwb : w.heap.size ≤ wB.heap.size := by omega
          simp at xr
          have hrl : ds.length = q := st.row.len
          clear st
          go_wp2
          have hfl : w.heap.size + 1 < bx := by rw [← HBX.out]; omega
          exact bodyPost_ret (v := .agg #[.slice am q cm]) (by simp [results, Try.f152, go_sem, xr]) rfl ⟨_, ds, i, rfl, ST.out.done hfl _ hwb, hrl, hds, hL1, hLN, BF.out.setCell (by simp) _⟩
end Go.Proofs.Ytmdhljleaijkbaa

/- Coverings of maniplexes, plain. No program in sight. -/
namespace Go.Proofs.Ytmdhljleaijkbaa

/-- how many flags -/
def flg (d : List (List Int)) : Nat := (lget d 0).length
/-- p gives flags of d flags of e and agrees with the moves -/
structure Cov (d e : List (List Int)) (p : List Int) : Prop where
  len : p.length = flg d
  val : ∀ i, i < flg d → ∃ x : Nat, iget p i = (x : Int) ∧ x < flg e
  mov : ∀ g i, g < d.length → i < flg d → iget p (bTo d i g) = iget (lget e g) (iget p i).toNat
open Classical in
/-- the covering that gives the flag 0 the flag f -/
noncomputable def covO (d e : List (List Int)) (f : Nat) : Option (List Int) := if h : d.length = e.length ∧ ∃ p, Cov d e p ∧ iget p 0 = (f : Int) then some (Classical.choose h.2) else none
theorem man_leads {d : List (List Int)} (h : Man d) : Leads d (flg d) := rows_leads h.rows
theorem man_back {d : List (List Int)} (h : Man d) : Back2 d (flg d) := rows_back h.rows
theorem man_rch {d : List (List Int)} (h : Man d) : ∀ i, i < flg d → rch d (flg d) 0 i = true := (orb_full (man_leads h) (by have := h.f2; unfold flg; omega)).1 h.conn
/-- what holds at the flag 0 and along the moves holds everywhere -/
theorem man_ind {d : List (List Int)} (h : Man d) {p : Nat → Prop} (h0 : p 0) (hp : ∀ i, i < flg d → p i → ∀ g, g < d.length → p (bTo d i g)) : ∀ i, i < flg d → p i := fun i hi =>
  rch_in (man_leads h) (by omega) h0 hp i hi (man_rch h i hi)
theorem cov_uniq {d e : List (List Int)} (hd : Man d) {p q : List Int} (hp : Cov d e p) (hq : Cov d e q) (h0 : iget p 0 = iget q 0) : p = q :=
  iget_ext (by rw [hp.len, hq.len]) fun k hk => man_ind hd (p := fun i => iget p i = iget q i) h0 (fun i hi h g hg => by rw [hp.mov g i hg hi, hq.mov g i hg hi, h]) k (by rw [← hp.len]; exact hk)
theorem covO_some {d e : List (List Int)} {f : Nat} {p : List Int} (h : covO d e f = some p) : d.length = e.length ∧ Cov d e p ∧ iget p 0 = (f : Int) := by
  unfold covO at h
  split at h
  · rename_i hh
    injection h with h
    subst h
    exact ⟨hh.1, Classical.choose_spec hh.2⟩
  · cases h
theorem covO_eq {d e : List (List Int)} (hd : Man d) (hl : d.length = e.length) {f : Nat} {p : List Int} (hp : Cov d e p) (h0 : iget p 0 = (f : Int)) : covO d e f = some p := by
  have h : d.length = e.length ∧ ∃ p, Cov d e p ∧ iget p 0 = (f : Int) := ⟨hl, p, hp, h0⟩
  unfold covO
  rw [dif_pos h]
  have hs := Classical.choose_spec h.2
  rw [cov_uniq hd hs.1 hp (hs.2.trans h0.symm)]
theorem covO_none {d e : List (List Int)} {f : Nat} (h : ∀ p, Cov d e p → iget p 0 = (f : Int) → False) : covO d e f = none := by
  unfold covO
  rw [dif_neg]
  rintro ⟨_, p, hp, h0⟩
  exact h p hp h0
theorem covO_rank {d e : List (List Int)} {f : Nat} (h : d.length ≠ e.length) : covO d e f = none := by
  unfold covO; rw [dif_neg (fun q => h q.1)]
/-- not labelled -/
def unl (L : List Int) : Nat := (L.filter fun z => decide (z < 0)).length
theorem unl_set : ∀ {L : List Int} {y : Nat} {x : Int}, y < L.length → iget L y < 0 → 0 ≤ x → unl (L.set y x) + 1 = unl L
  | [], y, x, h, _, _ => by simp at h
  | z :: r, 0, x, _, h1, h2 => by
    have h1 : z < 0 := by simpa [iget] using h1
    simp [unl, h1, show ¬ x < 0 by omega]
  | z :: r, y + 1, x, h, h1, h2 => by
    have ih := unl_set (L := r) (y := y) (x := x) (by simpa using h) (by simpa [iget] using h1) h2
    unfold unl at ih ⊢
    simp only [List.set_cons_succ, List.filter_cons]
    split
    · simp only [List.length_cons]; omega
    · exact ih
theorem iget_setN {p : List Int} {i k : Nat} {x : Int} (hi : i < p.length) : iget (p.set i x) k = if k = i then x else iget p k := by
  unfold iget
  rw [List.getD_eq_getElem?_getD, List.getD_eq_getElem?_getD, List.getElem?_set]
  by_cases h : i = k
  · subst h; simp [hi]
  · rw [if_neg h, if_neg (fun e => h e.symm)]
/-- the search: labels L, open flags O -/
structure CvS (d e : List (List Int)) (f : Nat) (L O : List Int) : Prop where
  len : L.length = flg d
  val : ∀ i, i < flg d → iget L i = -1 ∨ ∃ x : Nat, iget L i = (x : Int) ∧ x < flg e
  zero : iget L 0 = (f : Int)
  que : ∀ z, z ∈ O → ∃ i : Nat, z = (i : Int) ∧ i < flg d ∧ iget L i ≠ -1
  done : ∀ i, i < flg d → iget L i ≠ -1 → (i : Int) ∉ O → ∀ g, g < d.length → iget L (bTo d i g) = iget (lget e g) (iget L i).toNat
  just : ∀ p, Cov d e p → iget p 0 = (f : Int) → ∀ i, i < flg d → iget L i ≠ -1 → iget p i = iget L i
section
variable {d e : List (List Int)} {f : Nat} {L O : List Int}
theorem CvS.lab (h : CvS d e f L O) {i : Nat} (hi : i < flg d) (hl : iget L i ≠ -1) : ∃ x : Nat, iget L i = (x : Int) ∧ x < flg e := (h.val i hi).resolve_left hl
theorem CvS.start (hd : Man d) (hf : f < flg e) : CvS d e f ((List.replicate (flg d) (-1)).set 0 (f : Int)) [0] := by
  have h2 : 2 ≤ flg d := hd.f2
  have hg : ∀ i, i < flg d → iget ((List.replicate (flg d) (-1)).set 0 (f : Int)) i = if i = 0 then (f : Int) else -1 := fun i hi => by
    rw [iget_setN (by simp; omega)]
    split
    · rfl
    · exact iget_rep hi
  refine ⟨by simp, fun i hi => ?_, by rw [hg 0 (by omega)]; rfl, fun z hz => ?_, fun i hi hl hn => ?_, fun p hp h0 i hi hl => ?_⟩
  · rw [hg i hi]
    split
    · exact .inr ⟨f, rfl, hf⟩
    · exact .inl rfl
  · simp at hz; subst hz
    exact ⟨0, rfl, by omega, by rw [hg 0 (by omega), if_pos rfl]; omega⟩
  · rw [hg i hi] at hl
    split at hl
    · rename_i h; subst h; exact absurd (by simp) hn
    · exact absurd rfl hl
  · rw [hg i hi] at hl ⊢
    split at hl
    · rename_i h; subst h; rw [if_pos rfl]; exact h0
    · exact absurd rfl hl
/-- the flag in front, its moves below k seen -/
structure CvF (d e : List (List Int)) (f : Nat) (L O : List Int) (x k : Nat) : Prop where
  st : CvS d e f L O
  xs : x < flg d
  lab : iget L x ≠ -1
  seen : ∀ g, g < k → iget L (bTo d x g) = iget (lget e g) (iget L x).toNat
variable {x k : Nat}
theorem CvS.front (h : CvS d e f L O) (hx : (x : Int) ∈ O) : CvF d e f L O x 0 := by
  obtain ⟨i, e1, e2, e3⟩ := h.que _ hx
  obtain rfl : x = i := by omega
  exact ⟨h, e2, e3, fun g hg => absurd hg (by omega)⟩
theorem CvF.vals (h : CvF d e f L O x k) (hd : Man d) (he : Man e) (hl : d.length = e.length) (hk : k < d.length) : ∃ y t : Nat, iget (lget d k) x = (y : Int) ∧ y < flg d ∧ bTo d x k = y ∧ (∃ u : Nat, iget L x = (u : Int) ∧ u < flg e ∧ iget (lget e k) u = (t : Int)) ∧ t < flg e := by
  obtain ⟨u, e1, e2⟩ := h.st.lab h.xs h.lab
  have h1 := bTo_lt (man_leads hd) h.xs hk
  have h2 := bTo_lt (man_leads he) e2 (by omega : k < e.length)
  exact ⟨bTo d x k, bTo e u k, h1.2, h1.1, rfl, ⟨u, e1, e2, h2.2⟩, h2.1⟩
/-- the move leads to a flag with the right label -/
theorem CvF.same (h : CvF d e f L O x k) {y t u : Nat} (hy : bTo d x k = y) (hu : iget L x = (u : Int)) (ht : iget (lget e k) u = (t : Int)) (hl : iget L y = (t : Int)) : CvF d e f L O x (k + 1) :=
  ⟨h.st, h.xs, h.lab, fun g hg => by
    by_cases e1 : g = k
    · subst e1; rw [hy, hl, hu, Int.toNat_natCast, ht]
    · exact h.seen g (by omega)⟩
/-- .. to a flag without one -/
theorem CvF.new (h : CvF d e f L O x k) (hd : Man d) (he : Man e) (hl : d.length = e.length) (hk : k < d.length) {y t u : Nat} (hy : bTo d x k = y) (hu : iget L x = (u : Int)) (hue : u < flg e) (ht : iget (lget e k) u = (t : Int)) (hte : t < flg e) (hn : iget L y < 0) : CvF d e f (L.set y (t : Int)) (O ++ [(y : Int)]) x (k + 1) := by
  have hyl : y < flg d := by rw [← hy]; exact (bTo_lt (man_leads hd) h.xs hk).1
  have hg : ∀ i, iget (L.set y (t : Int)) i = if i = y then (t : Int) else iget L i := fun i => iget_setN (by rw [h.st.len]; exact hyl)
  have hny : iget L y = -1 := by
    rcases h.st.val y hyl with e1 | ⟨z, e1, _⟩
    · exact e1
    · omega
  have hxy : x ≠ y := fun e1 => h.lab (e1 ▸ hny)
  have old : ∀ i, i < flg d → iget L i ≠ -1 → ∀ g, g < d.length → iget L (bTo d i g) = iget (lget e g) (iget L i).toNat → iget (L.set y (t : Int)) (bTo d i g) = iget (lget e g) (iget (L.set y (t : Int)) i).toNat := fun i hi hli g hgl hq => by
    have h1 : i ≠ y := fun e1 => hli (e1 ▸ hny)
    obtain ⟨z, e1, e2⟩ := h.st.lab hi hli
    have h2 := bTo_lt (man_leads he) e2 (by omega : g < e.length)
    have h3 : bTo d i g ≠ y := fun e3 => by rw [e3, hny, e1, Int.toNat_natCast, h2.2] at hq; omega
    rw [hg, if_neg h3, hg, if_neg h1, hq]
  refine ⟨⟨by rw [List.length_set]; exact h.st.len, fun i hi => ?_, ?_, fun z hz => ?_, fun i hi hli hn g hgl => ?_, fun p hp h0 i hi hli => ?_⟩, h.xs, ?_, fun g hgk => ?_⟩
  · rw [hg]
    split
    · exact .inr ⟨t, rfl, hte⟩
    · exact h.st.val i hi
  · rw [hg, if_neg]
    · exact h.st.zero
    · intro e1; have := h.st.zero; rw [e1, hny] at this; omega
  · rcases List.mem_append.1 hz with h1 | h1
    · obtain ⟨i, e1, e2, e3⟩ := h.st.que z h1
      refine ⟨i, e1, e2, ?_⟩
      rw [hg]; split
      · omega
      · exact e3
    · simp at h1; subst h1
      exact ⟨y, rfl, hyl, by rw [hg, if_pos rfl]; omega⟩
  · have hiy : i ≠ y := fun e1 => by subst e1; exact hn (by simp)
    have hli' : iget L i ≠ -1 := by rw [hg, if_neg hiy] at hli; exact hli
    exact old i hi hli' g hgl (h.st.done i hi hli' (fun q => hn (List.mem_append_left _ q)) g hgl)
  · rw [hg] at hli ⊢
    by_cases e1 : i = y
    · subst e1
      rw [if_pos rfl]
      have h1 := hp.mov k x hk h.xs
      rw [hy, h.st.just p hp h0 x h.xs h.lab, hu, Int.toNat_natCast, ht] at h1
      exact h1
    · rw [if_neg e1] at hli ⊢
      exact h.st.just p hp h0 i hi hli
  · rw [hg, if_neg hxy]; exact h.lab
  · by_cases e1 : g = k
    · subst e1
      rw [hy, hg, if_pos rfl, hg, if_neg hxy, hu, Int.toNat_natCast, ht]
    · exact old x h.xs h.lab g (by omega) (h.seen g (by omega))
/-- .. to a flag with another one -/
theorem CvF.clash (h : CvF d e f L O x k) (hd : Man d) (hk : k < d.length) {y t u : Nat} (hy : bTo d x k = y) (hu : iget L x = (u : Int)) (ht : iget (lget e k) u = (t : Int)) (hl : iget L y ≠ -1) (hne : iget L y ≠ (t : Int)) : covO d e f = none := covO_none fun p hp h0 => by
  have h1 := hp.mov k x hk h.xs
  have hyl : y < flg d := by rw [← hy]; exact (bTo_lt (man_leads hd) h.xs hk).1
  rw [hy, h.st.just p hp h0 x h.xs h.lab, hu, Int.toNat_natCast, ht, h.st.just p hp h0 y hyl hl] at h1
  exact hne h1
/-- all moves of the flag in front are seen -/
theorem CvF.next (h : CvF d e f L O x d.length) (hO : O[0]? = some (x : Int)) : CvS d e f L (O.drop 1) := by
  refine ⟨h.st.len, h.st.val, h.st.zero, fun z hz => h.st.que z (List.mem_of_mem_drop hz), fun i hi hli hn g hgl => ?_, h.st.just⟩
  by_cases e1 : i = x
  · subst e1; exact h.seen g hgl
  · refine h.st.done i hi hli (fun q => ?_) g hgl
    cases O with
    | nil => simp at q
    | cons a r =>
      simp at hO hn
      subst hO
      rcases List.mem_cons.1 q with q | q
      · exact e1 (by omega)
      · exact hn q
/-- nothing is open any more -/
theorem CvS.fin (h : CvS d e f L []) (hd : Man d) (he : Man e) (hl : d.length = e.length) : covO d e f = some L := by
  have hall : ∀ i, i < flg d → iget L i ≠ -1 := man_ind hd (p := fun i => iget L i ≠ -1) (by rw [h.zero]; omega) fun i hi hli g hg => by
    rw [h.done i hi hli (by simp) g hg]
    obtain ⟨z, e1, e2⟩ := h.lab hi hli
    rw [e1, Int.toNat_natCast, (bTo_lt (man_leads he) e2 (by omega : g < e.length)).2]
    omega
  exact covO_eq hd hl ⟨h.len, fun i hi => h.lab hi (hall i hi), fun g i hg hi => h.done i hi (hall i hi) (by simp) g hg⟩ h.zero
end
end Go.Proofs.Ytmdhljleaijkbaa

/- Draws of maniplexes: l02Distances, l02Colours. guards: -/
namespace Go.Proofs.Ytmdhljleaijkbaa
open Go.RowKit

/-- a list of the call's own of k numbers from -1 to below B -/
def Gd (w : World) (lo : Nat) (a : Option Addr) (k c : Nat) (B : Int) (L : List Int) : Prop := L.length = k ∧ (∀ z ∈ L, -1 ≤ z ∧ z < B) ∧ Own w lo 2 a k c (L.map (Value.int .i64))
section
variable {w w' : World} {lo k c : Nat} {a b : Option Addr} {B : Int} {L : List Int}
theorem Gd.below (h : Gd w lo a k c B L) (hb : Below w.heap.size w w') : Gd w' lo a k c B L := ⟨h.1, h.2.1, h.2.2.below hb⟩
theorem Gd.side (h : Gd w lo b k c B L) (hg : w.grownBy w' (bk a)) (ha : Ap a b) : Gd w' lo b k c B L := ⟨h.1, h.2.1, h.2.2.same fun g e => hg.block g (h.2.2.lt g e).2 fun q => ha g q.symm e⟩
theorem Gd.weak (h : Gd w lo a k c B L) {B' : Int} (hB : B ≤ B') : Gd w lo a k c B' L := ⟨h.1, fun z hz => by have := h.2.1 z hz; omega, h.2.2⟩
theorem Gd.app {a2 : Option Addr} {c2 : Nat} {x : Int} (h1 : L.length = k) (h2 : ∀ z ∈ L, -1 ≤ z ∧ z < B) (h3 : Own w' lo 2 a2 (k + 1) c2 (L.map (Value.int .i64) ++ [.int .i64 x])) (hx : -1 ≤ x ∧ x < B) : Gd w' lo a2 (k + 1) c2 B (L ++ [x]) :=
  ⟨by rw [List.length_append, h1]; rfl, fun z hz => by
    rcases List.mem_append.1 hz with q | q
    · exact h2 z q
    · simp at q; subst q; exact hx, by rw [List.map_append]; exact h3⟩
theorem Gd.cell (h : Gd w lo a k c B L) {j : Nat} (hj : j < k) : ∃ g : Nat, a = some ⟨g, 0, none⟩ ∧ -1 ≤ iget L j ∧ iget L j < B ∧ w.cell? ⟨g, j, none⟩ = some (.int .i64 (iget L j)) ∧ w.frozen? ⟨g, j, none⟩ = false ∧ lo ≤ g ∧ g < w.heap.size := by
  obtain ⟨h1, h2, h3⟩ := h
  obtain ⟨g, rfl, hl, hh, -, hc, hf⟩ := h3.form (by omega)
  have hv := h2 (iget L j) (by rw [iget_lt (by omega)]; exact List.getElem_mem _)
  exact ⟨g, rfl, hv.1, hv.2, own_int h3 hj, hf j, hl, hh⟩
theorem Gd.put {g : Nat} (h : Gd w lo (some ⟨g, 0, none⟩) k c B L) (j : Nat) {y : Int} (hy : -1 ≤ y ∧ y < B) : Gd (w.setCell ⟨g, j, none⟩ (.int .i64 y)) lo (some ⟨g, 0, none⟩) k c B (L.set j y) ∧ w.grownBy (w.setCell ⟨g, j, none⟩ (.int .i64 y)) (some g) := by
  obtain ⟨h1, h2, h3⟩ := h
  obtain ⟨s1, s2⟩ := h3.stored j (.int .i64 y)
  rw [← List.map_set] at s1
  exact ⟨⟨by rw [List.length_set, h1], fun z hz => by
    rcases List.mem_or_eq_of_mem_set hz with q | q
    · exact h2 z q
    · rw [q]; exact hy, s1⟩, s2⟩
end
theorem unl_rep (N : Nat) : unl (List.replicate N (-1)) = N := by
  unfold unl
  rw [List.filter_eq_self.2 (fun z hz => by rw [(List.mem_replicate.1 hz).2]; rfl), List.length_replicate]
set_option maxRecDepth 100000 in
set_option maxHeartbeats 6400000 in
theorem dist_any (ao : Option Addr) (n c N f : Nat) (z : Int) (hz : z = (f : Int)) (d : List (List Int)) (w : World) (hd : RdSSc w (.slice ao n c) d) (hT : Leads d N) (hn : 1 ≤ n) (hn9 : n ≤ 1000) (hN9 : N ≤ 1000) (hf : f < N) :
    Calls Try.prog 139 #[.agg #[.slice ao n c], .int .i64 z] w fun e w' => ∃ a c2 L, e = .returned (.slice a N c2) ∧ Gd w' w.heap.size a N c2 2000 L ∧ Below w.heap.size w w' := by
  have hdl := hd.intss.1
  have hl0 : (lget d 0).length = N := hT.len 0 (by omega)
  have b1 := below_alloc1 w (.cells #[.slice ao n c] 28)
  have k1 : Blk (w.alloc (.cells #[.slice ao n c] 28)) w.heap.size 28 #[.slice ao n c] := blk_at rfl
  have hz1 : w.heap.size + 1 = (w.alloc (.cells #[.slice ao n c] 28)).heap.size := by simp
  have HD := Lib.hid (hd.below b1)
  have HT := Lib.hid hT
  have HZ := Lib.hid hz
  clear hd hT hz
  go_enter Try.func139, Try.ntmps139
  go_upto_region 1 with fail
  generalize w.alloc (.cells #[.slice ao n c] 28) = w1 at *
  have K1 := Lib.hid k1
  have B1 := Lib.hid b1
  have hO : Gd (w1.alloc (.cells #[] 2)) w1.heap.size (some ⟨w1.heap.size, 0, none⟩) 0 0 1 (List.replicate 0 (-1)) := ⟨rfl, fun z hz => by simp at hz, Own.empty_ w1 2 (Nat.le_refl _)⟩
  have HO := Lib.hid hO
  have HB0 := Lib.hid (below_alloc1 w1 (.cells #[] 2))
  clear k1 b1 hO
  go_wp2_with fail
  go_loopw [5, 6] (fun s5 s6 wr => ∃ (k : Nat) (a : Option Addr) (cc : Nat), k ≤ N ∧ s5 = .slice a k cc ∧ s6 = .int .i64 k ∧ Gd wr w1.heap.size a k cc 1 (List.replicate k (-1)) ∧ Below w1.heap.size w1 wr) (fun _ s6 _ => N - (intOf s6).toNat)
  case atStart => exact ⟨0, _, _, Nat.zero_le _, rfl, rfl, HO.out, HB0.out⟩
  case round =>
    clear HO HB0
    obtain ⟨k, a, cc, hk, rfl, rfl, hg, hb⟩ := hrel
    have hzb := hb.size
    have HB := Lib.hid hb
    have HG := Lib.hid hg
    have x1 := (K1.out.belowS HB.out).cell 0
    simp at x1
    clear hg hb
    go_wp2_with fail
    refine (flagsS_any ao n c N d wr (HD.out.below HB.out).rd (by omega) hl0 (by omega)).mono ?_
    rintro e w2 ⟨rfl, b2⟩
    have HB2 := Lib.hid (HB.out.trans (b2.mono hzb))
    have HG2 := Lib.hid (HG.out.below b2)
    have hz2 := HB2.out.size
    clear x1 b2 HB HG
    by_cases hlt : k < N
    · have hki : (k : Int) < (N : Int) := by omega
      obtain ⟨h1, h2, h3⟩ := HG2.out
      have H3 := Lib.hid h3
      clear h3
      go_wp2_with (at_builtin; refine wpList_ap1 etI _ rfl _ _ rfl w1.heap.size a k cc _ rfl H3.out _ rfl rfl (by omega) hz2 ?_; intro a4 c4 w4 ho4 hg4 hblk)
      have G4 := Lib.hid (Gd.app (B := 1) h1 h2 ho4 (show -1 ≤ (-1 : Int) ∧ (-1 : Int) < 1 by omega))
      have B4 := Lib.hid (HB2.out.grown hg4 hz2 (fun g e => (H3.out.lt g e).1))
      clear ho4 hg4 hblk h1 h2
      go_roundw
      case rel => exact ⟨k + 1, a4, c4, by omega, rfl, by go_num, by rw [List.replicate_succ']; exact G4.out, B4.out⟩
      case measure => simp [intOf]; omega
    · obtain rfl : k = N := by omega
      obtain ⟨gl, rfl, -, -, hc0, hf0, hgl, hgh⟩ := HG2.out.cell hf
      obtain ⟨p1, p2⟩ := HG2.out.put f (y := 0) (by omega)
      have hus := unl_set (L := List.replicate k (-1)) (y := f) (x := 0) (by simpa using hf) (by simp [iget, hf]) (by omega)
      rw [unl_rep] at hus
      have hB3 := HB2.out.grown p2 hz2 (fun g e => by injection e with e; omega)
      have hz3 := p2.size
      have P1 := Lib.hid p1
      have HZZ := HZ.out
      subst HZZ
      have hfi : (f : Int) < (k : Int) := by omega
      have hL3 := (own_rowL (w := w2.setCell ⟨gl, f, none⟩ (.int .i64 0)) (us := [.int .i64 f]) (zs := [(f : Int)]) (k := 1) (g := w2.heap.size) (by simp [World.setCell]) rfl rfl (by omega))
      have G3 : Gl ((w2.setCell ⟨gl, f, none⟩ (.int .i64 0)).alloc (.cells #[.int .i64 f] 2)) (w2.setCell ⟨gl, f, none⟩ (.int .i64 0)).heap.size (some ⟨w2.heap.size, 0, none⟩) 1 1 k := ⟨[(f : Int)], rfl, fun z hz => by simp at hz; subst hz; omega, hL3⟩
      have kA := below_alloc1 (w2.setCell ⟨gl, f, none⟩ (.int .i64 0)) (.cells #[.int .i64 f] 2)
      have D4 := Lib.hid (p1.below kA)
      have B4 := Lib.hid (hB3.trans (kA.mono hB3.size))
      have hapg : gl < (w2.setCell ⟨gl, f, none⟩ (.int .i64 0)).heap.size := by omega
      generalize hL0 : (List.replicate k (-1)).set f (0 : Int) = L0 at *
      have G4 := Lib.hid G3
      have hsz4 := kA.size
      clear p1 p2 hL3 G3 kA HG2 P1 hB3 HB2
      go_upto_region 8 with fail
      generalize w2.setCell ⟨gl, f, none⟩ (.int .i64 0) = wS at *
      generalize wS.alloc (.cells #[.int .i64 f] 2) = w4 at *
      have HUS := Lib.hid hus
      clear hus hL0 hc0 hf0
      go_wp2_with fail
      go_loopw [7, 8] (fun s7 s8 wr => ∃ (qn j : Nat) (qa : Option Addr) (qc : Nat) (L : List Int), s7 = .slice qa qn qc ∧ s8 = .int .i64 j ∧ j ≤ qn ∧ qn + unl L ≤ k ∧ Gd wr w1.heap.size (some ⟨gl, 0, none⟩) k cc (qn : Int) L ∧ Gl wr wS.heap.size qa qn qc k ∧ Below w1.heap.size w1 wr ∧ wS.heap.size ≤ wr.heap.size) (fun _ s8 _ => k - (intOf s8).toNat)
      case atStart => exact ⟨1, 0, _, _, L0, rfl, rfl, by omega, by have := HUS.out; omega, D4.out, G4.out, B4.out, hsz4⟩
      case round =>
        clear D4 G4 B4 hsz4
        obtain ⟨qn, j, qa, qc, L, rfl, rfl, hj, hqu, gd, gq, hb, hzw⟩ := hrel
        by_cases hltj : j < qn
        · have hji : (j : Int) < (qn : Int) := by omega
          have GD := Lib.hid gd
          have GQ := Lib.hid gq
          have HB := Lib.hid hb
          clear gd gq hb
          go_wp2_with fail
          go_loopw [7, 9] (fun s7 s9 wr => ∃ (qn i : Nat) (qa : Option Addr) (qc : Nat) (L : List Int), s7 = .slice qa qn qc ∧ s9 = .int .i64 i ∧ i ≤ n ∧ j < qn ∧ qn + unl L ≤ k ∧ Gd wr w1.heap.size (some ⟨gl, 0, none⟩) k cc (qn : Int) L ∧ Gl wr wS.heap.size qa qn qc k ∧ Below w1.heap.size w1 wr ∧ wS.heap.size ≤ wr.heap.size) (fun _ s9 _ => n - (intOf s9).toNat)
          case atStart => exact ⟨qn, 0, qa, qc, L, rfl, rfl, Nat.zero_le _, hltj, hqu, GD.out, GQ.out, HB.out, hzw⟩
          case round =>
            clear GD GQ HB hji hj hqu hzw hltj
            obtain ⟨qn, i, qa, qc, L, rfl, rfl, hi, hltj, hqu, gd, gq, hb, hzw⟩ := hrel
            have hji : (j : Int) < (qn : Int) := by omega
            have x1 := (K1.out.belowS hb).cell 0
            simp at x1
            by_cases hlti : i < n
            · have hii : (i : Int) < (n : Int) := by omega
              obtain ⟨gq', x, rfl, hx, hcx, -, hgq1, hgq2⟩ := gq.cell hltj
              obtain ⟨b3, off3, a3, n3, c3, rfl, hc3, hi3⟩ := (HD.out.intss.below hb).at_ hlti
              have hn3 : n3 = k := by rw [← hi3.1]; exact HT.out.len i (by omega)
              subst hn3
              obtain ⟨b4, off4, rfl, hc4⟩ := hi3.at_ hx
              have hy := bTo_lt HT.out hx (g := i) (by omega)
              obtain ⟨y, hye⟩ : ∃ y, bTo d x i = y := ⟨_, rfl⟩
              rw [hy.2, hye] at hc4
              rw [hye] at hy
              have hyN := hy.1
              obtain ⟨g', eg, hx1, hx2, hcx2, -, -, -⟩ := gd.cell hx
              injection eg with eg; injection eg with eg; subst eg
              obtain ⟨g', eg, hy1, hy2, hcy, hfy, -, -⟩ := gd.cell hyN
              injection eg with eg; injection eg with eg; subst eg
              have hxi : (x : Int) < (n3 : Int) := by omega
              have hyi : (y : Int) < (n3 : Int) := by omega
              have hqk : qn ≤ n3 := by omega
              have GD := Lib.hid gd
              have GQ := Lib.hid gq
              have HB := Lib.hid hb
              have HLL := Lib.hid gd.1
              clear gd gq hb hi3 hy hye
              obtain ⟨u, hu⟩ : ∃ u, iget L x = u := ⟨_, rfl⟩
              obtain ⟨v, hv⟩ : ∃ v, iget L y = v := ⟨_, rfl⟩
              rw [hu] at hcx2 hx1 hx2
              rw [hv] at hcy hy1 hy2
              have HV := Lib.hid hv
              clear hu hv
              have huw : IntKind.i64.wrap (u + 1) = u + 1 := IntWalk.i64_in _ (by omega)
              by_cases hneg : v < 0
              · have hus := unl_set (L := L) (y := y) (x := u + 1) (by rw [HLL.out]; exact hyN) (by rw [HV.out]; exact hneg) (by omega)
                have hdec : decide (v < 0) = true := decide_eq_true hneg
                have HUS := Lib.hid hus
                clear hus
                go_wp2_with fail
                go_quiet (fail)
                go_upto_region 17 with fail
                have gdn : Gd (wr.drewN nq) w1.heap.size (some ⟨gl, 0, none⟩) n3 cc (qn : Int) L := GD.out
                have gqn : Gl (wr.drewN nq) wS.heap.size (some ⟨gq', 0, none⟩) qn qc n3 := GQ.out
                obtain ⟨p1, p2⟩ := (gdn.weak (B' := ((qn + 1 : Nat) : Int)) (by omega)).put y (y := u + 1) (by omega)
                have hB3 := (below_drewN HB.out nq).grown p2 HB.out.size (fun g e => by injection e with e; omega)
                have hQ3 := gqn.side (a := some ⟨gl, 0, none⟩) p2 (fun g e e' => by simp [bk] at e e'; omega)
                have hz5 : wS.heap.size ≤ ((wr.drewN nq).setCell ⟨gl, y, none⟩ (.int .i64 (u + 1))).heap.size := Nat.le_trans hzw p2.size
                obtain ⟨zs, z1, z2, z3⟩ := hQ3
                have P1 := Lib.hid p1
                have B3 := Lib.hid hB3
                have Q3 := Lib.hid z3
                clear p1 p2 hB3 z3 gdn gqn GD GQ HB
                generalize (wr.drewN nq).setCell ⟨gl, y, none⟩ (.int .i64 (u + 1)) = w6 at *
                go_wp2_with (at_builtin; refine wpList_ap1 etI w6 rfl _ _ rfl wS.heap.size _ qn qc _ rfl Q3.out _ rfl rfl (by omega) hz5 ?_; intro a7 c7 w7 q7 g7 hat7)
                have Q7 := Lib.hid (Gl.app z1 z2 q7 (show 0 ≤ (y : Int) ∧ (y : Int) < n3 by omega))
                have P7 := Lib.hid (P1.out.side g7 (fun g e e' => by simp [bk] at e e'; omega))
                have B7 := Lib.hid (B3.out.grown g7 B3.out.size (fun g e => by have := (Q3.out.lt g e).1; omega))
                have hz7 := g7.size
                clear q7 g7 hat7
                go_roundw
                case rel => exact ⟨qn + 1, i + 1, a7, c7, _, rfl, by go_num, by omega, by omega, by have := HUS.out; omega, P7.out, Q7.out, B7.out, by omega⟩
                case measure => simp [intOf]; omega
              · have hdec : decide (v < 0) = false := decide_eq_false hneg
                go_wp2_with fail
                go_quiet (fail)
                go_wp2_with fail
                go_roundw
                case rel => exact ⟨qn, i + 1, _, _, L, rfl, by go_num, by omega, hltj, hqu, (show Gd (wr.drewN nq) _ _ _ _ _ _ from GD.out), (show Gl (wr.drewN nq) _ _ _ _ _ from GQ.out), below_drewN HB.out nq, hzw⟩
                case measure => simp [intOf]; omega
            · obtain rfl : i = n := by omega
              have GD := Lib.hid gd
              have GQ := Lib.hid gq
              have HB := Lib.hid hb
              clear gd gq hb
              go_wp2_with fail
              go_roundw
              case rel => exact ⟨qn, j + 1, qa, qc, L, rfl, by go_num, by omega, hqu, GD.out, GQ.out, HB.out, hzw⟩
              case measure => simp [intOf]; omega
        · obtain rfl : j = qn := by omega
          have GF := Lib.hid (gd.weak (B' := 2000) (by omega))
          have BF := Lib.hid (B1.out.trans (hb.mono (by omega)))
          clear gd gq hb
          go_wp2_with fail
          go_ret
          exact ⟨_, cc, L, rfl, ⟨GF.out.1, GF.out.2.1, GF.out.2.2.mono (by omega)⟩, BF.out⟩
end Go.Proofs.Ytmdhljleaijkbaa

/- Draws of maniplexes: l02Run, l05Words. guards: -/
namespace Go.Proofs.Ytmdhljleaijkbaa
open Go.RowKit

set_option maxRecDepth 100000 in
set_option maxHeartbeats 3200000 in
theorem run_any (ao bo : Option Addr) (n c m cb N f : Nat) (d : List (List Int)) (zs : List Int) (w : World) (hd : RdSSc w (.slice ao n c) d) (hz : Ints w bo m zs) (hT : Leads d N) (hl : Low n zs) (hf : f < N) (hN : N ≤ 1000000) (hm : m ≤ 1000000) :
    Calls Try.prog 154 #[.agg #[.slice ao n c], .int .i64 f, .slice bo m cb] w fun e w' => ∃ g : Nat, g < N ∧ e = .returned (.int .i64 g) ∧ Below w.heap.size w w' := by
  have hdl := hd.intss.1
  have b1 := below_alloc1 w (.cells #[.slice ao n c] 28)
  have k1 : Blk (w.alloc (.cells #[.slice ao n c] 28)) w.heap.size 28 #[.slice ao n c] := blk_at rfl
  have HD := Lib.hid (hd.below b1)
  have HZ := Lib.hid (hz.below b1)
  have HT := Lib.hid hT
  have HL := Lib.hid hl
  have HZL := Lib.hid hz.1
  clear hd hz hT hl
  go_enter Try.func154, Try.ntmps154
  go_upto_region 1 with fail
  generalize w.alloc (.cells #[.slice ao n c] 28) = w1 at *
  have K1 := Lib.hid k1
  have B1 := Lib.hid b1
  have hz1 := b1.size
  clear k1 b1
  go_wp2_with fail
  go_loopw [1, 7] (fun s1 s7 wr => ∃ i g : Nat, i ≤ m ∧ s1 = .int .i64 g ∧ s7 = .int .i64 i ∧ g < N ∧ Below w1.heap.size w1 wr) (fun _ s7 _ => m - (intOf s7).toNat)
  case atStart => exact ⟨0, f, Nat.zero_le _, rfl, rfl, hf, Below.refl _ _⟩
  case round =>
    obtain ⟨i, g, hi, rfl, rfl, hg, hb⟩ := hrel
    have HB := Lib.hid hb
    clear hb
    by_cases hlt : i < m
    · have hlo := low_get HL.out (k := i) (by rw [HZL.out]; exact hlt)
      obtain ⟨j, hj⟩ := Int.eq_ofNat_of_zero_le hlo.1
      have hjn : j < n := by rw [hj] at hlo; omega
      obtain ⟨b2, off2, rfl, hc2⟩ := (HZ.out.below HB.out).at_ hlt
      rw [hj] at hc2
      obtain ⟨b3, off3, a3, n3, c3, rfl, hc3, hi3⟩ := (HD.out.intss.below HB.out).at_ hjn
      have hn3 : n3 = N := by rw [← hi3.1]; exact HT.out.len j (by omega)
      subst hn3
      obtain ⟨b4, off4, rfl, hc4⟩ := hi3.at_ hg
      have hy := bTo_lt HT.out hg (g := j) (by omega)
      obtain ⟨y, hye⟩ : ∃ y, bTo d g j = y := ⟨_, rfl⟩
      rw [hy.2, hye] at hc4
      rw [hye] at hy
      have x0 := (K1.out.belowS HB.out).cell 0
      simp at x0
      have hj0 : (j : Int) < (n : Int) := by omega
      have hg0 : (g : Int) < (n3 : Int) := by omega
      have hi0 : (i : Int) < (m : Int) := by omega
      have hyn := hy.1
      clear hi3 hy hye hlo hj
      go_wp2_with fail
      go_quiet (fail)
      have HB2 := Lib.hid (below_drewN HB.out nq)
      go_wp2_with fail
      go_roundw
      case rel => exact ⟨i + 1, y, by omega, rfl, by go_num, hyn, HB2.out⟩
      case measure => simp [intOf]; omega
    · obtain rfl : i = m := by omega
      go_wp2_with fail
      go_ret
      exact ⟨g, hg, rfl, B1.out.trans (HB.out.mono hz1)⟩
set_option maxRecDepth 100000 in
set_option maxHeartbeats 6400000 in
theorem words_any (ao bo : Option Addr) (n c m cb N : Nat) (d ws : List (List Int)) (w : World) (hd : RdSSc w (.slice ao n c) d) (hw : RdSSc w (.slice bo m cb) ws) (hT : Leads d N) (hl : ∀ k, k < m → Low n (lget ws k)) (hlw : ∀ k, k < m → (lget ws k).length ≤ 1000) (hn : 0 < n) (hm : m ≤ 100) (hN : 1 ≤ N) (hN9 : N ≤ 1000000) :
    Calls Try.prog 151 #[.agg #[.slice ao n c], .slice bo m cb] w fun e w' => ∃ a c2 us ds, e = .returned (.slice a m c2) ∧ OwR (OwS 2) w' w.heap.size w'.heap.size 32 a m c2 us ds ∧ Sq ds N ∧ Below w.heap.size w w' := by
  have hdl := hd.intss.1
  have hwl := hw.intss.1
  have hl0 : (lget d 0).length = N := hT.len 0 (by omega)
  have b1 := below_alloc1 w (.cells #[.slice ao n c] 28)
  have k1 : Blk (w.alloc (.cells #[.slice ao n c] 28)) w.heap.size 28 #[.slice ao n c] := blk_at rfl
  have hz1 : w.heap.size < (w.alloc (.cells #[.slice ao n c] 28)).heap.size := by simp
  have HD := Lib.hid (hd.below b1)
  have HW := Lib.hid (hw.below b1)
  have HT := Lib.hid hT
  have HL := Lib.hid hl
  have HLW := Lib.hid hlw
  clear hd hw hT hl hlw
  go_enter Try.func151, Try.ntmps151
  go_upto_region 1 with fail
  generalize w.alloc (.cells #[.slice ao n c] 28) = w1 at *
  have K1 := Lib.hid k1
  have B1 := Lib.hid b1
  have hO : OwR (OwS 2) (w1.alloc (.cells #[] 32)) w1.heap.size (w1.alloc (.cells #[] 32)).heap.size 32 (some ⟨w1.heap.size, 0, none⟩) 0 0 [] [] := OwR.empty_ (Own.empty_ w1 32 (Nat.le_refl _)) (fun g hg => by simp [bk] at hg ⊢; omega)
  have HO := Lib.hid hO
  have HB0 := Lib.hid (below_alloc1 w1 (.cells #[] 32))
  clear k1 b1 hO
  go_wp2_with fail
  go_loopw [5, 6] (fun s5 s6 wr => ∃ (q : Nat) (a : Option Addr) (c2 : Nat) (us : List Value) (ds : List (List Int)), s5 = .slice a q c2 ∧ s6 = .int .i64 q ∧ q ≤ m ∧ Sq ds N ∧ OwR (OwS 2) wr w1.heap.size wr.heap.size 32 a q c2 us ds ∧ Below w1.heap.size w1 wr) (fun _ s6 _ => m - (intOf s6).toNat)
  case atStart => exact ⟨0, _, _, [], [], rfl, rfl, Nat.zero_le _, sq_nil _, HO.out, HB0.out⟩
  case round =>
    clear HO HB0
    obtain ⟨q, a, c2, us, ds, rfl, rfl, hq, hds, ho, hb⟩ := hrel
    obtain ⟨wA, rfl⟩ : ∃ x, x = wr := ⟨_, rfl⟩
    have hzA := hb.size
    have HB := Lib.hid hb
    have HO := Lib.hid ho
    have HDS := Lib.hid hds
    clear ho hb hds
    by_cases hlt : q < m
    · have hqi : (q : Int) < (m : Int) := by omega
      have E0 := Lib.hid (Gl.empty_ wA wA.heap.size N (Nat.le_refl _) rfl)
      have HBA := Lib.hid (below_alloc1 wA (.cells #[] 2))
      go_wp2_with fail
      go_loopw [7, 8] (fun sv iv w8 => ∃ (f : Nat) (a : Option Addr) (cc : Nat), f ≤ N ∧ sv = .slice a f cc ∧ iv = .int .i64 f ∧ Gl w8 wA.heap.size a f cc N ∧ Below wA.heap.size wA w8) (fun _ iv _ => N - (intOf iv).toNat)
      case atStart => exact ⟨0, _, _, Nat.zero_le _, rfl, rfl, E0.out, HBA.out⟩
      case round =>
        clear E0 HBA
        obtain ⟨f, a8, cc, hf, rfl, rfl, hg, hb8⟩ := hrel
        obtain ⟨w8, rfl⟩ : ∃ x, x = wr := ⟨_, rfl⟩
        have hz8 := hb8.size
        have HBW := Lib.hid (HB.out.trans (hb8.mono hzA))
        have HB8 := Lib.hid hb8
        have HG := Lib.hid hg
        have x1 := (K1.out.belowS HBW.out).cell 0
        simp at x1
        clear hb8 hg
        go_wp2_with fail
        refine (flagsS_any ao n c N d w8 (HD.out.below HBW.out).rd hn hl0 hN9).mono ?_
        rintro e w9 ⟨rfl, b9⟩
        have HBW9 := Lib.hid (HBW.out.trans (b9.mono HBW.out.size))
        have HB9 := Lib.hid (HB8.out.trans (b9.mono hz8))
        have HG9 := Lib.hid (HG.out.below b9)
        have hz9 := HB9.out.size
        clear x1 b9 HBW HB8 HG
        by_cases hltf : f < N
        · have hfi : (f : Int) < (N : Int) := by omega
          have x2 := (K1.out.belowS HBW9.out).cell 0
          simp at x2
          obtain ⟨b2, off2, a2, n2, cr, rfl, hc2, hi2⟩ := (HW.out.intss.below HBW9.out).at_ hlt
          have hn2 : n2 ≤ 1000 := by rw [← hi2.1]; exact HLW.out q hlt
          have HI2 := Lib.hid hi2
          have HR := Lib.hid (run_any ao a2 n c n2 cr N f d (lget ws q) w9.drew (HD.out.below (HBW9.out.drew)) (hi2.drewN 1) HT.out (HL.out q hlt) hltf hN9 (by omega))
          clear hi2
          go_upto_region 9 with fail
          go_region_law (first
            | (refine gl_step0 (o := ⟨some 32, _, _, _, _, _⟩) etI rfl (.tmp 23) (.tmp 31) rfl wA.heap.size a8 f cc N rfl HG10.out (y : Int) rfl (by omega) (by omega) hz10 ?_; intro a11 c11 w11 g11 B11 gr11 hat11)
            | (go_simp; go_at_call 154; refine HR.out.mono ?_; rintro e w10 ⟨y, hy, rfl, b10⟩; have b10' : Below w9.heap.size w9 w10 := below_tr b10 (below_drew1 w9); have HG10 := Lib.hid (HG9.out.below b10'); have HB10 := Lib.hid (HB9.out.trans (b10'.mono hz9)); have hz10 : wA.heap.size ≤ w10.heap.size := HB10.out.size))
          all_goals
            have HG11 := Lib.hid g11
            have HB11 := Lib.hid (HB10.out.trans B11)
            clear g11 B11 gr11 hat11
            go_wp2_with fail
            go_roundw
          all_goals first | exact ⟨f + 1, a11, c11, by omega, rfl, by go_num, HG11.out, HB11.out⟩ | (simp [intOf]; omega)
        · obtain rfl : f = N := by omega
          obtain ⟨zs, n8, m8, o8⟩ := HG9.out
          have HO8 := Lib.hid o8
          have HOB := Lib.hid (HO.out.below (innerS _) HB9.out)
          clear o8
          go_wp2_with (at_builtin; refine wpList_ap1 etSS _ rfl _ _ rfl w1.heap.size a q c2 _ rfl HOB.out.own (.slice a8 f cc) rfl rfl (by omega) (by omega) ?_; intro ao2 c2' w4 ho2 hg2 hat)
          have SP := Lib.hid (rows_push2 HO.out hzA HB9.out HO8.out (Below.refl _ _) ho2 hg2 (hat.imp id fun e => ⟨_, e, Nat.le_succ _⟩))
          have HB4 := Lib.hid ((HB.out.trans (HB9.out.mono hzA)).grown hg2 (by omega) (fun g e => (HO.out.own.lt g e).1))
          clear ho2 hg2 hat
          go_roundw
          case rel => exact ⟨q + 1, ao2, c2', _, _, rfl, by go_num, by omega, HDS.out.app n8 m8, SP.out, HB4.out⟩
          case measure => simp [intOf]; omega
    · obtain rfl : q = m := by omega
      go_wp2_with fail
      go_ret
      exact ⟨a, c2, us, ds, rfl, HO.out.mono (Nat.le_of_lt hz1) (Nat.le_refl _), HDS.out, B1.out.trans (HB.out.mono (Nat.le_of_lt hz1))⟩
end Go.Proofs.Ytmdhljleaijkbaa

/- Faces of a maniplex: labels and numbers (the program's FaceLabels, FaceCounts). -/
namespace Go.Proofs.Ytmdhljleaijkbaa
open Go.RowKit

theorem orbW_anyS {d : List (List Int)} {n : Nat} {v : Value} (w : World) (h : RdSSc w v d) (hT : Leads d n) (hB : SymR d n) (hn0 : 0 < n) (hn : n ≤ 1000) (hd : d.length ≤ 1000) :
    Calls Try.prog 72 #[.int .i64 n, v] w fun e w' => ∃ v', e = .returned (.tuple #[v', .int .i64 ((labs d n).2 : Nat)]) ∧ OwnS 2 w' w.heap.size w'.heap.size v' (labs d n).1 ∧ Below w.heap.size w w' := by
  have hl := (labs_allS hT hB).1
  refine (callNR (orbI_fcS d n d.length rfl hT hB hn0 (by omega) (by omega)) h).mono ?_
  rintro e w' ⟨v, η, ω, rfl, hde, hm, hb, hlo⟩
  obtain ⟨u, u', rfl, h1, h2⟩ := den_tup2 hde
  have h1 : Den1 η (.sl 16 0 n) u := h1
  have h2 : u' = .int .i64 ((labs d n).2 : Nat) := h2
  subst h2
  have := toS (x := 16) (E := 2) (zs := (labs d n).1) hm hlo rfl (by rw [hl]; exact h1) (by omega)
  exact ⟨u, rfl, this, hb⟩
theorem OwM.rdcM {E1 E : Nat} {w : World} {lo hi : Nat} {ao : Option Addr} {n c : Nat} {d : List (List Int)} (h : OwM E1 E w lo hi (.agg #[.slice ao n c]) d) : RdSSc w (.slice ao n c) d ∧ d.length = n := by
  obtain ⟨a', n', c', us, e, hor⟩ := h
  have e2 : Value.slice ao n c = .slice a' n' c' := by
    injection e with e
    have := congrArg (fun x : Array Value => x[0]?) e
    simpa using this
  injection e2 with e3 e4 e5
  subst e3 e4 e5
  exact ⟨OwSS.rdc (⟨_, _, _, _, rfl, hor⟩ : OwSS E1 E w lo hi _ d), hor.len⟩
end Go.Proofs.Ytmdhljleaijkbaa

/- Draws of maniplexes: l05Replace, l05Dual. guards: -/
namespace Go.Proofs.Ytmdhljleaijkbaa
open Go.RowKit

set_option maxRecDepth 100000 in
set_option maxHeartbeats 6400000 in
theorem replace_any (ao bo : Option Addr) (n c m cb N : Nat) (d ws : List (List Int)) (w : World) (hd : RdSSc w (.slice ao n c) d) (hw : RdSSc w (.slice bo m cb) ws) (hT : Leads d N) (hl : ∀ k, k < m → Low n (lget ws k)) (hlw : ∀ k, k < m → (lget ws k).length ≤ 1000) (hn : 0 < n) (hm : m ≤ 100) (hm1 : 1 ≤ m) (hN : 1 ≤ N) (hN9 : N ≤ 1000) :
    Calls Try.prog 141 #[.agg #[.slice ao n c], .slice bo m cb] w fun e w' => ∃ v b r L, e = .returned (.tuple #[v, .bool b]) ∧ OwM 2 32 w' w.heap.size w'.heap.size v r ∧ r.length = m ∧ Sq r L ∧ 1 ≤ L ∧ L ≤ N ∧ Below w.heap.size w w' := by
  have b1 := below_alloc2 w (.cells #[.slice ao n c] 28) (.cells #[.slice none 0 0] 28)
  have k1 : Blk ((w.alloc (.cells #[.slice ao n c] 28)).alloc (.cells #[.slice none 0 0] 28)) w.heap.size 28 #[.slice ao n c] := (blk_at rfl).alloc _
  have k3 : Blk ((w.alloc (.cells #[.slice ao n c] 28)).alloc (.cells #[.slice none 0 0] 28)) (w.heap.size + 1) 28 #[.slice none 0 0] := blk_at (by simp)
  have hz1 : w.heap.size + 2 = ((w.alloc (.cells #[.slice ao n c] 28)).alloc (.cells #[.slice none 0 0] 28)).heap.size := by simp
  have HD := Lib.hid (hd.below b1)
  have HW := Lib.hid (hw.below b1)
  have hmw : IntKind.i64.wrap ((m : Int) - 1) = (m : Int) - 1 := IntWalk.i64_in _ (by omega)
  clear hd hw
  go_enter Try.func141, Try.ntmps141
  go_upto_region 1 with fail
  generalize (w.alloc (.cells #[.slice ao n c] 28)).alloc (.cells #[.slice none 0 0] 28) = w1 at *
  have x1 := k1.cell 0
  simp at x1
  have K3 := Lib.hid k3
  have B1 := Lib.hid b1
  clear k1 k3 b1
  go_wp2_with fail
  refine (words_any ao bo n c m cb N d ws w1 HD.out HW.out hT hl hlw hn hm hN (by omega)).mono ?_
  rintro e w2 ⟨a2, c2, us, ds, rfl, o2, sq2, b2⟩
  have hdl : ds.length = m := o2.len
  have z12 := b2.size
  have kA := below_alloc1 w2 (.cells #[.slice a2 m c2] 28)
  have K2 : Blk (w2.alloc (.cells #[.slice a2 m c2] 28)) w2.heap.size 28 #[.slice a2 m c2] := blk_at rfl
  have K3' := Lib.hid ((K3.out.belowS b2).alloc (.cells #[.slice a2 m c2] 28))
  have B3 := Lib.hid ((B1.out.trans (b2.mono (by omega))).trans (kA.mono (by omega)))
  have R3 := Lib.hid (((OwSS.rdc ⟨_, _, _, _, rfl, o2⟩ : RdSSc w2 (.slice a2 m c2) ds)).below kA)
  have SQ := Lib.hid sq2
  clear b2 o2 sq2 kA HD HW B1 K3 x1
  go_upto_region 2 with fail
  generalize w2.alloc (.cells #[.slice a2 m c2] 28) = w3 at *
  have x3 := K2.cell 0
  simp at x3
  have hz3 := K2.lt
  clear K2
  go_wp2_with fail
  refine (section_any a2 m c2 N ((m : Int) - 1) ds w3 R3.out SQ.out.leads hm1 hm (by omega) hN hN9).mono ?_
  rintro e w4 ⟨v4, r, L, rfl, o4, hr, sq4, hL1, hLN, b4⟩
  obtain ⟨a4, n4, c4, rfl⟩ := o4.form
  have hn4 : n4 = m := by have := o4.rdcM.2; omega
  subst hn4
  have z34 := b4.size
  have kA := below_alloc1 w4 (.cells #[.slice a4 n4 c4] 28)
  have K4 : Blk (w4.alloc (.cells #[.slice a4 n4 c4] 28)) w4.heap.size 28 #[.slice a4 n4 c4] := blk_at rfl
  have K5 := (K3'.out.belowS b4).alloc (.cells #[.slice a4 n4 c4] 28)
  have B5 := Lib.hid ((B3.out.trans (b4.mono (by omega))).trans (kA.mono (by omega)))
  have O5 := Lib.hid (o4.below kA)
  have SQ4 := Lib.hid sq4
  clear b4 o4 sq4 kA R3 SQ B3 K3' x3
  go_upto_region 3 with fail
  generalize w4.alloc (.cells #[.slice a4 n4 c4] 28) = w5 at *
  have hz5 := K4.lt
  have hz15 := K5.lt
  have hR := Lib.hid (specManC (w := w5.drew) (O5.out.below (below_drew1 w5)).rdcM.1 ⟨by omega, fun i hi => by have := (SQ4.out (lget r i) (by rw [lget_lt hi]; exact List.getElem_mem hi)).1; omega⟩)
  have x4 := K4.cell 0
  simp at x4
  have K5' := Lib.hid K5
  clear K5
  go_region_law (go_simp; go_at_call 51; refine hR.out.mono ?_; rintro e w6 ⟨rfl, b6⟩; have b6' : Below w5.heap.size w5 w6 := below_tr b6 (below_drew1 w5); have x6 := (K4.belowS b6').cell 0; have y6 := (K5'.out.belowS b6').cell 0; have f6 := (K5'.out.belowS b6').frozen 0; simp at x6 y6)
  all_goals
    have O6 := Lib.hid ((O5.out.below b6').only (only_set w6 (w.heap.size + 1) 0 (.slice a4 n4 c4)) (.inr (by omega : w.heap.size + 1 + 1 ≤ w3.heap.size)))
    have B6 := Lib.hid ((B5.out.trans (b6'.mono (by omega))).setCell (p := ⟨w.heap.size + 1, 0, none⟩) (by simp) (.slice a4 n4 c4))
    have hzz := b6'.size
    have hz6 : (w6.setCell ⟨w.heap.size + 1, 0, none⟩ (.slice a4 n4 c4)).heap.size = w6.heap.size := by simp [World.setCell]
    generalize manB r = mb at *
    have HZ6 := Lib.hid hz6
    clear b6 b6' O5 B5 hz6
    go_wp2_with fail
    refine bodyPost_ret (v := .tuple #[.agg #[.slice a4 n4 c4], .bool mb]) (by simp [results, Try.f141, go_sem, y6]) rfl ⟨_, mb, r, L, rfl, O6.out.mono (by omega) (by rw [HZ6.out]; omega), hr, SQ4.out, hL1, hLN, B6.out⟩
theorem vals_lit {w : World} {E : Nat} {u : Value} {g : Nat} (hg : w.heap.size = g) : Vals (w.alloc (.cells #[u] E)) (some ⟨g, 0, none⟩) 1 [u] := ⟨rfl, by omega, fun _ => ⟨g, 0, rfl, fun j v hv => by
  match j, hv with
  | 0, hv => simp at hv; subst hv; exact (blk_at hg : Blk _ g E #[u]).cell 0
  | j + 1, hv => simp at hv⟩⟩
set_option maxRecDepth 100000 in
set_option maxHeartbeats 6400000 in
theorem dualS_any (ao : Option Addr) (n c N : Nat) (d : List (List Int)) (w : World) (hd : RdSSc w (.slice ao n c) d) (hT : Leads d N) (hn : 0 < n) (hn9 : n ≤ 100) (hN : 1 ≤ N) (hN9 : N ≤ 1000) :
    Calls Try.prog 120 #[.agg #[.slice ao n c]] w fun e w' => ∃ v r L, e = .returned v ∧ OwM 2 32 w' w.heap.size w'.heap.size v r ∧ r.length = n ∧ Sq r L ∧ 1 ≤ L ∧ L ≤ N ∧ Below w.heap.size w w' := by
  have b1 := below_alloc2 w (.cells #[.slice ao n c] 28) (.cells #[.slice none 0 0] 28)
  have k1 : Blk ((w.alloc (.cells #[.slice ao n c] 28)).alloc (.cells #[.slice none 0 0] 28)) w.heap.size 28 #[.slice ao n c] := (blk_at rfl).alloc _
  have k3 : Blk ((w.alloc (.cells #[.slice ao n c] 28)).alloc (.cells #[.slice none 0 0] 28)) (w.heap.size + 1) 28 #[.slice none 0 0] := blk_at (by simp)
  have hz1 : w.heap.size + 2 = ((w.alloc (.cells #[.slice ao n c] 28)).alloc (.cells #[.slice none 0 0] 28)).heap.size := by simp
  have HD := Lib.hid (hd.below b1)
  have hnw : IntKind.i64.wrap ((n : Int) - 1) = (n : Int) - 1 := IntWalk.i64_in _ (by omega)
  clear hd
  go_enter Try.func120, Try.ntmps120
  go_upto_region 1 with fail
  generalize (w.alloc (.cells #[.slice ao n c] 28)).alloc (.cells #[.slice none 0 0] 28) = w1 at *
  have K1 := Lib.hid k1
  have K3 := Lib.hid k3
  have B1 := Lib.hid b1
  have hO : OwR (OwS 2) (w1.alloc (.cells #[] 32)) w1.heap.size (w1.alloc (.cells #[] 32)).heap.size 32 (some ⟨w1.heap.size, 0, none⟩) 0 0 [] [] := OwR.empty_ (Own.empty_ w1 32 (Nat.le_refl _)) (fun g hg => by simp [bk] at hg ⊢; omega)
  have HO := Lib.hid hO
  have hbA := below_alloc1 w1 (.cells #[] 32)
  have HB0 := Lib.hid hbA
  have x1 := (k1.alloc (.cells #[] 32)).cell 0
  simp at x1
  clear k1 k3 b1 hO hbA
  go_wp2_with fail
  go_loopw [3, 4] (fun s3 s4 wr => ∃ (q : Nat) (z : Int) (a : Option Addr) (c2 : Nat) (us : List Value) (ds : List (List Int)), s3 = .slice a q c2 ∧ s4 = .int .i64 z ∧ z + 1 + q = n ∧ -1 ≤ z ∧ (∀ r ∈ ds, r.length = 1 ∧ Low n r) ∧ OwR (OwS 2) wr w1.heap.size wr.heap.size 32 a q c2 us ds ∧ Below w1.heap.size w1 wr) (fun _ s4 _ => (intOf s4 + 1).toNat)
  case atStart => exact ⟨0, (n : Int) - 1, _, _, [], [], rfl, by go_num, by omega, by omega, (fun r hr => by simp at hr), HO.out, HB0.out⟩
  case round =>
    clear HO HB0 x1
    obtain ⟨q, z, a, c2, us, ds, rfl, rfl, hzq, hz, hds, ho, hb⟩ := hrel
    obtain ⟨wA, rfl⟩ : ∃ x, x = wr := ⟨_, rfl⟩
    have hzA := hb.size
    have HB := Lib.hid hb
    have HO := Lib.hid ho
    have HDS := Lib.hid hds
    clear ho hb hds
    by_cases hlt : 0 ≤ z
    · have kA := below_alloc1 wA (.cells #[.int .i64 z] 2)
      have hL : Own (wA.alloc (.cells #[.int .i64 z] 2)) wA.heap.size 2 (some ⟨wA.heap.size, 0, none⟩) 1 1 ([z].map (Value.int .i64)) := own_rowL (us := [.int .i64 z]) rfl rfl rfl (by simp)
      have HLt := Lib.hid hL
      have KA := Lib.hid kA
      have kB := below_alloc1 (wA.alloc (.cells #[.int .i64 z] 2)) (.cells #[.slice (some ⟨wA.heap.size, 0, none⟩) 1 1] 32)
      have KB := Lib.hid kB
      have HOB := Lib.hid ((HO.out.below (innerS _) kA).below (innerS _) kB)
      have HV := Lib.hid (vals_lit (w := wA.alloc (.cells #[.int .i64 z] 2)) (E := 32) (u := .slice (some ⟨wA.heap.size, 0, none⟩) 1 1) (g := wA.heap.size + 1) (by simp))
      have hzB := kA.size
      have hzC := kB.size
      clear hL kA kB
      go_wp2_with (at_builtin; refine wpList_apV etSS _ rfl _ _ rfl w1.heap.size a q c2 us rfl HOB.out.own (some ⟨wA.heap.size + 1, 0, none⟩) 1 1 [.slice (some ⟨wA.heap.size, 0, none⟩) 1 1] rfl HV.out (by intro u hu; simp at hu; subst hu; rfl) (by omega) (by omega) ?_; intro ao2 c2' w4 ho2 hg2 hat)
      have SP := Lib.hid (rows_push2 HO.out hzA KA.out HLt.out KB.out ho2 hg2 (hat.imp id fun e => ⟨_, e, hzC⟩))
      have HB4 := Lib.hid ((HB.out.trans ((KA.out.trans (KB.out.mono hzB)).mono hzA)).grown hg2 (by omega) (fun g e => (HO.out.own.lt g e).1))
      have hzw : IntKind.i64.wrap (z - 1) = z - 1 := IntWalk.i64_in _ (by omega)
      clear ho2 hg2 hat
      go_roundw
      case rel => exact ⟨q + 1, z - 1, ao2, c2', _, _, rfl, by go_num, by omega, by omega, (fun r hr => by
        rcases List.mem_append.1 hr with h1 | h1
        · exact HDS.out r h1
        · simp at h1; subst h1; exact ⟨rfl, fun x hx => by simp at hx; subst hx; omega⟩), SP.out, HB4.out⟩
      case measure => simp [intOf]; omega
    · have hqn : q = n := by omega
      subst hqn
      have x2 := (K1.out.belowS HB.out).cell 0
      simp at x2
      have hdl : ds.length = q := HO.out.len
      have hrow : ∀ k, k < q → (lget ds k).length = 1 ∧ Low q (lget ds k) := fun k hk => by rw [lget_lt (by omega)]; exact HDS.out _ (List.getElem_mem (by omega))
      have HRW := Lib.hid hrow
      clear hrow
      go_wp2_with fail
      refine (replace_any ao a q c q c2 N d ds wA (HD.out.below HB.out) (OwSS.rdc ⟨_, _, _, _, rfl, HO.out⟩) hT (fun k hk => (HRW.out k hk).2) (fun k hk => by rw [(HRW.out k hk).1]; omega) hn hn9 (by omega) hN hN9).mono ?_
      rintro e w4 ⟨v4, mb, r, L, rfl, o4, hr, sq4, hL1, hLN, b4⟩
      obtain ⟨a4, n4, c4, rfl⟩ := o4.form
      have z34 := b4.size
      have kA := below_alloc1 w4 (.cells #[.slice a4 n4 c4] 28)
      have K4 : Blk (w4.alloc (.cells #[.slice a4 n4 c4] 28)) w4.heap.size 28 #[.slice a4 n4 c4] := blk_at rfl
      have HB4 := Lib.hid (HB.out.trans (b4.mono hzA))
      have K5 := ((K3.out.belowS HB4.out)).alloc (.cells #[.slice a4 n4 c4] 28)
      have B5 := Lib.hid ((B1.out.trans (HB4.out.mono (by omega))).trans (kA.mono (by omega)))
      have O5 := Lib.hid (o4.below kA)
      clear b4 o4 kA x2
      go_upto_region 7 with fail
      generalize w4.alloc (.cells #[.slice a4 n4 c4] 28) = w5 at *
      have x4 := K4.cell 0
      have y4 := K5.cell 0
      have f4 := K5.frozen 0
      simp at x4 y4
      have hz5 := K4.lt
      have O6 := Lib.hid (O5.out.only (only_set w5 (w.heap.size + 1) 0 (.slice a4 n4 c4)) (.inr (by omega : w.heap.size + 1 + 1 ≤ wA.heap.size)))
      have B6 := Lib.hid (B5.out.setCell (p := ⟨w.heap.size + 1, 0, none⟩) (by simp) (.slice a4 n4 c4))
      have HZ6 := Lib.hid (show (w5.setCell ⟨w.heap.size + 1, 0, none⟩ (.slice a4 n4 c4)).heap.size = w5.heap.size by simp [World.setCell])
      clear O5 B5
      go_wp2_with fail
      refine bodyPost_ret (v := .agg #[.slice a4 n4 c4]) (by simp [results, Try.f120, go_sem, y4]) rfl ⟨_, r, L, rfl, O6.out.mono (by omega) (by rw [HZ6.out]; omega), hr, sq4, hL1, hLN, B6.out⟩
end Go.Proofs.Ytmdhljleaijkbaa

/- Draws of maniplexes: l02Colours, DoubleCover. guards: -/
namespace Go.Proofs.Ytmdhljleaijkbaa
open Go.RowKit

set_option maxRecDepth 100000 in
set_option maxHeartbeats 6400000 in
theorem colours_any (ao : Option Addr) (n c N : Nat) (d : List (List Int)) (w : World) (hd : RdSSc w (.slice ao n c) d) (hT : Leads d N) (hn : 1 ≤ n) (hn9 : n ≤ 1000) (hN9 : N ≤ 1000) (hN : 1 ≤ N) :
    Calls Try.prog 117 #[.agg #[.slice ao n c]] w fun e w' => ∃ v b, e = .returned (.tuple #[v, .bool b]) ∧ Below w.heap.size w w' := by
  have hdl := hd.intss.1
  have b1 := below_alloc1 w (.cells #[.slice ao n c] 28)
  have k1 : Blk (w.alloc (.cells #[.slice ao n c] 28)) w.heap.size 28 #[.slice ao n c] := blk_at rfl
  have hz1 : w.heap.size + 1 = (w.alloc (.cells #[.slice ao n c] 28)).heap.size := by simp
  have HD := Lib.hid (hd.below b1)
  have HT := Lib.hid hT
  clear hd hT
  go_enter Try.func117, Try.ntmps117
  go_upto_region 1 with fail
  generalize w.alloc (.cells #[.slice ao n c] 28) = w1 at *
  have x1 := k1.cell 0
  simp at x1
  have K1 := Lib.hid k1
  have B1 := Lib.hid b1
  clear k1 b1
  go_wp2_with fail
  refine (dist_any ao n c N 0 0 rfl d w1 HD.out HT.out hn hn9 hN9 (by omega)).mono ?_
  rintro e w2 ⟨a2, c2, L2, rfl, g2, b2⟩
  have HG2 := Lib.hid g2
  have HB2 := Lib.hid b2
  clear g2 b2 x1
  go_wp2_with fail
  go_loopw [5] (fun s5 wr => ∃ (k : Nat) (L : List Int), k ≤ N ∧ s5 = .int .i64 k ∧ Gd wr w1.heap.size a2 N c2 2000 L ∧ Below w1.heap.size w1 wr) (fun s5 _ => N - (intOf s5).toNat)
  case atStart => exact ⟨0, L2, Nat.zero_le _, rfl, HG2.out, HB2.out⟩
  case round =>
    clear HG2 HB2
    obtain ⟨k, L, hk, rfl, hg, hb⟩ := hrel
    by_cases hlt : k < N
    · obtain ⟨g, rfl, y1, y2, hcy, hfy, hg1, hg2⟩ := hg.cell hlt
      obtain ⟨v, hv⟩ : ∃ v, iget L k = v := ⟨_, rfl⟩
      rw [hv] at y1 y2 hcy
      obtain ⟨r, hr⟩ : ∃ r, v.tmod 2 = r := ⟨_, rfl⟩
      have hr2 : -1 ≤ r ∧ r < 2 := by
        rcases Int.lt_or_le v 0 with q | q
        · obtain rfl : v = -1 := by omega
          subst hr; exact ⟨by decide, by decide⟩
        · obtain ⟨x, rfl⟩ := Int.eq_ofNat_of_zero_le q
          have : (x : Int).tmod 2 = ((x % 2 : Nat) : Int) := rfl
          omega
      have hki : (k : Int) < (N : Int) := by omega
      obtain ⟨p1, p2⟩ := hg.put k (y := r) (by omega)
      have P1 := Lib.hid p1
      have B3 := Lib.hid (hb.grown p2 hb.size (fun g e => by injection e with e; omega))
      clear p1 p2 hg hb hv
      go_wp2_with fail
      go_roundw
      case rel => exact ⟨k + 1, _, by omega, by go_num, P1.out, B3.out⟩
      case measure => simp [intOf]; omega
    · obtain rfl : k = N := by omega
      have HG := Lib.hid hg
      have HB := Lib.hid hb
      clear hg hb
      go_wp2_with fail
      go_loopw [6] (fun s6 wr => ∃ f : Nat, f ≤ k ∧ s6 = .int .i64 f ∧ Gd wr w1.heap.size a2 k c2 2000 L ∧ Below w1.heap.size w1 wr) (fun s6 _ => k - (intOf s6).toNat)
      case atStart => exact ⟨0, Nat.zero_le _, rfl, HG.out, HB.out⟩
      case round =>
        clear HG HB
        obtain ⟨f, hf, rfl, hg, hb⟩ := hrel
        have HG := Lib.hid hg
        have HB := Lib.hid hb
        clear hg hb
        by_cases hltf : f < k
        · have hfi : (f : Int) < (k : Int) := by omega
          go_wp2_with fail
          go_loopw [7] (fun s7 wr => ∃ i : Nat, i ≤ n ∧ s7 = .int .i64 i ∧ Gd wr w1.heap.size a2 k c2 2000 L ∧ Below w1.heap.size w1 wr) (fun s7 _ => n - (intOf s7).toNat)
          case atStart => exact ⟨0, Nat.zero_le _, rfl, HG.out, HB.out⟩
          case round =>
            clear HG HB
            obtain ⟨i, hi, rfl, hg, hb⟩ := hrel
            have x1 := (K1.out.belowS hb).cell 0
            simp at x1
            by_cases hlti : i < n
            · have hii : (i : Int) < (n : Int) := by omega
              obtain ⟨b3, off3, a3, n3, c3, rfl, hc3, hi3⟩ := (HD.out.intss.below hb).at_ hlti
              have hn3 : n3 = k := by rw [← hi3.1]; exact HT.out.len i (by omega)
              subst hn3
              obtain ⟨b4, off4, rfl, hc4⟩ := hi3.at_ hltf
              have hy := bTo_lt HT.out hltf (g := i) (by omega)
              obtain ⟨y, hye⟩ : ∃ y, bTo d f i = y := ⟨_, rfl⟩
              rw [hy.2, hye] at hc4
              rw [hye] at hy
              have hyN := hy.1
              obtain ⟨g, rfl, -, -, hcf, -, -, -⟩ := hg.cell hltf
              obtain ⟨g', eg, -, -, hcy, -, -, -⟩ := hg.cell hyN
              injection eg with eg; injection eg with eg; subst eg
              have hyi : (y : Int) < (n3 : Int) := by omega
              have GD := Lib.hid hg
              have HB := Lib.hid hb
              clear hg hb hi3 hy hye
              obtain ⟨u, hu⟩ : ∃ u, iget L f = u := ⟨_, rfl⟩
              obtain ⟨v, hv⟩ : ∃ v, iget L y = v := ⟨_, rfl⟩
              rw [hu] at hcf
              rw [hv] at hcy
              clear hu hv
              cases hq : (v == u) with
              | true =>
                go_wp2_with fail
                go_quiet (fail)
                have BF := Lib.hid (below_drewN (B1.out.trans (HB.out.mono (by omega))) nq)
                go_wp2_with fail
                exact bodyPost_ret (v := .tuple #[.slice none 0 0, .bool false]) (by simp [results, Try.f117, go_sem]) rfl ⟨_, false, rfl, BF.out⟩
              | false =>
                go_wp2_with fail
                go_quiet (fail)
                go_wp2_with fail
                go_roundw
                case rel => exact ⟨i + 1, by omega, by go_num, (show Gd (wr.drewN nq) _ _ _ _ _ _ from GD.out), below_drewN HB.out nq⟩
                case measure => simp [intOf]; omega
            · obtain rfl : i = n := by omega
              have GD := Lib.hid hg
              have HB := Lib.hid hb
              clear hg hb
              go_wp2_with fail
              go_roundw
              case rel => exact ⟨f + 1, by omega, by go_num, GD.out, HB.out⟩
              case measure => simp [intOf]; omega
        · obtain rfl : f = k := by omega
          have BF := Lib.hid (B1.out.trans (HB.out.mono (by omega)))
          go_wp2_with fail
          exact bodyPost_ret (v := .tuple #[.slice a2 f c2, .bool true]) (by simp [results, Try.f117, go_sem]) rfl ⟨_, true, rfl, BF.out⟩
set_option maxRecDepth 100000 in
set_option maxHeartbeats 6400000 in
theorem double_any (ao : Option Addr) (n c : Nat) (d : List (List Int)) (w : World) (hd : RdSSc w (.slice ao n c) d) (fd : FewSS d) :
    Calls Try.prog 90 #[.agg #[.slice ao n c]] w fun e w' => ∃ a m cc k, e = .returned (.tuple #[.agg #[.slice a m cc], .int .i64 k]) ∧ (k = 0 → ∃ r N, OwM 2 32 w' w.heap.size w'.heap.size (.agg #[.slice a m cc]) r ∧ Sq r N ∧ r.length ≤ 5 ∧ N ≤ 400) ∧ Below w.heap.size w w' := by
  have b1 := below_alloc2 w (.cells #[.slice ao n c] 28) (.cells #[.slice none 0 0] 28)
  have k1 : Blk ((w.alloc (.cells #[.slice ao n c] 28)).alloc (.cells #[.slice none 0 0] 28)) w.heap.size 28 #[.slice ao n c] := (blk_at rfl).alloc _
  have k3 : Blk ((w.alloc (.cells #[.slice ao n c] 28)).alloc (.cells #[.slice none 0 0] 28)) (w.heap.size + 1) 28 #[.slice none 0 0] := blk_at (by simp)
  have hz1 : w.heap.size + 2 = ((w.alloc (.cells #[.slice ao n c] 28)).alloc (.cells #[.slice none 0 0] 28)).heap.size := by simp
  have HD := Lib.hid (hd.below b1)
  have hdl := hd.intss.1
  have FD := Lib.hid fd
  clear hd fd
  go_enter Try.func90, Try.ntmps90
  go_upto_region 1 with fail
  generalize (w.alloc (.cells #[.slice ao n c] 28)).alloc (.cells #[.slice none 0 0] 28) = w1 at *
  have x1 := k1.cell 0
  simp at x1
  have K1 := Lib.hid k1
  have K3 := Lib.hid k3
  have B1 := Lib.hid b1
  clear k1 k3 b1
  go_wp2_with fail
  refine (specManC HD.out FD.out).mono ?_
  rintro e w2 ⟨rfl, b2⟩
  have B2 := Lib.hid (B1.out.trans (b2.mono (by omega)))
  have HB2 := Lib.hid b2
  have hz2 := b2.size
  have K3' := K3.out.belowS b2
  have x3 := K3'.cell 0
  have f3 := K3'.frozen 0
  simp at x3
  clear b2 x1
  cases hman : manB d with
  | false =>
    have HBs := Lib.hid (B2.out.setCell (p := ⟨w.heap.size + 1, 0, none⟩) (by simp) (.slice none 0 0))
    go_wp2_with fail
    exact bodyPost_ret (v := .tuple #[.agg #[.slice none 0 0], .int .i64 1]) (by simp [results, Try.f90, go_sem, x3]) rfl ⟨_, _, _, 1, rfl, (fun h => by omega), HBs.out⟩
  | true =>
    have hM := manB_iff.1 hman
    have hT := man_leads hM
    have hN2 := hM.f2
    have hN4 := hM.f4
    have hn1 := hM.n1
    have hn5 := hM.n5
    obtain ⟨N, hN⟩ : ∃ N, flg d = N := ⟨_, rfl⟩
    rw [hN] at hT
    have hN2 : 2 ≤ N := by rw [← hN]; exact hN2
    have hN4 : N ≤ 400 := by rw [← hN]; exact hN4
    have hl0 : (lget d 0).length = N := hN
    have HT := Lib.hid hT
    have HD2 := Lib.hid (HD.out.below HB2.out)
    have x2 := (K1.out.belowS HB2.out).cell 0
    simp at x2
    clear hman hM hT hN
    go_wp2_with fail
    refine (colours_any ao n c N d w2 HD2.out HT.out (by omega) (by omega) (by omega) (by omega)).mono ?_
    rintro e w3 ⟨v3, bb, rfl, b3⟩
    have B3 := Lib.hid (B2.out.trans (b3.mono (by omega)))
    have HB3 := Lib.hid (HB2.out.trans (b3.mono hz2))
    have HD3 := Lib.hid (HD2.out.below b3)
    have hz3 := HB3.out.size
    have K33 := K3.out.belowS HB3.out
    have K13 := K1.out.belowS HB3.out
    have x3' := K33.cell 0
    have f3' := K33.frozen 0
    have x13 := K13.cell 0
    simp at x3' x13
    clear b3 x3 f3 x2 HD2 K3'
    cases bb with
    | true =>
      have HBs := Lib.hid (B3.out.setCell (p := ⟨w.heap.size + 1, 0, none⟩) (by simp) (.slice none 0 0))
      go_wp2_with fail
      exact bodyPost_ret (v := .tuple #[.agg #[.slice none 0 0], .int .i64 5]) (by simp [results, Try.f90, go_sem, x3']) rfl ⟨_, _, _, 5, rfl, (fun h => by omega), HBs.out⟩
    | false =>
      go_wp2_with fail
      refine (flagsS_any ao n c N d w3 HD3.out.rd (by omega) hl0 (by omega)).mono ?_
      rintro e w4 ⟨rfl, b4⟩
      have B4 := Lib.hid (B3.out.trans (b4.mono (by omega)))
      have HB4 := Lib.hid (HB3.out.trans (b4.mono hz3))
      have HD4 := Lib.hid (HD3.out.below b4)
      have hz4 := HB4.out.size
      clear b4 x3' f3' x13 HD3 K33 K13
      by_cases hbig : 200 < N
      · have hbi : (200 : Int) < (N : Int) := by omega
        have K34 := K3.out.belowS HB4.out
        have x34 := K34.cell 0
        have f34 := K34.frozen 0
        simp at x34
        have HBs := Lib.hid (B4.out.setCell (p := ⟨w.heap.size + 1, 0, none⟩) (by simp) (.slice none 0 0))
        go_wp2_with fail
        exact bodyPost_ret (v := .tuple #[.agg #[.slice none 0 0], .int .i64 3]) (by simp [results, Try.f90, go_sem, x34]) rfl ⟨_, _, _, 3, rfl, (fun h => by omega), HBs.out⟩
      · have hbi : ¬ (200 : Int) < (N : Int) := by omega
        obtain ⟨wB, rfl⟩ : ∃ x, x = w4 := ⟨_, rfl⟩
        have b7 := (Below.refl wB.heap.size wB).alloc (Nat.le_refl _) (.cells #[.slice none 0 0] 28)
        have ST := Lib.hid (MBx.start (w := wB) b7 (Blk.new wB 28 #[.slice none 0 0]) (Nat.le_refl _))
        have hz7 : wB.heap.size < (wB.alloc (.cells #[.slice none 0 0] 28)).heap.size := by simp
        clear b7
        go_upto_region 9 with fail
        generalize wB.alloc (.cells #[.slice none 0 0] 28) = w7 at *
        obtain ⟨bx, hbx⟩ : ∃ bx, wB.heap.size = bx := ⟨_, rfl⟩
        have HBX := Lib.hid hbx
        rw [hbx] at ST hz7 ⊢
        clear hbx
        go_wp2_with fail
        go_loopw [7] (fun kv wr => ∃ (q : Nat) (am : Option Addr) (cm : Nat) (us : List Value) (ds : List (List Int)), kv = .int .i64 q ∧ q ≤ n ∧ Sq ds (2 * N) ∧ MBx wB wr bx (bx + 1) am q cm us ds) (fun kv _ => n - (intOf kv).toNat)
        case atStart => exact ⟨0, none, 0, [], [], rfl, Nat.zero_le _, sq_nil _, ST.out⟩
        case round =>
          clear ST hz7
          obtain ⟨q, am, cm, um, ds, rfl, hq, hds, st⟩ := hrel
          obtain ⟨wA, rfl⟩ : ∃ x, x = wr := ⟨_, rfl⟩
          have ST := Lib.hid st
          have hbw := Lib.hid st.bel
          have hzr := hbw.out.size
          have HBA := Lib.hid (HB4.out.trans (hbw.out.mono hz4))
          have y1 := (K1.out.belowS HBA.out).cell 0
          simp at y1
          by_cases hltq : q < n
          · have hqi : (q : Int) < (n : Int) := by omega
            have HDS := Lib.hid hds
            have E0 := Lib.hid (Gl.empty_ wA wA.heap.size (2 * N) (Nat.le_refl _) rfl)
            have hbA := below_alloc1 wA (.cells #[] 2)
            have HBE := Lib.hid hbA
            clear st hds hbA
            go_wp2_with fail
            go_loopw [8, 9] (fun sv iv w8 => ∃ (f : Nat) (a : Option Addr) (cc : Nat), f ≤ 2 * N ∧ sv = .slice a f cc ∧ iv = .int .i64 f ∧ Gl w8 wA.heap.size a f cc (2 * N) ∧ Below wA.heap.size wA w8) (fun _ iv _ => 2 * N - (intOf iv).toNat)
            case atStart => exact ⟨0, _, _, Nat.zero_le _, rfl, rfl, E0.out, HBE.out⟩
            case round =>
              clear E0 HBE y1
              obtain ⟨f, a, cc, hf, rfl, rfl, hg, hb8⟩ := hrel
              have hz8 := hb8.size
              have HB8 := Lib.hid hb8
              have HG8 := Lib.hid hg
              have HBW := Lib.hid (HBA.out.trans (hb8.mono (by omega)))
              have y1 := (K1.out.belowS HBW.out).cell 0
              simp at y1
              have HDW := Lib.hid (HD.out.below HBW.out)
              clear hb8 hg
              go_wp2_with fail
              refine (flagsS_any ao n c N d wr HDW.out.rd (by omega) hl0 (by omega)).mono ?_
              rintro e w9 ⟨rfl, b9⟩
              have HB9 := Lib.hid (HB8.out.trans (b9.mono hz8))
              have HG9 := Lib.hid (HG8.out.below b9)
              have HBW9 := Lib.hid (HBW.out.trans (b9.mono HBW.out.size))
              have hz9 := HB9.out.size
              have hNw : IntKind.i64.wrap (2 * (N : Int)) = 2 * (N : Int) := IntWalk.i64_in _ (by omega)
              clear y1 HBW HG8 HB8 b9
              by_cases hltf : f < 2 * N
              · have hfi : (f : Int) < 2 * (N : Int) := by omega
                have y2 := (K1.out.belowS HBW9.out).cell 0
                simp at y2
                obtain ⟨h, hh⟩ : ∃ h, f / 2 = h := ⟨_, rfl⟩
                obtain ⟨t, ht⟩ : ∃ t, f % 2 = t := ⟨_, rfl⟩
                have hhN : h < N := by omega
                have ht2 : t < 2 := by omega
                have e1 : (f : Int).tdiv 2 = (h : Int) := by rw [← hh]; rfl
                have e2 : (f : Int).tmod 2 = (t : Int) := by rw [← ht]; rfl
                obtain ⟨b3, off3, a3, n3, c3, rfl, hc3, hi3⟩ := (HD.out.intss.below HBW9.out).at_ hltq
                have hn3 : n3 = N := by rw [← hi3.1]; exact HT.out.len q (by omega)
                subst hn3
                obtain ⟨b4, off4, rfl, hc4⟩ := hi3.at_ hhN
                have hy := bTo_lt HT.out hhN (g := q) (by omega)
                obtain ⟨y, hye⟩ : ∃ y, bTo d h q = y := ⟨_, rfl⟩
                rw [hy.2, hye] at hc4
                rw [hye] at hy
                have hyN := hy.1
                have hhi : (h : Int) < (n3 : Int) := by omega
                have e3 : IntKind.i64.wrap (2 * (y : Int)) = 2 * (y : Int) := IntWalk.i64_in _ (by omega)
                have e4 : IntKind.i64.wrap (2 * (y : Int) + 1) = 2 * (y : Int) + 1 := IntWalk.i64_in _ (by omega)
                have e5 : IntKind.i64.wrap (2 * (y : Int) + 1 - (t : Int)) = 2 * (y : Int) + 1 - (t : Int) := IntWalk.i64_in _ (by omega)
                obtain ⟨zs, z1, z2, z3⟩ := HG9.out
                have Q3 := Lib.hid z3
                clear z3 hi3 hy hye hh ht
                go_wp2_with (at_builtin; refine wpList_ap1 etI _ rfl _ _ rfl wA.heap.size a f cc _ rfl Q3.out _ rfl rfl (by omega) hz9 ?_; intro a7 c7 w7 q7 g7 hat7)
                have Q7 := Lib.hid (Gl.app z1 z2 q7 (show 0 ≤ 2 * (y : Int) + 1 - (t : Int) ∧ 2 * (y : Int) + 1 - (t : Int) < ((2 * n3 : Nat) : Int) by omega))
                have B7 := Lib.hid (HB9.out.grown g7 hz9 (fun g e => (Q3.out.lt g e).1))
                clear q7 g7 hat7
                go_roundw
                case rel => exact ⟨f + 1, a7, c7, by omega, rfl, by go_num, Q7.out, B7.out⟩
                case measure => simp [intOf]; omega
              · obtain rfl : f = 2 * N := by omega
                have hfi : ¬ ((2 * N : Nat) : Int) < 2 * (N : Int) := by omega
                have hfi' : ¬ (2 * (N : Int)) < 2 * (N : Int) := by omega
                have STB := Lib.hid (ST.out.below HB9.out)
                obtain ⟨zs, n8, m8, o8⟩ := HG9.out
                have HO8 := Lib.hid o8
                have xb := STB.out.cell
                have hlo8 := STB.out.at_.2.2
                clear o8
                go_wp2_with (at_builtin; refine wpList_ap1 etSS _ rfl _ _ rfl (bx + 1) am q cm _ rfl STB.out.row.own (.slice a (2 * N) cc) rfl rfl (by omega) hlo8 ?_; intro ao2 c2' w4 ho2 hg2 hat; have x4 := (STB.out.boxG hg2).cell 0; have f4 := (STB.out.boxG hg2).frozen 0)
                have SP := Lib.hid (ST.out.push (by omega) HB9.out HO8.out (Below.refl _ _) ho2 hg2 (hat.imp id fun e => ⟨_, e, Nat.le_succ _⟩))
                clear ho2 hg2 hat STB ST
                go_roundw
                case rel => exact ⟨q + 1, ao2, c2', _, _, by go_num, by omega, HDS.out.app n8 m8, SP.out⟩
                case measure => simp [intOf]; omega
          · obtain rfl : q = n := by omega
            have xb := st.cell
            have KRr := K3.out.belowS HBA.out
            have xr := KRr.cell 0
            have fr := KRr.frozen 0
            have BF := Lib.hid (B4.out.trans (hbw.out.mono (by omega)))
            have hwb : w.heap.size ≤ wB.heap.size := by omega
            simp at xr
            have hrl : ds.length = q := st.row.len
            clear st
            go_wp2
            have hfl : w.heap.size + 1 < bx := by rw [← HBX.out]; omega
            exact bodyPost_ret (v := .tuple #[.agg #[.slice am q cm], .int .i64 0]) (by simp [results, Try.f90, go_sem, xr]) rfl ⟨_, _, _, 0, rfl, (fun _ => ⟨ds, 2 * N, ST.out.done hfl _ hwb, hds, by omega, by omega⟩), BF.out.setCell (by simp) _⟩
end Go.Proofs.Ytmdhljleaijkbaa

/- A queue: a slice whose front may have been cut off; append behind it. No program in sight. -/
namespace Go.Proofs.Ytmdhljleaijkbaa
open Go.RowKit

/-- the slice reads as xs, in a block of the call's own, with room up to c -/
def Que (w : World) (lo E : Nat) (ao : Option Addr) (n c : Nat) (xs : List Value) : Prop :=
  xs.length = n ∧ n ≤ c ∧ c ≤ maxLen ∧ (0 < c → ∃ g off cs, ao = some ⟨g, off, none⟩ ∧ lo ≤ g ∧ w.heap[g]? = some (.cells cs E (0, 0)) ∧ off + c ≤ cs.size ∧ ∀ j, j < n → cs[off + j]? = xs[j]?)
section
variable {w w' : World} {lo E n c : Nat} {ao : Option Addr} {xs : List Value}
theorem Own.que (h : Own w lo E ao n c xs) (hn : 0 < n) : Que w lo E ao n c xs := by
  have hl := h.len
  rcases h.1.2 with ⟨_, h0⟩ | ⟨g, cap, cur, hv, hb, hh, hnc, hcm, hs, ht⟩
  · omega
  · injection hv with h1 h2 h3
    subst h1 h3
    refine ⟨hl, hnc, hcm, fun _ => ⟨g, 0, cur, rfl, hb, hh, by omega, fun j hj => ?_⟩⟩
    rw [Nat.mul_one] at ht
    rw [Nat.zero_add, ← ht, List.getElem?_take_of_lt hj]; simp
theorem Que.same (h : Que w lo E ao n c xs) (hs : ∀ g, bk ao = some g → w'.heap[g]? = w.heap[g]?) : Que w' lo E ao n c xs := by
  obtain ⟨h1, h2, h3, h4⟩ := h
  refine ⟨h1, h2, h3, fun hc => ?_⟩
  obtain ⟨g, off, cs, rfl, hg, hh, hfit, hcell⟩ := h4 hc
  exact ⟨g, off, cs, rfl, hg, (hs g rfl).trans hh, hfit, hcell⟩
theorem Que.lt (h : Que w lo E ao n c xs) (hc : 0 < c) : ∀ g, bk ao = some g → lo ≤ g ∧ g < w.heap.size := fun g hg => by
  obtain ⟨g', off, cs, rfl, h1, hh, _⟩ := h.2.2.2 hc
  obtain rfl := Option.some.inj hg
  exact ⟨h1, (Array.getElem?_eq_some_iff.1 hh).1⟩
theorem Que.below (h : Que w lo E ao n c xs) (hb : Below w.heap.size w w') : Que w' lo E ao n c xs := by
  obtain ⟨h1, h2, h3, h4⟩ := h
  refine ⟨h1, h2, h3, fun hc => ?_⟩
  obtain ⟨g, off, cs, rfl, hg, hh, hfit, hcell⟩ := h4 hc
  exact ⟨g, off, cs, rfl, hg, (hb.block g (Array.getElem?_eq_some_iff.1 hh).1).trans hh, hfit, hcell⟩
theorem Que.head (h : Que w lo E ao n c xs) (hn : 0 < n) : ∃ g off u, ao = some ⟨g, off, none⟩ ∧ xs[0]? = some u ∧ w.cell? ⟨g, off, none⟩ = some u ∧ lo ≤ g ∧ g < w.heap.size := by
  obtain ⟨h1, h2, h3, h4⟩ := h
  obtain ⟨g, off, cs, rfl, hg, hh, hfit, hcell⟩ := h4 (by omega)
  have h0 : xs[0]? = some xs[0] := List.getElem?_eq_getElem (by omega)
  refine ⟨g, off, xs[0], rfl, h0, ?_, hg, (Array.getElem?_eq_some_iff.1 hh).1⟩
  rw [cell_of_row w g off cs E (0, 0) hh]
  have := hcell 0 hn
  rw [Nat.add_zero] at this
  rw [this, h0]
/-- the front is cut off -/
theorem Que.tail {g off : Nat} (h : Que w lo E (some ⟨g, off, none⟩) (n + 1) c xs) : Que w lo E (some ⟨g, off + 1, none⟩) n (c - 1) (xs.drop 1) := by
  obtain ⟨h1, h2, h3, h4⟩ := h
  refine ⟨by simp; omega, by omega, by omega, fun hc => ?_⟩
  obtain ⟨g', off', cs, e, hg, hh, hfit, hcell⟩ := h4 (by omega)
  injection e with e; injection e with e1 e2; subst e1 e2
  refine ⟨g, off + 1, cs, rfl, hg, hh, by omega, fun j hj => ?_⟩
  have := hcell (j + 1) (by omega)
  rw [show off + 1 + j = off + (j + 1) by omega, this, List.getElem?_drop, Nat.add_comm]
theorem Que.tail0 {g off : Nat} {bo : Option Addr} (h : Que w lo E (some ⟨g, off, none⟩) (n + 1) c xs) (hc : c = 1) : Que w lo E bo n 0 (xs.drop 1) ∧ n = 0 := by
  obtain ⟨h1, h2, h3, h4⟩ := h
  exact ⟨⟨by simp; omega, by omega, by omega, fun hc => absurd hc (by omega)⟩, by omega⟩
end
section
variable {P : Program} {ops : Array Oper} {rest : List Oper} {o : Oper} {a : Act} {Q : Exit → Act → World → Prop}
/-- append(s, x) of one element behind a queue's front; x lies in a block of its own, just laid -/
theorem wpList_apQ {S E : TypeId} {z : Value} {bytes : Nat} (et : ET P S E z bytes) (w : World) (hg : o.guard = none) (s x : Operand) (ho : o.op = .call { callee := .builtin .append, args := #[s, x], argTypes := #[S, S] })
    (lo : Nat) (ao : Option Addr) (n c : Nat) (xs : List Value) (hs : a.eval s = .slice ao n c) (hq : Que w lo E ao n c xs) (hn0 : 0 < n) (u : Value)
    (hx : a.eval x = .slice (some ⟨w.heap.size, 0, none⟩) 1 1) (hu : u.oneCell' = true) (hn : n + 1 ≤ 4398046511104) (hlo : lo ≤ w.heap.size)
    (hK : ∀ ao' c' w', Que w' lo E ao' (n + 1) c' (xs ++ [u]) → w.grownBy w' (bk ao) → (bk ao' = bk ao ∨ bk ao' = some (w.heap.size + 1)) → wpList P ops Q rest (a.put o.dst (.slice ao' (n + 1) c')) w') :
    wpList P ops Q (o :: rest) a (w.alloc (.cells #[u] E)) := by
  obtain ⟨i, hi, hz, hsz, hby⟩ := info_parts et.info
  obtain ⟨h1, h2, h3, h4⟩ := hq
  obtain ⟨g, off, cs, rfl, hgl, hh, hfit, hcell⟩ := h4 (by omega)
  have hlt : g < w.heap.size := (Array.getElem?_eq_some_iff.1 hh).1
  have hh' : (w.alloc (.cells #[u] E)).heap[g]? = some (.cells cs E (0, 0)) := (Below.heap_alloc w _ g hlt).trans hh
  have hsz' : (w.alloc (.cells #[u] E)).heap.size = w.heap.size + 1 := by simp
  have hnew : ∀ j v, [u][j]? = some v → (w.alloc (.cells #[u] E)).cell? ((⟨w.heap.size, 0, none⟩ : Addr).add j) = some v := fun j v hv => by
    match j, hv with
    | 0, hv => simp at hv; subst hv; simp [Addr.add]
  have h1c : ∀ v ∈ [u], v.oneCell' = true := fun v hv => by simp at hv; subst hv; exact hu
  have hsmall : (n + 1) * i.bytes ≤ 140737488355328 := by
    have := et.small
    have h5 : (n + 1) * i.bytes ≤ (n + 1) * 32 := Nat.mul_le_mul_left _ (by omega)
    omega
  refine wpList_plain hg fun K' hK' => ?_
  unfold Oper.wp execOp
  simp only [ho, resolve, invoke, builtin, Sem.run_bind, Sem.run_pure, Result.andThen_ok, List.map_toArray, List.map_cons, List.map_nil, hs, hx]
  by_cases hroom : n + 1 ≤ c
  · have hr := run_append_at (P := P) (ty := o.type) (w.alloc (.cells #[u] E)) S E i et.und hi g off n c cs hh' ⟨w.heap.size, 0, none⟩ 1 1 [u] (by simp [hsz]) hnew h1c hroom (by rw [hsz]; simp; omega)
    rw [hr]
    refine hK' _ _ (hK _ _ _ ?_ ?_ (.inl rfl))
    · refine ⟨by simp; omega, hroom, h3, fun _ => ⟨g, off, _, rfl, hgl, setRow_heap _ g cs _ E _ hh', ?_, fun j hj => ?_⟩⟩
      · simp [hsz]; omega
      · have htl : (cs.toList.take (off + n)).length = off + n := by simp; omega
        rw [hsz, Nat.mul_one]
        simp only [List.getElem?_toArray]
        by_cases hjn : j < n
        · rw [List.append_assoc, List.getElem?_append_left (by rw [htl]; omega), List.getElem?_take, if_pos (by omega), List.getElem?_append_left (by omega)]
          have := hcell j hjn
          simpa using this
        · obtain rfl : j = n := by omega
          rw [List.getElem?_append_left (by simp; omega), List.getElem?_append_right (by rw [htl]; omega), htl, List.getElem?_append_right (by omega), h1]
          simp
    · refine ⟨rfl, rfl, rfl, by simp, fun k hk hne => ?_⟩
      rw [setRow_other _ g k _ (fun e => hne (by rw [e]; rfl))]
      exact Below.heap_alloc w _ k hk
  · have holds : ∀ j v, xs[j]? = some v → (w.alloc (.cells #[u] E)).cell? ((⟨g, off, none⟩ : Addr).add j) = some v := fun j v hv => by
      have hj : j < n := by have := (List.getElem?_eq_some_iff.1 hv).1; omega
      rw [Addr.add_lit, cell_of_row _ g _ cs E (0, 0) hh', hcell j hj, hv]
    have hr := run_append_grow (P := P) (ty := o.type) (w.alloc (.cells #[u] E)) S E i z et.und hi hz ⟨g, off, none⟩ n c xs (by rw [hsz]; omega) holds ⟨w.heap.size, 0, none⟩ 1 1 [u] (by simp [hsz]) hnew (by omega) (by omega) (growslice_fits (by omega) hsmall)
    rw [hr]
    have hcap := grownCap_ge (w.alloc (.cells #[u] E)) (n + 1) c E
    have hcm := grownCap_le_maxLen (w.alloc (.cells #[u] E)) (n + 1) c E (by simp [maxLen]; omega)
    refine hK' _ _ (hK _ _ _ ?_ ?_ (.inr (by simp [bk])))
    · refine ⟨by simp; omega, hcap, hcm, fun _ => ⟨(w.alloc (.cells #[u] E)).heap.size, 0, xs.toArray ++ [u].toArray ++ Builtin.zeroCells z.cells (grownCap (w.alloc (.cells #[u] E)) (n + 1) c E - (n + 1)), rfl, by rw [hsz']; omega, ?_, ?_, fun j hj => ?_⟩⟩
      · exact heap_alloc_new _ _
      · have h5 : (Builtin.zeroCells z.cells (grownCap (w.alloc (.cells #[u] E)) (n + 1) c E - (n + 1))).size = grownCap (w.alloc (.cells #[u] E)) (n + 1) c E - (n + 1) := by
          rw [size_zeroCells, et.one]; simp
        simp [h5]; omega
      · rw [Nat.zero_add, Array.getElem?_append_left (by simp; omega)]
        simp [← List.getElem?_toArray]
    · refine ⟨rfl, rfl, rfl, by simp; omega, fun k hk _ => ?_⟩
      rw [Below.heap_alloc _ _ k (by show k < (w.alloc (.cells #[u] E)).heap.size; omega)]
      exact Below.heap_alloc w _ k hk
end
end Go.Proofs.Ytmdhljleaijkbaa

/- Coverings of maniplexes, the program's coveringTo. -/
namespace Go.Proofs.Ytmdhljleaijkbaa
open Go.RowKit

def isNg : Value → Bool
  | .int _ z => decide (z < 0)
  | _ => false
/-- how many of the first N cells of a block are negative -/
def negs (W : World) (g N : Nat) : Nat := match W.heap[g]? with
  | some (.cells cs _ _) => ((cs.toList.take N).filter isNg).length
  | _ => 0
def slN : Value → Nat
  | .slice _ n _ => n
  | _ => 0
theorem unl_map (L : List Int) : ((L.map (Value.int .i64)).filter isNg).length = unl L := by
  unfold unl
  rw [List.filter_map, List.length_map]
  rfl
theorem negs_own {w : World} {lo E g n c : Nat} {L : List Int} (h : Own w lo E (some ⟨g, 0, none⟩) n c (L.map (Value.int .i64))) : negs w g n = unl L := by
  rcases h.1.2 with ⟨h2, _⟩ | ⟨g', cap, cur, hv, _, hh, _, _, _, ht⟩
  · cases h2
  · injection hv with h1
    injection h1 with h1
    injection h1 with h1
    subst h1
    unfold negs
    rw [hh]
    rw [Nat.mul_one] at ht
    show ((cur.toList.take n).filter isNg).length = _
    rw [ht, unl_map]
theorem repL_rep (n : Nat) (z : Int) : repL [z] n = List.replicate n z := by
  induction n with
  | zero => rfl
  | succ n ih => rw [repL_add, ih, repL_one, List.replicate_succ']
theorem unl_start {N : Nat} (f : Nat) (h : 0 < N) : unl ((List.replicate N (-1)).set 0 (f : Int)) + 1 = N := by
  rw [unl_set (by simpa using h) (by rw [iget_rep h]; omega) (by omega)]
  unfold unl
  rw [List.filter_eq_self.2 (fun z hz => by have := List.eq_of_mem_replicate hz; subst this; rfl), List.length_replicate]
/-- what coveringTo answers -/
def CvAns (w : World) (N : Nat) (R : Option (List Int)) (e : Ending) (w' : World) : Prop :=
  ∃ (a : Option Addr) (n c : Nat), e = .returned (.slice a n c) ∧ (R = none → a = none ∧ n = 0 ∧ c = 0) ∧ (∀ p, R = some p → n = N ∧ (∃ g, a = some ⟨g, 0, none⟩) ∧ Own w' w.heap.size 2 a N c (p.map (Value.int .i64))) ∧ Below w.heap.size w w'
set_option maxRecDepth 100000 in
set_option maxHeartbeats 6400000 in
theorem coveringTo_any (ao bo : Option Addr) (n c m c' f N K : Nat) (d e : List (List Int)) (w : World) (hd : Intss w ao n d) (he : Intss w bo m e) (hM : Man d) (hE : Man e) (hN : flg d = N) (hK : flg e = K) (hf : f < K) :
    Calls Try.prog 96 #[.agg #[.slice ao n c], .agg #[.slice bo m c'], .int .i64 f] w (CvAns w N (covO d e f)) := by
  obtain ⟨R, hR⟩ : ∃ R, covO d e f = R := ⟨_, rfl⟩
  rw [hR]
  have HR := Lib.hid hR
  have HD := Lib.hid hd
  have HE := Lib.hid he
  have HM := Lib.hid hM
  have HEM := Lib.hid hE
  have HN := Lib.hid hN
  have HK := Lib.hid hK
  have hdl := hd.1
  have hel := he.1
  have hd1 := hM.n1
  have hd5 := hM.n5
  have he1 := hE.n1
  have he5 := hE.n5
  have hN2 : 2 ≤ N := by rw [← hN]; exact hM.f2
  have hN4 : N ≤ 400 := by rw [← hN]; exact hM.f4
  have hK4 : K ≤ 400 := by rw [← hK]; exact hE.f4
  clear hR hd he hM hE hN hK
  have b0 := below_alloc2 w (.cells #[.slice ao n c] 28) (.cells #[.slice bo m c'] 28)
  have km : Blk ((w.alloc (.cells #[.slice ao n c] 28)).alloc (.cells #[.slice bo m c'] 28)) w.heap.size 28 #[.slice ao n c] := (blk_at rfl).alloc _
  have kk : Blk ((w.alloc (.cells #[.slice ao n c] 28)).alloc (.cells #[.slice bo m c'] 28)) (w.heap.size + 1) 28 #[.slice bo m c'] := blk_at (by simp)
  have HD1 := Lib.hid (HD.out.below b0)
  have HE1 := Lib.hid (HE.out.below b0)
  go_enter Try.func96, Try.ntmps96
  go_upto_region 1 with fail
  generalize (w.alloc (.cells #[.slice ao n c] 28)).alloc (.cells #[.slice bo m c'] 28) = w1 at *
  have KM := Lib.hid km
  have KK := Lib.hid kk
  have hz1 := b0.size
  by_cases hrk : n = m
  · subst hrk
    have hbeq : ((n : Int) != (n : Int)) = false := by simp
    go_wp2_with (first | (go_at_call 69; first | (refine (rankM_any _ n c ao w1 KM.out).mono ?_; rintro e' w' ⟨rfl, hw⟩; subst hw) | (refine (rankM_any _ n c' bo w1 KK.out).mono ?_; rintro e' w' ⟨rfl, hw⟩; subst hw)))
    have b2 := below_alloc1 w1 (.cells #[.int .i64 (-1)] 2)
    have HI2 := Lib.hid (show Ints (w1.alloc (.cells #[.int .i64 (-1)] 2)) (some ⟨w1.heap.size, 0, none⟩) 1 [-1] from Own.ints (zs := [-1]) (own_lit (us := [.int .i64 (-1)]) rfl (Nat.le_refl _) (by simp)))
    have KM2 := Lib.hid (KM.out.belowS b2)
    have KK2 := Lib.hid (KK.out.belowS b2)
    have HD2 := Lib.hid (HD1.out.below b2)
    have HE2 := Lib.hid (HE1.out.below b2)
    have B2 := Lib.hid (b0.trans (b2.mono hz1))
    clear b0 b2 km kk KM KK HD1 HE1
    go_wp2_with fail
    generalize w1.alloc (.cells #[.int .i64 (-1)] 2) = w2 at *
    refine (flagsI_any _ ao n c N d w2 KM2.out ⟨ao, n, c, rfl, HD2.out⟩ (by omega) HN.out (by omega)).mono ?_
    rintro e' w' ⟨rfl, hw⟩
    subst hw
    go_wp2_with fail
    refine (repeat_any _ 1 1 N [-1] w2 HI2.out (by omega) (by omega) (by omega) (by omega)).mono ?_
    rintro e' w3 ⟨ga, gc, rfl, o3, b3⟩
    rw [Nat.one_mul, repL_rep] at o3
    obtain ⟨gl, rfl, hglb, hgll, -, hcell3, hfr3⟩ := o3.form (by omega)
    have hz2 := B2.out.size
    have x0 : w3.cell? ⟨gl, 0, none⟩ = some (.int .i64 (-1)) := by rw [hcell3 0 (by omega), List.getElem?_map, List.getElem?_replicate, if_pos (by omega)]; rfl
    have f0 := hfr3 0
    obtain ⟨st, sg⟩ := o3.stored 0 (.int .i64 (f : Int))
    have B4 := Lib.hid (b3.grown sg b3.size (fun g e => by injection e with e; omega))
    have HS := Lib.hid (CvS.start (f := f) HM.out (by rw [HK.out]; exact hf))
    have O4 := Lib.hid (show Own (w3.setCell ⟨gl, 0, none⟩ (.int .i64 (f : Int))) w2.heap.size 2 (some ⟨gl, 0, none⟩) N gc (((List.replicate (flg d) (-1)).set 0 (f : Int)).map (Value.int .i64)) from by
      rw [HN.out, List.map_set]
      simpa using st)
    clear st sg o3 b3 hcell3 hfr3
    have hN1 : 0 < N := by omega
    rw [Nat.one_mul]
    go_upto_region 5 with fail
    generalize w3.setCell ⟨gl, 0, none⟩ (.int .i64 (f : Int)) = w4 at *
    clear x0 f0
    have hz4 := B4.out.size
    have b5 := below_alloc1 w4 (.cells #[.int .i64 0] 2)
    have hQ := (own_lit (w := w4) (base := w4.heap.size) (E := 2) (us := [.int .i64 0]) rfl (Nat.le_refl _) (by simp)).que (by simp)
    have Q5 := Lib.hid hQ
    have O5 := Lib.hid (O4.out.below b5)
    have B5 := Lib.hid (B4.out.trans (b5.mono hz4))
    have hgl4 : gl < w4.heap.size := (O4.out.lt gl rfl).2
    obtain ⟨lq, hlq⟩ : ∃ lq, w4.heap.size = lq := ⟨_, rfl⟩
    have HLQ := Lib.hid hlq
    clear b5 B4 O4 hQ
    go_wp2_with fail
    generalize w4.alloc (.cells #[.int .i64 0] 2) = w5 at *
    rw [hlq] at Q5 hgl4
    have hz5 := B5.out.size
    have hlq5 : lq ≤ w5.heap.size := by exact Nat.le_of_lt (Q5.out.lt Nat.zero_lt_one lq rfl).2
    clear hlq
    go_loopw [8] (fun qv wr => ∃ (qn qc : Nat) (qa : Option Addr) (L O : List Int), qv = .slice qa qn qc ∧ CvS d e f L O ∧ Own wr w2.heap.size 2 (some ⟨gl, 0, none⟩) N gc (L.map (Value.int .i64)) ∧ Que wr lq 2 qa qn qc (O.map (Value.int .i64)) ∧ Below w2.heap.size w2 wr ∧ lq ≤ wr.heap.size ∧ 2 * unl L + qn ≤ 2 * N) (fun qv W => 2 * negs W gl N + slN qv)
    case atStart => exact ⟨1, 1, _, _, [0], rfl, HS.out, O5.out, Q5.out, B5.out, hlq5, by have := unl_start f hN1; rw [HN.out]; omega⟩
    case round =>
      clear O5 Q5 B5 HS hz5 hlq5
      obtain ⟨qn, qc, qa, L, O, rfl, st, ol, oq, hb, hlw, hfew⟩ := hrel
      obtain ⟨wA, rfl⟩ : ∃ x, x = wr := ⟨_, rfl⟩
      have hqO : O.length = qn := by have := oq.1; simpa using this
      by_cases hq : 0 < qn
      · obtain ⟨gq, off, u, rfl, hu0, hcq, hgq1, hgq2⟩ := oq.head hq
        obtain ⟨z, hz⟩ : ∃ z, O[0]? = some z := ⟨_, List.getElem?_eq_getElem (by omega)⟩
        obtain ⟨x, rfl, hxN, hxl⟩ := st.que z (List.mem_of_getElem? hz)
        have hue : u = .int .i64 (x : Int) := by
          rw [List.getElem?_map, hz] at hu0
          exact (Option.some.inj hu0).symm
        subst hue
        have HF := Lib.hid (st.front (List.mem_of_getElem? hz))
        have HZ := Lib.hid hz
        have HUN := Lib.hid (negs_own ol)
        have OL := Lib.hid ol
        have OQ := Lib.hid oq
        have HB := Lib.hid hb
        have hgt : (0 : Int) < (qn : Int) := by omega
        have xm := (KM2.out.belowS hb).cell 0
        simp at xm
        clear st ol oq hz hu0
        go_wp2_with fail
        go_loopw [8, 35] (fun qv kv wr => ∃ (k qn' qc' : Nat) (qa : Option Addr) (L' O' : List Int), qv = .slice qa qn' qc' ∧ kv = .int .i64 k ∧ k ≤ n ∧ 0 < qn' ∧ CvF d e f L' O' x k ∧ O'[0]? = some (x : Int) ∧ Own wr w2.heap.size 2 (some ⟨gl, 0, none⟩) N gc (L'.map (Value.int .i64)) ∧ Que wr lq 2 qa qn' qc' (O'.map (Value.int .i64)) ∧ Below w2.heap.size w2 wr ∧ lq ≤ wr.heap.size ∧ 2 * unl L' + qn' ≤ 2 * unl L + qn) (fun _ kv _ => n - (intOf kv).toNat)
        case atStart => exact ⟨0, qn, qc, _, L, O, rfl, rfl, Nat.zero_le _, hq, HF.out, HZ.out, OL.out, OQ.out, HB.out, hlw, Nat.le_refl _⟩
        case round =>
          clear HF HZ OL OQ HB hb hlw xm
          obtain ⟨k, qn', qc', qa', L', O', rfl, rfl, hk, hq', hF, hO0, ol, oq, hb, hlw, hmu⟩ := hrel
          obtain ⟨wC, rfl⟩ : ∃ x, x = wr := ⟨_, rfl⟩
          by_cases hlt : k < n
          · obtain ⟨y, t, hy1, hy2, hy3, ⟨u, hu1, hu2, hu3⟩, ht2⟩ := hF.vals HM.out HEM.out (by omega) (by omega)
            obtain ⟨b1, off1, a1, n1, c1, rfl, hc1, hi1⟩ := (HD2.out.below hb).at_ hlt
            obtain ⟨b3, off3, a3, n3, c3, rfl, hc3, hi3⟩ := (HE2.out.below hb).at_ hlt
            have hn1 : n1 = N := by rw [← hi1.1, ← HN.out]; exact HM.out.len k (by omega)
            have hn3 : n3 = K := by rw [← hi3.1, ← HK.out]; exact HEM.out.len k (by omega)
            subst hn1
            subst hn3
            obtain ⟨b2, off2, rfl, hc2⟩ := hi1.at_ (show x < n1 by rw [← HN.out]; exact hxN)
            obtain ⟨b4, off4, rfl, hc4⟩ := hi3.at_ (show u < n3 by rw [← HK.out]; exact hu2)
            rw [hy1] at hc2
            rw [hu3] at hc4
            obtain ⟨gl', egl, -, -, -, hcl, hfl⟩ := ol.form (by omega)
            injection egl with egl
            injection egl with egl
            subst egl
            have hLl := hF.st.len
            have rowL : ∀ j, j < n1 → wC.cell? ⟨gl, j, none⟩ = some (.int .i64 (iget L' j)) := fun j hj => by rw [hcl j hj, List.getElem?_map, List.getElem?_eq_getElem (by rw [hLl, HN.out]; exact hj), iget_lt (by rw [hLl, HN.out]; exact hj)]; rfl
            have hyN : y < n1 := by rw [← HN.out]; exact hy2
            have hxN' : x < n1 := by rw [← HN.out]; exact hxN
            have hcx := rowL x hxN'
            have hcy := rowL y hyN
            have hfy := hfl y
            rw [hu1] at hcx
            have hx0 : (x : Int) < (n1 : Int) := by omega
            have hu0 : (u : Int) < (n3 : Int) := by have := HK.out; omega
            have hy0 : (y : Int) < (n1 : Int) := by omega
            have hk0 : (k : Int) < (n : Int) := by omega
            have xk := (KK2.out.belowS hb).cell 0
            simp at xk
            have HFF := Lib.hid hF
            have OL := Lib.hid ol
            have OQ := Lib.hid oq
            have HB := Lib.hid hb
            have HY := Lib.hid hy3
            have HU := Lib.hid hu1
            have HT := Lib.hid hu3
            have HT2 := Lib.hid ht2
            have HU2 := Lib.hid hu2
            have HO0 := Lib.hid hO0
            clear hF ol oq hb hy1 hy2 hy3 hu1 hu2 hu3 ht2 hi1 hi3 hcl hfl rowL hO0
            by_cases hneg : iget L' y < 0
            · have hdn : decide (iget L' y < 0) = true := decide_eq_true hneg
              go_wp2_with fail
              go_quiet (fail)
              go_upto_region 15 with fail
              obtain ⟨st, sg⟩ := (OL.out.drewN nq).stored y (.int .i64 (t : Int))
              have HNW := Lib.hid (HFF.out.new HM.out HEM.out (by omega) (by omega) HY.out HU.out HU2.out HT.out HT2.out hneg)
              have HUS := Lib.hid (unl_set (L := L') (y := y) (x := (t : Int)) (by rw [hLl, HN.out]; exact hyN) hneg (by omega))
              have hB4 := Lib.hid ((below_drewN HB.out nq).grown sg HB.out.size (fun g e => by injection e with e; omega))
              have hcq : 0 < qc' := by have := OQ.out.2.1; omega
              have hQ4 := Lib.hid (OQ.out.same (w' := (wC.drewN nq).setCell ⟨gl, y, none⟩ (.int .i64 (t : Int))) fun g eg => sg.block g ((OQ.out.lt hcq g eg).2) (fun e => by injection e with e; have := (OQ.out.lt hcq g eg).1; omega))
              have hO4 := Lib.hid (show Own ((wC.drewN nq).setCell ⟨gl, y, none⟩ (.int .i64 (t : Int))) w2.heap.size 2 (some ⟨gl, 0, none⟩) n1 gc ((L'.set y (t : Int)).map (Value.int .i64)) from by rw [List.map_set]; exact st)
              have hlw4 : lq ≤ ((wC.drewN nq).setCell ⟨gl, y, none⟩ (.int .i64 (t : Int))).heap.size := by have := sg.size; exact Nat.le_trans hlw this
              clear st sg
              generalize (wC.drewN nq).setCell ⟨gl, y, none⟩ (.int .i64 (t : Int)) = w6 at *
              go_wp2_with (at_builtin; refine wpList_apQ etI w6 rfl _ _ rfl lq qa' qn' qc' _ rfl hQ4.out hq' (.int .i64 (y : Int)) rfl rfl (by omega) hlw4 ?_; intro ao7 c7 w7 q7 g7 hat7)
              have Q7 := Lib.hid q7
              have O7 := Lib.hid (hO4.out.same (w' := w7) fun g eg => g7.block g (hO4.out.lt g eg).2 (fun e => by have := (hQ4.out.lt hcq g e.symm).1; have e2 : gl = g := (by simpa [bk] using eg); omega))
              have B7 := Lib.hid (hB4.out.grown g7 hB4.out.size (fun g e => by have := (hQ4.out.lt hcq g e).1; omega))
              have hl7 := g7.size
              clear q7 g7 hat7 hQ4 hO4 hB4
              go_roundw
              case rel => exact ⟨k + 1, qn' + 1, c7, ao7, _, _, rfl, by go_num, by omega, by omega, HNW.out, by rw [List.getElem?_append_left (List.getElem?_eq_some_iff.1 HO0.out).1]; exact HO0.out, O7.out, by rw [List.map_append]; exact Q7.out, B7.out, by omega, by have := HUS.out; omega⟩
              case measure => simp [intOf]; omega
            · have hdn : decide (iget L' y < 0) = false := decide_eq_false hneg
              by_cases heq : iget L' y = (t : Int)
              · have hne : (iget L' y != (t : Int)) = false := by simp [heq]
                have HSM := Lib.hid (HFF.out.same HY.out HU.out HT.out heq)
                clear heq
                go_wp2_with fail
                go_quiet (fail)
                go_wp2
                go_roundw
                case rel => exact ⟨k + 1, qn', qc', qa', L', O', rfl, by go_num, by omega, hq', HSM.out, HO0.out, OL.out.drewN _, OQ.out.same (fun _ _ => rfl), below_drewN HB.out _, hlw, hmu⟩
                case measure => simp [intOf]; omega
              · have hne : (iget L' y != (t : Int)) = true := by simp [heq]
                have hnl : iget L' y ≠ -1 := by omega
                have hRn : R = none := by rw [← HR.out]; exact HFF.out.clash HM.out (by omega) HY.out HU.out HT.out hnl heq
                have HB0 := Lib.hid (B2.out.trans (HB.out.mono hz2))
                have HRN := Lib.hid hRn
                clear hRn heq
                go_wp2_with fail
                go_quiet (fail)
                go_wp2
                go_ret
                exact ⟨none, 0, 0, rfl, fun _ => ⟨rfl, rfl, rfl⟩, fun p h => (by rw [HRN.out] at h; cases h), below_drewN HB0.out _⟩
          · obtain rfl : k = n := by omega
            have hNX := Lib.hid (show CvS d e f L' (O'.drop 1) from (hdl ▸ hF : CvF d e f L' O' x d.length).next hO0)
            obtain ⟨g2, off2, u2, rfl, -, -, -, -⟩ := oq.head hq'
            obtain ⟨q2, rfl⟩ : ∃ q, qn' = q + 1 := ⟨qn' - 1, by omega⟩
            have hqc := oq.2.1
            have hcb := oq.2.2.1
            have OQ := Lib.hid oq
            have OL := Lib.hid ol
            have HB := Lib.hid hb
            have HUA := Lib.hid (negs_own ol)
            clear hF oq ol hb hO0
            have hge : (1 : Int) ≤ (qc' : Int) := by omega
            have hge2 : (1 : Int) ≤ ((q2 + 1 : Nat) : Int) := by omega
            have hmap : (O'.drop 1).map (Value.int .i64) = (O'.map (Value.int .i64)).drop 1 := List.map_drop
            by_cases hc1 : qc' = 1
            · obtain ⟨hT, hq20⟩ := OQ.out.tail0 (bo := some ⟨g2, off2, none⟩) hc1
              subst hc1
              subst hq20
              have HTQ := Lib.hid hT
              clear hT
              go_wp2
              refine ⟨⟨0, 0, _, _, _, rfl, hNX.out, OL.out, by rw [hmap]; exact HTQ.out, HB.out, hlw, by omega⟩, ?_⟩
              rw [HUA.out, HUN.out]
              show 2 * unl L' + 0 < 2 * unl L + qn
              omega
            · have HTQ := Lib.hid OQ.out.tail
              go_wp2
              refine ⟨⟨q2, qc' - 1, _, _, _, rfl, hNX.out, OL.out, by rw [hmap]; exact HTQ.out, HB.out, hlw, by omega⟩, ?_⟩
              rw [HUA.out, HUN.out]
              show 2 * unl L' + q2 < 2 * unl L + qn
              omega
      · obtain rfl : qn = 0 := by omega
        obtain rfl : O = [] := List.eq_nil_of_length_eq_zero hqO
        have hfin := st.fin HM.out HEM.out (by omega)
        rw [HR.out] at hfin
        subst hfin
        have OL := Lib.hid (ol.mono (show w.heap.size ≤ w2.heap.size from hz2))
        have HB0 := Lib.hid (B2.out.trans (hb.mono hz2))
        clear st ol oq hb
        go_wp2
        go_ret
        exact ⟨_, _, _, rfl, fun h => (by cases h), fun p h => (by injection h with h; subst h; exact ⟨rfl, ⟨gl, rfl⟩, OL.out⟩), HB0.out⟩
  · have hrn : R = none := by rw [← HR.out]; exact covO_rank (by omega)
    subst hrn
    have hbeq : ((n : Int) != (m : Int)) = true := by simp; omega
    go_wp2_with (first | (go_at_call 69; first | (refine (rankM_any _ n c ao w1 KM.out).mono ?_; rintro e' w' ⟨rfl, hw⟩; subst hw) | (refine (rankM_any _ m c' bo w1 KK.out).mono ?_; rintro e' w' ⟨rfl, hw⟩; subst hw)))
    go_ret
    exact ⟨none, 0, 0, rfl, fun _ => ⟨rfl, rfl, rfl⟩, fun p h => (by cases h), b0⟩
end Go.Proofs.Ytmdhljleaijkbaa

/- All coverings, the program's coveringsOf. -/
namespace Go.Proofs.Ytmdhljleaijkbaa
open Go.RowKit

/-- the coverings that give the flag 0 a flag below k -/
noncomputable def cvL (d e : List (List Int)) (k : Nat) : List (List Int) := (List.range k).filterMap (covO d e)
theorem cvL_none {d e : List (List Int)} {k : Nat} (h : covO d e k = none) : cvL d e (k + 1) = cvL d e k := by
  unfold cvL; rw [List.range_succ, List.filterMap_append]; simp [h]
theorem cvL_some {d e : List (List Int)} {k : Nat} {p : List Int} (h : covO d e k = some p) : cvL d e (k + 1) = cvL d e k ++ [p] := by
  unfold cvL; rw [List.range_succ, List.filterMap_append]; simp [h]
theorem cvL_len (d e : List (List Int)) (k : Nat) : (cvL d e k).length ≤ k := by
  have := List.length_filterMap_le (covO d e) (List.range k)
  simpa [cvL] using this
/-- what coveringsOf answers -/
def CvsAns (w : World) (L : List (List Int)) (e : Ending) (w' : World) : Prop :=
  ∃ (a : Option Addr) (n c : Nat) (us : List Value), e = .returned (.slice a n c) ∧ OwR (OwS 2) w' w.heap.size w'.heap.size 32 a n c us L ∧ Below w.heap.size w w'
set_option maxRecDepth 100000 in
set_option maxHeartbeats 6400000 in
theorem coveringsOf_any (ao bo : Option Addr) (n c m c' N K : Nat) (d e : List (List Int)) (w : World) (hd : Intss w ao n d) (he : Intss w bo m e) (hM : Man d) (hE : Man e) (hN : flg d = N) (hK : flg e = K) :
    Calls Try.prog 50 #[.agg #[.slice ao n c], .agg #[.slice bo m c']] w (CvsAns w (cvL d e K)) := by
  have HD := Lib.hid hd
  have HE := Lib.hid he
  have HM := Lib.hid hM
  have HEM := Lib.hid hE
  have HN := Lib.hid hN
  have HK := Lib.hid hK
  have he1 := hE.n1
  have hel := he.1
  have hK4 : K ≤ 400 := by rw [← hK]; exact hE.f4
  have hN2 : 2 ≤ N := by rw [← hN]; exact hM.f2
  clear hd he hM hE hN hK
  have b0 := below_alloc2 w (.cells #[.slice ao n c] 28) (.cells #[.slice bo m c'] 28)
  have km : Blk ((w.alloc (.cells #[.slice ao n c] 28)).alloc (.cells #[.slice bo m c'] 28)) w.heap.size 28 #[.slice ao n c] := (blk_at rfl).alloc _
  have kk : Blk ((w.alloc (.cells #[.slice ao n c] 28)).alloc (.cells #[.slice bo m c'] 28)) (w.heap.size + 1) 28 #[.slice bo m c'] := blk_at (by simp)
  have HD1 := Lib.hid (HD.out.below b0)
  have HE1 := Lib.hid (HE.out.below b0)
  go_enter Try.func50, Try.ntmps50
  go_upto_region 2 with fail
  generalize (w.alloc (.cells #[.slice ao n c] 28)).alloc (.cells #[.slice bo m c'] 28) = w1 at *
  have KM := Lib.hid km
  have KK := Lib.hid kk
  have HB0 := Lib.hid b0
  have hz1 := b0.size
  clear b0 km kk
  go_wp2_with fail
  refine (flagsI_any _ bo m c' K e w1 KK.out ⟨bo, m, c', rfl, HE1.out⟩ (by omega) HK.out (by omega)).mono ?_
  rintro e' w' ⟨rfl, hw⟩
  subst hw
  have hN0 : OwR (OwS 2) w1 w1.heap.size w1.heap.size 32 none 0 0 [] [] := OwR.empty_ (Own.nil_ _ _ _) (fun g hg => by cases hg)
  go_wp2_with fail
  go_loopw [5, 9] (fun sv fv wr => ∃ (f k : Nat) (a : Option Addr) (cc : Nat) (us : List Value), sv = .slice a k cc ∧ fv = .int .i64 f ∧ f ≤ K ∧ k ≤ f ∧ OwR (OwS 2) wr w1.heap.size wr.heap.size 32 a k cc us (cvL d e f) ∧ Below w1.heap.size w1 wr) (fun _ fv _ => K - (intOf fv).toNat)
  case atStart => exact ⟨0, 0, none, 0, [], rfl, rfl, Nat.zero_le _, Nat.le_refl _, hN0, Below.refl _ _⟩
  case round =>
    clear hN0
    obtain ⟨f, k, a, cc, us, rfl, rfl, hf, hkf, ho, hb⟩ := hrel
    obtain ⟨wA, rfl⟩ : ∃ x, x = wr := ⟨_, rfl⟩
    have OR := Lib.hid ho
    have hsz := hb.size
    clear ho
    by_cases hlt : f < K
    · have xm := (KM.out.belowS hb).cell 0
      have xk := (KK.out.belowS hb).cell 0
      simp at xm xk
      go_wp2_with fail
      refine (coveringTo_any ao bo n c m c' f N K d e wA (HD1.out.below hb) (HE1.out.below hb) HM.out HEM.out HN.out HK.out hlt).mono ?_
      rintro e' w2 ⟨a2, n2, c2, rfl, hno, hyes, b2⟩
      have hB2 := Lib.hid (hb.trans (b2.mono hsz))
      have OR2 := Lib.hid (OR.out.below (innerS _) b2)
      have hz2 := b2.size
      cases hc : covO d e f with
      | none =>
        obtain ⟨rfl, rfl, rfl⟩ := hno hc
        have HL := Lib.hid (cvL_none hc)
        clear hno hyes hc
        go_wp2
        go_roundw
        case rel => exact ⟨f + 1, k, a, cc, us, rfl, by go_num, by omega, by omega, by rw [HL.out]; exact OR2.out.mono (Nat.le_refl _) hz2, hB2.out⟩
        case measure => simp [intOf]; omega
      | some p =>
        obtain ⟨rfl, ⟨g2, rfl⟩, o2⟩ := hyes p hc
        have HL := Lib.hid (cvL_some hc)
        have O2 := Lib.hid o2
        have BB := Lib.hid b2
        have OR1 := Lib.hid OR.out
        clear hno hyes hc o2
        go_wp2_with (at_builtin; refine wpList_ap1 etSS _ rfl _ _ rfl w1.heap.size a k cc _ rfl OR2.out.own (.slice (some ⟨g2, 0, none⟩) n2 c2) rfl rfl (by omega) (by omega) ?_; intro ao3 c3 w3 o3 g3 hat3)
        have OR3 := Lib.hid (rows_push2 OR1.out hsz BB.out O2.out (Below.refl _ _) o3 g3 (hat3.imp id fun e => ⟨_, e, Nat.le_succ _⟩))
        have B3 := Lib.hid (hB2.out.grown g3 (by omega) (fun g hg => (OR2.out.own.lt g hg).1))
        clear o3 g3 hat3
        go_roundw
        case rel => exact ⟨f + 1, k + 1, ao3, c3, _, rfl, by go_num, by omega, by omega, by rw [HL.out]; exact OR3.out, B3.out⟩
        case measure => simp [intOf]; omega
    · obtain rfl : f = K := by omega
      have BF := Lib.hid (HB0.out.trans (hb.mono hz1))
      go_wp2
      go_ret
      exact ⟨a, k, cc, us, rfl, OR.out.mono hz1 (Nat.le_refl _), BF.out⟩
end Go.Proofs.Ytmdhljleaijkbaa

/- Coverings of maniplexes, the reference's. -/
namespace Go.Proofs.Ytmdhljleaijkbaa
open Go.RowKit

/-- what l06Map and l07Cover answer -/
def CvSAns (w : World) (N : Nat) (R : Option (List Int)) (e : Ending) (w' : World) : Prop :=
  ∃ (a : Option Addr) (n c : Nat), e = .returned (.tuple #[.slice a n c, .bool R.isSome]) ∧ (R = none → a = none ∧ n = 0 ∧ c = 0) ∧ (∀ p, R = some p → n = N ∧ Own w' w.heap.size 2 a N c (p.map (Value.int .i64))) ∧ Below w.heap.size w w'
set_option maxRecDepth 100000 in
set_option maxHeartbeats 6400000 in
theorem mapCv_any (ao bo : Option Addr) (n c c' f N K : Nat) (d e : List (List Int)) (w : World) (hd : Intss w ao n d) (he : Intss w bo n e) (hM : Man d) (hE : Man e) (hN : flg d = N) (hK : flg e = K) (hf : f < K) :
    Calls Try.prog 121 #[.agg #[.slice ao n c], .agg #[.slice bo n c'], .int .i64 f] w (CvSAns w N (covO d e f)) := by
  obtain ⟨R, hR⟩ : ∃ R, covO d e f = R := ⟨_, rfl⟩
  rw [hR]
  have HR := Lib.hid hR
  have HD := Lib.hid hd
  have HE := Lib.hid he
  have HM := Lib.hid hM
  have HEM := Lib.hid hE
  have HN := Lib.hid hN
  have HK := Lib.hid hK
  have hdl := hd.1
  have hel := he.1
  have hd1 := hM.n1
  have hd5 := hM.n5
  have hN2 : 2 ≤ N := by rw [← hN]; exact hM.f2
  have hN4 : N ≤ 400 := by rw [← hN]; exact hM.f4
  have hK4 : K ≤ 400 := by rw [← hK]; exact hE.f4
  clear hR hd he hM hE hN hK
  have b0 := below_alloc2 w (.cells #[.slice ao n c] 28) (.cells #[.slice bo n c'] 28)
  have km : Blk ((w.alloc (.cells #[.slice ao n c] 28)).alloc (.cells #[.slice bo n c'] 28)) w.heap.size 28 #[.slice ao n c] := (blk_at rfl).alloc _
  have kk : Blk ((w.alloc (.cells #[.slice ao n c] 28)).alloc (.cells #[.slice bo n c'] 28)) (w.heap.size + 1) 28 #[.slice bo n c'] := blk_at (by simp)
  have HD1 := Lib.hid (HD.out.below b0)
  have HE1 := Lib.hid (HE.out.below b0)
  go_enter Try.func121, Try.ntmps121
  go_upto_region 1 with fail
  generalize (w.alloc (.cells #[.slice ao n c] 28)).alloc (.cells #[.slice bo n c'] 28) = w1 at *
  have KM := Lib.hid km
  have KK := Lib.hid kk
  have HB0 := Lib.hid b0
  have hz1 := b0.size
  have hE0 : Own (w1.alloc (.cells #[] 2)) w1.heap.size 2 (some ⟨w1.heap.size, 0, none⟩) 0 0 [] := Own.empty_ w1 2 (Nat.le_refl _)
  have hB0 := below_alloc1 w1 (.cells #[] 2)
  clear b0 km kk
  go_wp2_with fail
  go_loopw [8, 9] (fun sv iv wr => ∃ (i : Nat) (a : Option Addr) (cc : Nat), i ≤ N ∧ sv = .slice a i cc ∧ iv = .int .i64 i ∧ Own wr w1.heap.size 2 a i cc ((List.replicate i (-1)).map (Value.int .i64)) ∧ Below w1.heap.size w1 wr) (fun _ iv _ => N - (intOf iv).toNat)
  case atStart => exact ⟨0, _, _, Nat.zero_le _, rfl, rfl, by simpa using hE0, hB0⟩
  case round =>
    clear hE0 hB0
    obtain ⟨i, a, cc, hi, rfl, rfl, ho, hb⟩ := hrel
    obtain ⟨wA, rfl⟩ : ∃ x, x = wr := ⟨_, rfl⟩
    have xm := (KM.out.belowS hb).cell 0
    simp at xm
    have HF := Lib.hid (flagsS_any ao n c N d wA ⟨ao, n, c, rfl, HD1.out.below hb⟩ (by omega) HN.out (by omega))
    have HO := Lib.hid ho
    have HB := Lib.hid hb
    have hsz := hb.size
    clear ho hb
    go_wp2_with fail
    refine HF.out.mono ?_
    rintro e' w2 ⟨rfl, b2⟩
    have HO2 := Lib.hid (HO.out.below b2)
    have HB2 := Lib.hid (HB.out.trans (b2.mono hsz))
    have hz2 := HB2.out.size
    have hlo := fun g hg => (HO2.out.lt g hg).1
    clear b2 HF HO HB
    by_cases hlt : i < N
    · have hd0 : decide ((i : Int) < (N : Int)) = true := by simp; omega
      go_wp2_with (at_builtin; refine wpList_ap1 etI _ rfl _ _ rfl w1.heap.size a i cc _ rfl HO2.out (.int .i64 (-1)) rfl rfl (by omega) hz2 ?_; intro ao3 c3 w3 o3 g3 hat3)
      have O3 := Lib.hid o3
      have B3 := Lib.hid (HB2.out.grown g3 hz2 hlo)
      clear o3 g3 hat3
      go_roundw
      case rel => exact ⟨i + 1, ao3, c3, by omega, rfl, by go_num, by rw [List.replicate_succ', List.map_append]; exact O3.out, B3.out⟩
      case measure => simp [intOf]; omega
    · obtain rfl : i = N := by omega
      have hd0 : decide ((i : Int) < (i : Int)) = false := by simp
      obtain ⟨gl, rfl, hglb, hgll, -, hcell3, hfr3⟩ := HO2.out.form (by omega)
      have x0 : w2.cell? ⟨gl, 0, none⟩ = some (.int .i64 (-1)) := by rw [hcell3 0 (by omega), List.getElem?_map, List.getElem?_replicate, if_pos (by omega)]; rfl
      have f0 := hfr3 0
      obtain ⟨st, sg⟩ := HO2.out.stored 0 (.int .i64 (f : Int))
      have B4 := Lib.hid (HB2.out.grown sg hz2 (fun g e => by injection e with e; omega))
      have HS := Lib.hid (CvS.start (f := f) HM.out (by rw [HK.out]; exact hf))
      have O4 := Lib.hid (show Own (w2.setCell ⟨gl, 0, none⟩ (.int .i64 (f : Int))) w1.heap.size 2 (some ⟨gl, 0, none⟩) i cc (((List.replicate (flg d) (-1)).set 0 (f : Int)).map (Value.int .i64)) from by
        rw [HN.out, List.map_set]; exact st)
      clear st sg hcell3 hfr3 HB2 HO2
      have hN1 : 0 < i := by omega
      go_upto_region 7 with fail
      generalize w2.setCell ⟨gl, 0, none⟩ (.int .i64 (f : Int)) = w4 at *
      clear x0 f0
      have hz4 := B4.out.size
      have b5 := below_alloc1 w4 (.cells #[.int .i64 0] 2)
      have Q5 := Lib.hid (own_lit (w := w4) (base := w4.heap.size) (E := 2) (us := [.int .i64 0]) rfl (Nat.le_refl _) (by simp))
      have O5 := Lib.hid (O4.out.below b5)
      have B5 := Lib.hid (B4.out.trans (b5.mono hz4))
      have hgl4 : gl < w4.heap.size := (O4.out.lt gl rfl).2
      have hlq5 : w4.heap.size ≤ (w4.alloc (.cells #[.int .i64 0] 2)).heap.size := by simp
      clear b5 B4 O4
      go_wp2_with fail
      generalize w4.alloc (.cells #[.int .i64 0] 2) = w5 at *
      obtain ⟨lq, hlq⟩ : ∃ lq, w4.heap.size = lq := ⟨_, rfl⟩
      rw [hlq] at Q5 hgl4 hlq5 ⊢
      clear hlq
      go_loopw [10, 11] (fun qv iv wr => ∃ (j qn qc : Nat) (qa : Option Addr) (L O : List Int), qv = .slice qa qn qc ∧ iv = .int .i64 j ∧ j ≤ qn ∧ unl L + qn = i ∧ CvS d e f L (O.drop j) ∧ Own wr w1.heap.size 2 (some ⟨gl, 0, none⟩) i cc (L.map (Value.int .i64)) ∧ Own wr lq 2 qa qn qc (O.map (Value.int .i64)) ∧ Below w1.heap.size w1 wr ∧ lq ≤ wr.heap.size) (fun _ iv _ => i - (intOf iv).toNat)
      case atStart => exact ⟨0, 1, 1, _, _, [0], rfl, rfl, by omega, by have := unl_start f hN1; rw [HN.out]; omega, HS.out, O5.out, Q5.out, B5.out, hlq5⟩
      case round =>
        clear O5 Q5 B5 HS hlq5
        obtain ⟨j, qn, qc, qa, L, O, rfl, rfl, hj, hfew, st, ol, oq, hb, hlw⟩ := hrel
        obtain ⟨wB, rfl⟩ : ∃ x, x = wr := ⟨_, rfl⟩
        have hqO : O.length = qn := by have := oq.len; simpa using this
        by_cases hq : j < qn
        · obtain ⟨z, hz⟩ : ∃ z, O[j]? = some z := ⟨_, List.getElem?_eq_getElem (by omega)⟩
          have hzd : (O.drop j)[0]? = some z := by rw [List.getElem?_drop]; simpa using hz
          obtain ⟨x, rfl, hxN, hxl⟩ := st.que z (List.mem_of_getElem? hzd)
          obtain ⟨gq, rfl, hgqb, hgql, -, hcq, -⟩ := oq.form (by omega)
          have hxq : wB.cell? ⟨gq, j, none⟩ = some (.int .i64 (x : Int)) := by rw [hcq j hq, List.getElem?_map, hz]; rfl
          have HF := Lib.hid (st.front (List.mem_of_getElem? hzd))
          have HZ := Lib.hid hzd
          have OL := Lib.hid ol
          have OQ := Lib.hid oq
          have HB := Lib.hid hb
          have hj0 : (j : Int) < (qn : Int) := by omega
          clear st ol oq hb hz hzd hcq
          go_wp2_with fail
          go_loopw [10, 13] (fun qv kv wr => ∃ (k qn' qc' : Nat) (qa : Option Addr) (L' O' : List Int), qv = .slice qa qn' qc' ∧ kv = .int .i64 k ∧ k ≤ n ∧ j < qn' ∧ unl L' + qn' = i ∧ CvF d e f L' (O'.drop j) x k ∧ (O'.drop j)[0]? = some (x : Int) ∧ Own wr w1.heap.size 2 (some ⟨gl, 0, none⟩) i cc (L'.map (Value.int .i64)) ∧ Own wr lq 2 qa qn' qc' (O'.map (Value.int .i64)) ∧ Below w1.heap.size w1 wr ∧ lq ≤ wr.heap.size) (fun _ kv _ => n - (intOf kv).toNat)
          case atStart => exact ⟨0, qn, qc, _, L, O, rfl, rfl, Nat.zero_le _, hq, hfew, HF.out, HZ.out, OL.out, OQ.out, HB.out, hlw⟩
          case round =>
            clear HF HZ OL OQ HB hlw hxq
            obtain ⟨k, qn', qc', qa', L', O', rfl, rfl, hk, hq', hfew', hF, hO0, ol, oq, hb, hlw⟩ := hrel
            obtain ⟨wC, rfl⟩ : ∃ x, x = wr := ⟨_, rfl⟩
            have xm := (KM.out.belowS hb).cell 0
            simp at xm
            by_cases hlt : k < n
            · obtain ⟨y, t, hy1, hy2, hy3, ⟨u, hu1, hu2, hu3⟩, ht2⟩ := hF.vals HM.out HEM.out (by omega) (by omega)
              obtain ⟨b1, off1, a1, n1, c1, rfl, hc1, hi1⟩ := (HD1.out.below hb).at_ hlt
              obtain ⟨b3, off3, a3, n3, c3, rfl, hc3, hi3⟩ := (HE1.out.below hb).at_ hlt
              have hn1 : n1 = i := by rw [← hi1.1, ← HN.out]; exact HM.out.len k (by omega)
              have hn3 : n3 = K := by rw [← hi3.1, ← HK.out]; exact HEM.out.len k (by omega)
              subst hn1
              subst hn3
              obtain ⟨b2, off2, rfl, hc2⟩ := hi1.at_ (show x < n1 by rw [← HN.out]; exact hxN)
              obtain ⟨b4, off4, rfl, hc4⟩ := hi3.at_ (show u < n3 by rw [← HK.out]; exact hu2)
              rw [hy1] at hc2
              rw [hu3] at hc4
              obtain ⟨gl', egl, -, -, -, hcl, hfl⟩ := ol.form (by omega)
              injection egl with egl
              injection egl with egl
              subst egl
              have hLl := hF.st.len
              have rowL : ∀ j, j < n1 → wC.cell? ⟨gl, j, none⟩ = some (.int .i64 (iget L' j)) := fun j hj => by rw [hcl j hj, List.getElem?_map, List.getElem?_eq_getElem (by rw [hLl, HN.out]; exact hj), iget_lt (by rw [hLl, HN.out]; exact hj)]; rfl
              have hyN : y < n1 := by rw [← HN.out]; exact hy2
              have hxN' : x < n1 := by rw [← HN.out]; exact hxN
              have hcx := rowL x hxN'
              have hcy := rowL y hyN
              have hfy := hfl y
              rw [hu1] at hcx
              have hx0 : (x : Int) < (n1 : Int) := by omega
              have hu0 : (u : Int) < (n3 : Int) := by have := HK.out; omega
              have hy0 : (y : Int) < (n1 : Int) := by omega
              have hk0 : (k : Int) < (n : Int) := by omega
              have xk := (KK.out.belowS hb).cell 0
              simp at xk
              have HFF := Lib.hid hF
              have OL := Lib.hid ol
              have OQ := Lib.hid oq
              have HB := Lib.hid hb
              have HY := Lib.hid hy3
              have HU := Lib.hid hu1
              have HT := Lib.hid hu3
              have HT2 := Lib.hid ht2
              have HU2 := Lib.hid hu2
              have HO0 := Lib.hid hO0
              have hqO' : O'.length = qn' := by have := oq.len; simpa using this
              clear hF ol oq hb hy1 hy2 hy3 hu1 hu2 hu3 ht2 hi1 hi3 hcl hfl rowL hO0
              by_cases hneg : iget L' y < 0
              · have hdn : decide (iget L' y < 0) = true := decide_eq_true hneg
                go_wp2_with fail
                go_quiet (fail)
                go_upto_region 18 with fail
                obtain ⟨st, sg⟩ := (OL.out.drewN nq).stored y (.int .i64 (t : Int))
                have HNW := Lib.hid (HFF.out.new HM.out HEM.out (by omega) (by omega) HY.out HU.out HU2.out HT.out HT2.out hneg)
                have HUS := Lib.hid (unl_set (L := L') (y := y) (x := (t : Int)) (by rw [hLl, HN.out]; exact hyN) hneg (by omega))
                have hB4 := Lib.hid ((below_drewN HB.out nq).grown sg HB.out.size (fun g e => by injection e with e; omega))
                have hQ4 := Lib.hid (OQ.out.same (w' := (wC.drewN nq).setCell ⟨gl, y, none⟩ (.int .i64 (t : Int))) fun g eg => sg.block g ((OQ.out.lt g eg).2) (fun e => by injection e with e; have := (OQ.out.lt g eg).1; omega))
                have hO4 := Lib.hid (show Own ((wC.drewN nq).setCell ⟨gl, y, none⟩ (.int .i64 (t : Int))) w1.heap.size 2 (some ⟨gl, 0, none⟩) n1 cc ((L'.set y (t : Int)).map (Value.int .i64)) from by rw [List.map_set]; exact st)
                have hlw4 : lq ≤ ((wC.drewN nq).setCell ⟨gl, y, none⟩ (.int .i64 (t : Int))).heap.size := by have := sg.size; exact Nat.le_trans hlw this
                have hLset : iget (L'.set y (t : Int)) y = (t : Int) := by rw [iget_setN (by rw [hLl, HN.out]; exact hyN), if_pos rfl]
                have hLl2 : (L'.set y (t : Int)).length = n1 := by rw [List.length_set, hLl]; exact HN.out
                clear st sg
                generalize (wC.drewN nq).setCell ⟨gl, y, none⟩ (.int .i64 (t : Int)) = w6 at *
                go_upto_region 19 with (at_builtin; refine wpList_ap1 etI w6 rfl _ _ rfl lq qa' qn' qc' _ rfl hQ4.out (.int .i64 (y : Int)) rfl rfl (by omega) hlw4 ?_; intro ao7 c7 w7 q7 g7 hat7)
                have Q7 := Lib.hid q7
                have O7 := Lib.hid (hO4.out.same (w' := w7) fun g eg => g7.block g (hO4.out.lt g eg).2 (fun e => by have := (hQ4.out.lt g e.symm).1; have e2 : gl = g := (by simpa [bk] using eg); omega))
                have B7 := Lib.hid (hB4.out.grown g7 hB4.out.size (fun g e => by have := (hQ4.out.lt g e).1; omega))
                have hl7 := g7.size
                obtain ⟨gl7, egl7, -, -, -, hcl7, -⟩ := O7.out.form (by omega)
                injection egl7 with egl7
                injection egl7 with egl7
                subst egl7
                have hc7 : w7.cell? ⟨gl, y, none⟩ = some (.int .i64 (t : Int)) := by rw [hcl7 y hyN, List.getElem?_map, List.getElem?_eq_getElem (by omega), ← iget_lt (by omega), hLset]; rfl
                have hbq : ((t : Int) != (t : Int)) = false := by simp
                have HDR := Lib.hid (show (O' ++ [(y : Int)]).drop j = O'.drop j ++ [(y : Int)] from List.drop_append_of_le_length (by omega))
                clear q7 g7 hat7 hQ4 hO4 hB4 hcl7 hLset hLl2
                go_wp2_with fail
                go_roundw
                case rel => exact ⟨k + 1, qn' + 1, c7, ao7, _, _, rfl, by go_num, by omega, by omega, by have := HUS.out; omega, by rw [HDR.out]; exact HNW.out, by rw [HDR.out, List.getElem?_append_left (List.getElem?_eq_some_iff.1 HO0.out).1]; exact HO0.out, O7.out, by rw [List.map_append]; exact Q7.out, B7.out, by omega⟩
                case measure => simp [intOf]; omega
              · have hdn : decide (iget L' y < 0) = false := decide_eq_false hneg
                by_cases heq : iget L' y = (t : Int)
                · have hne : (iget L' y != (t : Int)) = false := by simp [heq]
                  have HSM := Lib.hid (HFF.out.same HY.out HU.out HT.out heq)
                  clear heq
                  go_wp2_with fail
                  go_quiet (fail)
                  go_wp2
                  go_roundw
                  case rel => exact ⟨k + 1, qn', qc', qa', L', O', rfl, by go_num, by omega, hq', hfew', HSM.out, HO0.out, OL.out.drewN _, OQ.out.drewN _, below_drewN HB.out _, hlw⟩
                  case measure => simp [intOf]; omega
                · have hne : (iget L' y != (t : Int)) = true := by simp [heq]
                  have hnl : iget L' y ≠ -1 := by omega
                  have hRn : R = none := by rw [← HR.out]; exact HFF.out.clash HM.out (by omega) HY.out HU.out HT.out hnl heq
                  have HBF := Lib.hid (HB0.out.trans (HB.out.mono hz1))
                  have HRN := Lib.hid hRn
                  clear hRn heq
                  go_wp2_with fail
                  go_quiet (fail)
                  go_wp2
                  exact bodyPost_ret (v := .tuple #[.slice none 0 0, .bool false]) (by simp [results, Try.f121, go_sem]) rfl ⟨none, 0, 0, by rw [HRN.out]; rfl, fun _ => ⟨rfl, rfl, rfl⟩, fun p h => (by rw [HRN.out] at h; cases h), below_drewN HBF.out _⟩
            · obtain rfl : k = n := by omega
              have hNX := (hdl ▸ hF : CvF d e f L' (O'.drop j) x d.length).next hO0
              rw [List.drop_drop] at hNX
              have HNX := Lib.hid hNX
              have OL := Lib.hid ol
              have OQ := Lib.hid oq
              have HB := Lib.hid hb
              clear hF ol oq hb hO0 hNX
              go_wp2_with fail
              go_roundw
              case rel => exact ⟨j + 1, qn', qc', qa', L', O', rfl, by go_num, by omega, hfew', by first | exact HNX.out | (rw [Nat.add_comm]; exact HNX.out), OL.out, OQ.out, HB.out, hlw⟩
              case measure => simp [intOf]; omega
        · obtain rfl : j = qn := by omega
          rw [List.drop_of_length_le (by omega)] at st
          have hfin := st.fin HM.out HEM.out (by omega)
          rw [HR.out] at hfin
          subst hfin
          have OL := Lib.hid (ol.mono hz1)
          have HBF := Lib.hid (HB0.out.trans (hb.mono hz1))
          clear st ol oq hb
          go_wp2_with fail
          exact bodyPost_ret (v := .tuple #[.slice (some ⟨gl, 0, none⟩) i cc, .bool true]) (by simp [results, Try.f121, go_sem]) rfl ⟨_, _, _, rfl, fun h => (by cases h), fun p h => (by injection h with h; subst h; exact ⟨rfl, OL.out⟩), HBF.out⟩
end Go.Proofs.Ytmdhljleaijkbaa
