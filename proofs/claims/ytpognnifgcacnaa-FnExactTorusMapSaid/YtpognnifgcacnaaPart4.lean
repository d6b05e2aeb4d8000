/- Torus maps, the program's: the key of a flag in words. -/
import Derived.Test.YtpognnifgcacnaaPart3
import Derived.Test.YtpognnifgcacnaaPart2
import Derived.Test.YtpognnifgcacnaaPart1
namespace Go.Proofs.Ytpognnifgcacnaa
open Go.RowKit

theorem flat1 {η : Env} {w : World} {x b : Nat} {E : TypeId} {a : A1} {u : Value} (hc : w.cell? ⟨b, 0, none⟩ = some u) (hb : b < w.heap.size) (hd : Den1 η a u) : ChIs η noOwn w x ⟨some ⟨b, 0, none⟩, 1, 1⟩ ⟨false, E, 1, .flat [a]⟩ := by
  refine ⟨rfl, ?_⟩
  show VecR noOwn w ⟨some ⟨b, 0, none⟩, 1, 1⟩ 1 _
  refine ⟨Nat.le_refl 1, fun j hj => ?_⟩
  obtain rfl : j = 0 := by omega
  refine ⟨b, 0, u, rfl, rfl, hb, hc, fun a' ha => ?_⟩
  simp at ha
  subst ha
  exact hd
theorem ptr1 {η : Env} {x b : Nat} (h : η.h x = some ⟨some ⟨b, 0, none⟩, 1, 1⟩) : Den1 η (.ptr x 0) (.pointer (some ⟨b, 0, none⟩)) :=
  ⟨⟨_, rfl⟩, fun h' hh => by rw [h] at hh; obtain rfl := Option.some.inj hh; exact ⟨b, 0, rfl, rfl⟩⟩
abbrev hdOf (b : Nat) : Hd := ⟨some ⟨b, 0, none⟩, 1, 1⟩
theorem key_any (b c n : Int) (t : TF) (hn : 1 ≤ n ∧ n ≤ 98) (hb : 0 ≤ b ∧ b ≤ 7) (hc : 0 ≤ c ∧ c ≤ 7) (hx : -10000 ≤ t.x ∧ t.x ≤ 10000) (hy : -10000 ≤ t.y ∧ t.y ≤ 10000) (w : World) (mb bb cb nb : Nat)
    (lm : mb < w.heap.size) (lb : bb < w.heap.size) (lc : cb < w.heap.size) (ln : nb < w.heap.size)
    (cm : w.cell? ⟨mb, 0, none⟩ = some (.func (.func 165) #[] #[.pointer (some ⟨nb, 0, none⟩)])) (cbb : w.cell? ⟨bb, 0, none⟩ = some (.int .i64 b)) (ccc : w.cell? ⟨cb, 0, none⟩ = some (.int .i64 c)) (cn : w.cell? ⟨nb, 0, none⟩ = some (.int .i64 n)) :
    Calls Try.prog 166 #[fv t, .pointer (some ⟨mb, 0, none⟩), .pointer (some ⟨bb, 0, none⟩), .pointer (some ⟨cb, 0, none⟩)] w fun e w' => e = .returned (fv (tkey b c n t)) ∧ Below w.heap.size w w' := by
  let l : Lay := [(1001, (mBx, hdOf mb, fun _ => ⟨none, 0, 1⟩)), (1002, (nBox b, hdOf bb, fun _ => ⟨none, 0, 1⟩)), (1003, (nBox c, hdOf cb, fun _ => ⟨none, 0, 1⟩)), (1006, (nBox n, hdOf nb, fun _ => ⟨none, 0, 1⟩))]
  have h := key_fc b c n t hn hb hc hx hy
  have hm : Mem (envOf l) noOwn w (fun x => lk x (l.map fun p => (p.1, p.2.1))) := by
    have hl : ∀ x, lk x (l.map fun p => (p.1, p.2.1)) = (lk x l).map fun q => q.1 := fun x => lk_map (fun q => q.1) l x
    refine ⟨fun x c' hx => ?_, fun x hx => ?_⟩
    · replace hx := (hl x).symm.trans hx
      obtain ⟨q, hq, rfl⟩ := Option.map_eq_some_iff.1 hx
      have he : (envOf l).h x = some q.2.1 := by simp [envOf, hq]
      refine ⟨q.2.1, he, ?_⟩
      have hmem := lk_mem hq
      simp only [l, List.mem_cons, List.not_mem_nil, or_false, Prod.mk.injEq] at hmem
      rcases hmem with ⟨rfl, rfl⟩ | ⟨rfl, rfl⟩ | ⟨rfl, rfl⟩ | ⟨rfl, rfl⟩
      · refine flat1 cm lm ⟨#[.pointer (some ⟨nb, 0, none⟩)], rfl, rfl, fun j p hp => ?_⟩
        match j, hp with
        | 0, hp =>
          simp at hp
          subst hp
          exact ⟨_, rfl, ⟨_, rfl⟩, fun h' hh => (ptr1 (η := envOf l) (x := 1006) (b := nb) rfl).2 h' hh⟩
      · exact flat1 cbb lb rfl
      · exact flat1 ccc lc rfl
      · exact flat1 cn ln rfl
    · replace hx := (hl x).symm.trans hx
      have : lk x l = none := by simpa using hx
      simp [envOf, this]
  refine (h w (envOf l) noOwn [fv t, .pointer (some ⟨mb, 0, none⟩), .pointer (some ⟨bb, 0, none⟩), .pointer (some ⟨cb, 0, none⟩)] hm ⟨rfl, fun j av hj => ?_⟩).mono ?_
  · match j, hj with
    | 0, hj =>
      simp at hj; subst hj
      refine ⟨_, rfl, _, rfl, rfl, fun i a hi => ?_⟩
      match i, hi with
      | 0, hi => simp at hi; subst hi; exact ⟨_, rfl, rfl⟩
      | 1, hi => simp at hi; subst hi; exact ⟨_, rfl, rfl⟩
      | 2, hi => simp at hi; subst hi; exact ⟨_, rfl, rfl⟩
      | 3, hi => simp at hi; subst hi; exact ⟨_, rfl, rfl⟩
    | 1, hj => simp at hj; subst hj; exact ⟨_, rfl, ptr1 rfl⟩
    | 2, hj => simp at hj; subst hj; exact ⟨_, rfl, ptr1 rfl⟩
    | 3, hj => simp at hj; subst hj; exact ⟨_, rfl, ptr1 rfl⟩
  · rintro e w' ⟨v, η, ω, rfl, hd, _, h3, _⟩
    refine ⟨?_, ⟨h3.os, h3.tape, h3.output, h3.size, fun b hb => (h3.block b hb rfl).1⟩⟩
    obtain ⟨us, rfl, hl, ha⟩ := hd
    obtain ⟨u0, g0, d0⟩ := ha 0 _ rfl
    obtain ⟨u1, g1, d1⟩ := ha 1 _ rfl
    obtain ⟨u2, g2, d2⟩ := ha 2 _ rfl
    obtain ⟨u3, g3, d3⟩ := ha 3 _ rfl
    have d0 : u0 = _ := d0
    have d1 : u1 = _ := d1
    have d2 : u2 = _ := d2
    have d3 : u3 = _ := d3
    subst d0 d1 d2 d3
    match us, hl with
    | ⟨[p0, p1, p2, p3]⟩, _ =>
      simp at g0 g1 g2 g3
      subst g0 g1 g2 g3
      rfl
end Go.Proofs.Ytpognnifgcacnaa

/- The squares of a torus map and the flags of the plane: what must be checked of b and c, and what follows. No program in sight. -/
namespace Go.Proofs.Ytpognnifgcacnaa
open Go.RowKit

theorem mdI_emod {n k : Int} (h : 0 < n) : mdI n k = k % n := by
  unfold mdI
  have h1 : k.tmod n % n = k % n := by rw [Int.tmod_def]; exact Int.sub_mul_emod_self_left k n _
  have h2 : -n < k.tmod n := Int.lt_tmod_of_pos k h
  rw [Int.tmod_eq_emod_of_nonneg (by omega), Int.add_emod_right, h1]
def kmv (b c n : Int) (i : Nat) (t : TF) : TF :=
  match i with
  | 0 => ⟨(t.x + (sx t.d * b + sy t.d * c)) % n, (t.y + (sy t.d * b - sx t.d * c)) % n, (t.d + 2) % 4, !t.l⟩
  | 1 => ⟨t.x, t.y, if t.l then (t.d + 1) % 4 else (t.d + 3) % 4, !t.l⟩
  | _ => ⟨t.x, t.y, t.d, !t.l⟩
theorem tkey_mv {b c n : Int} (h : 0 < n) (t : TF) {i : Nat} (hi : i < 3) : tkey b c n (tmv i t) = kmv b c n i (tkey b c n t) := by
  match i, hi with
  | 1, _ => rfl
  | 2, _ => rfl
  | 0, _ =>
    unfold tkey tmv kmv
    simp only [mdI_emod h, TF.mk.injEq, and_true]
    refine ⟨?_, ?_⟩
    · rw [Int.emod_add_emod]; congr 1; rw [Int.add_mul, Int.add_mul]; omega
    · rw [Int.emod_add_emod]; congr 1; rw [Int.add_mul, Int.add_mul]; omega
def vX (k : Nat) : Int := if k = 0 ∨ k ≥ 5 then 0 else 1
def vY (k : Nat) : Int := if 3 ≤ k ∧ k ≤ 6 then 1 else 0
def vD (k : Nat) : Int := if k = 0 ∨ k = 5 then 0 else if k = 2 ∨ k = 7 then 1 else if k = 1 ∨ k = 4 then 2 else 3
/-- the flag of the plane that a flag of the squares is -/
def fpos (s : List Int × List Int) (f : Nat) : TF := ⟨iget s.1 (f / 8) + vX (f % 8), iget s.2 (f / 8) + vY (f % 8), vD (f % 8), f % 8 % 2 == 0⟩
def tphi (b c n : Nat) (s : List Int × List Int) (f : Nat) : TF := tkey b c n (fpos s f)
theorem tphi_kind {b c n : Nat} {s : List Int × List Int} {f g : Nat} (h : tphi b c n s f = tphi b c n s g) : f % 8 = g % 8 := by
  have hd : vD (f % 8) = vD (g % 8) := congrArg TF.d h
  have hl : (f % 8 % 2 == 0) = (g % 8 % 2 == 0) := congrArg TF.l h
  have hf : f % 8 < 8 := Nat.mod_lt _ (by omega)
  have hg : g % 8 < 8 := Nat.mod_lt _ (by omega)
  generalize f % 8 = k at *
  generalize g % 8 = m at *
  have : ∀ k, k < 8 → ∀ m, m < 8 → vD k = vD m → (k % 2 == 0) = (m % 2 == 0) → k = m := by decide
  exact this k hf m hg hd hl
end Go.Proofs.Ytpognnifgcacnaa

/- The moves of the squares' flags are those of the plane's; which cells are the same. No program in sight. -/
namespace Go.Proofs.Ytpognnifgcacnaa
open Go.RowKit

theorem oth_div (f : Nat) : othN f / 8 = f / 8 ∧ othN f % 8 = othN (f % 8) := by
  unfold othN
  have h : f % 8 % 2 = f % 2 := Nat.mod_mod_of_dvd f (by decide)
  rw [h]
  split <;> omega
theorem one_div (f : Nat) : tOne f / 8 = f / 8 ∧ tOne f % 8 = if f % 8 % 2 = 0 then (f % 8 + 7) % 8 else (f % 8 + 1) % 8 := by
  unfold tOne
  split <;> omega
theorem fpos_oth (s : List Int × List Int) (f : Nat) : fpos s (othN f) = tmv 0 (fpos s f) := by
  obtain ⟨h1, h2⟩ := oth_div f
  unfold fpos tmv
  rw [h1, h2]
  have hf : f % 8 < 8 := Nat.mod_lt _ (by omega)
  generalize f % 8 = k at *
  have h : ∀ k, k < 8 → vX (othN k) = vX k + sx (vD k) ∧ vY (othN k) = vY k + sy (vD k) ∧ vD (othN k) = (vD k + 2) % 4 ∧ (othN k % 2 == 0) = !(k % 2 == 0) := by decide
  obtain ⟨a, b, c, d⟩ := h k hf
  simp only [TF.mk.injEq]
  exact ⟨by omega, by omega, c, d⟩
theorem fpos_one (s : List Int × List Int) (f : Nat) : fpos s (tOne f) = tmv 1 (fpos s f) := by
  obtain ⟨h1, h2⟩ := one_div f
  unfold fpos tmv
  rw [h1, h2]
  have hf : f % 8 < 8 := Nat.mod_lt _ (by omega)
  generalize f % 8 = k at *
  have h : ∀ k, k < 8 → vX (if k % 2 = 0 then (k + 7) % 8 else (k + 1) % 8) = vX k ∧ vY (if k % 2 = 0 then (k + 7) % 8 else (k + 1) % 8) = vY k ∧ vD (if k % 2 = 0 then (k + 7) % 8 else (k + 1) % 8) = (if (k % 2 == 0) = true then (vD k + 1) % 4 else (vD k + 3) % 4) ∧ ((if k % 2 = 0 then (k + 7) % 8 else (k + 1) % 8) % 2 == 0) = !(k % 2 == 0) := by decide
  obtain ⟨a, b, c, d⟩ := h k hf
  simp only [TF.mk.injEq]
  exact ⟨by rw [a], by rw [b], c, d⟩
section
variable {b c : Nat}
theorem tmod_dvd {n a : Int} : (a.tmod n == 0) = true ↔ n ∣ a := by
  rw [beq_iff_eq]
  exact ⟨Int.dvd_of_tmod_eq_zero, Int.tmod_eq_zero_of_dvd⟩
theorem sameB_iff {x y : Int} : sameB b c x y = true ↔ ((b * b + c * c : Nat) : Int) ∣ x * b + y * c ∧ ((b * b + c * c : Nat) : Int) ∣ y * b - x * c := by
  unfold sameB
  rw [Bool.and_eq_true, tmod_dvd, tmod_dvd]
theorem emod_iff {n a a' : Int} : a % n = a' % n ↔ n ∣ a - a' := by
  rw [Int.emod_eq_emod_iff_emod_sub_eq_zero, Int.dvd_iff_emod_eq_zero]
theorem key_same {n : Nat} (hn : b * b + c * c = n) (h0 : 0 < n) {x y x' y' d : Int} {l : Bool} : tkey b c n ⟨x, y, d, l⟩ = tkey b c n ⟨x', y', d, l⟩ ↔ sameB b c (x - x') (y - y') = true := by
  rw [sameB_iff, hn]
  have h : (0 : Int) < (n : Int) := by omega
  unfold tkey
  simp only [mdI_emod h, TF.mk.injEq, and_true, emod_iff]
  rw [show x * (b : Int) + y * c - (x' * b + y' * c) = (x - x') * b + (y - y') * c by rw [Int.sub_mul, Int.sub_mul]; omega, show y * (b : Int) - x * c - (y' * b - x' * c) = (y - y') * b - (x - x') * c by rw [Int.sub_mul, Int.sub_mul]; omega]
theorem sameB_neg {x y : Int} (h : sameB b c x y = true) : sameB b c (-x) (-y) = true := by
  rw [sameB_iff] at h ⊢
  refine ⟨?_, ?_⟩
  · rw [show -x * (b : Int) + -y * c = -(x * b + y * c) by rw [Int.neg_mul, Int.neg_mul]; omega]; exact Int.dvd_neg.2 h.1
  · rw [show -y * (b : Int) - -x * c = -(y * b - x * c) by rw [Int.neg_mul, Int.neg_mul]; omega]; exact Int.dvd_neg.2 h.2
/-- no two cells are the same -/
def Apart (b c : Nat) (s : List Int × List Int) : Prop := s.2.length = s.1.length ∧ ∀ i j, i < j → j < s.1.length → sameB b c (iget s.1 j - iget s.1 i) (iget s.2 j - iget s.2 i) = false
theorem Apart.step {n x y : Nat} {s : List Int × List Int} (h : Apart b c s) : Apart b c (cStep b c n x s y) := by
  unfold cStep
  split
  case isFalse => exact h
  case isTrue hc =>
    refine ⟨by simp [h.1], fun i j hij hj => ?_⟩
    dsimp only at hj ⊢
    by_cases e : j < s.1.length
    · rw [iget_app_lt e, iget_app_lt (by omega), iget_app_lt (by rw [h.1]; exact e), iget_app_lt (by rw [h.1]; omega)]
      exact h.2 i j hij e
    · obtain rfl : j = s.1.length := by simp at hj; omega
      rw [iget_app_eq, iget_app_lt hij, ← h.1, iget_app_eq, iget_app_lt (by rw [h.1]; exact hij)]
      have hf := hc.2
      unfold freB at hf
      rw [List.all_eq_true] at hf
      have := hf i (List.mem_range.2 hij)
      simpa using this
theorem Apart.row {n x : Nat} {s : List Int × List Int} (h : Apart b c s) : ∀ k, Apart b c (cRow b c n x s k)
  | 0 => h
  | k + 1 => by rw [cRow_succ]; exact (Apart.row h k).step
theorem Apart.all {n : Nat} : ∀ k, Apart b c (cAll b c n k)
  | 0 => ⟨rfl, fun i j _ hj => by simp [cAll] at hj⟩
  | k + 1 => by rw [cAll_succ]; exact (Apart.all k).row n
theorem Apart.eq {s : List Int × List Int} (h : Apart b c s) {i j : Nat} (hi : i < s.1.length) (hj : j < s.1.length) (hs : sameB b c (iget s.1 i - iget s.1 j) (iget s.2 i - iget s.2 j) = true) : i = j := by
  rcases Nat.lt_trichotomy i j with e | e | e
  · have := h.2 i j e hj
    have h2 := sameB_neg hs
    rw [show -(iget s.1 i - iget s.1 j) = iget s.1 j - iget s.1 i by omega, show -(iget s.2 i - iget s.2 j) = iget s.2 j - iget s.2 i by omega, this] at h2
    cases h2
  · exact e
  · have := h.2 j i e hi
    rw [this] at hs
    cases hs
theorem tphi_inj {n : Nat} (hn : b * b + c * c = n) (h0 : 0 < n) {s : List Int × List Int} (h : Apart b c s) (hl : s.1.length = n) {f g : Nat} (hf : f < 8 * n) (hg : g < 8 * n) (e : tphi b c n s f = tphi b c n s g) : f = g := by
  have hk := tphi_kind e
  unfold tphi fpos at e
  rw [hk, key_same hn h0, show iget s.1 (f / 8) + vX (g % 8) - (iget s.1 (g / 8) + vX (g % 8)) = iget s.1 (f / 8) - iget s.1 (g / 8) by omega, show iget s.2 (f / 8) + vY (g % 8) - (iget s.2 (g / 8) + vY (g % 8)) = iget s.2 (f / 8) - iget s.2 (g / 8) by omega] at e
  have := h.eq (i := f / 8) (j := g / 8) (by omega) (by omega) e
  omega
/-- the flag on the other side of an edge, of a cell that lies there -/
theorem tphi_to {n : Nat} (hn : b * b + c * c = n) (h0 : 0 < n) {s : List Int × List Int} {f i : Nat} (hs : sameB b c (iget s.1 (f / 8) + dX (f % 8 / 2) - iget s.1 i) (iget s.2 (f / 8) + dY (f % 8 / 2) - iget s.2 i) = true) : tphi b c n s (tTo (f % 8) i) = tkey b c n (tmv 2 (fpos s f)) := by
  have hf : f % 8 < 8 := Nat.mod_lt _ (by omega)
  have h1 : tTo (f % 8) i / 8 = i := by
    have : othN ((f % 8 + 4) % 8) < 8 := by unfold othN; split <;> omega
    unfold tTo; omega
  have h2 : tTo (f % 8) i % 8 = othN ((f % 8 + 4) % 8) := by
    have : othN ((f % 8 + 4) % 8) < 8 := by unfold othN; split <;> omega
    unfold tTo; omega
  unfold tphi fpos tmv
  rw [h1, h2]
  dsimp only
  generalize f % 8 = k at *
  have hd : ∀ k, k < 8 → vX (othN ((k + 4) % 8)) = vX k - dX (k / 2) ∧ vY (othN ((k + 4) % 8)) = vY k - dY (k / 2) ∧ vD (othN ((k + 4) % 8)) = vD k ∧ (othN ((k + 4) % 8) % 2 == 0) = !(k % 2 == 0) := by decide
  obtain ⟨a1, a2, a3, a4⟩ := hd k hf
  rw [a1, a2, a3, a4]
  refine (key_same hn h0).2 ?_
  have := sameB_neg hs
  rwa [show -(iget s.1 (f / 8) + dX (k / 2) - iget s.1 i) = iget s.1 i + (vX k - dX (k / 2)) - (iget s.1 (f / 8) + vX k) by omega, show -(iget s.2 (f / 8) + dY (k / 2) - iget s.2 i) = iget s.2 i + (vY k - dY (k / 2)) - (iget s.2 (f / 8) + vY k) by omega] at this
end
end Go.Proofs.Ytpognnifgcacnaa

/- What the kernel has to find of b and c, and that the two sides are alike then. No program in sight. -/
namespace Go.Proofs.Ytpognnifgcacnaa
open Go.RowKit

theorem filter_one : ∀ {l : List Nat} {i : Nat} {p : Nat → Bool}, l.Nodup → i ∈ l → p i = true → (∀ j ∈ l, p j = true → j = i) → l.filter p = [i]
  | [], i, p, _, hi, _, _ => by simp at hi
  | a :: r, i, p, hn, hi, hp, hu => by
    obtain ⟨h1, h2⟩ := List.nodup_cons.1 hn
    by_cases e : a = i
    · subst e
      rw [List.filter_cons_of_pos hp]
      congr 1
      rw [List.filter_eq_nil_iff]
      intro j hj hpj
      exact h1 ((hu j (by simp [hj]) hpj) ▸ hj)
    · have hpa : ¬ p a = true := fun h => e (hu a (by simp) h)
      rw [List.filter_cons_of_neg hpa]
      refine filter_one h2 ?_ hp fun j hj => hu j (by simp [hj])
      rcases List.mem_cons.1 hi with h | h
      · exact absurd h.symm e
      · exact h
def nbB (b c : Nat) (s : List Int × List Int) (q j i : Nat) : Bool := sameB b c (iget s.1 q + dX j - iget s.1 i) (iget s.2 q + dY j - iget s.2 i)
/-- to be evaluated -/
def torGood (b c n : Nat) (s : List Int × List Int) : Bool :=
  decide (s.1.length = n) && decide (iget s.1 0 = 0) && decide (iget s.2 0 = 0) &&
  (List.range n).all (fun q => (List.range 4).all fun j => (List.range n).any fun i => nbB b c s q j i) &&
  (List.range n).all (fun q => q == 0 || (List.range q).any fun i => (List.range 4).any fun j => nbB b c s i j q)
section
variable {b c n : Nat} {s : List Int × List Int}
theorem nb_uniq (h : Apart b c s) (hn : b * b + c * c = n) (h0 : 0 < n) {q j i i' : Nat} (hi : i < s.1.length) (hi' : i' < s.1.length) (h1 : nbB b c s q j i = true) (h2 : nbB b c s q j i' = true) : i = i' := by
  refine h.eq hi hi' ?_
  unfold nbB at h1 h2
  have k1 := (key_same hn h0 (d := 0) (l := true)).2 h1
  have k2 := (key_same hn h0 (d := 0) (l := true)).2 h2
  exact (key_same hn h0 (d := 0) (l := true)).1 (k1.symm.trans k2)
theorem two_one (h : Apart b c s) (hn : b * b + c * c = n) (h0 : 0 < n) (hl : s.1.length = n) (hex : ∀ q, q < n → ∀ j, j < 4 → ∃ i, i < n ∧ nbB b c s q j i = true) {f : Nat} (hf : f < 8 * n) :
    ∃ i, i < n ∧ tTwo b c n s f = [((tTo (f % 8) i : Nat) : Int)] ∧ nbB b c s (f / 8) (f % 8 / 2) i = true := by
  obtain ⟨i, hi, hp⟩ := hex (f / 8) (by omega) (f % 8 / 2) (by omega)
  refine ⟨i, hi, ?_, hp⟩
  unfold tTwo tTwoB
  show List.map _ (List.filter (nbB b c s (f / 8) (f % 8 / 2)) (List.range n)) = _
  rw [filter_one (i := i) List.nodup_range (List.mem_range.2 hi) hp fun j hj hpj => nb_uniq h hn h0 (by rw [hl]; exact List.mem_range.1 hj) (by rw [hl]; exact hi) hpj hp]
  rfl
theorem row2_one (hh : ∀ f, f < 8 * n → ∃ i, i < n ∧ tTwo b c n s f = [((tTo (f % 8) i : Nat) : Int)] ∧ nbB b c s (f / 8) (f % 8 / 2) i = true) : ∀ m, m ≤ 8 * n →
    (tRow2 b c n s m).length = m ∧ ∀ f, f < m → ∃ i, i < n ∧ iget (tRow2 b c n s m) f = ((tTo (f % 8) i : Nat) : Int) ∧ nbB b c s (f / 8) (f % 8 / 2) i = true
  | 0, _ => ⟨rfl, fun f hf => by omega⟩
  | m + 1, hm => by
    obtain ⟨h1, h2⟩ := row2_one hh m (by omega)
    obtain ⟨i, hi, ht, hp⟩ := hh m (by omega)
    rw [tRow2_succ, ht]
    refine ⟨by rw [List.length_append, h1]; rfl, fun f hf => ?_⟩
    by_cases e : f < m
    · rw [iget_app_lt (by rw [h1]; exact e)]; exact h2 f e
    · obtain rfl : f = m := by omega
      refine ⟨i, hi, ?_, hp⟩
      have : iget (tRow2 b c n s f ++ [((tTo (f % 8) i : Nat) : Int)]) (tRow2 b c n s f).length = _ := iget_app_eq
      rwa [h1] at this
theorem row0_get {m f : Nat} (h : f < m) : iget (tRow0 m) f = ((othN f : Nat) : Int) := by rw [iget_lt (by rw [tRow0_len]; exact h)]; simp [tRow0]
theorem row1_get {m f : Nat} (h : f < m) : iget (tRow1 m) f = ((tOne f : Nat) : Int) := by rw [iget_lt (by rw [tRow1_len]; exact h)]; simp [tRow1]
theorem torGood_spec (hg : torGood b c n s = true) : s.1.length = n ∧ iget s.1 0 = 0 ∧ iget s.2 0 = 0 ∧ (∀ q, q < n → ∀ j, j < 4 → ∃ i, i < n ∧ nbB b c s q j i = true) ∧ (∀ q, q < n → q ≠ 0 → ∃ i, i < q ∧ ∃ j, j < 4 ∧ nbB b c s i j q = true) := by
  unfold torGood at hg
  simp only [Bool.and_eq_true, decide_eq_true_eq, List.all_eq_true, List.any_eq_true, List.mem_range, Bool.or_eq_true, beq_iff_eq] at hg
  obtain ⟨⟨⟨⟨h1, h2⟩, h3⟩, h4⟩, h5⟩ := hg
  exact ⟨h1, h2, h3, h4, fun q hq hq0 => by
    rcases h5 q hq with h | h
    · exact absurd h hq0
    · exact h⟩
abbrev torR (b c n : Nat) (s : List Int × List Int) : List (List Int) := [tRow0 (8 * n), tRow1 (8 * n), tRow2 b c n s (8 * n)]
theorem tor_iso (h : Apart b c s) (hn : b * b + c * c = n) (h0 : 0 < n) (hg : torGood b c n s = true) : Iso b c n (torR b c n s) (8 * n) (tphi b c n s) := by
  obtain ⟨hl, hx, hy, hex, -⟩ := torGood_spec hg
  obtain ⟨r1, r2⟩ := row2_one (fun f hf => two_one h hn h0 hl hex hf) (8 * n) (Nat.le_refl _)
  have hb0 : ∀ f, f < 8 * n → bTo (torR b c n s) f 0 = othN f := fun f hf => by
    show (iget (tRow0 (8 * n)) f).toNat = _; rw [row0_get hf, Int.toNat_natCast]
  have hb1 : ∀ f, f < 8 * n → bTo (torR b c n s) f 1 = tOne f := fun f hf => by
    show (iget (tRow1 (8 * n)) f).toNat = _; rw [row1_get hf, Int.toNat_natCast]
  have hpos : (0 : Int) < (n : Int) := by omega
  refine ⟨⟨fun k hk => ?_, fun k hk x hxl => ?_⟩, rfl, fun f g hf hg e => tphi_inj hn h0 h hl hf hg e, fun t f i hf hi ht => ?_, ?_, by omega⟩
  · match k, hk with
    | 0, _ => exact tRow0_len _
    | 1, _ => exact tRow1_len _
    | 2, _ => exact r1
  · match k, hk with
    | 0, _ =>
      show 0 ≤ iget (tRow0 (8 * n)) x ∧ iget (tRow0 (8 * n)) x < _
      rw [row0_get hxl]
      unfold othN
      split <;> omega
    | 1, _ =>
      show 0 ≤ iget (tRow1 (8 * n)) x ∧ iget (tRow1 (8 * n)) x < _
      rw [row1_get hxl]
      unfold tOne
      split <;> omega
    | 2, _ =>
      obtain ⟨i, hi, e, _⟩ := r2 x hxl
      show 0 ≤ iget (tRow2 b c n s (8 * n)) x ∧ iget (tRow2 b c n s (8 * n)) x < _
      rw [e]
      have : othN ((x % 8 + 4) % 8) < 8 := by unfold othN; split <;> omega
      unfold tTo
      omega
  · rw [tkey_mv hpos t hi, ht]
    unfold tphi
    rw [← tkey_mv hpos _ hi]
    match i, hi with
    | 0, _ => rw [hb0 f hf, fpos_oth]
    | 1, _ => rw [hb1 f hf, fpos_one]
    | 2, _ =>
      obtain ⟨i, hi, e, hp⟩ := r2 f hf
      have hb2 : bTo (torR b c n s) f 2 = tTo (f % 8) i := by
        show (iget (tRow2 b c n s (8 * n)) f).toNat = _; rw [e, Int.toNat_natCast]
      rw [hb2]
      exact (tphi_to hn h0 hp).symm
  · unfold tphi fpos
    rw [hx, hy]
    rfl
theorem tor_rows (h : Apart b c s) (hn : b * b + c * c = n) (h0 : 0 < n) (hg : torGood b c n s = true) :
    (∀ f, f < 8 * n → bTo (torR b c n s) f 0 = othN f) ∧ (∀ f, f < 8 * n → bTo (torR b c n s) f 1 = tOne f) ∧ (∀ q i j, q < n → i < n → j < 4 → nbB b c s i j q = true → bTo (torR b c n s) (8 * i + 2 * j) 2 = 8 * q + othN ((2 * j + 4) % 8)) := by
  obtain ⟨hl, hx, hy, hex, -⟩ := torGood_spec hg
  obtain ⟨r1, r2⟩ := row2_one (fun f hf => two_one h hn h0 hl hex hf) (8 * n) (Nat.le_refl _)
  refine ⟨fun f hf => ?_, fun f hf => ?_, fun q i j hq hi hj hb => ?_⟩
  · show (iget (tRow0 (8 * n)) f).toNat = _; rw [row0_get hf, Int.toNat_natCast]
  · show (iget (tRow1 (8 * n)) f).toNat = _; rw [row1_get hf, Int.toNat_natCast]
  · obtain ⟨i', hi', e, hp⟩ := r2 (8 * i + 2 * j) (by omega)
    rw [show (8 * i + 2 * j) / 8 = i by omega, show (8 * i + 2 * j) % 8 / 2 = j by omega] at hp
    have : i' = q := nb_uniq h hn h0 (by omega) (by omega) hp hb
    subst this
    show (iget (tRow2 b c n s (8 * n)) (8 * i + 2 * j)).toNat = _
    rw [e, Int.toNat_natCast, show (8 * i + 2 * j) % 8 = 2 * j by omega]
    rfl
theorem tor_full (h : Apart b c s) (hn : b * b + c * c = n) (h0 : 0 < n) (hg : torGood b c n s = true) : (orb (torR b c n s) (8 * n) 0).2.length = 8 * n := by
  have I := tor_iso h hn h0 hg
  obtain ⟨-, -, -, -, hcon⟩ := torGood_spec hg
  obtain ⟨t0, t1, t2⟩ := tor_rows h hn h0 hg
  have hT := I.lead
  have hp := I.pos
  have hr := I.rows
  generalize torR b c n s = T at *
  have step : ∀ q k, q < n → k < 8 → rch T (8 * n) 0 (8 * q + k) = true → rch T (8 * n) 0 (8 * q + (k + 1) % 8) = true := fun q k hq hk hh => by
    by_cases e : k % 2 = 0
    · have := rch_on hT hp (show 8 * q + k < 8 * n by omega) hh (g := 0) (by omega)
      rw [t0 _ (by omega)] at this
      have e2 : othN (8 * q + k) = 8 * q + (k + 1) % 8 := by unfold othN; rw [if_pos (by omega)]; omega
      rwa [e2] at this
    · have := rch_on hT hp (show 8 * q + k < 8 * n by omega) hh (g := 1) (by omega)
      rw [t1 _ (by omega)] at this
      have e2 : tOne (8 * q + k) = 8 * q + (k + 1) % 8 := by unfold tOne; rw [if_neg (by omega)]; omega
      rwa [e2] at this
  have round : ∀ q k, q < n → k < 8 → rch T (8 * n) 0 (8 * q + k) = true → ∀ m, rch T (8 * n) 0 (8 * q + (k + m) % 8) = true := fun q k hq hk hh m => by
    induction m with
    | zero => rw [Nat.add_zero, Nat.mod_eq_of_lt hk]; exact hh
    | succ m ih =>
      have := step q ((k + m) % 8) hq (Nat.mod_lt _ (by omega)) ih
      rwa [show ((k + m) % 8 + 1) % 8 = (k + (m + 1)) % 8 by omega] at this
  have cell : ∀ q k, q < n → k < 8 → rch T (8 * n) 0 (8 * q + k) = true → ∀ k', k' < 8 → rch T (8 * n) 0 (8 * q + k') = true := fun q k hq hk hh k' hk' => by
    have := round q k hq hk hh (k' + 8 - k)
    rwa [show (k + (k' + 8 - k)) % 8 = k' by omega] at this
  have all : ∀ q, q < n → ∀ k, k < 8 → rch T (8 * n) 0 (8 * q + k) = true := fun q => by
    induction q using Nat.strongRecOn with
    | _ q ih =>
      intro hq
      by_cases e : q = 0
      · subst e
        exact cell 0 0 hq (by omega) (rch_refl hT hp)
      · obtain ⟨i, hi, j, hj, hb⟩ := hcon q hq e
        have h1 := ih i hi (by omega) (2 * j) (by omega)
        have := rch_on hT hp (show 8 * i + 2 * j < 8 * n by omega) h1 (g := 2) (by omega)
        rw [t2 q i j hq (by omega) hj hb] at this
        exact cell q _ hq (by unfold othN; split <;> omega) this
  have ok := orb_ok hT hp
  have hb := bcnt_all (l := (orb T (8 * n) 0).1) fun d hd => by
    rw [ok.l] at hd
    have := all (d / 8) (by omega) (d % 8) (Nat.mod_lt _ (by omega))
    rw [show 8 * (d / 8) + d % 8 = d by omega] at this
    exact this
  rw [← ok.cnt, hb, ok.l]
/-- both sides answer the same rows -/
theorem tor_alike (h : Apart b c s) (hn : b * b + c * c = n) (h0 : 0 < n) (hg : torGood b c n s = true) :
    (pLoop b c n (8 * n + 1) 0 ([tf0], [[], [], []])).2 = formL (torR b c n s) (backL (orb (torR b c n s) (8 * n) 0).2) := form_alike (tor_iso h hn h0 hg) (tor_full h hn h0 hg)
end
def torAll (b : Nat) : Bool := (List.range 8).all fun c => !(decide (0 < b * b + c * c ∧ b * b + c * c ≤ 50)) || torGood b c (b * b + c * c) (cAll b c (b * b + c * c) (b * b + c * c))
theorem torAll_spec {b c : Nat} (h : torAll b = true) (hc : c ≤ 7) (h0 : 0 < b * b + c * c) (h50 : b * b + c * c ≤ 50) : torGood b c (b * b + c * c) (cAll b c (b * b + c * c) (b * b + c * c)) = true := by
  unfold torAll at h
  rw [List.all_eq_true] at h
  have := h c (List.mem_range.2 (by omega))
  simpa [h0, h50] using this
end Go.Proofs.Ytpognnifgcacnaa

/- The program's search of a torus map: what holds from round to round. No program in sight. -/
namespace Go.Proofs.Ytpognnifgcacnaa
open Go.RowKit

section
variable {b c n : Int} {T : List (List Int)} {N : Nat} {φ : Nat → TF} {R : PSt}
/-- at the head of a round -/
structure PO (b c n : Int) (T : List (List Int)) (N : Nat) (φ : Nat → TF) (R : PSt) (at_ : Nat) (s : PSt) : Prop where
  le : at_ ≤ s.1.length
  alike : ∃ o, Alike b c n T N φ s o at_ 0
  tb : TB s.1
  eq : pLoop b c n (N + 1 - at_) at_ s = R
theorem PO.start (I : Iso b c n T N φ) : PO b c n T N φ (pLoop b c n (N + 1) 0 ([tf0], [[], [], []])) 0 ([tf0], [[], [], []]) :=
  ⟨Nat.zero_le _, ⟨_, alike_start I⟩, TB.start, rfl⟩
theorem PO.few {at_ : Nat} {s : PSt} (h : PO b c n T N φ R at_ s) : s.1.length ≤ N := by
  obtain ⟨o, ho⟩ := h.alike
  rw [ho.len]; exact ho.ok.le
theorem PO.done {at_ : Nat} {s : PSt} (h : PO b c n T N φ R at_ s) (hat : ¬ at_ < s.1.length) : s = R := by
  have := h.eq
  rwa [pLoop_stop hat] at this
/-- within a round -/
structure PI (N at_ : Nat) (t0 : TF) (s : PSt) : Prop where
  few : s.1.length ≤ N
  three : s.2.length = 3
  tb : TB s.1
  here : at_ < s.1.length
  same : tget s.1 at_ = t0
  rows : ∀ i, i < 3 → (lget s.2 i).length ≤ at_ + 1
theorem PO.inner (I : Iso b c n T N φ) {at_ : Nat} {s : PSt} (h : PO b c n T N φ R at_ s) (hat : at_ < s.1.length) : ∀ k, k ≤ 3 → PI N at_ (tget s.1 at_) (pRow b c n (tget s.1 at_) s k)
  | 0, _ => by
    obtain ⟨o, ho⟩ := h.alike
    exact ⟨h.few, ho.three, h.tb, hat, rfl, fun i hi => by have := ho.rlen i hi; rw [if_neg (by omega)] at this; show (lget s.2 i).length ≤ _; omega⟩
  | k + 1, hk => by
    have ih := PO.inner I h hat k (by omega)
    obtain ⟨o, ho⟩ := h.alike
    obtain ⟨h1, h2⟩ := alike_row I ho hat (k + 1) hk
    rw [pRow_succ] at h1 h2 ⊢
    have hk2 := pStep_keep (b := b) (c := c) (n := n) (i := k) ih.here (tget s.1 at_)
    refine ⟨by rw [h1.len]; exact h1.ok.le, h1.three, ih.tb.step ih.here (by omega) ih.same.symm, by have := ih.here; omega, hk2.2.trans ih.same, fun i hi => ?_⟩
    have := h1.rlen i hi
    split at this <;> omega
theorem PO.next (I : Iso b c n T N φ) {at_ : Nat} {s : PSt} (h : PO b c n T N φ R at_ s) (hat : at_ < s.1.length) : PO b c n T N φ R (at_ + 1) (pRow b c n (tget s.1 at_) s 3) := by
  have hi := PO.inner I h hat 3 (Nat.le_refl _)
  have hf := h.few
  obtain ⟨o, ho⟩ := h.alike
  obtain ⟨h1, _⟩ := alike_row I ho hat 3 (Nat.le_refl _)
  refine ⟨by have := hi.here; omega, ⟨_, ⟨h1.ok, h1.len, h1.key, h1.three, fun r hr => by rw [h1.rlen r hr, if_pos hr, if_neg (by omega)], h1.row⟩⟩, hi.tb, ?_⟩
  have := h.eq
  rw [show N + 1 - at_ = (N + 1 - (at_ + 1)) + 1 by omega, pLoop_go hat] at this
  exact this
end
end Go.Proofs.Ytpognnifgcacnaa

/- Torus maps, the program's search, walked. -/
namespace Go.Proofs.Ytpognnifgcacnaa
open Go.RowKit

theorem sizeF_any (ao : Option Addr) (n c : Nat) (w : World) : Calls Try.prog 168 #[.slice ao n c] w fun e w' => e = .returned (.int .i64 n) ∧ w' = w := by
  go_enter Try.func168, Try.ntmps168
  go_wp2
  go_ret
  exact ⟨rfl, rfl⟩
set_option maxRecDepth 100000 in
set_option maxHeartbeats 3200000 in
theorem torI_any (b c : Nat) (w : World) {T : List (List Int)} {φ : Nat → TF} (I : Iso b c (b * b + c * c : Nat) T (8 * (b * b + c * c)) φ) (hb : b ≤ 7) (hc : c ≤ 7) (h0 : 0 < b * b + c * c) (h50 : b * b + c * c ≤ 50) :
    Calls Try.prog 98 #[.int .i64 b, .int .i64 c] w fun e w' => ∃ v, e = .returned v ∧ OwM 2 49 w' w.heap.size w'.heap.size v (pLoop b c (b * b + c * c : Nat) (8 * (b * b + c * c) + 1) 0 ([tf0], [[], [], []])).2 ∧ Below w.heap.size w w' := by
  obtain ⟨n, hn⟩ : ∃ n, n = b * b + c * c := ⟨_, rfl⟩
  rw [← hn] at h0 h50 I ⊢
  have hbb : b * b ≤ 50 := by omega
  have hcc : c * c ≤ 50 := by omega
  have e1 : IntKind.i64.wrap ((b : Int) * b) = ((b * b : Nat) : Int) := by
    rw [← Int.natCast_mul]; exact IntWalk.i64_in _ (by omega)
  have e2 : IntKind.i64.wrap ((c : Int) * c) = ((c * c : Nat) : Int) := by
    rw [← Int.natCast_mul]; exact IntWalk.i64_in _ (by omega)
  have e3 : IntKind.i64.wrap (((b * b : Nat) : Int) + ((c * c : Nat) : Int)) = (n : Int) := by rw [IntWalk.i64_in _ (by omega)]; omega
  generalize b * b = B at *
  generalize c * c = C at *
  have HN := Lib.hid hn
  clear hn
  have hsf : ∀ (a : Addr) (m : Mode) (W : World) (fn : Fn) (x y : Array Value), (store a (.func fn x y) m).run Try.prog W = stored Try.prog W a (.func fn x y) m := fun a m W fn x y => run_store Try.prog W a _ m rfl
  have PS := PO.start I
  have hR3 : (pLoop b c n (8 * n + 1) 0 ([tf0], [[], [], []])).2.length = 3 := by have := (alike_end I).three; exact this
  generalize pLoop b c n (8 * n + 1) 0 ([tf0], [[], [], []]) = R at *
  go_enter Try.func98, Try.ntmps98
  go_upto_region 5 with fail
  have k1 : Blk ((((((w.alloc (.cells #[.int .i64 b] 2)).alloc (.cells #[.int .i64 c] 2)).alloc (.cells #[.slice none 0 0] 41)).alloc (.cells #[.int .i64 n] 2)).alloc (.cells #[clV (w.heap.size + 1 + 1 + 1)] 92)).alloc (.cells #[.int .i64 0, .int .i64 0, .int .i64 0, .bool true] 153)) w.heap.size 2 #[.int .i64 b] := (((((blk_at rfl).alloc _).alloc _).alloc _).alloc _).alloc _
  have k2 : Blk ((((((w.alloc (.cells #[.int .i64 b] 2)).alloc (.cells #[.int .i64 c] 2)).alloc (.cells #[.slice none 0 0] 41)).alloc (.cells #[.int .i64 n] 2)).alloc (.cells #[clV (w.heap.size + 1 + 1 + 1)] 92)).alloc (.cells #[.int .i64 0, .int .i64 0, .int .i64 0, .bool true] 153)) (w.heap.size + 1) 2 #[.int .i64 c] := ((((blk_at (by simp)).alloc _).alloc _).alloc _).alloc _
  have k3 : Blk ((((((w.alloc (.cells #[.int .i64 b] 2)).alloc (.cells #[.int .i64 c] 2)).alloc (.cells #[.slice none 0 0] 41)).alloc (.cells #[.int .i64 n] 2)).alloc (.cells #[clV (w.heap.size + 1 + 1 + 1)] 92)).alloc (.cells #[.int .i64 0, .int .i64 0, .int .i64 0, .bool true] 153)) (w.heap.size + 2) 41 #[.slice none 0 0] := (((blk_at (by simp)).alloc _).alloc _).alloc _
  have k4 : Blk ((((((w.alloc (.cells #[.int .i64 b] 2)).alloc (.cells #[.int .i64 c] 2)).alloc (.cells #[.slice none 0 0] 41)).alloc (.cells #[.int .i64 n] 2)).alloc (.cells #[clV (w.heap.size + 1 + 1 + 1)] 92)).alloc (.cells #[.int .i64 0, .int .i64 0, .int .i64 0, .bool true] 153)) (w.heap.size + 3) 2 #[.int .i64 n] := ((blk_at (by simp)).alloc _).alloc _
  have k5 : Blk ((((((w.alloc (.cells #[.int .i64 b] 2)).alloc (.cells #[.int .i64 c] 2)).alloc (.cells #[.slice none 0 0] 41)).alloc (.cells #[.int .i64 n] 2)).alloc (.cells #[clV (w.heap.size + 1 + 1 + 1)] 92)).alloc (.cells #[.int .i64 0, .int .i64 0, .int .i64 0, .bool true] 153)) (w.heap.size + 4) 92 #[clV (w.heap.size + 3)] := (blk_at (by simp)).alloc _
  have k6 : OwnF ((((((w.alloc (.cells #[.int .i64 b] 2)).alloc (.cells #[.int .i64 c] 2)).alloc (.cells #[.slice none 0 0] 41)).alloc (.cells #[.int .i64 n] 2)).alloc (.cells #[clV (w.heap.size + 1 + 1 + 1)] 92)).alloc (.cells #[.int .i64 0, .int .i64 0, .int .i64 0, .bool true] 153)) (w.heap.size + 5) (some ⟨w.heap.size + 5, 0, none⟩) 1 1 [tf0] := ⟨by
    have := World.ownsRow_lit (base := w.heap.size + 5) (e := 153) (size := 4) (((((w.alloc (.cells #[.int .i64 b] 2)).alloc (.cells #[.int .i64 c] 2)).alloc (.cells #[.slice none 0 0] 41)).alloc (.cells #[.int .i64 n] 2)).alloc (.cells #[clV (w.heap.size + 1 + 1 + 1)] 92)) #[.int .i64 0, .int .i64 0, .int .i64 0, .bool true] 1 (by simp) (by simp [maxLen]) (by simp)
    simpa [fcells, tf0] using this, by omega⟩
  have kb : Below w.heap.size w ((((((w.alloc (.cells #[.int .i64 b] 2)).alloc (.cells #[.int .i64 c] 2)).alloc (.cells #[.slice none 0 0] 41)).alloc (.cells #[.int .i64 n] 2)).alloc (.cells #[clV (w.heap.size + 1 + 1 + 1)] 92)).alloc (.cells #[.int .i64 0, .int .i64 0, .int .i64 0, .bool true] 153)) := ((below_alloc3 w _ _ _).alloc (by simp; omega) _ |>.alloc (by simp; omega) _).alloc (by simp; omega) _
  have ks : ((((((w.alloc (.cells #[.int .i64 b] 2)).alloc (.cells #[.int .i64 c] 2)).alloc (.cells #[.slice none 0 0] 41)).alloc (.cells #[.int .i64 n] 2)).alloc (.cells #[clV (w.heap.size + 1 + 1 + 1)] 92)).alloc (.cells #[.int .i64 0, .int .i64 0, .int .i64 0, .bool true] 153)).heap.size = w.heap.size + 6 := by simp
  have P0 := Lib.hid k1
  have P1 := Lib.hid k2
  have P2 := Lib.hid k3
  have P3 := Lib.hid k4
  have P4 := Lib.hid k5
  have P6 := Lib.hid k6
  have PB := Lib.hid kb
  generalize (((((w.alloc (.cells #[.int .i64 b] 2)).alloc (.cells #[.int .i64 c] 2)).alloc (.cells #[.slice none 0 0] 41)).alloc (.cells #[.int .i64 n] 2)).alloc (.cells #[clV (w.heap.size + 1 + 1 + 1)] 92)).alloc (.cells #[.int .i64 0, .int .i64 0, .int .i64 0, .bool true] 153) = w6 at *
  have hps : (w.heap.size < w.heap.size + 1 ∧ w.heap.size + 1 < w.heap.size + 5) ∧ (w.heap.size < w.heap.size + 1 + 1 ∧ w.heap.size + 1 + 1 < w.heap.size + 5) ∧ (w.heap.size < w.heap.size + 1 + 1 + 1 ∧ w.heap.size + 1 + 1 + 1 < w.heap.size + 5) ∧ (w.heap.size < w.heap.size + 1 + 1 + 1 + 1 ∧ w.heap.size + 1 + 1 + 1 + 1 < w.heap.size + 5) := by omega
  have hl5 : w.heap.size + 1 + 1 + 1 + 1 + 1 = w.heap.size + 5 := rfl
  have k2 : Blk w6 (w.heap.size + 1) 2 #[.int .i64 c] := k2
  have k3 : Blk w6 (w.heap.size + 1 + 1) 41 #[.slice none 0 0] := k3
  have k4 : Blk w6 (w.heap.size + 1 + 1 + 1) 2 #[.int .i64 n] := k4
  have k5 : Blk w6 (w.heap.size + 1 + 1 + 1 + 1) 92 #[clV (w.heap.size + 1 + 1 + 1)] := k5
  have k6 : OwnF w6 (w.heap.size + 5) (some ⟨w.heap.size + 1 + 1 + 1 + 1 + 1, 0, none⟩) 1 1 [tf0] := k6
  have hp5 : w.heap.size + 1 + 1 + 1 + 1 + 1 < w6.heap.size := by omega
  clear P0 P1 P2 P3 P4 P6 PB hl5
  generalize w.heap.size + 1 + 1 + 1 + 1 + 1 = p5 at *
  generalize w.heap.size + 1 + 1 + 1 + 1 = p4 at *
  generalize w.heap.size + 1 + 1 + 1 = p3 at *
  generalize w.heap.size + 1 + 1 = p2 at *
  generalize w.heap.size + 1 = p1 at *
  have hmk : ∀ W : World, (Instr.makeMap 156 none).run Try.prog W = .ok (.map (some W.heap.size)) (W.alloc (.map #[] 0)) := fun W => Go.RowKit.run_makeMap _ W
  obtain ⟨g5, hg5, hg5l, c0, c1, c2, c3⟩ := k6.at_ (j := 0) (by omega)
  obtain rfl : p5 = g5 := by injection hg5 with h; injection h
  have c0 : w6.cell? ⟨p5, 0, none⟩ = some (.int .i64 0) := c0
  have c1 : w6.cell? ⟨p5, 1, none⟩ = some (.int .i64 0) := c1
  have c2 : w6.cell? ⟨p5, 2, none⟩ = some (.int .i64 0) := c2
  have c3 : w6.cell? ⟨p5, 3, none⟩ = some (.bool true) := c3
  have ba := Below.heap_alloc w6 (.map #[] 0) p5 hg5l
  have c0 : (w6.alloc (.map #[] 0)).cell? ⟨p5, 0, none⟩ = some (.int .i64 0) := (World.cell?_of_block ba).trans c0
  have c1 : (w6.alloc (.map #[] 0)).cell? ⟨p5, 1, none⟩ = some (.int .i64 0) := (World.cell?_of_block ba).trans c1
  have c2 : (w6.alloc (.map #[] 0)).cell? ⟨p5, 2, none⟩ = some (.int .i64 0) := (World.cell?_of_block ba).trans c2
  have c3 : (w6.alloc (.map #[] 0)).cell? ⟨p5, 3, none⟩ = some (.bool true) := (World.cell?_of_block ba).trans c3
  clear ba
  have hM0 : MapT (w6.alloc (.map #[] 0)) (w.heap.size + 6) [] := ⟨#[], 0, by rw [← ks]; exact heap_alloc_new w6 _, rfl⟩
  go_wp2_with (first | (go_at_call 166; refine (key_any b c n tf0 (by omega) (by omega) (by omega) (by decide) (by decide) (w6.alloc (.map #[] 0)) p4 w.heap.size p1 p3 (k5.alloc _).lt (k1.alloc _).lt (k2.alloc _).lt (k4.alloc _).lt ((k5.alloc _).cell 0) ((k1.alloc _).cell 0) ((k2.alloc _).cell 0) ((k4.alloc _).cell 0)).mono ?_; rintro e w7 ⟨rfl, b7⟩; have hM := hM0.same (b7.block _ hM0.lt)) | (refine wpList_putT w7 rfl _ _ _ (.inr rfl) (w.heap.size + 6) [] (tkey b c n tf0) 0 hM rfl rfl rfl rfl rfl ?_; intro w8 o8 m8) | (at_make; refine wpList_mk etSS _ rfl _ _ rfl p5 _ _ _ _ 3 rfl rfl rfl rfl (by omega) (by have := b7.size; have := o8.size; simp at *; omega) ?_; intro w9 h9 g9 s9))
  have KT := TS.init k1 k2 k3 k4 k5 hps k6 kb ks (by omega) b7 o8 m8 h9 g9
  have h31 : ((3 : Nat) : Int) = 3 := rfl
  have hlo : w.heap.size < p5 := by have := hps.1; omega
  clear k1 k2 k3 k4 k5 hps k6 kb ks b7 o8 m8 h9 g9 hM hM0 c0 c1 c2 c3 hg5l s9 hmk hp5 hg5 e1 e2 e3 hbb hcc hsf HN
  generalize w.heap.size + 6 = mb at *
  generalize w8.heap.size = g0 at *
  go_loopw [8, 11] (fun lv iv wr => ∃ (at_ : Nat) (s : PSt) (ao : Option Addr) (cap : Nat) (us : List Value), lv = .slice ao s.1.length cap ∧ iv = .int .i64 at_ ∧ PO b c n T (8 * n) φ R at_ s ∧ TS b c n w wr p5 p1 p2 p3 p4 ao cap mb g0 us s) (fun _ iv _ => 8 * n + 1 - (intOf iv).toNat)
  case atStart => exact ⟨0, _, _, _, _, rfl, rfl, PS, KT⟩
  case round =>
    clear KT PS
    obtain ⟨at_, s, ao, cap, us, rfl, rfl, PS, KT⟩ := hrel
    have hfew := PS.few
    by_cases hat : at_ < s.1.length
    · have PI0 := Lib.hid (PO.inner I PS hat)
      have PN := Lib.hid (PO.next I PS hat)
      clear PS
      go_wp2
      go_loopw [8, 43] (fun lv iv wi => ∃ (k : Nat) (s' : PSt) (ao' : Option Addr) (cap' : Nat) (us' : List Value), lv = .slice ao' s'.1.length cap' ∧ iv = .int .i64 k ∧ k ≤ 3 ∧ s' = pRow b c n (tget s.1 at_) s k ∧ TS b c n w wi p5 p1 p2 p3 p4 ao' cap' mb g0 us' s') (fun _ iv _ => 3 - (intOf iv).toNat)
      case atStart => exact ⟨0, _, _, _, _, rfl, rfl, Nat.zero_le _, rfl, KT⟩
      case round =>
        clear KT
        obtain ⟨k, s', ao', cap', us', rfl, rfl, hk, hs', KI⟩ := hrel
        by_cases hlt : k < 3
        · have pi := PI0.out k hk
          rw [← hs'] at pi
          obtain ⟨pi1, pi2, pi3, pi4, pi5, pi6⟩ := pi
          obtain ⟨g, rfl, hgl, d0, d1, d2, d3⟩ := KI.ls.at_ pi4
          have hb := pi3 at_ pi4
          rw [pi5] at d0 d1 d2 d3 hb
          have hst : pRow b c n (tget s.1 at_) s (k + 1) = pStep b c n (tget s.1 at_) s' k := by rw [pRow_succ, hs']
          have HS := Lib.hid hst
          have HS' := Lib.hid hs'
          clear hst hs'
          generalize tget s.1 at_ = t0 at *
          go_wp2_with (go_at_call 167; refine (moved_any t0 k _ hlt (by omega) (by omega) (by omega)).mono ?_; rintro e wx ⟨rfl, bx⟩; rw [fv]; generalize htn : tmv k t0 = tn)
          have KX := KI.keep bx
          have near := tmv_near hlt hb
          rw [htn] at near
          have kn : Blk (wx.alloc (.cells #[.int .i64 tn.x, .int .i64 tn.y, .int .i64 tn.d, .bool tn.l] 153)) wx.heap.size 153 #[.int .i64 tn.x, .int .i64 tn.y, .int .i64 tn.d, .bool tn.l] := blk_at rfl
          have KY := KX.keep (below_alloc1 wx (.cells #[.int .i64 tn.x, .int .i64 tn.y, .int .i64 tn.d, .bool tn.l] 153))
          have sx := KX.size
          have mx := KX.mp.lt
          clear KX KI bx d0 d1 d2 d3 hgl
          generalize wx.alloc (.cells #[.int .i64 tn.x, .int .i64 tn.y, .int .i64 tn.d, .bool tn.l] 153) = wy at *
          generalize wx.heap.size = pn at *
          refine (key_any b c n tn (by omega) (by omega) (by omega) (by omega) (by omega) wy p4 w.heap.size p1 p3 KY.fx.lt KY.bx.lt KY.cx.lt KY.nx.lt (KY.fx.cell 0) (KY.bx.cell 0) (KY.cx.cell 0) (KY.nx.cell 0)).mono ?_
          rintro e wz ⟨rfl, bz⟩
          have KZ := KY.keep bz
          have kz := kn.belowS bz
          clear KY kn bz
          obtain ⟨u, d, hu, hd, ⟨ra, rn, rc, rfl, ow0⟩, hin⟩ := KZ.rws.get hlt
          have hdl : d = lget s'.2 k := (lget_get? hd).symm
          have hrl : d.length = rn := by have := ow0.len; simpa using this
          have hrn := pi6 k hlt
          rw [← hdl] at hrn
          have HD := Lib.hid hdl
          clear hd hdl hin
          cases hf : fndT (tkey b c n tn) (s'.1.map (tkey b c n)) 0 with
          | some j =>
            have hpS : pStep b c n t0 s' k = (s'.1, s'.2.set k (d ++ [(j : Int)])) := by rw [HD.out]; exact pStep_old (by rw [htn]; exact hf)
            have HPS := Lib.hid hpS
            clear hpS
            have OWP := ow0
            clear ow0
            have KW := KZ
            have cs7 : wz.cell? ⟨g0, k, none⟩ = some (.slice ra rn rc) := KZ.rws.cell hu
            have HM := Lib.hid KZ.mp
            have HF := Lib.hid hf
            clear hf
            have c7 : wz.cell? ⟨g0, k, none⟩ = some (.slice ra rn rc) := KW.rws.cell hu
            have OW := Lib.hid (show Own wz 0 2 ra rn rc (d.map (Value.int .i64)) from OWP)
            have rin := KW.rws.rng k _ hu
            have rout : bk ra = none ∨ bk (some (⟨g0, 0, none⟩ : Addr)) ≠ bk ra := by
              cases hr : bk ra with
              | none => exact .inl rfl
              | some x => exact .inr fun e => KW.rws.out k _ x hu (by rw [ownBlock_slice]; exact hr) e
            have OK := Lib.hid KW
            have ssz := KW.size
            clear KW KZ OWP
            go_wp2_with (first | (refine wpList_lookY wz rfl _ _ rfl mb _ _ j HM.out HF.out rfl rfl ?_) | (at_builtin; refine wpList_ap1 etI _ rfl _ _ rfl 0 ra rn rc _ rfl OW.out (.int .i64 (j : Int)) rfl rfl (by omega) (Nat.zero_le _) ?_; intro ao2 c2 w2 ho2 hg2 hblk; have OG := OK.out.rws.own.kept hg2 (rout.elim (fun e => .inr (by rw [e]; simp [bk])) .inr); have q7 : w2.cell? ⟨g0, k, none⟩ = some (.slice ra rn rc) := hg2.cell c7 (rout.elim (fun e => by rw [e]; simp) fun e => by simpa [bk] using e); have f7 : w2.frozen? ⟨g0, k, none⟩ = false := by obtain ⟨x, ex, -, -, -, -, fx⟩ := OG.form (by omega); injection ex with ex; injection ex with ex; subst ex; exact fx k))
            have KQ := Lib.hid (OK.out.row hlt hu hg2 (by rw [List.map_append]; exact ho2 : Own w2 0 2 ao2 (rn + 1) c2 ((d ++ [(j : Int)]).map (Value.int .i64))) (hblk.elim .inl fun e => .inr ⟨_, e, Nat.le_succ _⟩) (fun x hx => by rcases hblk with e | e; exact (rin x (by rw [ownBlock_slice, ← e]; exact hx)).1; rw [e] at hx; have := Option.some.inj hx; omega))
            clear ho2 hg2 hblk OG OK OW
            go_wp2
            go_roundw
            case rel => exact ⟨k + 1, (s'.1, s'.2.set k (d ++ [(j : Int)])), _, _, _, rfl, by go_num, hlt, by rw [HS.out, HPS.out], KQ.out⟩
            case measure => simp [intOf]; omega
          | none =>
            have hpS : pStep b c n t0 s' k = (s'.1 ++ [tn], s'.2.set k (d ++ [(s'.1.length : Int)])) := by rw [HD.out, ← htn]; exact pStep_new (by rw [htn]; exact hf)
            have HPS := Lib.hid hpS
            clear hpS ow0
            have HF := Lib.hid hf
            clear hf
            have x0 : wz.cell? ⟨pn, 0, none⟩ = some (.int .i64 tn.x) := kz.cell 0
            have x1 : wz.cell? ⟨pn, 1, none⟩ = some (.int .i64 tn.y) := kz.cell 1
            have x2 : wz.cell? ⟨pn, 2, none⟩ = some (.int .i64 tn.d) := kz.cell 2
            have x3 : wz.cell? ⟨pn, 3, none⟩ = some (.bool tn.l) := kz.cell 3
            go_upto_region 18 with (first | (refine wpList_lookN wz rfl _ _ rfl mb _ _ KZ.mp HF.out rfl rfl ?_) | (go_at_call 168; refine (sizeF_any _ _ _ _).mono ?_; rintro e w' ⟨rfl, rfl⟩) | (go_at_call 166; refine (key_any b c n tn (by omega) (by omega) (by omega) (by omega) (by omega) _ p4 w.heap.size p1 p3 KZ.fx.lt KZ.bx.lt KZ.cx.lt KZ.nx.lt (KZ.fx.cell 0) (KZ.bx.cell 0) (KZ.cx.cell 0) (KZ.nx.cell 0)).mono ?_; rintro e wv ⟨rfl, bv⟩; have KV := KZ.keep bv; have kv := kz.belowS bv) | (refine wpList_putT wv rfl _ _ _ (.inl rfl) mb _ (tkey b c n tn) (s'.1.length : Int) KV.mp HF.out rfl rfl rfl (by rw [List.length_map]) ?_; intro w3 o3 m3))
            have kq := kv.only o3 (.inr (by omega))
            have y0 : w3.cell? ⟨pn, 0, none⟩ = some (.int .i64 tn.x) := kq.cell 0
            have y1 : w3.cell? ⟨pn, 1, none⟩ = some (.int .i64 tn.y) := kq.cell 1
            have y2 : w3.cell? ⟨pn, 2, none⟩ = some (.int .i64 tn.d) := kq.cell 2
            have y3 : w3.cell? ⟨pn, 3, none⟩ = some (.bool tn.l) := kq.cell 3
            obtain ⟨hF, hT⟩ := KV.put o3 m3
            have s3 : p5 ≤ w3.heap.size := by have := KV.size; have := o3.size; omega
            clear KZ KV kz kv x0 x1 x2 x3
            go_upto_region 19 with (at_builtin; refine wpList_apF w3 rfl _ _ rfl p5 _ _ _ _ rfl hF tn rfl (by omega) s3 ?_; intro ao3 c3 w4 h4 g4 hb4)
            have KW := hT (L := s'.1 ++ [tn]) (r := s'.2) g4 (by rw [List.length_append]; exact h4) (by rw [List.map_append]; rfl) rfl
            clear hT hF h4 g4 hb4 y0 y1 y2 y3 kq
            have c7 : w4.cell? ⟨g0, k, none⟩ = some (.slice ra rn rc) := KW.rws.cell hu
            obtain ⟨u2, d2, hu2, hd2, ⟨ra2, rn2, rc2, hru, ow0⟩, hin2⟩ := KW.rws.get hlt
            rw [hu] at hu2
            obtain rfl := Option.some.inj hu2
            injection hru with hr1 hr2 hr3
            subst hr1 hr2 hr3
            obtain rfl : d = d2 := by rw [HD.out]; exact lget_get? hd2
            have OW := Lib.hid ow0
            have rin := KW.rws.rng k _ hu
            have rout : bk ra = none ∨ bk (some (⟨g0, 0, none⟩ : Addr)) ≠ bk ra := by
              cases hr : bk ra with
              | none => exact .inl rfl
              | some x => exact .inr fun e => KW.rws.out k _ x hu (by rw [ownBlock_slice]; exact hr) e
            have OK := Lib.hid KW
            have ssz := KW.size
            clear KW ow0 hin2 hd2 hu2
            go_wp2_with (at_builtin; refine wpList_ap1 etI _ rfl _ _ rfl 0 ra rn rc _ rfl OW.out (.int .i64 (s'.1.length : Int)) rfl rfl (by omega) (Nat.zero_le _) ?_; intro ao2 c2 w2 ho2 hg2 hblk; have OG := OK.out.rws.own.kept hg2 (rout.elim (fun e => .inr (by rw [e]; simp [bk])) .inr); have q7 : w2.cell? ⟨g0, k, none⟩ = some (.slice ra rn rc) := hg2.cell c7 (rout.elim (fun e => by rw [e]; simp) fun e => by simpa [bk] using e); have f7 : w2.frozen? ⟨g0, k, none⟩ = false := by obtain ⟨x, ex, -, -, -, -, fx⟩ := OG.form (by omega); injection ex with ex; injection ex with ex; subst ex; exact fx k)
            have KQ := Lib.hid (OK.out.row hlt hu hg2 (by rw [List.map_append]; exact ho2 : Own w2 0 2 ao2 (rn + 1) c2 ((d ++ [(s'.1.length : Int)]).map (Value.int .i64))) (hblk.elim .inl fun e => .inr ⟨_, e, Nat.le_succ _⟩) (fun x hx => by rcases hblk with e | e; exact (rin x (by rw [ownBlock_slice, ← e]; exact hx)).1; rw [e] at hx; have := Option.some.inj hx; omega))
            clear ho2 hg2 hblk OG OK OW
            go_wp2
            go_roundw
            case rel => exact ⟨k + 1, (s'.1 ++ [tn], s'.2.set k (d ++ [(s'.1.length : Int)])), _, _, _, by rw [List.length_append]; rfl, by go_num, hlt, by rw [HS.out, HPS.out], KQ.out⟩
            case measure => simp [intOf]; omega
        · obtain rfl : k = 3 := by omega
          have HS' := Lib.hid hs'
          clear hs' hlt
          have h33 : decide ((3 : Int) < 3) = false := by decide
          go_wp2
          go_roundw
          case rel => exact ⟨at_ + 1, s', _, _, _, rfl, by go_num, by rw [HS'.out]; exact PN.out, KI⟩
          case measure => simp [intOf]; omega
    · obtain rfl := PS.done hat
      have c0 : wr.cell? ⟨p2, 0, none⟩ = some (.slice none 0 0) := KT.mn.cell 0
      have f0 := KT.mn.frozen 0
      have hge : ¬ ((at_ : Int) < s.1.length) := by omega
      have hps := KT.ps
      have KM := KT.mn.set_ 0 (.slice (some ⟨g0, 0, none⟩) 3 3)
      have hrw := KT.rws.own.lt g0 rfl
      have KR : OwR (OwS 2) (wr.setCell ⟨p2, 0, none⟩ (.slice (some ⟨g0, 0, none⟩) 3 3)) p5 wr.heap.size 49 (some ⟨g0, 0, none⟩) 3 3 us s.2 := KT.rws.same (innerS _) fun g h1 _ _ => Below.heap_setCell _ _ _ _ (by simp; omega)
      have KB : Below w.heap.size w (wr.setCell ⟨p2, 0, none⟩ (.slice (some ⟨g0, 0, none⟩) 3 3)) := KT.bel.setCell (by show w.heap.size ≤ p2; omega) _
      have ksz : (wr.setCell ⟨p2, 0, none⟩ (.slice (some ⟨g0, 0, none⟩) 3 3)).heap.size = wr.heap.size := by simp [World.setCell]
      rw [← ksz] at KR
      clear KT PS ksz
      go_wp2
      generalize wr.setCell ⟨p2, 0, none⟩ (.slice (some ⟨g0, 0, none⟩) 3 3) = ws at *
      have e0 : ws.cell? ⟨p2, 0, none⟩ = some (.slice (some ⟨g0, 0, none⟩) 3 3) := KM.cell 0
      exact bodyPost_ret (v := .agg #[.slice (some ⟨g0, 0, none⟩) 3 3]) (by simp [results, Try.f98, go_sem, e0]) rfl ⟨_, rfl, ⟨_, _, _, us, rfl, KR.mono (by omega) (Nat.le_refl _)⟩, KB⟩
end Go.Proofs.Ytpognnifgcacnaa

/- Torus maps: what the kernel finds, b in [0, 1]. -/
namespace Go.Proofs.Ytpognnifgcacnaa

set_option maxRecDepth 100000 in
theorem torAll_0 : torAll 0 = true := by kernel_rfl
set_option maxRecDepth 100000 in
theorem torAll_1 : torAll 1 = true := by kernel_rfl
end Go.Proofs.Ytpognnifgcacnaa

/- Torus maps: what the kernel finds, b in [2, 3, 4]. -/
namespace Go.Proofs.Ytpognnifgcacnaa

set_option maxRecDepth 100000 in
theorem torAll_2 : torAll 2 = true := by kernel_rfl
set_option maxRecDepth 100000 in
theorem torAll_3 : torAll 3 = true := by kernel_rfl
set_option maxRecDepth 100000 in
theorem torAll_4 : torAll 4 = true := by kernel_rfl
end Go.Proofs.Ytpognnifgcacnaa

/- Torus maps: what the kernel finds, b in [5]. -/
namespace Go.Proofs.Ytpognnifgcacnaa

set_option maxRecDepth 100000 in
theorem torAll_5 : torAll 5 = true := by kernel_rfl
end Go.Proofs.Ytpognnifgcacnaa

/- Torus maps: what the kernel finds, b in [6, 7]. -/
namespace Go.Proofs.Ytpognnifgcacnaa

set_option maxRecDepth 100000 in
theorem torAll_6 : torAll 6 = true := by kernel_rfl
set_option maxRecDepth 100000 in
theorem torAll_7 : torAll 7 = true := by kernel_rfl
end Go.Proofs.Ytpognnifgcacnaa

/- Torus maps: both sides alike, whatever b and c. -/
namespace Go.Proofs.Ytpognnifgcacnaa

theorem torGood_all {b c : Nat} (hb : b ≤ 7) (hc : c ≤ 7) (h0 : 0 < b * b + c * c) (h50 : b * b + c * c ≤ 50) : torGood b c (b * b + c * c) (cAll b c (b * b + c * c) (b * b + c * c)) = true := by
  match b, hb with
  | 0, _ => exact torAll_spec torAll_0 hc h0 h50
  | 1, _ => exact torAll_spec torAll_1 hc h0 h50
  | 2, _ => exact torAll_spec torAll_2 hc h0 h50
  | 3, _ => exact torAll_spec torAll_3 hc h0 h50
  | 4, _ => exact torAll_spec torAll_4 hc h0 h50
  | 5, _ => exact torAll_spec torAll_5 hc h0 h50
  | 6, _ => exact torAll_spec torAll_6 hc h0 h50
  | 7, _ => exact torAll_spec torAll_7 hc h0 h50
end Go.Proofs.Ytpognnifgcacnaa

/- Torus maps: l10Torus walked, up to its form. guards: -/
namespace Go.Proofs.Ytpognnifgcacnaa
open Go.RowKit

attribute [local irreducible] IntKind.wrap
theorem iget_in {n : Nat} {l : List Int} (h : ∀ z ∈ l, 0 ≤ z ∧ z < n) (h0 : 0 < n) (i : Nat) : 0 ≤ iget l i ∧ iget l i < n := by
  by_cases hi : i < l.length
  · exact h _ (iget_mem hi)
  · have : iget l i = 0 := by simp [iget, List.getElem?_eq_none (by omega : l.length ≤ i)]
    omega
set_option maxRecDepth 100000 in
set_option maxHeartbeats 4000000 in
theorem torS_fc (b c n : Nat) (hb : b ≤ 7) (hc : c ≤ 7) (hn : b * b + c * c = n) (h0 : 0 < n) (hfull : (cAll b c n n).1.length = n) (R : List (List Int)) (hR3 : R.length = 3)
    (hF : FC Try.prog 164 [(1003, rowsRo [tRow0 (8 * n), tRow1 (8 * n), tRow2 b c n (cAll b c n n) (8 * n)])] [mA 3, vv (I6 0)] [(9, imOw R)] (.s (.agg [.sl 9 0 3])) []) :
    FC Try.prog 96 [] [vv (I6 b), vv (I6 c)] [(180, imOw R)] (.s (.agg [.sl 180 0 3])) [] := by
  obtain ⟨hbb, hcc⟩ := torN hb hc
  have hn98 : n ≤ 98 := by omega
  have e1 : IntKind.i64.wrap ((b : Int) * b) = ((b * b : Nat) : Int) := by rw [← Int.natCast_mul]; exact IntWalk.i64_in _ (by omega)
  have e2 : IntKind.i64.wrap ((c : Int) * c) = ((c * c : Nat) : Int) := by rw [← Int.natCast_mul]; exact IntWalk.i64_in _ (by omega)
  have e3 : IntKind.i64.wrap (((b * b : Nat) : Int) + ((c * c : Nat) : Int)) = (n : Int) := by rw [IntWalk.i64_in _ (by omega)]; omega
  have hSame : ∀ x y : Int, -1000 ≤ x ∧ x ≤ 1000 → -1000 ≤ y ∧ y ≤ 1000 → FC Try.prog 163 [] [vv (I6 b), vv (I6 c), vv (I6 x), vv (I6 y)] [] (vv (.bool (sameB b c x y))) [] := fun x y => same_fc b c x y hb hc (by omega)
  have hCO : ∀ k, k ≤ n → COk n (cAll b c n k) := fun k => COk.all k
  generalize b * b = bb at *
  generalize c * c = cc at *
  refine fc_enter (nt := 181) Try.func96 rfl rfl (by simp) fun w0 ω0 => ?_
  (refine goes_seq ?_; refine goes_region ?_; apply run_step rfl; (exact stp_allocZ [.slice none 0 0] rfl (by as_aux_lemma => kernel_rfl)); refine run_nil ?_; refine fin_seq ?_; refine goes_seq ?_; refine goes_region ?_; apply run_step rfl; (exact stp_move rfl rfl); apply run_step rfl; (exact stp_move rfl rfl); apply run_step rfl; (first | exact stp_mul rfl rfl rfl e1 | exact stp_mul rfl rfl rfl e2 | exact stp_add rfl rfl rfl e3 | exact stp_lit0 rfl (by as_aux_lemma => kernel_rfl)); apply run_step rfl; (exact stp_move rfl rfl); apply run_step rfl; (exact stp_move rfl rfl); apply run_step rfl; (first | exact stp_mul rfl rfl rfl e1 | exact stp_mul rfl rfl rfl e2 | exact stp_add rfl rfl rfl e3 | exact stp_lit0 rfl (by as_aux_lemma => kernel_rfl)); apply run_step rfl; (first | exact stp_mul rfl rfl rfl e1 | exact stp_mul rfl rfl rfl e2 | exact stp_add rfl rfl rfl e3 | exact stp_lit0 rfl (by as_aux_lemma => kernel_rfl)); apply run_step rfl; (exact stp_assign rfl rfl); refine run_nil ?_; refine fin_seq ?_; refine goes_seq ?_; refine goes_region ?_; apply run_step rfl; (exact stp_lit0 (E := 2) (k := 1) rfl (by as_aux_lemma => kernel_rfl)); apply run_step rfl; (exact stp_lit0 (E := 2) (k := 1) rfl (by as_aux_lemma => kernel_rfl)); apply run_step rfl; (exact stp_assign rfl rfl); apply run_step rfl; (exact stp_assign rfl rfl); refine run_nil ?_; refine fin_seq ?_; refine goes_seq ?_; refine goes_seq ?_; refine goes_region ?_; apply run_step rfl; (exact stp_assign rfl rfl); refine run_nil ?_; refine fin_seq ?_; refine goes_block ?_)
  refine goes_loop (fun q : Nat × (List Int × List Int) => St.of [(0, vv (I6 b)), (1, vv (I6 c)), (4, o1 (.ptr 4 0)), (5, vv (I6 n)), (6, o1 (.sl 29 0 q.2.1.length)), (7, o1 (.sl 30 0 q.2.2.length)), (8, vv (I6 q.1))] [(4, mBox), (29, leOw q.2.1), (30, leOw q.2.2)])
    (fun q => q.1 ≤ n ∧ cAll b c n q.1 = q.2) (fun q => n - q.1) (0, ([], [])) ⟨Nat.zero_le _, rfl⟩ (Wk.of ⟨rfl, rfl, rfl, rfl, rfl, rfl, rfl, trivial⟩ ⟨rfl, rfl, rfl, trivial⟩ trivial) ?_
  rintro ⟨x, s⟩ ⟨hx, hs⟩
  dsimp only at hx hs ⊢
  (refine goes_seq ?_; refine goes_seq ?_; refine goes_region ?_; apply run_step rfl; (exact stp_move rfl rfl); apply run_step rfl; (exact stp_move rfl rfl); apply run_step rfl; (exact stp_bin rfl rfl rfl rfl); refine run_nil ?_; refine fin_seq ?_)
  refine goes_if rfl (fun h1 => ?_) (fun h1 => ?_)
  · have hxn : x < n := by omega
    have hC0 : COk n s := by rw [← hs]; exact hCO x hx
    have hnext : cAll b c n (x + 1) = cRow b c n x s n := by rw [cAll_succ, hs]
    (refine goes_skip ?_; refine fin_seq ?_; refine goes_seq ?_; refine goes_block ?_; refine goes_seq ?_; refine goes_region ?_; apply run_step rfl; (exact stp_assign rfl rfl); refine run_nil ?_; refine fin_seq ?_; refine goes_block ?_)
    refine goes_loop (fun q : Nat × (List Int × List Int) => St.of [(0, vv (I6 b)), (1, vv (I6 c)), (4, o1 (.ptr 4 0)), (5, vv (I6 n)), (6, o1 (.sl 29 0 q.2.1.length)), (7, o1 (.sl 30 0 q.2.2.length)), (8, vv (I6 x)), (9, vv (I6 q.1))] [(4, mBox), (29, leOw q.2.1), (30, leOw q.2.2)])
      (fun q => q.1 ≤ n ∧ cRow b c n x s q.1 = q.2) (fun q => n - q.1) (0, s) ⟨Nat.zero_le _, rfl⟩ (Wk.of ⟨rfl, rfl, rfl, rfl, rfl, rfl, rfl, rfl, trivial⟩ ⟨rfl, rfl, rfl, trivial⟩ trivial) ?_
    rintro ⟨y, u⟩ ⟨hy, hu⟩
    dsimp only at hy hu ⊢
    (refine goes_seq ?_; refine goes_seq ?_; refine goes_region ?_; apply run_step rfl; (exact stp_move rfl rfl); apply run_step rfl; (exact stp_move rfl rfl); apply run_step rfl; (exact stp_bin rfl rfl rfl rfl); refine run_nil ?_; refine fin_seq ?_)
    refine goes_if rfl (fun h2 => ?_) (fun h2 => ?_)
    · have hyn : y < n := by omega
      have hC : COk n u := by rw [← hu]; exact hC0.row hxn y hy
      have hst : cRow b c n x s (y + 1) = cStep b c n x u y := by rw [cRow_succ, hu]
      clear hu
      have hle := hC.le
      (refine goes_skip ?_; refine fin_seq ?_; refine goes_seq ?_; refine goes_block ?_; refine goes_seq ?_; refine goes_region ?_; apply run_step rfl; (exact stp_move rfl rfl); apply run_step rfl; (exact stp_len rfl rfl rfl (by as_aux_lemma => kernel_rfl)); apply run_step rfl; (exact stp_move rfl rfl); apply run_step rfl; (exact stp_bin rfl rfl rfl rfl); apply run_step rfl; (exact stp_assign rfl rfl); refine run_nil ?_; refine fin_seq ?_; refine goes_seq ?_; refine goes_seq ?_; refine goes_region ?_; apply run_step rfl; (exact stp_assign rfl rfl); refine run_nil ?_; refine fin_seq ?_; refine goes_block ?_)
      refine goes_loop (fun q : Nat × Bool => St.of [(0, vv (I6 b)), (1, vv (I6 c)), (4, o1 (.ptr 4 0)), (5, vv (I6 n)), (6, o1 (.sl 29 0 u.1.length)), (7, o1 (.sl 30 0 u.2.length)), (8, vv (I6 x)), (9, vv (I6 y)), (10, vv (.bool q.2)), (11, vv (I6 q.1))] [(4, mBox), (29, leOw u.1), (30, leOw u.2)])
        (fun q => q.1 ≤ u.1.length ∧ (decide ((u.1.length : Int) < (n : Int)) && freB b c u x y q.1) = q.2) (fun q => u.1.length - q.1) (0, decide ((u.1.length : Int) < (n : Int))) ⟨Nat.zero_le _, by rw [freB_zero, Bool.and_true]⟩ (Wk.of ⟨rfl, rfl, rfl, rfl, rfl, rfl, rfl, rfl, rfl, rfl, trivial⟩ ⟨rfl, rfl, rfl, trivial⟩ trivial) ?_
      rintro ⟨i, fr⟩ ⟨hi, hfr⟩
      dsimp only at hi hfr ⊢
      cases fr with
      | true =>
        by_cases hil : i < u.1.length
        · have hlt : (i : Int) < (u.1.length : Int) := by omega
          have ga : (ivals u.1)[i]? = some (I6 (iget u.1 i)) := ivals_get hil
          have gb : (ivals u.2)[i]? = some (I6 (iget u.2 i)) := ivals_get (by rw [hC.len]; exact hil)
          have ba := iget_in hC.a h0 i
          have bb' := iget_in hC.b h0 i
          have hil2 : i < u.2.length := by rw [hC.len]; exact hil
          have la : u.1.length ≤ (ivals u.1).length := by rw [ivals_len]; exact Nat.le_refl _
          have lb : u.2.length ≤ (ivals u.2).length := by rw [ivals_len]; exact Nat.le_refl _
          have hfs := freB_succ b c u x y i
          have hS := hSame ((x : Int) - iget u.1 i) ((y : Int) - iget u.2 i) (by omega) (by omega)
          obtain ⟨z1, hz1⟩ : ∃ z, z = (x : Int) - iget u.1 i := ⟨_, rfl⟩
          obtain ⟨z2, hz2⟩ : ∃ z, z = (y : Int) - iget u.2 i := ⟨_, rfl⟩
          have d1 : IntKind.i64.wrap ((x : Int) - iget u.1 i) = z1 := by rw [hz1]; exact IntWalk.i64_in _ (by omega)
          have d2 : IntKind.i64.wrap ((y : Int) - iget u.2 i) = z2 := by rw [hz2]; exact IntWalk.i64_in _ (by omega)
          rw [← hz1, ← hz2] at hfs hS
          clear hz1 hz2
          (refine goes_seq ?_; refine goes_seq ?_; refine goes_region ?_; apply run_step rfl; (exact stp_move rfl rfl); apply run_step rfl; (exact stp_move rfl rfl); apply run_step rfl; (exact stp_len rfl rfl rfl (by as_aux_lemma => kernel_rfl)); apply run_step rfl; (exact stp_bin rfl rfl rfl (show binI .i64 .lss (i : Int) (u.1.length : Int) = some (.bool true) by simp [binI, hil])); apply run_step rfl; (exact stp_move rfl rfl); apply run_gYes rfl rfl rfl; (exact stp_move rfl rfl); apply run_step rfl; (exact stp_pickT rfl rfl rfl); refine run_nil ?_; refine fin_seq ?_)
          refine goes_cond rfl (fun _ => ?_) (fun e => by cases e)
          (refine goes_skip ?_; refine fin_seq ?_; refine goes_seq ?_; refine goes_block ?_)
          apply goes_draw 14 [] [[], [], [], [], [], [3, 4], [3, 4, 5], [2, 3, 4, 5, 6], [], [], [], [9, 10], [9, 10, 11], [8, 9, 10, 11, 12], [0, 1, 2, 3, 4, 5, 6, 7, 8, 9, 10, 11, 12, 13], [0, 1, 2, 3, 4, 5, 6, 7, 8, 9, 10, 11, 12, 13, 14], [0, 1, 2, 3, 4, 5, 6, 7, 8, 9, 10, 11, 12, 13, 14, 15]] [54, 55, 56, 57, 58, 59, 60, 61, 62, 63, 64, 65, 66, 67] [] (by kernel_rfl) (by kernel_rfl)
          · (apply draw_put rfl; (intro S1 hS; exact stp_move rfl (hS.op rfl)); apply draw_put rfl; (intro S1 hS; exact stp_move rfl (hS.op rfl)); apply draw_put rfl; (intro S1 hS; exact stp_move rfl (hS.op rfl)); apply draw_put rfl; (intro S1 hS; exact stp_move rfl (hS.op rfl)); apply draw_put rfl; (intro S1 hS; exact stp_move rfl (hS.op rfl)); (first | (apply draw_put rfl; (focus (intro S1 hS; exact stp_ix (j := i) rfl (hS.op rfl) (hS.op rfl) (hS.ch _ _ rfl) rfl (by as_aux_lemma => kernel_rfl) rfl hil la))) | (apply draw_put rfl; (focus (intro S1 hS; exact stp_ix (j := i) rfl (hS.op rfl) (hS.op rfl) (hS.ch _ _ rfl) rfl (by as_aux_lemma => kernel_rfl) rfl hil2 lb))) | (apply draw_put rfl; (focus (intro S1 hS; exact stp_sub rfl (hS.op rfl) (hS.op rfl) d1))) | (apply draw_put rfl; (focus (intro S1 hS; exact stp_sub rfl (hS.op rfl) (hS.op rfl) d2)))); apply draw_put rfl; (intro S1 hS; exact stp_loadV rfl (by as_aux_lemma => kernel_rfl) (hS.op rfl) (hS.ch _ _ rfl) rfl (by first | assumption | exact ivals_get (by assumption) | exact irows_get (by assumption) | exact ivals_get (by omega) | exact irows_get (by omega) | rfl)); (first | (apply draw_put rfl; (focus (intro S1 hS; exact stp_ix (j := i) rfl (hS.op rfl) (hS.op rfl) (hS.ch _ _ rfl) rfl (by as_aux_lemma => kernel_rfl) rfl hil la))) | (apply draw_put rfl; (focus (intro S1 hS; exact stp_ix (j := i) rfl (hS.op rfl) (hS.op rfl) (hS.ch _ _ rfl) rfl (by as_aux_lemma => kernel_rfl) rfl hil2 lb))) | (apply draw_put rfl; (focus (intro S1 hS; exact stp_sub rfl (hS.op rfl) (hS.op rfl) d1))) | (apply draw_put rfl; (focus (intro S1 hS; exact stp_sub rfl (hS.op rfl) (hS.op rfl) d2)))); apply draw_put rfl; (intro S1 hS; exact stp_move rfl (hS.op rfl)); apply draw_put rfl; (intro S1 hS; exact stp_move rfl (hS.op rfl)); apply draw_put rfl; (intro S1 hS; exact stp_move rfl (hS.op rfl)); (first | (apply draw_put rfl; (focus (intro S1 hS; exact stp_ix (j := i) rfl (hS.op rfl) (hS.op rfl) (hS.ch _ _ rfl) rfl (by as_aux_lemma => kernel_rfl) rfl hil la))) | (apply draw_put rfl; (focus (intro S1 hS; exact stp_ix (j := i) rfl (hS.op rfl) (hS.op rfl) (hS.ch _ _ rfl) rfl (by as_aux_lemma => kernel_rfl) rfl hil2 lb))) | (apply draw_put rfl; (focus (intro S1 hS; exact stp_sub rfl (hS.op rfl) (hS.op rfl) d1))) | (apply draw_put rfl; (focus (intro S1 hS; exact stp_sub rfl (hS.op rfl) (hS.op rfl) d2)))); apply draw_put rfl; (intro S1 hS; exact stp_loadV rfl (by as_aux_lemma => kernel_rfl) (hS.op rfl) (hS.ch _ _ rfl) rfl (by first | assumption | exact ivals_get (by assumption) | exact irows_get (by assumption) | exact ivals_get (by omega) | exact irows_get (by omega) | rfl)); (first | (apply draw_put rfl; (focus (intro S1 hS; exact stp_ix (j := i) rfl (hS.op rfl) (hS.op rfl) (hS.ch _ _ rfl) rfl (by as_aux_lemma => kernel_rfl) rfl hil la))) | (apply draw_put rfl; (focus (intro S1 hS; exact stp_ix (j := i) rfl (hS.op rfl) (hS.op rfl) (hS.ch _ _ rfl) rfl (by as_aux_lemma => kernel_rfl) rfl hil2 lb))) | (apply draw_put rfl; (focus (intro S1 hS; exact stp_sub rfl (hS.op rfl) (hS.op rfl) d1))) | (apply draw_put rfl; (focus (intro S1 hS; exact stp_sub rfl (hS.op rfl) (hS.op rfl) d2)))); exact Draw.nil)
          · rfl
          ((apply rest_one 14 rfl (by as_aux_lemma => kernel_rfl) rfl rfl; (apply call_gate 163; exact stp_callR hS (by as_aux_lemma => kernel_rfl) rfl rfl ⟨rfl, rfl, rfl, rfl, trivial⟩ trivial rfl rfl)); (apply rest_one 15 rfl (by as_aux_lemma => kernel_rfl) rfl rfl; (exact stp_not rfl rfl)); (apply rest_one 16 rfl (by as_aux_lemma => kernel_rfl) rfl rfl; (exact stp_assign rfl rfl)); (refine rest_done (by as_aux_lemma => kernel_rfl) ?_; skip))
          (refine fin_block ?_; refine fin_seq ?_; refine goes_region ?_; apply run_step rfl; (exact stp_move rfl rfl); apply run_step rfl; (exact stp_add rfl rfl rfl (by first | exact IntWalk.i64_in _ (by omega) | rfl)); apply run_step rfl; (exact stp_assign rfl rfl); refine run_nil ?_)
          exact fin_round (i + 1, !sameB b c z1 z2) ⟨hil, by rw [hfs, ← Bool.and_assoc, hfr, Bool.true_and]⟩ (by show u.1.length - (i + 1) < u.1.length - i; omega) (Wk.of ⟨rfl, rfl, rfl, rfl, rfl, rfl, rfl, rfl, rfl, rfl, trivial⟩ ⟨rfl, rfl, rfl, trivial⟩ trivial)
        · have hie : i = u.1.length := by omega
          have hfr2 := hfr
          rw [hie, Bool.and_eq_true, decide_eq_true_iff] at hfr2
          have hcs : cStep b c n x u y = (u.1 ++ [(x : Int)], u.2 ++ [(y : Int)]) := if_pos ⟨by omega, hfr2.2⟩
          rw [hcs] at hst
          have hz : u.2.length = u.1.length := hC.len
          (refine goes_seq ?_; refine goes_seq ?_; refine goes_region ?_; apply run_step rfl; (exact stp_move rfl rfl); apply run_step rfl; (exact stp_move rfl rfl); apply run_step rfl; (exact stp_len rfl rfl rfl (by as_aux_lemma => kernel_rfl)); apply run_step rfl; (exact stp_bin rfl rfl rfl (show binI .i64 .lss (i : Int) (u.1.length : Int) = some (.bool false) by simp [binI, hil])); apply run_step rfl; (exact stp_move rfl rfl); apply run_gNo rfl rfl rfl rfl rfl; apply run_step rfl; (exact stp_pickF rfl rfl rfl); refine run_nil ?_; refine fin_seq ?_)
          refine goes_cond rfl (fun e => by cases e) (fun _ => ?_)
          (refine goes_exit ?_; refine fin_exit_then ?_; refine fin_exit_then ?_; refine fin_exit_eq ?_; refine fin_seq ?_; refine goes_seq ?_; refine goes_region ?_; apply run_step rfl; (exact stp_move rfl rfl); refine run_nil ?_; refine fin_seq ?_)
          refine goes_cond rfl (fun _ => ?_) (fun e => by cases e)
          (refine goes_seq ?_; refine goes_region ?_; apply run_step rfl; (exact stp_move rfl rfl); apply run_step rfl; (exact stp_move rfl rfl); apply run_step rfl; (exact stp_lit1I (E := 2) rfl (by as_aux_lemma => kernel_rfl) rfl); apply run_step rfl; (exact stp_appI rfl (by as_aux_lemma => kernel_rfl) rfl rfl rfl (by first | rfl | assumption | (simp; done)) rfl rfl (by omega)); apply run_step rfl; (exact stp_assign rfl rfl); refine run_nil ?_; refine fin_seq ?_; refine goes_region ?_; apply run_step rfl; (exact stp_move rfl rfl); apply run_step rfl; (exact stp_move rfl rfl); apply run_step rfl; (exact stp_lit1I (E := 2) rfl (by as_aux_lemma => kernel_rfl) rfl); apply run_step rfl; (exact stp_appI rfl (by as_aux_lemma => kernel_rfl) rfl rfl rfl (by first | rfl | assumption | (simp; done)) rfl rfl (by omega)); apply run_step rfl; (exact stp_assign rfl rfl); refine run_nil ?_; refine fin_block ?_; refine fin_seq ?_; refine goes_region ?_; apply run_step rfl; (exact stp_move rfl rfl); apply run_step rfl; (exact stp_add rfl rfl rfl (by first | exact IntWalk.i64_in _ (by omega) | rfl)); apply run_step rfl; (exact stp_assign rfl rfl); refine run_nil ?_)
          exact fin_round (y + 1, (u.1 ++ [(x : Int)], u.2 ++ [(y : Int)])) ⟨hyn, hst⟩ (by show n - (y + 1) < n - y; omega) (Wk.of ⟨rfl, rfl, rfl, rfl, by simp; rfl, by simp; rfl, rfl, rfl, trivial⟩ ⟨rfl, rfl, rfl, trivial⟩ trivial)
      | false =>
        have hcs : cStep b c n x u y = u := if_neg fun hh => by
          have h3 : decide ((u.1.length : Int) < (n : Int)) = true := by rw [decide_eq_true_iff]; omega
          rw [h3, Bool.true_and] at hfr
          have := freB_no hfr u.1.length hi
          rw [hh.2] at this
          cases this
        rw [hcs] at hst
        by_cases hil : i < u.1.length
        · (refine goes_seq ?_; refine goes_seq ?_; refine goes_region ?_; apply run_step rfl; (exact stp_move rfl rfl); apply run_step rfl; (exact stp_move rfl rfl); apply run_step rfl; (exact stp_len rfl rfl rfl (by as_aux_lemma => kernel_rfl)); apply run_step rfl; (exact stp_bin rfl rfl rfl (show binI .i64 .lss (i : Int) (u.1.length : Int) = some (.bool true) by simp [binI, hil])); apply run_step rfl; (exact stp_move rfl rfl); apply run_gYes rfl rfl rfl; (exact stp_move rfl rfl); apply run_step rfl; (exact stp_pickT rfl rfl rfl); refine run_nil ?_; refine fin_seq ?_)
          refine goes_cond rfl (fun e => by cases e) (fun _ => ?_)
          (refine goes_exit ?_; refine fin_exit_then ?_; refine fin_exit_then ?_; refine fin_exit_eq ?_; refine fin_seq ?_; refine goes_seq ?_; refine goes_region ?_; apply run_step rfl; (exact stp_move rfl rfl); refine run_nil ?_; refine fin_seq ?_)
          refine goes_cond rfl (fun e => by cases e) (fun _ => ?_)
          (refine goes_skip ?_; refine fin_block ?_; refine fin_seq ?_; refine goes_region ?_; apply run_step rfl; (exact stp_move rfl rfl); apply run_step rfl; (exact stp_add rfl rfl rfl (by first | exact IntWalk.i64_in _ (by omega) | rfl)); apply run_step rfl; (exact stp_assign rfl rfl); refine run_nil ?_)
          exact fin_round (y + 1, u) ⟨hyn, hst⟩ (by show n - (y + 1) < n - y; omega) (Wk.of ⟨rfl, rfl, rfl, rfl, rfl, rfl, rfl, rfl, trivial⟩ ⟨rfl, rfl, rfl, trivial⟩ trivial)
        · (refine goes_seq ?_; refine goes_seq ?_; refine goes_region ?_; apply run_step rfl; (exact stp_move rfl rfl); apply run_step rfl; (exact stp_move rfl rfl); apply run_step rfl; (exact stp_len rfl rfl rfl (by as_aux_lemma => kernel_rfl)); apply run_step rfl; (exact stp_bin rfl rfl rfl (show binI .i64 .lss (i : Int) (u.1.length : Int) = some (.bool false) by simp [binI, hil])); apply run_step rfl; (exact stp_move rfl rfl); apply run_gNo rfl rfl rfl rfl rfl; apply run_step rfl; (exact stp_pickF rfl rfl rfl); refine run_nil ?_; refine fin_seq ?_)
          refine goes_cond rfl (fun e => by cases e) (fun _ => ?_)
          (refine goes_exit ?_; refine fin_exit_then ?_; refine fin_exit_then ?_; refine fin_exit_eq ?_; refine fin_seq ?_; refine goes_seq ?_; refine goes_region ?_; apply run_step rfl; (exact stp_move rfl rfl); refine run_nil ?_; refine fin_seq ?_)
          refine goes_cond rfl (fun e => by cases e) (fun _ => ?_)
          (refine goes_skip ?_; refine fin_block ?_; refine fin_seq ?_; refine goes_region ?_; apply run_step rfl; (exact stp_move rfl rfl); apply run_step rfl; (exact stp_add rfl rfl rfl (by first | exact IntWalk.i64_in _ (by omega) | rfl)); apply run_step rfl; (exact stp_assign rfl rfl); refine run_nil ?_)
          exact fin_round (y + 1, u) ⟨hyn, hst⟩ (by show n - (y + 1) < n - y; omega) (Wk.of ⟨rfl, rfl, rfl, rfl, rfl, rfl, rfl, rfl, trivial⟩ ⟨rfl, rfl, rfl, trivial⟩ trivial)
    · obtain rfl : y = n := by omega
      (refine goes_exit ?_; refine fin_exit_then ?_; refine fin_exit_then ?_; refine fin_exit_eq ?_; refine fin_block ?_; refine fin_seq ?_; refine goes_region ?_; apply run_step rfl; (exact stp_move rfl rfl); apply run_step rfl; (exact stp_add rfl rfl rfl (by first | exact IntWalk.i64_in _ (by omega) | rfl)); apply run_step rfl; (exact stp_assign rfl rfl); refine run_nil ?_)
      exact fin_round (x + 1, u) ⟨hxn, hnext.trans hu⟩ (by show y - (x + 1) < y - x; omega) (Wk.of ⟨rfl, rfl, rfl, rfl, rfl, rfl, rfl, trivial⟩ ⟨rfl, rfl, rfl, trivial⟩ trivial)
  · obtain rfl : x = n := by omega
    rw [hs] at hfull hF
    have hC := hCO x hx
    rw [hs] at hC
    have hl2 : s.2.length = s.1.length := hC.len
    have hsl : s.1.length = x := hfull
    have w8 : IntKind.i64.wrap (8 * (x : Int)) = ((8 * x : Nat) : Int) := by rw [IntWalk.i64_in _ (by omega)]; omega
    clear hs hCO h1 hx
    (refine goes_exit ?_; refine fin_exit_then ?_; refine fin_exit_then ?_; refine fin_exit_eq ?_; refine fin_seq ?_; refine goes_seq ?_; refine goes_region ?_; apply run_step rfl; (exact stp_lit0 (E := 2) (k := 1) rfl (by as_aux_lemma => kernel_rfl)); apply run_step rfl; (exact stp_lit0 (E := 2) (k := 1) rfl (by as_aux_lemma => kernel_rfl)); apply run_step rfl; (exact stp_lit0 (E := 2) (k := 1) rfl (by as_aux_lemma => kernel_rfl)); apply run_step rfl; (exact stp_assign rfl rfl); apply run_step rfl; (exact stp_assign rfl rfl); apply run_step rfl; (exact stp_assign rfl rfl); refine run_nil ?_; refine fin_seq ?_; refine goes_seq ?_; refine goes_seq ?_; refine goes_region ?_; apply run_step rfl; (exact stp_assign rfl rfl); refine run_nil ?_; refine fin_seq ?_; refine goes_block ?_)
    refine goes_loop (fun q : Nat × List Int => St.of [(0, vv (I6 b)), (1, vv (I6 c)), (4, o1 (.ptr 4 0)), (5, vv (I6 x)), (6, o1 (.sl 29 0 s.1.length)), (7, o1 (.sl 30 0 s.2.length)), (12, o1 (.sl 79 0 q.1)), (13, o1 (.sl 80 0 q.1)), (14, o1 (.sl 81 0 q.2.length)), (15, vv (I6 q.1))] [(4, mBox), (29, leOw s.1), (30, leOw s.2), (79, leOw (tRow0 q.1)), (80, leOw (tRow1 q.1)), (81, leOw q.2)])
      (fun q => q.1 ≤ 8 * x ∧ tRow2 b c x s q.1 = q.2) (fun q => 8 * x - q.1) (0, []) ⟨Nat.zero_le _, rfl⟩ (Wk.of ⟨rfl, rfl, rfl, rfl, rfl, rfl, rfl, rfl, rfl, rfl, trivial⟩ ⟨rfl, rfl, rfl, rfl, rfl, rfl, trivial⟩ trivial) ?_
    rintro ⟨f, r2⟩ ⟨hf, hr2⟩
    dsimp only at hf hr2 ⊢
    have hr2l : r2.length ≤ f * x := by rw [← hr2]; exact tRow2_len b c x s f
    have hr2m : f * x ≤ 8 * 98 * 98 := Nat.mul_le_mul (by omega) hn98
    have h0l := tRow0_len f
    have h1l := tRow1_len f
    (refine goes_seq ?_; refine goes_seq ?_; refine goes_region ?_; apply run_step rfl; (exact stp_move rfl rfl); apply run_step rfl; (exact stp_move rfl rfl); apply run_step rfl; (exact stp_mul rfl rfl rfl w8); apply run_step rfl; (exact stp_bin rfl rfl rfl rfl); refine run_nil ?_; refine fin_seq ?_)
    refine goes_if rfl (fun h2 => ?_) (fun h2 => ?_)
    · have hfn : f < 8 * x := by omega
      have hnext : tRow2 b c x s (f + 1) = r2 ++ tTwoB b c s (iget s.1 (f / 8) + dX (f % 8 / 2)) (iget s.2 (f / 8) + dY (f % 8 / 2)) (f % 8) x := by rw [tRow2_succ, hr2]; rfl
      have hs0 := tRow0_succ f
      have hs1 := tRow1_succ f
      have ho1 : tOne f = 8 * (f / 8) + if f % 8 % 2 = 0 then (f % 8 + 7) % 8 else (f % 8 + 1) % 8 := rfl
      generalize tRow0 f = Z0 at *
      generalize tRow1 f = Z1 at *
      generalize tOne f = o1v at *
      have hq : f / 8 < x := by omega
      have hk : f % 8 < 8 := by omega
      have la : s.1.length ≤ (ivals s.1).length := by rw [ivals_len]; exact Nat.le_refl _
      have lb : s.2.length ≤ (ivals s.2).length := by rw [ivals_len]; exact Nat.le_refl _
      (refine goes_skip ?_; refine fin_seq ?_; refine goes_seq ?_; refine goes_block ?_; refine goes_seq ?_; refine goes_region ?_; apply run_step rfl; (exact stp_move rfl rfl); apply run_step rfl; (first | exact stp_quoN (b := 8) rfl rfl rfl (by omega) (by omega) | exact stp_remN (b := 8) rfl rfl rfl (by omega) (by omega) | exact stp_oth rfl rfl (by omega)); apply run_step rfl; (exact stp_move rfl rfl); apply run_step rfl; (first | exact stp_quoN (b := 8) rfl rfl rfl (by omega) (by omega) | exact stp_remN (b := 8) rfl rfl rfl (by omega) (by omega) | exact stp_oth rfl rfl (by omega)); apply run_step rfl; (exact stp_assign rfl rfl); apply run_step rfl; (exact stp_assign rfl rfl); refine run_nil ?_; refine fin_seq ?_; refine goes_seq ?_; refine goes_region ?_; apply run_step rfl; (exact stp_move rfl rfl); apply run_step rfl; (exact stp_move rfl rfl); apply run_step rfl; (first | exact stp_quoN (b := 8) rfl rfl rfl (by omega) (by omega) | exact stp_remN (b := 8) rfl rfl rfl (by omega) (by omega) | exact stp_oth rfl rfl (by omega)); apply run_step rfl; (exact stp_lit1I (E := 2) rfl (by as_aux_lemma => kernel_rfl) rfl); apply run_step rfl; (exact stp_appI rfl (by as_aux_lemma => kernel_rfl) rfl rfl rfl (by first | rfl | assumption | (simp; done)) rfl rfl (by omega)); apply run_step rfl; (exact stp_assign rfl rfl); refine run_nil ?_; refine fin_seq ?_; refine goes_seq ?_)
      generalize f / 8 = q at *
      generalize f % 8 = k at *
      have hq1 : q < s.1.length := by omega
      have hq2 : q < s.2.length := by omega
      have ga : (ivals s.1)[q]? = some (I6 (iget s.1 q)) := ivals_get hq1
      have gb : (ivals s.2)[q]? = some (I6 (iget s.2 q)) := ivals_get hq2
      have ba := iget_in hC.a h0 q
      have bb' := iget_in hC.b h0 q
      apply goes_draw 9 [] [[], [], [0, 1], [0, 1, 2], [], [], [4, 5], [4, 5, 6], [0, 1, 2, 3], [0, 1, 2, 3, 4, 5, 6, 7, 8]] [97, 98, 99, 100, 101, 102, 103, 104, 18] [] (by kernel_rfl) (by kernel_rfl)
      · (apply draw_put rfl; (intro S1 hS; exact stp_move rfl (hS.op rfl)); apply draw_put rfl; (intro S1 hS; exact stp_move rfl (hS.op rfl)); (first | (apply draw_put rfl; (focus (intro S1 hS; exact stp_ix (j := q) rfl (hS.op rfl) (hS.op rfl) (hS.ch _ _ rfl) rfl (by as_aux_lemma => kernel_rfl) rfl hq1 la))) | (apply draw_put rfl; (focus (intro S1 hS; exact stp_ix (j := q) rfl (hS.op rfl) (hS.op rfl) (hS.ch _ _ rfl) rfl (by as_aux_lemma => kernel_rfl) rfl hq2 lb)))); apply draw_put rfl; (intro S1 hS; exact stp_loadV rfl (by as_aux_lemma => kernel_rfl) (hS.op rfl) (hS.ch _ _ rfl) rfl (by first | assumption | exact ivals_get (by assumption) | exact irows_get (by assumption) | exact ivals_get (by omega) | exact irows_get (by omega) | rfl)); apply draw_put rfl; (intro S1 hS; exact stp_move rfl (hS.op rfl)); apply draw_put rfl; (intro S1 hS; exact stp_move rfl (hS.op rfl)); (first | (apply draw_put rfl; (focus (intro S1 hS; exact stp_ix (j := q) rfl (hS.op rfl) (hS.op rfl) (hS.ch _ _ rfl) rfl (by as_aux_lemma => kernel_rfl) rfl hq1 la))) | (apply draw_put rfl; (focus (intro S1 hS; exact stp_ix (j := q) rfl (hS.op rfl) (hS.op rfl) (hS.ch _ _ rfl) rfl (by as_aux_lemma => kernel_rfl) rfl hq2 lb)))); apply draw_put rfl; (intro S1 hS; exact stp_loadV rfl (by as_aux_lemma => kernel_rfl) (hS.op rfl) (hS.ch _ _ rfl) rfl (by first | assumption | exact ivals_get (by assumption) | exact irows_get (by assumption) | exact ivals_get (by omega) | exact irows_get (by omega) | rfl)); apply draw_put rfl; (intro S1 hS; exact stp_assign rfl (hS.op rfl)); exact Draw.nil)
      · rfl
      ((apply rest_one 9 rfl (by as_aux_lemma => kernel_rfl) rfl rfl; (exact stp_assign rfl rfl)); (refine rest_done (by as_aux_lemma => kernel_rfl) ?_; skip))
      have w8c : IntKind.i64.wrap (8 * (q : Int)) = ((8 * q : Nat) : Int) := by rw [IntWalk.i64_in _ (by omega)]; omega
      have w7 : IntKind.i64.wrap ((k : Int) + 7) = ((k + 7 : Nat) : Int) := by rw [IntWalk.i64_in _ (by omega)]; omega
      have w1 : IntKind.i64.wrap ((k : Int) + 1) = ((k + 1 : Nat) : Int) := by rw [IntWalk.i64_in _ (by omega)]; omega
      (refine fin_seq ?_; refine goes_seq ?_; refine goes_seq ?_; refine goes_region ?_; apply run_step rfl; (exact stp_move rfl rfl); apply run_step rfl; (exact stp_remN (b := 2) rfl rfl rfl (by omega) (by omega)); apply run_step rfl; (exact stp_bin rfl rfl rfl rfl); refine run_nil ?_; refine fin_seq ?_)
      refine goes_join (St.of [(0, vv (I6 b)), (1, vv (I6 c)), (4, o1 (.ptr 4 0)), (5, vv (I6 x)), (6, o1 (.sl 29 0 s.1.length)), (7, o1 (.sl 30 0 s.2.length)), (12, o1 (.sl 79 0 (f + 1))), (13, o1 (.sl 80 0 (f + 1))), (14, o1 (.sl 81 0 r2.length)), (15, vv (I6 f)), (16, vv (I6 q)), (17, vv (I6 k)), (18, vv (I6 (iget s.1 q))), (19, vv (I6 (iget s.2 q)))] [(4, mBox), (29, leOw s.1), (30, leOw s.2), (79, leOw (Z0 ++ [((othN f : Nat) : Int)])), (80, leOw (Z1 ++ [(o1v : Int)])), (81, leOw r2)]) rfl (fun h3 => ?_) (fun h3 => ?_) ?_
      · have h3' : k % 2 = 0 := by have : ((k % 2 : Nat) : Int) = 0 := by simpa using h3
                                   omega
        rw [if_pos h3'] at ho1
        have wsum : IntKind.i64.wrap (((8 * q : Nat) : Int) + (((k + 7) % 8 : Nat) : Int)) = (o1v : Int) := by rw [IntWalk.i64_in _ (by omega)]; omega
        (refine goes_region ?_; apply run_step rfl; (exact stp_move rfl rfl); apply run_step rfl; (exact stp_move rfl rfl); apply run_step rfl; (first | exact stp_mul rfl rfl rfl w8c | exact stp_add rfl rfl rfl w7 | exact stp_remN (b := 8) rfl rfl rfl (by omega) (by omega) | exact stp_add rfl rfl rfl wsum); apply run_step rfl; (exact stp_move rfl rfl); apply run_step rfl; (first | exact stp_mul rfl rfl rfl w8c | exact stp_add rfl rfl rfl w7 | exact stp_remN (b := 8) rfl rfl rfl (by omega) (by omega) | exact stp_add rfl rfl rfl wsum); apply run_step rfl; (first | exact stp_mul rfl rfl rfl w8c | exact stp_add rfl rfl rfl w7 | exact stp_remN (b := 8) rfl rfl rfl (by omega) (by omega) | exact stp_add rfl rfl rfl wsum); apply run_step rfl; (first | exact stp_mul rfl rfl rfl w8c | exact stp_add rfl rfl rfl w7 | exact stp_remN (b := 8) rfl rfl rfl (by omega) (by omega) | exact stp_add rfl rfl rfl wsum); apply run_step rfl; (exact stp_lit1I (E := 2) rfl (by as_aux_lemma => kernel_rfl) rfl); apply run_step rfl; (exact stp_appI rfl (by as_aux_lemma => kernel_rfl) rfl rfl rfl (by first | rfl | assumption | (simp; done)) rfl rfl (by omega)); apply run_step rfl; (exact stp_assign rfl rfl); refine run_nil ?_)
        exact fin_join (Wk.of ⟨rfl, rfl, rfl, rfl, rfl, rfl, rfl, rfl, rfl, rfl, rfl, rfl, rfl, rfl, trivial⟩ ⟨rfl, rfl, rfl, rfl, rfl, rfl, trivial⟩ trivial)
      · have h3' : ¬ k % 2 = 0 := fun e => by rw [e] at h3; cases h3
        rw [if_neg h3'] at ho1
        have wsum : IntKind.i64.wrap (((8 * q : Nat) : Int) + (((k + 1) % 8 : Nat) : Int)) = (o1v : Int) := by rw [IntWalk.i64_in _ (by omega)]; omega
        (refine goes_region ?_; apply run_step rfl; (exact stp_move rfl rfl); apply run_step rfl; (exact stp_move rfl rfl); apply run_step rfl; (first | exact stp_mul rfl rfl rfl w8c | exact stp_add rfl rfl rfl w1 | exact stp_remN (b := 8) rfl rfl rfl (by omega) (by omega) | exact stp_add rfl rfl rfl wsum); apply run_step rfl; (exact stp_move rfl rfl); apply run_step rfl; (first | exact stp_mul rfl rfl rfl w8c | exact stp_add rfl rfl rfl w1 | exact stp_remN (b := 8) rfl rfl rfl (by omega) (by omega) | exact stp_add rfl rfl rfl wsum); apply run_step rfl; (first | exact stp_mul rfl rfl rfl w8c | exact stp_add rfl rfl rfl w1 | exact stp_remN (b := 8) rfl rfl rfl (by omega) (by omega) | exact stp_add rfl rfl rfl wsum); apply run_step rfl; (first | exact stp_mul rfl rfl rfl w8c | exact stp_add rfl rfl rfl w1 | exact stp_remN (b := 8) rfl rfl rfl (by omega) (by omega) | exact stp_add rfl rfl rfl wsum); apply run_step rfl; (exact stp_lit1I (E := 2) rfl (by as_aux_lemma => kernel_rfl) rfl); apply run_step rfl; (exact stp_appI rfl (by as_aux_lemma => kernel_rfl) rfl rfl rfl (by first | rfl | assumption | (simp; done)) rfl rfl (by omega)); apply run_step rfl; (exact stp_assign rfl rfl); refine run_nil ?_)
        exact fin_join (Wk.of ⟨rfl, rfl, rfl, rfl, rfl, rfl, rfl, rfl, rfl, rfl, rfl, rfl, rfl, rfl, trivial⟩ ⟨rfl, rfl, rfl, rfl, rfl, rfl, trivial⟩ trivial)
      obtain ⟨xf, hxf⟩ : ∃ z, z = iget s.1 q + dX (k / 2) := ⟨_, rfl⟩
      obtain ⟨yf, hyf⟩ : ∃ z, z = iget s.2 q + dY (k / 2) := ⟨_, rfl⟩
      rw [← hxf, ← hyf] at hnext
      have hxb : -1 ≤ dX (k / 2) ∧ dX (k / 2) ≤ 1 := by unfold dX; split; omega; split <;> omega
      have hyb : -1 ≤ dY (k / 2) ∧ dY (k / 2) ≤ 1 := by unfold dY; split; omega; split <;> omega
      have bx : -1 ≤ xf ∧ xf ≤ 99 := by omega
      have by' : -1 ≤ yf ∧ yf ≤ 99 := by omega
      have hj4 : k / 2 < 4 := by omega
      clear hxb hyb ga gb ho1 w8c w7 w1
      (refine fin_seq ?_; refine goes_seq ?_; refine goes_seq ?_; refine goes_region ?_; apply run_step rfl; (exact stp_move rfl rfl); apply run_step rfl; (exact stp_quoN (b := 2) rfl rfl rfl (by omega) (by omega)); refine run_nil ?_; refine fin_seq ?_; refine goes_block ?_; refine goes_seq ?_; refine goes_region ?_; apply run_step rfl; (exact stp_bin rfl rfl rfl rfl); apply run_step rfl; (exact stp_assign rfl rfl); refine run_nil ?_; refine fin_seq ?_)
      generalize k / 2 = j at *
      generalize iget s.1 q = x0 at *
      generalize iget s.2 q = y0 at *
      refine goes_join (St.of [(0, vv (I6 b)), (1, vv (I6 c)), (4, o1 (.ptr 4 0)), (5, vv (I6 x)), (6, o1 (.sl 29 0 s.1.length)), (7, o1 (.sl 30 0 s.2.length)), (12, o1 (.sl 79 0 (f + 1))), (13, o1 (.sl 80 0 (f + 1))), (14, o1 (.sl 81 0 r2.length)), (15, vv (I6 f)), (17, vv (I6 k)), (18, vv (I6 xf)), (19, vv (I6 yf))] [(4, mBox), (29, leOw s.1), (30, leOw s.2), (79, leOw (Z0 ++ [((othN f : Nat) : Int)])), (80, leOw (Z1 ++ [(o1v : Int)])), (81, leOw r2)]) rfl (fun h3 => ?_) (fun h3 => ?_) ?_
      · have h3' : j = 0 := by have : (j : Int) = 0 := by simpa using h3
                               omega
        have e1 : xf = x0 := by rw [hxf, h3']; simp [dX]
        have e2 : IntKind.i64.wrap (y0 - 1) = yf := by rw [hyf, h3', IntWalk.i64_in _ (by omega)]; simp [dY]; omega
        subst e1
        (refine goes_region ?_; apply run_step rfl; (exact stp_move rfl rfl); apply run_step rfl; (exact stp_sub rfl rfl rfl e2); apply run_step rfl; (exact stp_assign rfl rfl); refine run_nil ?_)
        exact fin_join (Wk.of ⟨rfl, rfl, rfl, rfl, rfl, rfl, rfl, rfl, rfl, rfl, rfl, rfl, rfl, trivial⟩ ⟨rfl, rfl, rfl, rfl, rfl, rfl, trivial⟩ trivial)
      · (refine goes_seq ?_; refine goes_region ?_; apply run_step rfl; (exact stp_bin rfl rfl rfl rfl); apply run_step rfl; (exact stp_assign rfl rfl); refine run_nil ?_; refine fin_seq ?_)
        refine goes_cond rfl (fun h4 => ?_) (fun h4 => ?_)
        · have h3' : j = 1 := by have : (j : Int) = 1 := by simpa using h4
                                 omega
          have e1 : yf = y0 := by rw [hyf, h3']; simp [dY]
          have e2 : IntKind.i64.wrap (x0 + 1) = xf := by rw [hxf, h3', IntWalk.i64_in _ (by omega)]; simp [dX]
          subst e1
          (refine goes_region ?_; apply run_step rfl; (exact stp_move rfl rfl); apply run_step rfl; (exact stp_add rfl rfl rfl e2); apply run_step rfl; (exact stp_assign rfl rfl); refine run_nil ?_)
          exact fin_join (Wk.of ⟨rfl, rfl, rfl, rfl, rfl, rfl, rfl, rfl, rfl, rfl, rfl, rfl, rfl, trivial⟩ ⟨rfl, rfl, rfl, rfl, rfl, rfl, trivial⟩ trivial)
        · (refine goes_seq ?_; refine goes_region ?_; apply run_step rfl; (exact stp_bin rfl rfl rfl rfl); apply run_step rfl; (exact stp_assign rfl rfl); refine run_nil ?_; refine fin_seq ?_)
          refine goes_cond rfl (fun h5 => ?_) (fun h5 => ?_)
          · have h3' : j = 2 := by have : (j : Int) = 2 := by simpa using h5
                                   omega
            have e1 : xf = x0 := by rw [hxf, h3']; simp [dX]
            have e2 : IntKind.i64.wrap (y0 + 1) = yf := by rw [hyf, h3', IntWalk.i64_in _ (by omega)]; simp [dY]
            subst e1
            (refine goes_region ?_; apply run_step rfl; (exact stp_move rfl rfl); apply run_step rfl; (exact stp_add rfl rfl rfl e2); apply run_step rfl; (exact stp_assign rfl rfl); refine run_nil ?_)
            exact fin_join (Wk.of ⟨rfl, rfl, rfl, rfl, rfl, rfl, rfl, rfl, rfl, rfl, rfl, rfl, rfl, trivial⟩ ⟨rfl, rfl, rfl, rfl, rfl, rfl, trivial⟩ trivial)
          · have h3' : j = 3 := by
              have n0 : ¬ (j : Int) = 0 := by simpa using h3
              have n1 : ¬ (j : Int) = 1 := by simpa using h4
              have n2 : ¬ (j : Int) = 2 := by simpa using h5
              omega
            have e1 : yf = y0 := by rw [hyf, h3']; simp [dY]
            have e2 : IntKind.i64.wrap (x0 - 1) = xf := by rw [hxf, h3', IntWalk.i64_in _ (by omega)]; simp [dX]; omega
            subst e1 h3'
            (refine goes_seq ?_; refine goes_region ?_; apply run_step rfl; (exact stp_bin rfl rfl rfl rfl); apply run_step rfl; (exact stp_assign rfl rfl); refine run_nil ?_; refine fin_seq ?_)
            refine goes_cond rfl (fun _ => ?_) (fun e => by cases e)
            (refine goes_region ?_; apply run_step rfl; (exact stp_move rfl rfl); apply run_step rfl; (exact stp_sub rfl rfl rfl e2); apply run_step rfl; (exact stp_assign rfl rfl); refine run_nil ?_)
            exact fin_join (Wk.of ⟨rfl, rfl, rfl, rfl, rfl, rfl, rfl, rfl, rfl, rfl, rfl, rfl, rfl, trivial⟩ ⟨rfl, rfl, rfl, rfl, rfl, rfl, trivial⟩ trivial)
      clear hxf hyf hj4 ba bb' hq1 hq2 hq
      (refine fin_block ?_; refine fin_seq ?_; refine goes_seq ?_; refine goes_region ?_; apply run_step rfl; (exact stp_assign rfl rfl); refine run_nil ?_; refine fin_seq ?_; refine goes_block ?_)
      refine goes_loop (fun q : Nat × List Int => St.of [(0, vv (I6 b)), (1, vv (I6 c)), (4, o1 (.ptr 4 0)), (5, vv (I6 x)), (6, o1 (.sl 29 0 s.1.length)), (7, o1 (.sl 30 0 s.2.length)), (12, o1 (.sl 79 0 (f + 1))), (13, o1 (.sl 80 0 (f + 1))), (14, o1 (.sl 81 0 q.2.length)), (15, vv (I6 f)), (17, vv (I6 k)), (18, vv (I6 xf)), (19, vv (I6 yf)), (20, vv (I6 q.1))] [(4, mBox), (29, leOw s.1), (30, leOw s.2), (79, leOw (Z0 ++ [((othN f : Nat) : Int)])), (80, leOw (Z1 ++ [(o1v : Int)])), (81, leOw q.2)])
        (fun q => q.1 ≤ x ∧ r2 ++ tTwoB b c s xf yf k q.1 = q.2) (fun q => x - q.1) (0, r2) ⟨Nat.zero_le _, by simp [tTwoB]⟩ (Wk.of ⟨rfl, rfl, rfl, rfl, rfl, rfl, rfl, rfl, rfl, rfl, rfl, rfl, rfl, rfl, trivial⟩ ⟨rfl, rfl, rfl, rfl, rfl, rfl, trivial⟩ trivial) ?_
      rintro ⟨i, r⟩ ⟨hi, hr⟩
      dsimp only at hi hr ⊢
      have hrl : r.length ≤ 100000 := by
        have := tTwoB_len b c s xf yf k i
        rw [← hr, List.length_append]; omega
      have hts := tTwoB_succ b c s xf yf k i
      (refine goes_seq ?_; refine goes_seq ?_; refine goes_region ?_; apply run_step rfl; (exact stp_move rfl rfl); apply run_step rfl; (exact stp_move rfl rfl); apply run_step rfl; (exact stp_bin rfl rfl rfl rfl); refine run_nil ?_; refine fin_seq ?_)
      refine goes_if rfl (fun h6 => ?_) (fun h6 => ?_)
      · have hil : i < s.1.length := by omega
        have hil2 : i < s.2.length := by omega
        have ga : (ivals s.1)[i]? = some (I6 (iget s.1 i)) := ivals_get hil
        have gb : (ivals s.2)[i]? = some (I6 (iget s.2 i)) := ivals_get hil2
        have ba := iget_in hC.a h0 i
        have bb' := iget_in hC.b h0 i
        have hS := hSame (xf - iget s.1 i) (yf - iget s.2 i) (by omega) (by omega)
        obtain ⟨z1, hz1⟩ : ∃ z, z = xf - iget s.1 i := ⟨_, rfl⟩
        obtain ⟨z2, hz2⟩ : ∃ z, z = yf - iget s.2 i := ⟨_, rfl⟩
        have d1 : IntKind.i64.wrap (xf - iget s.1 i) = z1 := by rw [hz1]; exact IntWalk.i64_in _ (by omega)
        have d2 : IntKind.i64.wrap (yf - iget s.2 i) = z2 := by rw [hz2]; exact IntWalk.i64_in _ (by omega)
        rw [← hz1, ← hz2] at hts hS
        clear hz1 hz2
        (refine goes_skip ?_; refine fin_seq ?_; refine goes_seq ?_; refine goes_block ?_; refine goes_seq ?_)
        apply goes_draw 14 [] [[], [], [], [], [], [3, 4], [3, 4, 5], [2, 3, 4, 5, 6], [], [], [], [9, 10], [9, 10, 11], [8, 9, 10, 11, 12], [0, 1, 2, 3, 4, 5, 6, 7, 8, 9, 10, 11, 12, 13]] [149, 150, 151, 152, 153, 154, 155, 156, 157, 158, 159, 160, 161, 162] [] (by kernel_rfl) (by kernel_rfl)
        · (apply draw_put rfl; (intro S1 hS; exact stp_move rfl (hS.op rfl)); apply draw_put rfl; (intro S1 hS; exact stp_move rfl (hS.op rfl)); apply draw_put rfl; (intro S1 hS; exact stp_move rfl (hS.op rfl)); apply draw_put rfl; (intro S1 hS; exact stp_move rfl (hS.op rfl)); apply draw_put rfl; (intro S1 hS; exact stp_move rfl (hS.op rfl)); (first | (apply draw_put rfl; (focus (intro S1 hS; exact stp_ix (j := i) rfl (hS.op rfl) (hS.op rfl) (hS.ch _ _ rfl) rfl (by as_aux_lemma => kernel_rfl) rfl hil la))) | (apply draw_put rfl; (focus (intro S1 hS; exact stp_ix (j := i) rfl (hS.op rfl) (hS.op rfl) (hS.ch _ _ rfl) rfl (by as_aux_lemma => kernel_rfl) rfl hil2 lb))) | (apply draw_put rfl; (focus (intro S1 hS; exact stp_sub rfl (hS.op rfl) (hS.op rfl) d1))) | (apply draw_put rfl; (focus (intro S1 hS; exact stp_sub rfl (hS.op rfl) (hS.op rfl) d2)))); apply draw_put rfl; (intro S1 hS; exact stp_loadV rfl (by as_aux_lemma => kernel_rfl) (hS.op rfl) (hS.ch _ _ rfl) rfl (by first | assumption | exact ivals_get (by assumption) | exact irows_get (by assumption) | exact ivals_get (by omega) | exact irows_get (by omega) | rfl)); (first | (apply draw_put rfl; (focus (intro S1 hS; exact stp_ix (j := i) rfl (hS.op rfl) (hS.op rfl) (hS.ch _ _ rfl) rfl (by as_aux_lemma => kernel_rfl) rfl hil la))) | (apply draw_put rfl; (focus (intro S1 hS; exact stp_ix (j := i) rfl (hS.op rfl) (hS.op rfl) (hS.ch _ _ rfl) rfl (by as_aux_lemma => kernel_rfl) rfl hil2 lb))) | (apply draw_put rfl; (focus (intro S1 hS; exact stp_sub rfl (hS.op rfl) (hS.op rfl) d1))) | (apply draw_put rfl; (focus (intro S1 hS; exact stp_sub rfl (hS.op rfl) (hS.op rfl) d2)))); apply draw_put rfl; (intro S1 hS; exact stp_move rfl (hS.op rfl)); apply draw_put rfl; (intro S1 hS; exact stp_move rfl (hS.op rfl)); apply draw_put rfl; (intro S1 hS; exact stp_move rfl (hS.op rfl)); (first | (apply draw_put rfl; (focus (intro S1 hS; exact stp_ix (j := i) rfl (hS.op rfl) (hS.op rfl) (hS.ch _ _ rfl) rfl (by as_aux_lemma => kernel_rfl) rfl hil la))) | (apply draw_put rfl; (focus (intro S1 hS; exact stp_ix (j := i) rfl (hS.op rfl) (hS.op rfl) (hS.ch _ _ rfl) rfl (by as_aux_lemma => kernel_rfl) rfl hil2 lb))) | (apply draw_put rfl; (focus (intro S1 hS; exact stp_sub rfl (hS.op rfl) (hS.op rfl) d1))) | (apply draw_put rfl; (focus (intro S1 hS; exact stp_sub rfl (hS.op rfl) (hS.op rfl) d2)))); apply draw_put rfl; (intro S1 hS; exact stp_loadV rfl (by as_aux_lemma => kernel_rfl) (hS.op rfl) (hS.ch _ _ rfl) rfl (by first | assumption | exact ivals_get (by assumption) | exact irows_get (by assumption) | exact ivals_get (by omega) | exact irows_get (by omega) | rfl)); (first | (apply draw_put rfl; (focus (intro S1 hS; exact stp_ix (j := i) rfl (hS.op rfl) (hS.op rfl) (hS.ch _ _ rfl) rfl (by as_aux_lemma => kernel_rfl) rfl hil la))) | (apply draw_put rfl; (focus (intro S1 hS; exact stp_ix (j := i) rfl (hS.op rfl) (hS.op rfl) (hS.ch _ _ rfl) rfl (by as_aux_lemma => kernel_rfl) rfl hil2 lb))) | (apply draw_put rfl; (focus (intro S1 hS; exact stp_sub rfl (hS.op rfl) (hS.op rfl) d1))) | (apply draw_put rfl; (focus (intro S1 hS; exact stp_sub rfl (hS.op rfl) (hS.op rfl) d2)))); exact Draw.nil)
        · rfl
        ((apply rest_one 14 rfl (by as_aux_lemma => kernel_rfl) rfl rfl; (apply call_gate 163; exact stp_callR hS (by as_aux_lemma => kernel_rfl) rfl rfl ⟨rfl, rfl, rfl, rfl, trivial⟩ trivial rfl rfl)); (refine rest_done (by as_aux_lemma => kernel_rfl) ?_; skip))
        generalize sameB b c z1 z2 = sm at *
        (refine fin_seq ?_)
        refine goes_cond rfl (fun h7 => ?_) (fun h7 => ?_)
        · subst h7
          have v8 : IntKind.i64.wrap (8 * (i : Int)) = ((8 * i : Nat) : Int) := by rw [IntWalk.i64_in _ (by omega)]; omega
          have v4 : IntKind.i64.wrap ((k : Int) + 4) = ((k + 4 : Nat) : Int) := by rw [IntWalk.i64_in _ (by omega)]; omega
          have hoth : othN ((k + 4) % 8) ≤ (k + 4) % 8 + 1 := by unfold othN; split <;> omega
          have vs : IntKind.i64.wrap (((8 * i : Nat) : Int) + ((othN ((k + 4) % 8) : Nat) : Int)) = ((tTo k i : Nat) : Int) := by rw [IntWalk.i64_in _ (by omega)]; unfold tTo; omega
          (refine goes_region ?_; apply run_step rfl; (exact stp_move rfl rfl); apply run_step rfl; (exact stp_move rfl rfl); apply run_step rfl; (first | exact stp_mul rfl rfl rfl v8 | exact stp_add rfl rfl rfl v4 | exact stp_remN (b := 8) rfl rfl rfl (by omega) (by omega) | exact stp_oth rfl rfl (by omega) | exact stp_add rfl rfl rfl vs); apply run_step rfl; (exact stp_move rfl rfl); apply run_step rfl; (first | exact stp_mul rfl rfl rfl v8 | exact stp_add rfl rfl rfl v4 | exact stp_remN (b := 8) rfl rfl rfl (by omega) (by omega) | exact stp_oth rfl rfl (by omega) | exact stp_add rfl rfl rfl vs); apply run_step rfl; (first | exact stp_mul rfl rfl rfl v8 | exact stp_add rfl rfl rfl v4 | exact stp_remN (b := 8) rfl rfl rfl (by omega) (by omega) | exact stp_oth rfl rfl (by omega) | exact stp_add rfl rfl rfl vs); apply run_step rfl; (first | exact stp_mul rfl rfl rfl v8 | exact stp_add rfl rfl rfl v4 | exact stp_remN (b := 8) rfl rfl rfl (by omega) (by omega) | exact stp_oth rfl rfl (by omega) | exact stp_add rfl rfl rfl vs); apply run_step rfl; (first | exact stp_mul rfl rfl rfl v8 | exact stp_add rfl rfl rfl v4 | exact stp_remN (b := 8) rfl rfl rfl (by omega) (by omega) | exact stp_oth rfl rfl (by omega) | exact stp_add rfl rfl rfl vs); apply run_step rfl; (exact stp_lit1I (E := 2) rfl (by as_aux_lemma => kernel_rfl) rfl); apply run_step rfl; (exact stp_appI rfl (by as_aux_lemma => kernel_rfl) rfl rfl rfl (by first | rfl | assumption | (simp; done)) rfl rfl (by omega)); apply run_step rfl; (exact stp_assign rfl rfl); refine run_nil ?_; refine fin_block ?_; refine fin_seq ?_; refine goes_region ?_; apply run_step rfl; (exact stp_move rfl rfl); apply run_step rfl; (exact stp_add rfl rfl rfl (by first | exact IntWalk.i64_in _ (by omega) | rfl)); apply run_step rfl; (exact stp_assign rfl rfl); refine run_nil ?_)
          exact fin_round (i + 1, r ++ [((tTo k i : Nat) : Int)]) ⟨by omega, by rw [hts, if_pos rfl, ← List.append_assoc, hr]⟩ (by show x - (i + 1) < x - i; omega) (Wk.of ⟨rfl, rfl, rfl, rfl, rfl, rfl, rfl, rfl, by simp; rfl, rfl, rfl, rfl, rfl, rfl, trivial⟩ ⟨rfl, rfl, rfl, rfl, rfl, rfl, trivial⟩ trivial)
        · subst h7
          (refine goes_skip ?_; refine fin_block ?_; refine fin_seq ?_; refine goes_region ?_; apply run_step rfl; (exact stp_move rfl rfl); apply run_step rfl; (exact stp_add rfl rfl rfl (by first | exact IntWalk.i64_in _ (by omega) | rfl)); apply run_step rfl; (exact stp_assign rfl rfl); refine run_nil ?_)
          exact fin_round (i + 1, r) ⟨by omega, by rw [hts, if_neg (by simp), hr]⟩ (by show x - (i + 1) < x - i; omega) (Wk.of ⟨rfl, rfl, rfl, rfl, rfl, rfl, rfl, rfl, rfl, rfl, rfl, rfl, rfl, rfl, trivial⟩ ⟨rfl, rfl, rfl, rfl, rfl, rfl, trivial⟩ trivial)
      · obtain rfl : i = x := by omega
        (refine goes_exit ?_; refine fin_exit_then ?_; refine fin_exit_then ?_; refine fin_exit_eq ?_; refine fin_block ?_; refine fin_seq ?_; refine goes_region ?_; apply run_step rfl; (exact stp_move rfl rfl); apply run_step rfl; (exact stp_add rfl rfl rfl (by first | exact IntWalk.i64_in _ (by omega) | rfl)); apply run_step rfl; (exact stp_assign rfl rfl); refine run_nil ?_)
        exact fin_round (f + 1, r) ⟨by omega, hnext.trans hr⟩ (by show 8 * i - (f + 1) < 8 * i - f; omega) (Wk.of ⟨rfl, rfl, rfl, rfl, rfl, rfl, rfl, rfl, rfl, rfl, trivial⟩ ⟨rfl, rfl, rfl, congrArg (fun l => some (leOw l)) hs0.symm, congrArg (fun l => some (leOw l)) hs1.symm, rfl, trivial⟩ trivial)
    · obtain rfl : f = 8 * x := by omega
      have l79 : (ivals (tRow0 (8 * x))).length = 8 * x := by rw [ivals_len, h0l]
      have l80 : (ivals (tRow1 (8 * x))).length = 8 * x := by rw [ivals_len, h1l]
      have l81 : (ivals r2).length = r2.length := ivals_len _
      rw [hr2] at hF
      have hF := hF.nm [(1003, 177), (9, 180)] (by kernel_rfl)
      have hF : FC Try.prog 164 [(177, rowsRo [tRow0 (8 * x), tRow1 (8 * x), r2])] [.s (.agg [.sl 177 0 3]), vv (I6 0)] [(180, imOw R)] (.s (.agg [.sl 180 0 3])) [] := hF
      (refine goes_exit ?_; refine fin_exit_then ?_; refine fin_exit_then ?_; refine fin_exit_eq ?_; refine fin_seq ?_; refine goes_seq ?_; refine goes_region ?_; apply run_step rfl; (exact stp_move rfl rfl); apply run_step rfl; (exact stp_move rfl rfl); apply run_step rfl; (exact stp_move rfl rfl); apply run_step rfl; (first | exact stp_lit3R (E := 49) (F := 2) rfl (by as_aux_lemma => kernel_rfl) rfl rfl rfl rfl rfl rfl l79 l80 l81 rfl rfl rfl rfl | exact stp_buildS1 (n0 := 3) rfl rfl rfl (fun _ _ _ => by kernel_rfl) | exact stp_allocZ [.slice none 0 0] rfl (by as_aux_lemma => kernel_rfl) | exact stp_storeAgg rfl rfl rfl rfl rfl rfl rfl rfl (by as_aux_lemma => kernel_rfl) rfl | (apply call_gate 164; exact stp_callN hF (by as_aux_lemma => kernel_rfl) rfl rfl ⟨⟨.inl rfl, trivial⟩, rfl, trivial⟩ ⟨⟨_, rfl, .inr rfl⟩, trivial⟩ rfl rfl rfl)); apply run_step rfl; (first | exact stp_lit3R (E := 49) (F := 2) rfl (by as_aux_lemma => kernel_rfl) rfl rfl rfl rfl rfl rfl l79 l80 l81 rfl rfl rfl rfl | exact stp_buildS1 (n0 := 3) rfl rfl rfl (fun _ _ _ => by kernel_rfl) | exact stp_allocZ [.slice none 0 0] rfl (by as_aux_lemma => kernel_rfl) | exact stp_storeAgg rfl rfl rfl rfl rfl rfl rfl rfl (by as_aux_lemma => kernel_rfl) rfl | (apply call_gate 164; exact stp_callN hF (by as_aux_lemma => kernel_rfl) rfl rfl ⟨⟨.inl rfl, trivial⟩, rfl, trivial⟩ ⟨⟨_, rfl, .inr rfl⟩, trivial⟩ rfl rfl rfl)); apply run_step rfl; (first | exact stp_lit3R (E := 49) (F := 2) rfl (by as_aux_lemma => kernel_rfl) rfl rfl rfl rfl rfl rfl l79 l80 l81 rfl rfl rfl rfl | exact stp_buildS1 (n0 := 3) rfl rfl rfl (fun _ _ _ => by kernel_rfl) | exact stp_allocZ [.slice none 0 0] rfl (by as_aux_lemma => kernel_rfl) | exact stp_storeAgg rfl rfl rfl rfl rfl rfl rfl rfl (by as_aux_lemma => kernel_rfl) rfl | (apply call_gate 164; exact stp_callN hF (by as_aux_lemma => kernel_rfl) rfl rfl ⟨⟨.inl rfl, trivial⟩, rfl, trivial⟩ ⟨⟨_, rfl, .inr rfl⟩, trivial⟩ rfl rfl rfl)); apply run_step rfl; (first | exact stp_lit3R (E := 49) (F := 2) rfl (by as_aux_lemma => kernel_rfl) rfl rfl rfl rfl rfl rfl l79 l80 l81 rfl rfl rfl rfl | exact stp_buildS1 (n0 := 3) rfl rfl rfl (fun _ _ _ => by kernel_rfl) | exact stp_allocZ [.slice none 0 0] rfl (by as_aux_lemma => kernel_rfl) | exact stp_storeAgg rfl rfl rfl rfl rfl rfl rfl rfl (by as_aux_lemma => kernel_rfl) rfl | (apply call_gate 164; exact stp_callN hF (by as_aux_lemma => kernel_rfl) rfl rfl ⟨⟨.inl rfl, trivial⟩, rfl, trivial⟩ ⟨⟨_, rfl, .inr rfl⟩, trivial⟩ rfl rfl rfl)); refine run_nil ?_; refine fin_seq ?_; refine goes_seq ?_; refine goes_region ?_; apply run_step rfl; (exact stp_loadAgg rfl rfl rfl rfl rfl rfl (by as_aux_lemma => kernel_rfl)); apply run_step rfl; (first | exact stp_lit3R (E := 49) (F := 2) rfl (by as_aux_lemma => kernel_rfl) rfl rfl rfl rfl rfl rfl l79 l80 l81 rfl rfl rfl rfl | exact stp_buildS1 (n0 := 3) rfl rfl rfl (fun _ _ _ => by kernel_rfl) | exact stp_allocZ [.slice none 0 0] rfl (by as_aux_lemma => kernel_rfl) | exact stp_storeAgg rfl rfl rfl rfl rfl rfl rfl rfl (by as_aux_lemma => kernel_rfl) rfl | (apply call_gate 164; exact stp_callN hF (by as_aux_lemma => kernel_rfl) rfl rfl ⟨⟨.inl rfl, trivial⟩, rfl, trivial⟩ ⟨⟨_, rfl, .inr rfl⟩, trivial⟩ rfl rfl rfl)); apply run_step rfl; (first | exact stp_lit3R (E := 49) (F := 2) rfl (by as_aux_lemma => kernel_rfl) rfl rfl rfl rfl rfl rfl l79 l80 l81 rfl rfl rfl rfl | exact stp_buildS1 (n0 := 3) rfl rfl rfl (fun _ _ _ => by kernel_rfl) | exact stp_allocZ [.slice none 0 0] rfl (by as_aux_lemma => kernel_rfl) | exact stp_storeAgg rfl rfl rfl rfl rfl rfl rfl rfl (by as_aux_lemma => kernel_rfl) rfl | (apply call_gate 164; exact stp_callN hF (by as_aux_lemma => kernel_rfl) rfl rfl ⟨⟨.inl rfl, trivial⟩, rfl, trivial⟩ ⟨⟨_, rfl, .inr rfl⟩, trivial⟩ rfl rfl rfl)); refine run_nil ?_; refine fin_seq ?_; refine goes_ret ?_)
      exact fin_ret1 (.inl rfl) rfl (.cell rfl rfl rfl rfl rfl (by as_aux_lemma => kernel_rfl)) ⟨rfl, trivial⟩ trivial
end Go.Proofs.Ytpognnifgcacnaa

/- Torus maps: the contract of the reference's l10Torus. -/
namespace Go.Proofs.Ytpognnifgcacnaa
open Go.RowKit

theorem back_in {T : List (List Int)} {N : Nat} (hT : Leads T N) (h0 : 0 < N) (hfull : (orb T N 0).2.length = N) : ∀ f, f < N → 0 ≤ iget (backL (orb T N 0).2) f ∧ iget (backL (orb T N 0).2) f < N := fun f hf => by
  have ok := orb_ok hT h0
  have hall : ∀ d, d < N → ∃ k, k < N ∧ (iget (orb T N 0).2 k).toNat = d := fun d hd => by
    have h1 : bcnt (orb T N 0).1 = (orb T N 0).1.length := by rw [ok.cnt, hfull, ok.l]
    obtain ⟨k, k1, k2⟩ := ok.cov d hd (bcnt_full h1 d (by rw [ok.l]; exact hd))
    exact ⟨k, by omega, by rw [k2, Int.toNat_natCast]⟩
  have hq : ∀ k, k < N → (iget (orb T N 0).2 k).toNat < N := fun k hk => by
    obtain ⟨d, h1, h2, _⟩ := ok.q k (by omega)
    rw [h1, Int.toNat_natCast]; exact h2
  obtain ⟨m, m1, m2⟩ := hall f hf
  unfold backL
  rw [hfull]
  have := putL_get (v := fun i => (i : Int)) hq (fun i j hi hj e => surj_injT (φ := fun k => (iget (orb T N 0).2 k).toNat) hall hi hj e) N (Nat.le_refl _) m m1
  rw [m2] at this
  rw [this]
  omega
/-- the torus map of b and c -/
def torF (b c : Nat) : List (List Int) := formL (torR b c (b * b + c * c) (cAll b c (b * b + c * c) (b * b + c * c))) (backL (orb (torR b c (b * b + c * c) (cAll b c (b * b + c * c) (b * b + c * c))) (8 * (b * b + c * c)) 0).2)
theorem torF_len (b c : Nat) : (torF b c).length = 3 := by unfold torF formL; rw [List.length_map]; rfl
theorem torus_fc (b c : Nat) (hb : b ≤ 7) (hc : c ≤ 7) (h0 : 0 < b * b + c * c) (h50 : b * b + c * c ≤ 50) :
    FC Try.prog 96 [] [vv (I6 b), vv (I6 c)] [(180, imOw (torF b c))] (.s (.agg [.sl 180 0 3])) [] := by
  have hg := torGood_all hb hc h0 h50
  have hA : Apart b c (cAll b c (b * b + c * c) (b * b + c * c)) := Apart.all _
  have I := tor_iso hA rfl h0 hg
  have hfull := tor_full hA rfl h0 hg
  have hin := back_in I.lead I.pos hfull
  have hl := (torGood_spec hg).1
  have hF := formS_fc (torR b c (b * b + c * c) (cAll b c (b * b + c * c) (b * b + c * c))) (8 * (b * b + c * c)) I.lead (by show 0 < 3; omega) (by omega) (by show 3 ≤ _; omega) I.pos hfull hin
  have h3 := torF_len b c
  unfold torF at h3 ⊢
  exact torS_fc b c (b * b + c * c) hb hc rfl h0 hl _ h3 hF
end Go.Proofs.Ytpognnifgcacnaa

/- TorusMap, the reference's and the program's: the same rows. -/
namespace Go.Proofs.Ytpognnifgcacnaa
open Go.RowKit

theorem torF_rows {b c : Nat} (hb : b ≤ 7) (hc : c ≤ 7) (h0 : 0 < b * b + c * c) (h50 : b * b + c * c ≤ 50) : ∀ r ∈ torF b c, r.length = 8 * (b * b + c * c) := fun r hr => by
  have hg := torGood_all hb hc h0 h50
  have hfull := tor_full (Apart.all _) rfl h0 hg
  unfold torF formL at hr
  rw [List.mem_map] at hr
  obtain ⟨x, _, rfl⟩ := hr
  unfold fRow backL
  rw [putL_len, putL_len, hfull]
theorem torF_same {b c : Nat} (hb : b ≤ 7) (hc : c ≤ 7) (h0 : 0 < b * b + c * c) (h50 : b * b + c * c ≤ 50) : (pLoop b c (b * b + c * c : Nat) (8 * (b * b + c * c) + 1) 0 ([tf0], [[], [], []])).2 = torF b c := by
  have hg := torGood_all hb hc h0 h50
  exact tor_alike (Apart.all _) rfl h0 hg
theorem torS_any (b c : Nat) (w : World) (hb : b ≤ 7) (hc : c ≤ 7) (h0 : 0 < b * b + c * c) (h50 : b * b + c * c ≤ 50) :
    Calls Try.prog 96 #[.int .i64 b, .int .i64 c] w fun e w' => ∃ v, e = .returned v ∧ OwM 2 49 w' w.heap.size w'.heap.size v (torF b c) ∧ Below w.heap.size w w' := by
  refine ((torus_fc b c hb hc h0 h50).call (w := w) (l := []) (us := [.int .i64 b, .int .i64 c]) (fun p hp => by cases hp) rfl (denL2 rfl rfl)).mono ?_
  rintro e w' ⟨v, η, ω, rfl, hd, hm, hB, hn⟩
  obtain ⟨us, rfl, hus, ha⟩ := hd
  obtain ⟨u0, g0, d0⟩ := ha 0 _ rfl
  have e0 : us = #[u0] := by
    have hus : us.size = 1 := hus
    apply Array.ext (by simpa using hus)
    intro i q1 q2
    obtain rfl : i = 0 := by simp at q2; omega
    rw [Array.getElem?_eq_getElem q1] at g0
    simpa using g0
  subst e0
  obtain ⟨ao, n, c', us', rfl, hor⟩ := toSS (zss := torF b c) (x := 180) (E := 49) (F := 2) hm hn rfl (by rw [torF_len]; exact d0) (by rw [torF_len]; omega) (fun r hr => by rw [torF_rows hb hc h0 h50 r hr]; omega)
  exact ⟨_, rfl, ⟨ao, n, c', us', rfl, hor⟩, hB⟩
theorem torM_any (b c : Nat) (w : World) (hb : b ≤ 7) (hc : c ≤ 7) (h0 : 0 < b * b + c * c) (h50 : b * b + c * c ≤ 50) :
    Calls Try.prog 98 #[.int .i64 b, .int .i64 c] w fun e w' => ∃ v, e = .returned v ∧ OwM 2 49 w' w.heap.size w'.heap.size v (torF b c) ∧ Below w.heap.size w w' := by
  rw [← torF_same hb hc h0 h50]
  exact torI_any b c w (tor_iso (Apart.all _) rfl h0 (torGood_all hb hc h0 h50)) hb hc h0 h50
def torOk (b c : Int) : Bool := inB b 0 7 && (inB c 0 7 && inB (b * b + c * c) 1 50)
def torusR (b c : Int) : List (List Int) := if torOk b c = true then torF b.toNat c.toNat else []
def torusC (b c : Int) : Int := if torOk b c = true then 0 else 2
theorem torusR_len (b c : Int) : lenSS (torusR b c) ≤ 1200 := by
  unfold torusR
  split
  · rename_i h
    unfold torOk at h
    simp only [Bool.and_eq_true] at h
    obtain ⟨h1, h2, h3⟩ := h
    rw [inB_true] at h1 h2 h3
    obtain ⟨x, rfl⟩ := Int.eq_ofNat_of_zero_le h1.1
    obtain ⟨y, rfl⟩ := Int.eq_ofNat_of_zero_le h2.1
    rw [← Int.natCast_mul, ← Int.natCast_mul] at h3
    rw [Int.toNat_natCast, Int.toNat_natCast]
    have hr := torF_rows (b := x) (c := y) (by omega) (by omega) (by omega) (by omega)
    have hl := torF_len x y
    generalize torF x y = L at *
    match L, hl with
    | [p, q, r], _ =>
      have a1 := hr p (by simp)
      have a2 := hr q (by simp)
      have a3 := hr r (by simp)
      simp [lenSS]; omega
  · simp [lenSS]
set_option maxHeartbeats 1600000 in
theorem api_specTorusMap (b c : Int) (w : World) :
    Calls Try.prog 26 #[.int .i64 b, .int .i64 c] w fun e w' => ∃ v, e = .returned (.tuple #[v, .int .i64 (torusC b c)]) ∧ OwM 2 49 w' w.heap.size w'.heap.size v (torusR b c) ∧ Below w.heap.size w w' := by
  have hb := below_alloc1 w (.cells #[.slice none 0 0] 41)
  have kb : Blk (w.alloc (.cells #[.slice none 0 0] 41)) w.heap.size 41 #[.slice none 0 0] := blk_at rfl
  have no : torOk b c = false → torusR b c = [] ∧ torusC b c = 2 := fun h => by unfold torusR torusC; simp [h]
  have leave : ∀ {P : Prop}, (OwM 2 49 (w.alloc (.cells #[.slice none 0 0] 41)) w.heap.size (w.alloc (.cells #[.slice none 0 0] 41)).heap.size (.agg #[.slice none 0 0]) [] → P) → P := fun k => k ⟨_, _, _, [], rfl, OwR.empty_ (Own.nil_ _ _ _) (by simp [bk])⟩
  cases h1 : inB b 0 7 with
  | false =>
    obtain ⟨hR, hC⟩ := no (by unfold torOk; rw [h1]; rfl)
    have HX := Lib.hid h1
    rw [hR, hC]
    clear h1 hR hC no
    go_enter Try.func26, Try.ntmps26
    go_wp2_with (go_at_call 95; refine (specIn_any _ _ _ _).mono ?_; rintro e w' ⟨rfl, rfl⟩; rw [HX.out])
    exact bodyPost_ret (v := .tuple #[.agg #[.slice none 0 0], .int .i64 2]) (by simp [results, Try.f26, go_sem]) rfl ⟨_, rfl, leave id, hb⟩
  | true =>
    cases h2 : inB c 0 7 with
    | false =>
      obtain ⟨hR, hC⟩ := no (by unfold torOk; rw [h1, h2]; rfl)
      have HX := Lib.hid h1
      have HY := Lib.hid h2
      rw [hR, hC]
      clear h1 h2 hR hC no
      go_enter Try.func26, Try.ntmps26
      go_wp2_with (go_at_call 95; refine (specIn_any _ _ _ _).mono ?_; rintro e w' ⟨rfl, rfl⟩; first | rw [HX.out] | rw [HY.out])
      exact bodyPost_ret (v := .tuple #[.agg #[.slice none 0 0], .int .i64 2]) (by simp [results, Try.f26, go_sem]) rfl ⟨_, rfl, leave id, hb⟩
    | true =>
      have HX := Lib.hid h1
      have HY := Lib.hid h2
      have i1 := inB_true.1 h1
      have i2 := inB_true.1 h2
      obtain ⟨x, rfl⟩ := Int.eq_ofNat_of_zero_le i1.1
      obtain ⟨y, rfl⟩ := Int.eq_ofNat_of_zero_le i2.1
      have hx : x ≤ 7 := by omega
      have hy : y ≤ 7 := by omega
      clear i1 i2
      have xx : x * x ≤ 49 := Nat.mul_le_mul hx hx
      have yy : y * y ≤ 49 := Nat.mul_le_mul hy hy
      have e1 : IntKind.i64.wrap ((x : Int) * x) = ((x * x : Nat) : Int) := by
        rw [← Int.natCast_mul]; exact IntWalk.i64_in _ (by omega)
      have e2 : IntKind.i64.wrap ((y : Int) * y) = ((y * y : Nat) : Int) := by
        rw [← Int.natCast_mul]; exact IntWalk.i64_in _ (by omega)
      have e3 : IntKind.i64.wrap (((x * x : Nat) : Int) + ((y * y : Nat) : Int)) = ((x * x + y * y : Nat) : Int) := by rw [IntWalk.i64_in _ (by omega)]; omega
      have hok : torOk x y = decide (1 ≤ x * x + y * y ∧ x * x + y * y ≤ 50) := by
        unfold torOk
        rw [h1, h2, Bool.true_and, Bool.true_and]
        unfold inB
        rw [← Int.natCast_mul, ← Int.natCast_mul, ← Bool.decide_and, decide_eq_decide]
        omega
      by_cases hz : x = 0 ∧ y = 0
      · obtain ⟨hR, hC⟩ := no (by rw [hok, hz.1, hz.2]; rfl)
        rw [hR, hC]
        have z1 : ((x : Int) == 0) = true := by rw [hz.1]; rfl
        have z2 : ((y : Int) == 0) = true := by rw [hz.2]; rfl
        clear h1 h2 hR hC no hok hz xx yy e1 e2 e3 hx hy
        go_enter Try.func26, Try.ntmps26
        go_wp2_with (go_at_call 95; refine (specIn_any _ _ _ _).mono ?_; rintro e w' ⟨rfl, rfl⟩; first | rw [HX.out] | rw [HY.out])
        exact bodyPost_ret (v := .tuple #[.agg #[.slice none 0 0], .int .i64 2]) (by simp [results, Try.f26, go_sem]) rfl ⟨_, rfl, leave id, hb⟩
      · have hz1 : 0 < x * x + y * y := by
          rcases Nat.eq_zero_or_pos x with h | h
          · have : 0 < y := by omega
            have := Nat.mul_pos this this; omega
          · have := Nat.mul_pos h h; omega
        have cz : ((x : Int) == 0) = true → ((y : Int) == 0) = false := fun h => by
          have : (x : Int) = 0 := by simpa using h
          rw [beq_eq_false_iff_ne]; omega
        by_cases hs : x * x + y * y ≤ 50
        · have hR : torusR x y = torF x y := by unfold torusR; rw [hok, decide_eq_true ⟨hz1, hs⟩, if_pos rfl, Int.toNat_natCast, Int.toNat_natCast]
          have hC : torusC x y = 0 := by unfold torusC; rw [hok, decide_eq_true ⟨hz1, hs⟩, if_pos rfl]
          rw [hR, hC]
          clear h1 h2 hR hC no hok leave
          have HT := Lib.hid (torS_any x y · hx hy hz1 hs)
          have h50 : decide ((50 : Int) < ((x * x + y * y : Nat) : Int)) = false := by simp; omega
          have body : ∀ {P : Prop}, (((x : Int) == 0) = true → ((y : Int) == 0) = false → P) → (((x : Int) == 0) = false → P) → P := fun p q => by
            cases hc : ((x : Int) == 0) with
            | true => exact p hc (cz hc)
            | false => exact q hc
          generalize hXX : x * x = X at *
          generalize hYY : y * y = Y at *
          clear hXX hYY cz
          refine body (fun z1 z2 => ?_) (fun z1 => ?_)
          all_goals
            clear body
            go_enter Try.func26, Try.ntmps26
            go_wp2_with (go_at_call 95; refine (specIn_any _ _ _ _).mono ?_; rintro e w' ⟨rfl, rfl⟩; first | rw [HX.out] | rw [HY.out])
            refine (HT.out _).mono ?_
            rintro e w1 ⟨v1, rfl, ⟨a1, n1, c1, us, rfl, o1⟩, b1⟩
            have k1 := kb.belowS b1
            have c0 : w1.cell? ⟨w.heap.size, 0, none⟩ = some (.slice none 0 0) := k1.cell 0
            have f0 := k1.frozen 0
            go_wp2
            have k2 := k1.set_ 0 (.slice a1 n1 c1)
            have z2 : w1.heap.size = (w1.setCell ⟨w.heap.size, 0, none⟩ (.slice a1 n1 c1)).heap.size := by simp [World.setCell]
            have o2 := o1.same (innerS _) (w' := w1.setCell ⟨w.heap.size, 0, none⟩ (.slice a1 n1 c1)) (fun g h1 _ _ => Below.heap_setCell _ _ _ _ (by simp at h1 ⊢; omega))
            have b2 := (hb.trans (b1.mono hb.size)).setCell (p := ⟨w.heap.size, 0, none⟩) (Nat.le_refl _) (.slice a1 n1 c1)
            generalize w1.setCell ⟨w.heap.size, 0, none⟩ (.slice a1 n1 c1) = w2 at *
            have e0 : w2.cell? ⟨w.heap.size, 0, none⟩ = some (.slice a1 n1 c1) := k2.cell 0
            exact bodyPost_ret (v := .tuple #[.agg #[.slice a1 n1 c1], .int .i64 0]) (by simp [results, Try.f26, go_sem, e0]) rfl ⟨_, rfl, ⟨_, _, _, us, rfl, o2.mono hb.size (by omega)⟩, b2⟩
        · obtain ⟨hR, hC⟩ := no (by rw [hok]; exact decide_eq_false (by omega))
          rw [hR, hC]
          clear h1 h2 hR hC no hok
          have h50 : decide ((50 : Int) < ((x * x + y * y : Nat) : Int)) = true := by simp; omega
          have body : ∀ {P : Prop}, (((x : Int) == 0) = true → ((y : Int) == 0) = false → P) → (((x : Int) == 0) = false → P) → P := fun p q => by
            cases hc : ((x : Int) == 0) with
            | true => exact p hc (cz hc)
            | false => exact q hc
          generalize hXX : x * x = X at *
          generalize hYY : y * y = Y at *
          clear hXX hYY cz
          refine body (fun z1 z2 => ?_) (fun z1 => ?_)
          all_goals
            clear body
            go_enter Try.func26, Try.ntmps26
            go_wp2_with (go_at_call 95; refine (specIn_any _ _ _ _).mono ?_; rintro e w' ⟨rfl, rfl⟩; first | rw [HX.out] | rw [HY.out])
            exact bodyPost_ret (v := .tuple #[.agg #[.slice none 0 0], .int .i64 2]) (by simp [results, Try.f26, go_sem]) rfl ⟨_, rfl, leave id, hb⟩
set_option maxHeartbeats 1600000 in
theorem api_implTorusMap (b c : Int) (w : World) :
    Calls Try.prog 27 #[.int .i64 b, .int .i64 c] w fun e w' => ∃ v, e = .returned (.tuple #[v, .int .i64 (torusC b c)]) ∧ OwM 2 49 w' w.heap.size w'.heap.size v (torusR b c) ∧ Below w.heap.size w w' := by
  have hb := below_alloc1 w (.cells #[.slice none 0 0] 41)
  have kb : Blk (w.alloc (.cells #[.slice none 0 0] 41)) w.heap.size 41 #[.slice none 0 0] := blk_at rfl
  have no : torOk b c = false → torusR b c = [] ∧ torusC b c = 2 := fun h => by unfold torusR torusC; simp [h]
  have leave : ∀ {P : Prop}, (OwM 2 49 (w.alloc (.cells #[.slice none 0 0] 41)) w.heap.size (w.alloc (.cells #[.slice none 0 0] 41)).heap.size (.agg #[.slice none 0 0]) [] → P) → P := fun k => k ⟨_, _, _, [], rfl, OwR.empty_ (Own.nil_ _ _ _) (by simp [bk])⟩
  cases h1 : inB b 0 7 with
  | false =>
    obtain ⟨hR, hC⟩ := no (by unfold torOk; rw [h1]; rfl)
    have HX := Lib.hid h1
    rw [hR, hC]
    clear h1 hR hC no
    go_enter Try.func27, Try.ntmps27
    go_wp2_with (go_at_call 97; refine (within_any _ _ _ _).mono ?_; rintro e w' ⟨rfl, rfl⟩; rw [HX.out])
    exact bodyPost_ret (v := .tuple #[.agg #[.slice none 0 0], .int .i64 2]) (by simp [results, Try.f27, go_sem]) rfl ⟨_, rfl, leave id, hb⟩
  | true =>
    cases h2 : inB c 0 7 with
    | false =>
      obtain ⟨hR, hC⟩ := no (by unfold torOk; rw [h1, h2]; rfl)
      have HX := Lib.hid h1
      have HY := Lib.hid h2
      rw [hR, hC]
      clear h1 h2 hR hC no
      go_enter Try.func27, Try.ntmps27
      go_wp2_with (go_at_call 97; refine (within_any _ _ _ _).mono ?_; rintro e w' ⟨rfl, rfl⟩; first | rw [HX.out] | rw [HY.out])
      exact bodyPost_ret (v := .tuple #[.agg #[.slice none 0 0], .int .i64 2]) (by simp [results, Try.f27, go_sem]) rfl ⟨_, rfl, leave id, hb⟩
    | true =>
      have HX := Lib.hid h1
      have HY := Lib.hid h2
      have i1 := inB_true.1 h1
      have i2 := inB_true.1 h2
      obtain ⟨x, rfl⟩ := Int.eq_ofNat_of_zero_le i1.1
      obtain ⟨y, rfl⟩ := Int.eq_ofNat_of_zero_le i2.1
      have hx : x ≤ 7 := by omega
      have hy : y ≤ 7 := by omega
      clear i1 i2
      have xx : x * x ≤ 49 := Nat.mul_le_mul hx hx
      have yy : y * y ≤ 49 := Nat.mul_le_mul hy hy
      have e1 : IntKind.i64.wrap ((x : Int) * x) = ((x * x : Nat) : Int) := by
        rw [← Int.natCast_mul]; exact IntWalk.i64_in _ (by omega)
      have e2 : IntKind.i64.wrap ((y : Int) * y) = ((y * y : Nat) : Int) := by
        rw [← Int.natCast_mul]; exact IntWalk.i64_in _ (by omega)
      have hok : torOk x y = inB ((x * x + y * y : Nat) : Int) 1 50 := by
        unfold torOk
        rw [h1, h2, Bool.true_and, Bool.true_and, ← Int.natCast_mul, ← Int.natCast_mul, ← Int.natCast_add]
      obtain ⟨S, hS⟩ : ∃ S, S = x * x + y * y := ⟨_, rfl⟩
      have e3 : IntKind.i64.wrap (((x * x : Nat) : Int) + ((y * y : Nat) : Int)) = (S : Int) := by rw [IntWalk.i64_in _ (by omega)]; omega
      rw [← hS] at hok
      cases h3 : inB (S : Int) 1 50 with
      | false =>
        have HZ := Lib.hid h3
        obtain ⟨hR, hC⟩ := no (by rw [hok, h3])
        rw [hR, hC]
        clear h1 h2 h3 hR hC no hok hS
        generalize x * x = X at *
        generalize y * y = Y at *
        go_enter Try.func27, Try.ntmps27
        go_wp2_with (go_at_call 97; refine (within_any _ _ _ _).mono ?_; rintro e w' ⟨rfl, rfl⟩; first | rw [HX.out] | rw [HY.out] | rw [HZ.out])
        exact bodyPost_ret (v := .tuple #[.agg #[.slice none 0 0], .int .i64 2]) (by simp [results, Try.f27, go_sem]) rfl ⟨_, rfl, leave id, hb⟩
      | true =>
        have HZ := Lib.hid h3
        have i3 := inB_true.1 h3
        have hR : torusR x y = torF x y := by unfold torusR; rw [hok, h3, if_pos rfl, Int.toNat_natCast, Int.toNat_natCast]
        have hC : torusC x y = 0 := by unfold torusC; rw [hok, h3, if_pos rfl]
        rw [hR, hC]
        have HT := Lib.hid (torM_any x y · hx hy (by omega) (by omega))
        clear h1 h2 h3 hR hC no hok leave i3 hS
        generalize x * x = X at *
        generalize y * y = Y at *
        go_enter Try.func27, Try.ntmps27
        go_wp2_with (go_at_call 97; refine (within_any _ _ _ _).mono ?_; rintro e w' ⟨rfl, rfl⟩; first | rw [HX.out] | rw [HY.out] | rw [HZ.out])
        refine (HT.out _).mono ?_
        rintro e w1 ⟨v1, rfl, ⟨a1, n1, c1, us, rfl, o1⟩, b1⟩
        have k1 := kb.belowS b1
        have c0 : w1.cell? ⟨w.heap.size, 0, none⟩ = some (.slice none 0 0) := k1.cell 0
        have f0 := k1.frozen 0
        go_wp2
        have k2 := k1.set_ 0 (.slice a1 n1 c1)
        have z2 : w1.heap.size = (w1.setCell ⟨w.heap.size, 0, none⟩ (.slice a1 n1 c1)).heap.size := by simp [World.setCell]
        have o2 := o1.same (innerS _) (w' := w1.setCell ⟨w.heap.size, 0, none⟩ (.slice a1 n1 c1)) (fun g h1 _ _ => Below.heap_setCell _ _ _ _ (by simp at h1 ⊢; omega))
        have b2 := (hb.trans (b1.mono hb.size)).setCell (p := ⟨w.heap.size, 0, none⟩) (Nat.le_refl _) (.slice a1 n1 c1)
        generalize w1.setCell ⟨w.heap.size, 0, none⟩ (.slice a1 n1 c1) = w2 at *
        have e0 : w2.cell? ⟨w.heap.size, 0, none⟩ = some (.slice a1 n1 c1) := k2.cell 0
        exact bodyPost_ret (v := .tuple #[.agg #[.slice a1 n1 c1], .int .i64 0]) (by simp [results, Try.f27, go_sem, e0]) rfl ⟨_, rfl, ⟨_, _, _, us, rfl, o2.mono hb.size (by omega)⟩, b2⟩
end Go.Proofs.Ytpognnifgcacnaa

/- The walk of FnExactTorusMap: true, whatever the arguments. Written by genwalk.py. -/
namespace Go.Proofs.Ytpognnifgcacnaa
open Go.RowKit

set_option maxHeartbeats 3200000 in
theorem walkTorusMap (b : Int) (c : Int) (w : World) (_hb : (Lit.int .i64 b).wf = true) (_hc : (Lit.int .i64 c).wf = true) :
    Calls Try.prog 6 #[.int .i64 b, .int .i64 c] w fun e w' => e = .returned (.bool true) ∧ Below w.heap.size w w' := by
  have hsz := torusR_len b c
  have B0 : Below w.heap.size w w := Below.refl _ _
  go_enter Try.func6, Try.ntmps6
  go_wp2_with fail
  refine (api_specTorusMap b c _  ).mono ?_
  rintro e w1 ⟨u1_0, rfl, o1_0, b1⟩
  obtain ⟨au1_0, nu1_0, cu1_0, rfl⟩ := o1_0.form
  have s1 := b1.size
  have B1 : Below w.heap.size w w1 := B0.trans (b1.mono B0.size)
  go_wp2_with fail
  have bx2 := below_alloc1 w1 (.cells #[.slice au1_0 nu1_0 cu1_0] 41)
  have kbw0_2 : Blk (w1.alloc (.cells #[.slice au1_0 nu1_0 cu1_0] 41)) w1.heap.size 41 #[.slice au1_0 nu1_0 cu1_0] := blk_at rfl
  generalize w1.alloc (.cells #[.slice au1_0 nu1_0 cu1_0] 41) = w2 at *
  have s2 := bx2.size
  have B2 : Below w.heap.size w w2 := B1.trans (bx2.mono B1.size)
  have xkbw0_2_0 : w2.cell? ⟨w1.heap.size, 0, none⟩ = some (.slice au1_0 nu1_0 cu1_0) := kbw0_2.cell 0
  have lkbw0_2 : w1.heap.size < w2.heap.size := kbw0_2.lt
  refine (api_implTorusMap b c _  ).mono ?_
  rintro e w3 ⟨u3_0, rfl, o3_0, b3⟩
  obtain ⟨au3_0, nu3_0, cu3_0, rfl⟩ := o3_0.form
  have s3 := b3.size
  have B3 : Below w.heap.size w w3 := B2.trans (b3.mono B2.size)
  have kbw0_3 : Blk w3 (w1.heap.size) 41 #[.slice au1_0 nu1_0 cu1_0] := (kbw0_2.belowS b3)
  have xkbw0_3_0 : w3.cell? ⟨w1.heap.size, 0, none⟩ = some (.slice au1_0 nu1_0 cu1_0) := kbw0_3.cell 0
  have lkbw0_3 : w1.heap.size < w3.heap.size := kbw0_3.lt
  clear xkbw0_2_0
  go_wp2_with fail
  have bx4 := below_alloc1 w3 (.cells #[.slice au3_0 nu3_0 cu3_0] 41)
  have kbg0_4 : Blk (w3.alloc (.cells #[.slice au3_0 nu3_0 cu3_0] 41)) w3.heap.size 41 #[.slice au3_0 nu3_0 cu3_0] := blk_at rfl
  generalize w3.alloc (.cells #[.slice au3_0 nu3_0 cu3_0] 41) = w4 at *
  have s4 := bx4.size
  have B4 : Below w.heap.size w w4 := B3.trans (bx4.mono B3.size)
  have kbw0_4 : Blk w4 (w1.heap.size) 41 #[.slice au1_0 nu1_0 cu1_0] := (kbw0_3.belowS bx4)
  have xkbw0_4_0 : w4.cell? ⟨w1.heap.size, 0, none⟩ = some (.slice au1_0 nu1_0 cu1_0) := kbw0_4.cell 0
  have lkbw0_4 : w1.heap.size < w4.heap.size := kbw0_4.lt
  have xkbg0_4_0 : w4.cell? ⟨w3.heap.size, 0, none⟩ = some (.slice au3_0 nu3_0 cu3_0) := kbg0_4.cell 0
  have lkbg0_4 : w3.heap.size < w4.heap.size := kbg0_4.lt
  clear xkbw0_3_0
  refine (law_eqM _ (o3_0.below bx4).rd (((o1_0.below bx2).below b3).below bx4).rd).mono ?_
  rintro e w5 ⟨rfl, b5⟩
  have s5 := b5.size
  have B5 : Below w.heap.size w w5 := B4.trans (b5.mono B4.size)
  have kbw0_5 : Blk w5 (w1.heap.size) 41 #[.slice au1_0 nu1_0 cu1_0] := (kbw0_4.belowS b5)
  have xkbw0_5_0 : w5.cell? ⟨w1.heap.size, 0, none⟩ = some (.slice au1_0 nu1_0 cu1_0) := kbw0_5.cell 0
  have lkbw0_5 : w1.heap.size < w5.heap.size := kbw0_5.lt
  have kbg0_5 : Blk w5 (w3.heap.size) 41 #[.slice au3_0 nu3_0 cu3_0] := (kbg0_4.belowS b5)
  have xkbg0_5_0 : w5.cell? ⟨w3.heap.size, 0, none⟩ = some (.slice au3_0 nu3_0 cu3_0) := kbg0_5.cell 0
  have lkbg0_5 : w3.heap.size < w5.heap.size := kbg0_5.lt
  clear xkbw0_4_0 xkbg0_4_0
  go_wp2_with fail
  refine (law_markM (1) _ ((o3_0.below bx4).below b5) (by omega) (by omega)).mono ?_
  rintro e w6 ⟨rfl, o6, q6⟩
  have s6 := q6.size
  have B6 : Below w.heap.size w w6 := B5.trans (q6.below (by omega) B5.size)
  have kbw0_6 : Blk w6 (w1.heap.size) 41 #[.slice au1_0 nu1_0 cu1_0] := (kbw0_5.only q6 (by omega))
  have xkbw0_6_0 : w6.cell? ⟨w1.heap.size, 0, none⟩ = some (.slice au1_0 nu1_0 cu1_0) := kbw0_6.cell 0
  have lkbw0_6 : w1.heap.size < w6.heap.size := kbw0_6.lt
  have kbg0_6 : Blk w6 (w3.heap.size) 41 #[.slice au3_0 nu3_0 cu3_0] := (kbg0_5.only q6 (by omega))
  have xkbg0_6_0 : w6.cell? ⟨w3.heap.size, 0, none⟩ = some (.slice au3_0 nu3_0 cu3_0) := kbg0_6.cell 0
  have lkbg0_6 : w3.heap.size < w6.heap.size := kbg0_6.lt
  clear xkbw0_5_0 xkbg0_5_0
  go_wp2_with fail
  refine (law_heldM (1) _ o6.rd (by omega) (by omega)).mono ?_
  rintro e w7 ⟨rfl, b7⟩
  have s7 := b7.size
  have B7 : Below w.heap.size w w7 := B6.trans (b7.mono B6.size)
  have kbw0_7 : Blk w7 (w1.heap.size) 41 #[.slice au1_0 nu1_0 cu1_0] := (kbw0_6.belowS b7)
  have xkbw0_7_0 : w7.cell? ⟨w1.heap.size, 0, none⟩ = some (.slice au1_0 nu1_0 cu1_0) := kbw0_7.cell 0
  have lkbw0_7 : w1.heap.size < w7.heap.size := kbw0_7.lt
  have kbg0_7 : Blk w7 (w3.heap.size) 41 #[.slice au3_0 nu3_0 cu3_0] := (kbg0_6.belowS b7)
  have xkbg0_7_0 : w7.cell? ⟨w3.heap.size, 0, none⟩ = some (.slice au3_0 nu3_0 cu3_0) := kbg0_7.cell 0
  have lkbg0_7 : w3.heap.size < w7.heap.size := kbg0_7.lt
  clear xkbw0_6_0 xkbg0_6_0
  go_wp2_with fail
  refine (api_implTorusMap b c _  ).mono ?_
  rintro e w8 ⟨u8_0, rfl, o8_0, b8⟩
  obtain ⟨au8_0, nu8_0, cu8_0, rfl⟩ := o8_0.form
  have s8 := b8.size
  have B8 : Below w.heap.size w w8 := B7.trans (b8.mono B7.size)
  have kbw0_8 : Blk w8 (w1.heap.size) 41 #[.slice au1_0 nu1_0 cu1_0] := (kbw0_7.belowS b8)
  have xkbw0_8_0 : w8.cell? ⟨w1.heap.size, 0, none⟩ = some (.slice au1_0 nu1_0 cu1_0) := kbw0_8.cell 0
  have lkbw0_8 : w1.heap.size < w8.heap.size := kbw0_8.lt
  have kbg0_8 : Blk w8 (w3.heap.size) 41 #[.slice au3_0 nu3_0 cu3_0] := (kbg0_7.belowS b8)
  have xkbg0_8_0 : w8.cell? ⟨w3.heap.size, 0, none⟩ = some (.slice au3_0 nu3_0 cu3_0) := kbg0_8.cell 0
  have lkbg0_8 : w3.heap.size < w8.heap.size := kbg0_8.lt
  clear xkbw0_7_0 xkbg0_7_0
  go_wp2_with fail
  have bx9 := below_alloc1 w8 (.cells #[.slice au8_0 nu8_0 cu8_0] 41)
  have kbh0_9 : Blk (w8.alloc (.cells #[.slice au8_0 nu8_0 cu8_0] 41)) w8.heap.size 41 #[.slice au8_0 nu8_0 cu8_0] := blk_at rfl
  generalize w8.alloc (.cells #[.slice au8_0 nu8_0 cu8_0] 41) = w9 at *
  have s9 := bx9.size
  have B9 : Below w.heap.size w w9 := B8.trans (bx9.mono B8.size)
  have kbw0_9 : Blk w9 (w1.heap.size) 41 #[.slice au1_0 nu1_0 cu1_0] := (kbw0_8.belowS bx9)
  have xkbw0_9_0 : w9.cell? ⟨w1.heap.size, 0, none⟩ = some (.slice au1_0 nu1_0 cu1_0) := kbw0_9.cell 0
  have lkbw0_9 : w1.heap.size < w9.heap.size := kbw0_9.lt
  have kbg0_9 : Blk w9 (w3.heap.size) 41 #[.slice au3_0 nu3_0 cu3_0] := (kbg0_8.belowS bx9)
  have xkbg0_9_0 : w9.cell? ⟨w3.heap.size, 0, none⟩ = some (.slice au3_0 nu3_0 cu3_0) := kbg0_9.cell 0
  have lkbg0_9 : w3.heap.size < w9.heap.size := kbg0_9.lt
  have xkbh0_9_0 : w9.cell? ⟨w8.heap.size, 0, none⟩ = some (.slice au8_0 nu8_0 cu8_0) := kbh0_9.cell 0
  have lkbh0_9 : w8.heap.size < w9.heap.size := kbh0_9.lt
  clear xkbw0_8_0 xkbg0_8_0
  refine (law_eqM _ (o8_0.below bx9).rd ((((((((o1_0.below bx2).below b3).below bx4).below b5).only q6 (by omega)).below b7).below b8).below bx9).rd).mono ?_
  rintro e w10 ⟨rfl, b10⟩
  have s10 := b10.size
  have B10 : Below w.heap.size w w10 := B9.trans (b10.mono B9.size)
  have kbw0_10 : Blk w10 (w1.heap.size) 41 #[.slice au1_0 nu1_0 cu1_0] := (kbw0_9.belowS b10)
  have xkbw0_10_0 : w10.cell? ⟨w1.heap.size, 0, none⟩ = some (.slice au1_0 nu1_0 cu1_0) := kbw0_10.cell 0
  have lkbw0_10 : w1.heap.size < w10.heap.size := kbw0_10.lt
  have kbg0_10 : Blk w10 (w3.heap.size) 41 #[.slice au3_0 nu3_0 cu3_0] := (kbg0_9.belowS b10)
  have xkbg0_10_0 : w10.cell? ⟨w3.heap.size, 0, none⟩ = some (.slice au3_0 nu3_0 cu3_0) := kbg0_10.cell 0
  have lkbg0_10 : w3.heap.size < w10.heap.size := kbg0_10.lt
  have kbh0_10 : Blk w10 (w8.heap.size) 41 #[.slice au8_0 nu8_0 cu8_0] := (kbh0_9.belowS b10)
  have xkbh0_10_0 : w10.cell? ⟨w8.heap.size, 0, none⟩ = some (.slice au8_0 nu8_0 cu8_0) := kbh0_10.cell 0
  have lkbh0_10 : w8.heap.size < w10.heap.size := kbh0_10.lt
  clear xkbw0_9_0 xkbg0_9_0 xkbh0_9_0
  go_wp2_with fail
  refine (law_heldM (1) _ ((((o6.below b7).below b8).below bx9).below b10).rd (by omega) (by omega)).mono ?_
  rintro e w11 ⟨rfl, b11⟩
  have s11 := b11.size
  have B11 : Below w.heap.size w w11 := B10.trans (b11.mono B10.size)
  have kbw0_11 : Blk w11 (w1.heap.size) 41 #[.slice au1_0 nu1_0 cu1_0] := (kbw0_10.belowS b11)
  have xkbw0_11_0 : w11.cell? ⟨w1.heap.size, 0, none⟩ = some (.slice au1_0 nu1_0 cu1_0) := kbw0_11.cell 0
  have lkbw0_11 : w1.heap.size < w11.heap.size := kbw0_11.lt
  have kbg0_11 : Blk w11 (w3.heap.size) 41 #[.slice au3_0 nu3_0 cu3_0] := (kbg0_10.belowS b11)
  have xkbg0_11_0 : w11.cell? ⟨w3.heap.size, 0, none⟩ = some (.slice au3_0 nu3_0 cu3_0) := kbg0_11.cell 0
  have lkbg0_11 : w3.heap.size < w11.heap.size := kbg0_11.lt
  have kbh0_11 : Blk w11 (w8.heap.size) 41 #[.slice au8_0 nu8_0 cu8_0] := (kbh0_10.belowS b11)
  have xkbh0_11_0 : w11.cell? ⟨w8.heap.size, 0, none⟩ = some (.slice au8_0 nu8_0 cu8_0) := kbh0_11.cell 0
  have lkbh0_11 : w8.heap.size < w11.heap.size := kbh0_11.lt
  clear xkbw0_10_0 xkbg0_10_0 xkbh0_10_0
  go_wp2
  go_ret
  exact ⟨rfl, B11⟩
end Go.Proofs.Ytpognnifgcacnaa
