/- Orbits and their numbers, on lists. No program in sight. -/
import Derived.Test.YtpognnifgcacnaaPart3
import Derived.Test.YtpognnifgcacnaaPart1
namespace Go.Proofs.Ytpognnifgcacnaa

theorem mBit_all {ng g : Nat} (h : g < ng) : mBit (2 ^ ng - 1) g = true := by
  have : mBit (2 ^ ng - 1) g = (2 ^ ng - 1).testBit g := by
    unfold mBit; rw [Nat.testBit_eq_decide_div_mod_eq]; rfl
  rw [this, Nat.testBit_two_pow_sub_one]; simpa using h
/-- a step of the search for an orbit -/
def oStep (T : List (List Int)) (c : Nat) (s : MSt) (g : Nat) : MSt := if bat s.1 (bTo T c g) = false then (s.1.set (bTo T c g) true, s.2 ++ [(bTo T c g : Int)]) else s
theorem oStep_eq {T : List (List Int)} {ng g : Nat} (h : g < ng) (c : Nat) (s : MSt) : mStep T (2 ^ ng - 1) c s g = oStep T c s g := by
  unfold mStep oStep
  simp only [mBit_all h, true_and]
def oStart (n c : Nat) : MSt := ((List.replicate n false).set c true, [(c : Int)])
/-- the points to which lists lead a point, as they are met -/
def orb (T : List (List Int)) (n c : Nat) : MSt := mLoop T (2 ^ T.length - 1) T.length (n + 1) 0 (oStart n c)
theorem oStart_bat {n c d : Nat} (hd : d < n) : bat (oStart n c).1 d = true ↔ d = c := by
  show bat ((List.replicate n false).set c true) d = true ↔ _
  rw [bat_set]
  constructor
  · intro h
    split at h
    · rename_i e; exact e.1.symm
    · simp [bat, hd] at h
  · rintro rfl; rw [if_pos ⟨rfl, by simpa using hd⟩]
theorem oStart_ok {n c : Nat} (hc : c < n) : MOK n (oStart n c) := by
  refine ⟨by simp [oStart], fun k hk => ?_, ?_, fun d hd hb => ?_⟩
  · obtain rfl : k = 0 := by simp [oStart] at hk; omega
    exact ⟨c, rfl, hc, (oStart_bat hc).2 rfl⟩
  · show bcnt ((List.replicate n false).set c true) = 1
    rw [bcnt_set _ _ (by simpa using hc) (by simp [bat, hc])]
    simp [bcnt]
  · rw [oStart_bat hd] at hb; subst hb; exact ⟨0, by simp [oStart], rfl⟩
section
variable {T : List (List Int)} {n : Nat}
theorem orb_ok (hT : Leads T n) {c : Nat} (hc : c < n) : MOK n (orb T n c) := (mLoop_ok hT rfl _ _ _ (oStart_ok hc)).1
/-- whether lists lead a point to another one -/
def rch (T : List (List Int)) (n c d : Nat) : Bool := bat (orb T n c).1 d
theorem rch_refl (hT : Leads T n) {c : Nat} (hc : c < n) : rch T n c c = true := (mLoop_ok hT rfl _ _ _ (oStart_ok hc)).2.met c ((oStart_bat hc).2 rfl)
theorem rch_on (hT : Leads T n) {c d g : Nat} (hc : c < n) (hd : d < n) (h : rch T n c d = true) (hg : g < T.length) : rch T n c (bTo T d g) = true := by
  have hs := mLoop_seen (mask := 2 ^ T.length - 1) hT rfl (n + 1) 0 _ (oStart_ok hc) (fun k hk => by omega) (Nat.zero_le _) (by omega)
  obtain ⟨k, k1, k2⟩ := (orb_ok hT hc).cov d hd h
  have := hs k k1 g hg (mBit_all hg)
  have e : iget (mLoop T (2 ^ T.length - 1) T.length (n + 1) 0 (oStart n c)).2 k = (d : Int) := k2
  rw [e, Int.toNat_natCast] at this
  exact this
theorem rch_in (hT : Leads T n) {c : Nat} (hc : c < n) {p : Nat → Prop} (h0 : p c) (hp : ∀ d, d < n → p d → ∀ g, g < T.length → p (bTo T d g)) : ∀ d, d < n → rch T n c d = true → p d :=
  mLoop_in (mask := 2 ^ T.length - 1) hT rfl (fun d hd hpd g hg _ => hp d hd hpd g hg) (n + 1) 0 (oStart n c) (oStart_ok hc) fun d hd hb => by rw [oStart_bat hd] at hb; subst hb; exact h0
theorem rch_trans (hT : Leads T n) {c d e : Nat} (hc : c < n) (hd : d < n) (he : e < n) (h1 : rch T n c d = true) (h2 : rch T n d e = true) : rch T n c e = true :=
  rch_in (p := fun e => rch T n c e = true) hT hd h1 (fun e he h g hg => rch_on hT hc he h hg) e he h2
/-- each list leads back what it leads -/
def Back2 (T : List (List Int)) (n : Nat) : Prop := ∀ g, g < T.length → ∀ c, c < n → bTo T (bTo T c g) g = c
theorem rch_symm (hT : Leads T n) (hb : Back2 T n) {c d : Nat} (hc : c < n) (hd : d < n) (h : rch T n c d = true) : rch T n d c = true :=
  rch_in (p := fun d => rch T n d c = true) hT hc (rch_refl hT hc) (fun e he h g hg => by
    have h1 := (bTo_lt hT he hg).1
    have h2 := rch_on hT h1 h1 (rch_refl hT h1) hg
    rw [hb g hg e he] at h2
    exact rch_trans hT h1 he hc h2 h) d hd h

theorem bcnt_full : ∀ {l : List Bool}, bcnt l = l.length → ∀ d, d < l.length → bat l d = true
  | [], _, d, hd => by simp at hd
  | b :: r, h, d, hd => by
    have hr := bcnt_le r
    have hb : b = true ∧ bcnt r = r.length := by
      unfold bcnt at h hr ⊢
      rw [List.filter_cons] at h
      split at h
      · rename_i hb; exact ⟨hb, by simpa using h⟩
      · simp at h; omega
    cases d with
    | zero => exact hb.1
    | succ d => exact bcnt_full hb.2 d (by simpa using hd)
theorem bcnt_all : ∀ {l : List Bool}, (∀ d, d < l.length → bat l d = true) → bcnt l = l.length
  | [], _ => rfl
  | b :: r, h => by
    have h0 : b = true := h 0 (by simp)
    have h1 := bcnt_all (l := r) fun d hd => h (d + 1) (by simpa using hd)
    unfold bcnt at h1 ⊢
    rw [List.filter_cons, if_pos h0]; simp [h1]
/-- the orbit is everything exactly if every point is met -/
theorem orb_full (hT : Leads T n) {c : Nat} (hc : c < n) : (orb T n c).2.length = n ↔ ∀ d, d < n → rch T n c d = true := by
  have h := orb_ok hT hc
  rw [← h.cnt]
  constructor
  · intro e d hd; exact bcnt_full (by rw [h.l]; exact e) d (by rw [h.l]; exact hd)
  · intro e; rw [bcnt_all (fun d hd => e d (by rw [h.l] at hd; exact hd)), h.l]

/-- the numbers of orbits, and how many there are -/
abbrev LSt := List Int × Nat
def labSet (T : List (List Int)) (n i : Nat) (s : LSt) : LSt := ((List.range n).map fun d => if rch T n i d then (s.2 : Int) else iget s.1 d, s.2 + 1)
def labStep (T : List (List Int)) (n : Nat) (s : LSt) (i : Nat) : LSt := if 0 ≤ iget s.1 i then s else labSet T n i s
def labStart (n : Nat) : LSt := (List.replicate n (-1), 0)
def labTo (T : List (List Int)) (n i : Nat) : LSt := (List.range i).foldl (labStep T n) (labStart n)
def labs (T : List (List Int)) (n : Nat) : LSt := labTo T n n
theorem labTo_succ (i : Nat) : labTo T n (i + 1) = labStep T n (labTo T n i) i := by unfold labTo; rw [List.range_succ, List.foldl_append]; rfl
theorem labSet_get {i d : Nat} {s : LSt} (hd : d < n) : iget (labSet T n i s).1 d = if rch T n i d then (s.2 : Int) else iget s.1 d := by simp [labSet, iget, hd]
theorem labSet_len {i : Nat} {s : LSt} : (labSet T n i s).1.length = n := by simp [labSet]
structure LOK (T : List (List Int)) (n i : Nat) (s : LSt) : Prop where
  len : s.1.length = n
  met : ∀ d, d < n → (0 ≤ iget s.1 d ↔ ∃ c, c < i ∧ rch T n c d = true)
  low : ∀ d, d < n → -1 ≤ iget s.1 d ∧ iget s.1 d < s.2
theorem labTo_ok (hT : Leads T n) (hb : Back2 T n) : ∀ i, i ≤ n → LOK T n i (labTo T n i)
  | 0, _ => ⟨by simp [labTo, labStart], fun d hd => ⟨fun h => by simp [labTo, labStart, iget, hd] at h, fun ⟨c, h, _⟩ => absurd h (by omega)⟩, fun d hd => by simp [labTo, labStart, iget, hd]⟩
  | i + 1, hi => by
    have h := labTo_ok hT hb i (by omega)
    rw [labTo_succ]
    generalize labTo T n i = s at *
    unfold labStep
    split
    · rename_i hl
      refine ⟨h.len, fun d hd => ?_, h.low⟩
      rw [h.met d hd]
      constructor
      · rintro ⟨c, h1, h2⟩; exact ⟨c, by omega, h2⟩
      · rintro ⟨c, h1, h2⟩
        by_cases e : c = i
        · subst e
          obtain ⟨c', h3, h4⟩ := (h.met c hi).1 hl
          exact ⟨c', h3, rch_trans hT (by omega) hi hd h4 h2⟩
        · exact ⟨c, by omega, h2⟩
    · rename_i hl
      refine ⟨labSet_len, fun d hd => ?_, fun d hd => ?_⟩
      · rw [labSet_get hd]
        split
        · rename_i hr; exact ⟨fun _ => ⟨i, by omega, hr⟩, fun _ => by omega⟩
        · rename_i hr
          rw [h.met d hd]
          constructor
          · rintro ⟨c, h1, h2⟩; exact ⟨c, by omega, h2⟩
          · rintro ⟨c, h1, h2⟩
            by_cases e : c = i
            · subst e; exact absurd h2 hr
            · exact ⟨c, by omega, h2⟩
      · rw [labSet_get hd]
        have := h.low d hd
        split
        · exact ⟨by omega, by show (s.2 : Int) < ((s.2 + 1 : Nat) : Int); omega⟩
        · exact ⟨this.1, by show _ < ((s.2 + 1 : Nat) : Int); omega⟩
/-- whoever is met from i for the first time was not met ahead of it -/
theorem lab_new (hT : Leads T n) (hb : Back2 T n) {i d : Nat} {s : LSt} (hi : i < n) (h : LOK T n i s) (hl : iget s.1 i < 0) (hd : d < n) (hr : rch T n i d = true) : iget s.1 d = -1 := by
  have := h.low d hd
  by_cases e : 0 ≤ iget s.1 d
  · obtain ⟨c, h1, h2⟩ := (h.met d hd).1 e
    have h3 := rch_trans hT (by omega) hd hi h2 (rch_symm hT hb hi hd hr)
    have := (h.met i hi).2 ⟨c, h1, h3⟩
    omega
  · omega
theorem labTo_mono : ∀ {i k : Nat}, i ≤ k → (labTo T n i).2 ≤ (labTo T n k).2 := by
  intro i k h
  induction k with
  | zero => obtain rfl : i = 0 := by omega
            exact Nat.le_refl _
  | succ k ih =>
    by_cases e : i = k + 1
    · subst e; exact Nat.le_refl _
    · refine Nat.le_trans (ih (by omega)) ?_
      rw [labTo_succ]; unfold labStep; split
      · exact Nat.le_refl _
      · simp [labSet]
theorem labTo_one (hT : Leads T n) (hb : Back2 T n) (hn : 0 < n) : (labTo T n 1).2 = 1 := by
  have h0 : iget (labTo T n 0).1 0 = -1 := by simp [labTo, labStart, iget, hn]
  rw [show 1 = 0 + 1 by rfl, labTo_succ]
  unfold labStep
  rw [if_neg (by rw [h0]; omega)]
  rfl
/-- there is one orbit exactly if that of 0 is everything -/
theorem labs_one (hT : Leads T n) (hb : Back2 T n) (hn : 0 < n) : (labs T n).2 = 1 ↔ (orb T n 0).2.length = n := by
  rw [orb_full hT hn]
  constructor
  · intro h d hd
    have key : ∀ i, 1 ≤ i → i ≤ n → labTo T n i = labTo T n 1 := by
      intro i h1 h2
      induction i with
      | zero => omega
      | succ i ih =>
        by_cases e : i = 0
        · subst e; rfl
        · have ih := ih (by omega) (by omega)
          have hm := labTo_mono (T := T) (n := n) h2
          have : (labTo T n n).2 = 1 := h
          rw [labTo_succ] at hm ⊢
          unfold labStep at hm ⊢
          split at hm
          · rename_i hl; rw [if_pos hl]; exact ih
          · rw [ih] at hm
            have := labTo_one hT hb hn
            simp only [labSet] at hm
            omega
    by_cases e : d = 0
    · subst e; exact rch_refl hT hn
    · have h1 : 0 ≤ iget (labTo T n d).1 d := by
        have hm := labTo_mono (T := T) (n := n) (show d + 1 ≤ n by omega)
        have : (labTo T n n).2 = 1 := h
        rw [labTo_succ] at hm
        unfold labStep at hm
        split at hm
        · rename_i hl; exact hl
        · rw [key d (by omega) (by omega)] at hm
          have := labTo_one hT hb hn
          simp only [labSet] at hm
          omega
      rw [key d (by omega) (by omega)] at h1
      obtain ⟨c, h2, h3⟩ := ((labTo_ok hT hb 1 hn).met d hd).1 h1
      obtain rfl : c = 0 := by omega
      exact h3
  · intro h
    have key : ∀ i, 1 ≤ i → i ≤ n → (labTo T n i).2 = 1 := by
      intro i h1 h2
      induction i with
      | zero => omega
      | succ i ih =>
        by_cases e : i = 0
        · subst e; exact labTo_one hT hb hn
        · rw [labTo_succ]
          unfold labStep
          rw [if_pos (((labTo_ok hT hb i (by omega)).met i (by omega)).2 ⟨0, by omega, h i (by omega)⟩)]
          exact ih (by omega) (by omega)
    exact key n hn (Nat.le_refl _)
end
end Go.Proofs.Ytpognnifgcacnaa

/- What a permutation's numbers are. No program in sight. -/
namespace Go.Proofs.Ytpognnifgcacnaa

theorem permGo_within {n : Nat} {zs : List Int} : ∀ {seen : List Bool}, permGo n seen zs = true → ∀ z ∈ zs, 0 ≤ z ∧ z < n := by
  induction zs with
  | nil => intro seen _ z hz; cases hz
  | cons a r ih =>
    intro seen h z hz
    simp only [permGo, Bool.and_eq_true] at h
    rcases List.mem_cons.1 hz with rfl | hz
    · have := inB_true.1 h.1.1; omega
    · exact ih h.2 z hz
theorem isPerm_within {zs : List Int} (h : isPerm zs = true) {k : Nat} (hk : k < zs.length) : 0 ≤ iget zs k ∧ iget zs k < zs.length := by
  unfold isPerm at h
  exact permGo_within ((Bool.and_eq_true _ _ ▸ h).2) _ (iget_mem hk)
end Go.Proofs.Ytpognnifgcacnaa

/- What a maniplex is, on lists. No program in sight. -/
namespace Go.Proofs.Ytpognnifgcacnaa

/-- no number stands at its own place, and each leads back -/
def isFreeL (zs : List Int) : Bool := (List.range zs.length).all fun i => !(iget zs i == (i : Int)) && iget zs (iget zs i).toNat == (i : Int)
theorem isFreeL_at {zs : List Int} (h : isFreeL zs = true) {i : Nat} (hi : i < zs.length) : iget zs i ≠ i ∧ iget zs (iget zs i).toNat = i := by
  unfold isFreeL at h
  have := (List.all_eq_true.1 h) i (List.mem_range.2 hi)
  simpa using this
theorem isFreeL_no {zs : List Int} {i : Nat} (hi : i < zs.length) (h : iget zs i = i ∨ iget zs (iget zs i).toNat ≠ i) : isFreeL zs = false := by
  cases hf : isFreeL zs with
  | false => rfl
  | true =>
    have := isFreeL_at hf hi
    rcases h with h | h
    · exact absurd h this.1
    · exact absurd this.2 h
theorem isFreeL_yes {zs : List Int} (h : ∀ i, i < zs.length → iget zs i ≠ i ∧ iget zs (iget zs i).toNat = i) : isFreeL zs = true := by
  unfold isFreeL
  rw [List.all_eq_true]
  intro i hi
  have := h i (List.mem_range.1 hi)
  simpa using this
/-- two moves commute at a flag, and differ there -/
def commAt (zss : List (List Int)) (i k f : Nat) : Prop := bTo zss (bTo zss f i) k = bTo zss (bTo zss f k) i ∧ bTo zss f i ≠ bTo zss f k
structure Man (zss : List (List Int)) : Prop where
  n1 : 1 ≤ zss.length
  n5 : zss.length ≤ 5
  f2 : 2 ≤ (lget zss 0).length
  f4 : (lget zss 0).length ≤ 400
  len : ∀ i, i < zss.length → (lget zss i).length = (lget zss 0).length
  perm : ∀ i, i < zss.length → isPerm (lget zss i) = true
  free : ∀ i, i < zss.length → isFreeL (lget zss i) = true
  comm : ∀ i k, i + 2 ≤ k → k < zss.length → ∀ f, f < (lget zss 0).length → commAt zss i k f
  conn : (orb zss (lget zss 0).length 0).2.length = (lget zss 0).length
noncomputable def manB (zss : List (List Int)) : Bool := @decide (Man zss) (Classical.propDecidable _)
theorem manB_yes {zss : List (List Int)} (h : Man zss) : manB zss = true := by unfold manB; exact @decide_eq_true _ (Classical.propDecidable _) h
theorem manB_no {zss : List (List Int)} (h : ¬ Man zss) : manB zss = false := by unfold manB; exact @decide_eq_false _ (Classical.propDecidable _) h
theorem manB_iff {zss : List (List Int)} : manB zss = true ↔ Man zss := by unfold manB; exact @decide_eq_true_iff _ (Classical.propDecidable _)
/-- rows that are permutations of n points -/
def Rows (zss : List (List Int)) (n m : Nat) : Prop := ∀ i, i < m → (lget zss i).length = n ∧ isPerm (lget zss i) = true ∧ isFreeL (lget zss i) = true
theorem rows_leads {zss : List (List Int)} {n : Nat} (h : Rows zss n zss.length) : Leads zss n :=
  ⟨fun k hk => (h k hk).1, fun k hk x hx => by
    have h1 := isPerm_within (h k hk).2.1 (k := x) (by rw [(h k hk).1]; exact hx)
    rw [(h k hk).1] at h1; exact h1⟩
theorem rows_back {zss : List (List Int)} {n : Nat} (h : Rows zss n zss.length) : Back2 zss n := fun g hg c hc => by
  have h1 := (isFreeL_at (h g hg).2.2 (i := c) (by rw [(h g hg).1]; exact hc)).2
  unfold bTo
  rw [h1, Int.toNat_natCast]
theorem Man.rows {zss : List (List Int)} (h : Man zss) : Rows zss (lget zss 0).length zss.length := fun i hi => ⟨h.len i hi, h.perm i hi, h.free i hi⟩
end Go.Proofs.Ytpognnifgcacnaa

/- Rows that are permutations and free involutions: l01Perm, l01Free, isFreeInvolution. guards: -/
namespace Go.Proofs.Ytpognnifgcacnaa
open Go.RowKit

theorem one_of1 {us : List Value} {u0 : Value} (hl : us.length = 1) (g0 : us[0]? = some u0) : us = [u0] := by
  match us, hl with
  | [p], _ => simp at g0; rw [g0]
theorem permS_fc (zss : List (List Int)) (i : Nat) (hi : i < zss.length) (hn : (lget zss i).length ≤ 1048576) :
    FC Try.prog 175 [(1003, rowsRo zss)] [o1 (.esl 1003 i 0 (lget zss i).length)] [] (vv (.bool (isPerm (lget zss i)))) [] :=
  fc_of_calls fun w η ω us hm ⟨hl, ha⟩ => by
    obtain ⟨u0, g0, d0⟩ := ha 0 _ rfl
    obtain ⟨ao, c, rfl, hI⟩ := rdRow (x := 1003) hm rfl hi d0 (by omega)
    rw [one_of1 hl g0]
    exact specPerm_any ao _ c _ w hI
theorem permI_fc (zss : List (List Int)) (i : Nat) (hi : i < zss.length) (hn : (lget zss i).length ≤ 1048576) :
    FC Try.prog 200 [(1003, rowsRo zss)] [o1 (.esl 1003 i 0 (lget zss i).length)] [] (vv (.bool (isPerm (lget zss i)))) [] :=
  fc_of_calls fun w η ω us hm ⟨hl, ha⟩ => by
    obtain ⟨u0, g0, d0⟩ := ha 0 _ rfl
    obtain ⟨ao, c, rfl, hI⟩ := rdRow (x := 1003) hm rfl hi d0 (by omega)
    rw [one_of1 hl g0]
    exact implPerm_any ao _ c _ w hI

theorem iget_nat {zs : List Int} {k : Nat} (h : 0 ≤ iget zs k) : iget zs k = (((iget zs k).toNat : Nat) : Int) := (Int.toNat_of_nonneg h).symm
set_option maxRecDepth 100000 in
set_option maxHeartbeats 1000000 in
theorem freeS_fc (zss : List (List Int)) (i : Nat) (hi : i < zss.length) (hn : (lget zss i).length ≤ 1048576) (hp : isPerm (lget zss i) = true) :
    FC Try.prog 176 [(1003, rowsRo zss)] [o1 (.esl 1003 i 0 (lget zss i).length)] [] (vv (.bool (isFreeL (lget zss i)))) [] := by
  have hrow : (irows zss)[i]? = some (ivals (lget zss i)) := irows_get hi
  have hW := fun k hk => isPerm_within hp (k := k) hk
  refine fc_enter (nt := 27) Try.func176 rfl rfl (by simp) fun w0 ω0 => ?_
  generalize lget zss i = zs at *
  (refine goes_seq ?_; refine goes_region ?_; apply run_step rfl; (exact stp_assign rfl rfl); refine run_nil ?_; refine fin_seq ?_; refine goes_seq ?_; refine goes_seq ?_; refine goes_region ?_; apply run_step rfl; (exact stp_assign rfl rfl); refine run_nil ?_; refine fin_seq ?_; refine goes_block ?_)
  refine goes_loop (fun k : Nat => St.of [(0, o1 (.esl 1003 i 0 zs.length)), (3, vv (I6 k))] [(1003, rowsRo zss)]) (fun k => k ≤ zs.length ∧ ∀ j, j < k → iget zs j ≠ j ∧ iget zs (iget zs j).toNat = j) (fun k => zs.length - k) 0 ⟨Nat.zero_le _, fun j h => absurd h (by omega)⟩ (Wk.of ⟨rfl, rfl, trivial⟩ ⟨rfl, trivial⟩ trivial) ?_
  rintro k ⟨hk, hok⟩
  (refine goes_seq ?_; refine goes_seq ?_; refine goes_region ?_; apply run_step rfl; (exact stp_move rfl rfl); apply run_step rfl; (exact stp_move rfl rfl); apply run_step rfl; (exact stp_len rfl rfl rfl (by as_aux_lemma => kernel_rfl)); apply run_step rfl; (exact stp_bin rfl rfl rfl rfl); refine run_nil ?_; refine fin_seq ?_)
  refine goes_if rfl (fun hlt => ?_) (fun hlt => ?_)
  · have hlt' : k < zs.length := by omega
    obtain ⟨d, hd⟩ : ∃ d : Nat, iget zs k = (d : Int) := ⟨_, iget_nat (hW k hlt').1⟩
    have hdl : d < zs.length := by have := (hW k hlt').2; rw [hd] at this; omega
    have gk : (ivals zs)[k]? = some (I6 (d : Int)) := by rw [ivals_get hlt', hd]
    (refine goes_skip ?_; refine fin_seq ?_; refine goes_seq ?_; refine goes_block ?_; refine goes_seq ?_; refine goes_region ?_; apply run_step rfl; (exact stp_move rfl rfl); apply run_step rfl; (exact stp_move rfl rfl); apply run_step rfl; (exact stp_ixE rfl rfl rfl rfl rfl (by as_aux_lemma => kernel_rfl) (by first | assumption | exact ivals_get (by assumption) | exact irows_get (by assumption) | exact ivals_get (by omega) | exact irows_get (by omega) | rfl) (by first | rfl | exact (Int.toNat_of_nonneg (by omega)).symm) (by first | assumption | omega | (simp; omega)) (by first | exact Nat.le_refl _ | exact Nat.le_of_eq (ivals_len _).symm | exact Nat.le_of_eq (irows_len _).symm | (refine Nat.le_trans ?_ (Nat.le_of_eq (ivals_len _).symm); (first | omega | (simp; done) | (simp; omega))) | (refine Nat.le_trans ?_ (Nat.le_of_eq (irows_len _).symm); (first | omega | (simp; done) | (simp; omega))))); apply run_step rfl; (exact stp_loadE' rfl (by as_aux_lemma => kernel_rfl) rfl rfl rfl (by first | assumption | exact ivals_get (by assumption) | exact irows_get (by assumption) | exact ivals_get (by omega) | exact irows_get (by omega) | rfl) (by first | assumption | exact ivals_get (by assumption) | exact irows_get (by assumption) | exact ivals_get (by omega) | exact irows_get (by omega) | rfl)); apply run_step rfl; (exact stp_move rfl rfl); apply run_step rfl; (exact stp_bin rfl rfl rfl rfl); apply run_step rfl; (exact stp_move rfl rfl))
    refine run_bool 16 rfl (fun h1 => ?_) (fun h1 => ?_)
    · have e1 : (d : Int) = k := of_decide_eq_true h1
      rw [isFreeL_no hlt' (.inl (hd.trans e1))]
      (apply run_gNo rfl rfl rfl rfl rfl; apply run_gNo rfl rfl rfl rfl rfl; apply run_gNo rfl rfl rfl rfl rfl; apply run_gNo rfl rfl rfl rfl rfl; apply run_gNo rfl rfl rfl rfl rfl; apply run_gNo rfl rfl rfl rfl rfl; apply run_gNo rfl rfl rfl rfl rfl; apply run_gNo rfl rfl rfl rfl rfl; apply run_gNo rfl rfl rfl rfl rfl; apply run_step rfl; (exact stp_pickT rfl rfl rfl); refine run_nil ?_; refine fin_seq ?_)
      refine goes_cond rfl (fun _ => ?_) (fun e => by cases e)
      (refine goes_seq ?_; refine goes_region ?_; apply run_step rfl; (exact stp_assign rfl rfl); refine run_nil ?_; refine fin_seq ?_; refine goes_ret ?_; refine fin_ret_block ?_; refine fin_ret_then ?_; refine fin_ret_then ?_; refine fin_ret_block ?_; refine fin_ret_then ?_)
      exact fin_ret1 (.inl rfl) rfl (.tmp rfl) trivial trivial
    · have e1 : (d : Int) ≠ k := of_decide_eq_false h1
      (apply run_gYes rfl rfl rfl; (exact stp_move rfl rfl); apply run_gYes rfl rfl rfl; (exact stp_move rfl rfl); apply run_gYes rfl rfl rfl; (exact stp_move rfl rfl); apply run_gYes rfl rfl rfl; (exact stp_ixE rfl rfl rfl rfl rfl (by as_aux_lemma => kernel_rfl) (by first | assumption | exact ivals_get (by assumption) | exact irows_get (by assumption) | exact ivals_get (by omega) | exact irows_get (by omega) | rfl) (by first | rfl | exact (Int.toNat_of_nonneg (by omega)).symm) (by first | assumption | omega | (simp; omega)) (by first | exact Nat.le_refl _ | exact Nat.le_of_eq (ivals_len _).symm | exact Nat.le_of_eq (irows_len _).symm | (refine Nat.le_trans ?_ (Nat.le_of_eq (ivals_len _).symm); (first | omega | (simp; done) | (simp; omega))) | (refine Nat.le_trans ?_ (Nat.le_of_eq (irows_len _).symm); (first | omega | (simp; done) | (simp; omega))))); apply run_gYes rfl rfl rfl; (exact stp_loadE' rfl (by as_aux_lemma => kernel_rfl) rfl rfl rfl (by first | assumption | exact ivals_get (by assumption) | exact irows_get (by assumption) | exact ivals_get (by omega) | exact irows_get (by omega) | rfl) (by first | assumption | exact ivals_get (by assumption) | exact irows_get (by assumption) | exact ivals_get (by omega) | exact irows_get (by omega) | rfl)); apply run_gYes rfl rfl rfl; (exact stp_ixE rfl rfl rfl rfl rfl (by as_aux_lemma => kernel_rfl) (by first | assumption | exact ivals_get (by assumption) | exact irows_get (by assumption) | exact ivals_get (by omega) | exact irows_get (by omega) | rfl) (by first | rfl | exact (Int.toNat_of_nonneg (by omega)).symm) (by first | assumption | omega | (simp; omega)) (by first | exact Nat.le_refl _ | exact Nat.le_of_eq (ivals_len _).symm | exact Nat.le_of_eq (irows_len _).symm | (refine Nat.le_trans ?_ (Nat.le_of_eq (ivals_len _).symm); (first | omega | (simp; done) | (simp; omega))) | (refine Nat.le_trans ?_ (Nat.le_of_eq (irows_len _).symm); (first | omega | (simp; done) | (simp; omega))))); apply run_gYes rfl rfl rfl; (exact stp_loadE' rfl (by as_aux_lemma => kernel_rfl) rfl rfl rfl (by first | assumption | exact ivals_get (by assumption) | exact irows_get (by assumption) | exact ivals_get (by omega) | exact irows_get (by omega) | rfl) (by first | assumption | exact ivals_get (by assumption) | exact irows_get (by assumption) | exact ivals_get (by omega) | exact irows_get (by omega) | rfl)); apply run_gYes rfl rfl rfl; (exact stp_move rfl rfl); apply run_gYes rfl rfl rfl; (exact stp_bin rfl rfl rfl rfl); apply run_step rfl; (exact stp_pickF rfl rfl rfl); refine run_nil ?_; refine fin_seq ?_)
      refine goes_cond rfl (fun h2 => ?_) (fun h2 => ?_)
      · have e2 : iget zs d ≠ k := by simpa using h2
        rw [isFreeL_no hlt' (.inr (by rw [hd, Int.toNat_natCast]; exact e2))]
        (refine goes_seq ?_; refine goes_region ?_; apply run_step rfl; (exact stp_assign rfl rfl); refine run_nil ?_; refine fin_seq ?_; refine goes_ret ?_; refine fin_ret_block ?_; refine fin_ret_then ?_; refine fin_ret_then ?_; refine fin_ret_block ?_; refine fin_ret_then ?_)
        exact fin_ret1 (.inl rfl) rfl (.tmp rfl) trivial trivial
      · have e2 : iget zs d = k := by simpa using h2
        (refine goes_skip ?_; refine fin_block ?_; refine fin_seq ?_; refine goes_region ?_; apply run_step rfl; (exact stp_move rfl rfl); apply run_step rfl; (exact stp_add rfl rfl rfl (by first | exact IntWalk.i64_in _ (by omega) | rfl)); apply run_step rfl; (exact stp_assign rfl rfl); refine run_nil ?_)
        exact fin_round (k + 1) ⟨by omega, fun j hj => by
          by_cases e : j = k
          · subst e; rw [hd, Int.toNat_natCast]; exact ⟨e1, e2⟩
          · exact hok j (by omega)⟩ (by omega) (Wk.of ⟨rfl, rfl, trivial⟩ ⟨rfl, trivial⟩ trivial)
  · obtain rfl : k = zs.length := by omega
    rw [isFreeL_yes hok]
    (refine goes_exit ?_; refine fin_exit_then ?_; refine fin_exit_then ?_; refine fin_exit_eq ?_; refine fin_seq ?_; refine goes_seq ?_; refine goes_region ?_; apply run_step rfl; (exact stp_assign rfl rfl); refine run_nil ?_; refine fin_seq ?_; refine goes_ret ?_)
    exact fin_ret1 (.inl rfl) rfl (.tmp rfl) trivial trivial
/-- a permutation that is a free involution -/
def freeInv (zs : List Int) : Bool := isPerm zs && isFreeL zs
set_option maxRecDepth 100000 in
set_option maxHeartbeats 1000000 in
theorem freeI_fc (zss : List (List Int)) (i : Nat) (hi : i < zss.length) (hn : (lget zss i).length ≤ 1048576) :
    FC Try.prog 186 [(1003, rowsRo zss)] [o1 (.esl 1003 i 0 (lget zss i).length)] [] (vv (.bool (freeInv (lget zss i)))) [] := by
  have hrow : (irows zss)[i]? = some (ivals (lget zss i)) := irows_get hi
  have hP := permI_fc zss i hi hn
  refine fc_enter (nt := 27) Try.func186 rfl rfl (by simp) fun w0 ω0 => ?_
  unfold freeInv
  cases hp : isPerm (lget zss i) with
  | false =>
    rw [hp] at hP
    rw [Bool.false_and]
    (refine goes_seq ?_; refine goes_region ?_; apply run_step rfl; (exact stp_assign rfl rfl); refine run_nil ?_; refine fin_seq ?_; refine goes_seq ?_; refine goes_seq ?_; refine goes_region ?_; apply run_step rfl; (exact stp_move rfl rfl); apply run_step rfl; (apply call_gate 200; exact stp_callR hP (by as_aux_lemma => kernel_rfl) rfl rfl ⟨rfl, trivial⟩ ⟨⟨_, rfl, .inl rfl⟩, trivial⟩ rfl rfl); apply run_step rfl; (exact stp_not rfl rfl); refine run_nil ?_; refine fin_seq ?_)
    refine goes_cond rfl (fun _ => ?_) (fun e => by cases e)
    (refine goes_seq ?_; refine goes_region ?_; apply run_step rfl; (exact stp_assign rfl rfl); refine run_nil ?_; refine fin_seq ?_; refine goes_ret ?_; refine fin_ret_then ?_)
    exact fin_ret1 (.inl rfl) rfl (.tmp rfl) trivial trivial
  | true =>
    rw [hp] at hP
    rw [Bool.true_and]
    have hW := fun k hk => isPerm_within hp (k := k) hk
    generalize lget zss i = zs at *
    (refine goes_seq ?_; refine goes_region ?_; apply run_step rfl; (exact stp_assign rfl rfl); refine run_nil ?_; refine fin_seq ?_; refine goes_seq ?_; refine goes_seq ?_; refine goes_region ?_; apply run_step rfl; (exact stp_move rfl rfl); apply run_step rfl; (apply call_gate 200; exact stp_callR hP (by as_aux_lemma => kernel_rfl) rfl rfl ⟨rfl, trivial⟩ ⟨⟨_, rfl, .inl rfl⟩, trivial⟩ rfl rfl); apply run_step rfl; (exact stp_not rfl rfl); refine run_nil ?_; refine fin_seq ?_)
    refine goes_cond rfl (fun e => by cases e) (fun _ => ?_)
    (refine goes_skip ?_; refine fin_seq ?_; refine goes_seq ?_; refine goes_seq ?_; refine goes_region ?_; apply run_step rfl; (exact stp_move rfl rfl); apply run_step rfl; (exact stp_len rfl rfl rfl (by as_aux_lemma => kernel_rfl)); apply run_step rfl; (exact stp_move rfl rfl); refine run_nil ?_; refine fin_seq ?_; refine goes_block ?_)
    refine goes_loop (fun k : Nat => St.of [(0, o1 (.esl 1003 i 0 zs.length)), (8, o1 (.esl 1003 i 0 zs.length)), (9, vv (I6 zs.length)), (10, vv (I6 k))] [(1003, rowsRo zss)]) (fun k => k ≤ zs.length ∧ ∀ j, j < k → iget zs j ≠ j ∧ iget zs (iget zs j).toNat = j) (fun k => zs.length - k) 0 ⟨Nat.zero_le _, fun j h => absurd h (by omega)⟩ (Wk.of ⟨rfl, rfl, rfl, rfl, trivial⟩ ⟨rfl, trivial⟩ trivial) ?_
    rintro k ⟨hk, hok⟩
    (refine goes_seq ?_; refine goes_region ?_; apply run_step rfl; (exact stp_bin rfl rfl rfl rfl); refine run_nil ?_; refine fin_seq ?_; refine goes_seq ?_)
    refine goes_if rfl (fun hlt => ?_) (fun hlt => ?_)
    · have hlt' : k < zs.length := by omega
      obtain ⟨d, hd⟩ : ∃ d : Nat, iget zs k = (d : Int) := ⟨_, iget_nat (hW k hlt').1⟩
      have hdl : d < zs.length := by have := (hW k hlt').2; rw [hd] at this; omega
      have gk : (ivals zs)[k]? = some (I6 (d : Int)) := by rw [ivals_get hlt', hd]
      (refine goes_skip ?_; refine fin_seq ?_; refine goes_seq ?_; refine goes_block ?_; refine goes_seq ?_; refine goes_region ?_; apply run_step rfl; (exact stp_move rfl rfl); apply run_step rfl; (exact stp_ixE rfl rfl rfl rfl rfl (by as_aux_lemma => kernel_rfl) (by first | assumption | exact ivals_get (by assumption) | exact irows_get (by assumption) | exact ivals_get (by omega) | exact irows_get (by omega) | rfl) (by first | rfl | exact (Int.toNat_of_nonneg (by omega)).symm) (by first | assumption | omega | (simp; omega)) (by first | exact Nat.le_refl _ | exact Nat.le_of_eq (ivals_len _).symm | exact Nat.le_of_eq (irows_len _).symm | (refine Nat.le_trans ?_ (Nat.le_of_eq (ivals_len _).symm); (first | omega | (simp; done) | (simp; omega))) | (refine Nat.le_trans ?_ (Nat.le_of_eq (irows_len _).symm); (first | omega | (simp; done) | (simp; omega))))); apply run_step rfl; (exact stp_loadE' rfl (by as_aux_lemma => kernel_rfl) rfl rfl rfl (by first | assumption | exact ivals_get (by assumption) | exact irows_get (by assumption) | exact ivals_get (by omega) | exact irows_get (by omega) | rfl) (by first | assumption | exact ivals_get (by assumption) | exact irows_get (by assumption) | exact ivals_get (by omega) | exact irows_get (by omega) | rfl)); apply run_step rfl; (exact stp_assign rfl rfl); apply run_step rfl; (exact stp_assign rfl rfl); refine run_nil ?_; refine fin_seq ?_; refine goes_seq ?_; refine goes_region ?_; apply run_step rfl; (exact stp_move rfl rfl); apply run_step rfl; (exact stp_move rfl rfl); apply run_step rfl; (exact stp_bin rfl rfl rfl rfl); apply run_step rfl; (exact stp_move rfl rfl))
      refine run_bool 18 rfl (fun h1 => ?_) (fun h1 => ?_)
      · have e1 : (d : Int) = k := of_decide_eq_true h1
        rw [isFreeL_no hlt' (.inl (hd.trans e1))]
        (apply run_gNo rfl rfl rfl rfl rfl; apply run_gNo rfl rfl rfl rfl rfl; apply run_gNo rfl rfl rfl rfl rfl; apply run_gNo rfl rfl rfl rfl rfl; apply run_gNo rfl rfl rfl rfl rfl; apply run_gNo rfl rfl rfl rfl rfl; apply run_step rfl; (exact stp_pickT rfl rfl rfl); refine run_nil ?_; refine fin_seq ?_)
        refine goes_cond rfl (fun _ => ?_) (fun e => by cases e)
        (refine goes_seq ?_; refine goes_region ?_; apply run_step rfl; (exact stp_assign rfl rfl); refine run_nil ?_; refine fin_seq ?_; refine goes_ret ?_; refine fin_ret_block ?_; refine fin_ret_then ?_; refine fin_ret_then ?_; refine fin_ret_block ?_; refine fin_ret_then ?_)
        exact fin_ret1 (.inl rfl) rfl (.tmp rfl) trivial trivial
      · have e1 : (d : Int) ≠ k := of_decide_eq_false h1
        (apply run_gYes rfl rfl rfl; (exact stp_move rfl rfl); apply run_gYes rfl rfl rfl; (exact stp_move rfl rfl); apply run_gYes rfl rfl rfl; (exact stp_ixE rfl rfl rfl rfl rfl (by as_aux_lemma => kernel_rfl) (by first | assumption | exact ivals_get (by assumption) | exact irows_get (by assumption) | exact ivals_get (by omega) | exact irows_get (by omega) | rfl) (by first | rfl | exact (Int.toNat_of_nonneg (by omega)).symm) (by first | assumption | omega | (simp; omega)) (by first | exact Nat.le_refl _ | exact Nat.le_of_eq (ivals_len _).symm | exact Nat.le_of_eq (irows_len _).symm | (refine Nat.le_trans ?_ (Nat.le_of_eq (ivals_len _).symm); (first | omega | (simp; done) | (simp; omega))) | (refine Nat.le_trans ?_ (Nat.le_of_eq (irows_len _).symm); (first | omega | (simp; done) | (simp; omega))))); apply run_gYes rfl rfl rfl; (exact stp_loadE' rfl (by as_aux_lemma => kernel_rfl) rfl rfl rfl (by first | assumption | exact ivals_get (by assumption) | exact irows_get (by assumption) | exact ivals_get (by omega) | exact irows_get (by omega) | rfl) (by first | assumption | exact ivals_get (by assumption) | exact irows_get (by assumption) | exact ivals_get (by omega) | exact irows_get (by omega) | rfl)); apply run_gYes rfl rfl rfl; (exact stp_move rfl rfl); apply run_gYes rfl rfl rfl; (exact stp_bin rfl rfl rfl rfl); apply run_step rfl; (exact stp_pickF rfl rfl rfl); refine run_nil ?_; refine fin_seq ?_)
        refine goes_cond rfl (fun h2 => ?_) (fun h2 => ?_)
        · have e2 : iget zs d ≠ k := by simpa using h2
          rw [isFreeL_no hlt' (.inr (by rw [hd, Int.toNat_natCast]; exact e2))]
          (refine goes_seq ?_; refine goes_region ?_; apply run_step rfl; (exact stp_assign rfl rfl); refine run_nil ?_; refine fin_seq ?_; refine goes_ret ?_; refine fin_ret_block ?_; refine fin_ret_then ?_; refine fin_ret_then ?_; refine fin_ret_block ?_; refine fin_ret_then ?_)
          exact fin_ret1 (.inl rfl) rfl (.tmp rfl) trivial trivial
        · have e2 : iget zs d = k := by simpa using h2
          (refine goes_skip ?_; refine fin_block ?_; refine fin_seq ?_; refine goes_region ?_; apply run_step rfl; (exact stp_add rfl rfl rfl (by first | exact IntWalk.i64_in _ (by omega) | rfl)); apply run_step rfl; (exact stp_move rfl rfl); refine run_nil ?_)
          exact fin_round (k + 1) ⟨by omega, fun j hj => by
            by_cases e : j = k
            · subst e; rw [hd, Int.toNat_natCast]; exact ⟨e1, e2⟩
            · exact hok j (by omega)⟩ (by omega) (Wk.of ⟨rfl, rfl, rfl, rfl, trivial⟩ ⟨rfl, trivial⟩ trivial)
    · obtain rfl : k = zs.length := by omega
      rw [isFreeL_yes hok]
      (refine goes_exit ?_; refine fin_exit_then ?_; refine fin_exit_then ?_; refine fin_exit_eq ?_; refine fin_seq ?_; refine goes_seq ?_; refine goes_region ?_; apply run_step rfl; (exact stp_assign rfl rfl); refine run_nil ?_; refine fin_seq ?_; refine goes_ret ?_)
      exact fin_ret1 (.inl rfl) rfl (.tmp rfl) trivial trivial
end Go.Proofs.Ytpognnifgcacnaa

/- The orbit of a point, the reference's: l01Orbit. -/
namespace Go.Proofs.Ytpognnifgcacnaa
open Go.RowKit

theorem bat_pad {a p : List Bool} {d : Nat} (h : d < a.length) : bat (a ++ p) d = bat a d := by simp [bat, List.getElem?_append_left h]
theorem set_padB {a p : List Bool} {d : Nat} (h : d < a.length) (b : Bool) : (a ++ p).set d b = a.set d b ++ p := List.set_append_left _ _ h
set_option maxRecDepth 100000 in
set_option maxHeartbeats 2000000 in
theorem orbS_fc (zss : List (List Int)) (n c : Nat) (hT : Leads zss n) (hpos : 0 < zss.length) (hn : n ≤ 1000000) (hg : zss.length ≤ 1000000) (hc : c < n) :
    FC Try.prog 177 [(1003, rowsRo zss)] [o1 (.sl 1003 0 zss.length), vv (I6 c)] [(12, leOw (orb zss n c).2)] (o1 (.sl 12 0 (orb zss n c).2.length)) [] := by
  have hlen : (irows zss).length = zss.length := irows_len _
  have hr0 : (lget zss 0).length = n := hT.len 0 hpos
  have hrow0 : (irows zss)[0]? = some (ivals (lget zss 0)) := irows_get hpos
  have hil : (ivals (lget zss 0)).length = n := by rw [ivals_len]; exact hr0
  refine fc_enter (nt := 63) Try.func177 rfl rfl (by simp) fun w0 ω0 => ?_
  (refine goes_seq ?_; refine goes_region ?_; apply run_step rfl; (exact stp_assign rfl rfl); refine run_nil ?_; refine fin_seq ?_; refine goes_seq ?_; refine goes_region ?_; apply run_step rfl; (exact stp_move rfl rfl); apply run_step rfl; (exact stp_lit1I (E := 2) rfl (by as_aux_lemma => kernel_rfl) rfl); apply run_step rfl; (exact stp_assign rfl rfl); refine run_nil ?_; refine fin_seq ?_; refine goes_seq ?_; refine goes_region ?_; apply run_step rfl; (exact stp_assign rfl rfl); refine run_nil ?_; refine fin_seq ?_; refine goes_seq ?_; refine goes_seq ?_; refine goes_region ?_; apply run_step rfl; (exact stp_move rfl rfl); apply run_step rfl; (exact stp_len rfl rfl rfl (by as_aux_lemma => kernel_rfl)); apply run_step rfl; (exact stp_bin rfl rfl rfl rfl); refine run_nil ?_; refine fin_seq ?_)
  refine goes_if rfl (fun _ => ?_) (fun h => absurd hpos (by omega))
  have hm0 : ((n : Int) + (c : Int) + 1) = ((n + c + 1 : Nat) : Int) := by omega
  have hrp : (List.replicate (n + c + 1) false).length = n + c + 1 := by simp
  have hst : (List.replicate (n + c + 1) false).set c true = (oStart n c).1 ++ List.replicate (c + 1) false := by
    rw [show n + c + 1 = n + (c + 1) by omega, ← List.replicate_append_replicate, set_padB (by simpa using hc)]; rfl
  have hbl : n + c + 1 ≤ (bvals (List.replicate (n + c + 1) false)).length := by rw [bvals_len]; simp
  (refine goes_region ?_; apply run_step rfl; (exact stp_move rfl rfl); apply run_step rfl; (first | exact stp_ix (j := 0) rfl rfl rfl rfl rfl (by as_aux_lemma => kernel_rfl) rfl hpos (Nat.le_of_eq hlen.symm) | exact stp_loadR rfl (by as_aux_lemma => kernel_rfl) rfl rfl rfl hrow0 hil | exact stp_makeB (n := n + c + 1) (E := 4) rfl (by as_aux_lemma => kernel_rfl) (by as_aux_lemma => kernel_rfl) rfl rfl hm0 hm0 (by omega) | exact stp_ix (j := c) rfl rfl rfl rfl rfl (by as_aux_lemma => kernel_rfl) rfl (by omega) hbl | exact stp_stB (bs := List.replicate (n + c + 1) false) rfl rfl rfl rfl rfl (by rw [hrp]; omega) (by as_aux_lemma => kernel_rfl)); apply run_step rfl; (first | exact stp_ix (j := 0) rfl rfl rfl rfl rfl (by as_aux_lemma => kernel_rfl) rfl hpos (Nat.le_of_eq hlen.symm) | exact stp_loadR rfl (by as_aux_lemma => kernel_rfl) rfl rfl rfl hrow0 hil | exact stp_makeB (n := n + c + 1) (E := 4) rfl (by as_aux_lemma => kernel_rfl) (by as_aux_lemma => kernel_rfl) rfl rfl hm0 hm0 (by omega) | exact stp_ix (j := c) rfl rfl rfl rfl rfl (by as_aux_lemma => kernel_rfl) rfl (by omega) hbl | exact stp_stB (bs := List.replicate (n + c + 1) false) rfl rfl rfl rfl rfl (by rw [hrp]; omega) (by as_aux_lemma => kernel_rfl)); apply run_step rfl; (exact stp_len rfl rfl rfl (by as_aux_lemma => kernel_rfl)); apply run_step rfl; (exact stp_assign rfl rfl); refine run_nil ?_; refine fin_seq ?_; refine goes_seq ?_; refine goes_region ?_; apply run_step rfl; (exact stp_move rfl rfl); apply run_step rfl; (exact stp_move rfl rfl); apply run_step rfl; (exact stp_add rfl rfl rfl (by first | exact IntWalk.i64_in _ (by omega) | rfl)); apply run_step rfl; (exact stp_add rfl rfl rfl (by first | exact IntWalk.i64_in _ (by omega) | rfl)); apply run_step rfl; (first | exact stp_ix (j := 0) rfl rfl rfl rfl rfl (by as_aux_lemma => kernel_rfl) rfl hpos (Nat.le_of_eq hlen.symm) | exact stp_loadR rfl (by as_aux_lemma => kernel_rfl) rfl rfl rfl hrow0 hil | exact stp_makeB (n := n + c + 1) (E := 4) rfl (by as_aux_lemma => kernel_rfl) (by as_aux_lemma => kernel_rfl) rfl rfl hm0 hm0 (by omega) | exact stp_ix (j := c) rfl rfl rfl rfl rfl (by as_aux_lemma => kernel_rfl) rfl (by omega) hbl | exact stp_stB (bs := List.replicate (n + c + 1) false) rfl rfl rfl rfl rfl (by rw [hrp]; omega) (by as_aux_lemma => kernel_rfl)); apply run_step rfl; (exact stp_assign rfl rfl); refine run_nil ?_; refine fin_seq ?_; refine goes_seq ?_; refine goes_region ?_; apply run_step rfl; (exact stp_move rfl rfl); apply run_step rfl; (exact stp_move rfl rfl); apply run_step rfl; (first | exact stp_ix (j := 0) rfl rfl rfl rfl rfl (by as_aux_lemma => kernel_rfl) rfl hpos (Nat.le_of_eq hlen.symm) | exact stp_loadR rfl (by as_aux_lemma => kernel_rfl) rfl rfl rfl hrow0 hil | exact stp_makeB (n := n + c + 1) (E := 4) rfl (by as_aux_lemma => kernel_rfl) (by as_aux_lemma => kernel_rfl) rfl rfl hm0 hm0 (by omega) | exact stp_ix (j := c) rfl rfl rfl rfl rfl (by as_aux_lemma => kernel_rfl) rfl (by omega) hbl | exact stp_stB (bs := List.replicate (n + c + 1) false) rfl rfl rfl rfl rfl (by rw [hrp]; omega) (by as_aux_lemma => kernel_rfl)); apply run_step rfl; (first | exact stp_ix (j := 0) rfl rfl rfl rfl rfl (by as_aux_lemma => kernel_rfl) rfl hpos (Nat.le_of_eq hlen.symm) | exact stp_loadR rfl (by as_aux_lemma => kernel_rfl) rfl rfl rfl hrow0 hil | exact stp_makeB (n := n + c + 1) (E := 4) rfl (by as_aux_lemma => kernel_rfl) (by as_aux_lemma => kernel_rfl) rfl rfl hm0 hm0 (by omega) | exact stp_ix (j := c) rfl rfl rfl rfl rfl (by as_aux_lemma => kernel_rfl) rfl (by omega) hbl | exact stp_stB (bs := List.replicate (n + c + 1) false) rfl rfl rfl rfl rfl (by rw [hrp]; omega) (by as_aux_lemma => kernel_rfl)); refine run_nil ?_; refine fin_seq ?_; refine goes_seq ?_; refine goes_seq ?_; refine goes_region ?_; apply run_step rfl; (exact stp_assign rfl rfl); refine run_nil ?_; refine fin_seq ?_; refine goes_block ?_)
  rw [hst]
  generalize hm : 2 ^ zss.length - 1 = mask
  have hstep : ∀ k, k < zss.length → ∀ c s, mStep zss mask c s k = oStep zss c s k := fun k hk c s => by rw [← hm]; exact oStep_eq hk c s
  have hout : orb zss n c = mLoop zss mask zss.length (n + 1) 0 (oStart n c) := by rw [← hm]; rfl
  rw [hout]
  refine goes_loop (fun q : Nat × MSt => St.of [(0, o1 (.sl 1003 0 zss.length)), (5, o1 (.sl 12 0 q.2.2.length)), (7, o1 (.sl 24 0 (n + c + 1))), (8, vv (I6 q.1))] [(1003, rowsRo zss), (12, leOw q.2.2), (24, boOw (q.2.1 ++ List.replicate (c + 1) false))])
    (fun q => q.1 ≤ q.2.2.length ∧ MOK n q.2 ∧ mLoop zss mask zss.length (n + 1 - q.1) q.1 q.2 = mLoop zss mask zss.length (n + 1) 0 (oStart n c)) (fun q => n + 1 - q.1) (0, oStart n c) ⟨Nat.zero_le _, oStart_ok hc, rfl⟩ (Wk.of ⟨rfl, rfl, rfl, rfl, trivial⟩ ⟨rfl, rfl, rfl, trivial⟩ trivial) ?_
  rintro ⟨i, s⟩ ⟨hi, hok, hl⟩
  dsimp only at hi hl ⊢
  have hOn : s.2.length ≤ n := hok.le
  (refine goes_seq ?_; refine goes_seq ?_; refine goes_region ?_; apply run_step rfl; (exact stp_move rfl rfl); apply run_step rfl; (exact stp_move rfl rfl); apply run_step rfl; (exact stp_len rfl rfl rfl (by as_aux_lemma => kernel_rfl)); apply run_step rfl; (exact stp_bin rfl rfl rfl rfl); refine run_nil ?_; refine fin_seq ?_)
  refine goes_if rfl (fun h => ?_) (fun h => ?_)
  · have hlt : i < s.2.length := by omega
    have hl' : mLoop zss mask zss.length (n - i) (i + 1) (mRow zss mask zss.length (iget s.2 i).toNat s) = mLoop zss mask zss.length (n + 1) 0 (oStart n c) := by
      rw [← hl, show n + 1 - i = (n - i) + 1 by omega]; exact (mLoop_step hlt).symm
    obtain ⟨e, he1, he2, -⟩ := hok.q i hlt
    rw [he1, Int.toNat_natCast] at hl'
    have hro := fun m hm => mRow_ok (mask := mask) hT rfl he2 hok m hm
    obtain ⟨s0, hs0⟩ : ∃ s0 : MSt, s0 = s := ⟨_, rfl⟩
    rw [← hs0] at hro hl'
    have hi0 : i < s0.2.length := by rw [hs0]; exact hlt
    have he0 : iget s0.2 i = (e : Int) := by rw [hs0]; exact he1
    (refine goes_skip ?_; refine fin_seq ?_; refine goes_seq ?_; refine goes_block ?_; refine goes_seq ?_; refine goes_region ?_; apply run_step rfl; (exact stp_assign rfl rfl); refine run_nil ?_; refine fin_seq ?_; refine goes_block ?_)
    refine goes_loop (fun q : Nat × MSt => St.of [(0, o1 (.sl 1003 0 zss.length)), (5, o1 (.sl 12 0 q.2.2.length)), (7, o1 (.sl 24 0 (n + c + 1))), (8, vv (I6 i)), (9, vv (I6 q.1))] [(1003, rowsRo zss), (12, leOw q.2.2), (24, boOw (q.2.1 ++ List.replicate (c + 1) false))])
      (fun q => q.1 ≤ zss.length ∧ (List.range q.1).foldl (mStep zss mask e) s0 = q.2) (fun q => zss.length - q.1) (0, s) ⟨Nat.zero_le _, hs0⟩ (Wk.of ⟨rfl, rfl, rfl, rfl, rfl, trivial⟩ ⟨rfl, rfl, rfl, trivial⟩ trivial) ?_
    clear hl hok hs0 he1 hlt h hi hOn
    rintro ⟨k, s⟩ ⟨hk, hfo⟩
    dsimp only at hk hfo ⊢
    obtain ⟨hok, grw, _⟩ := hro k hk
    rw [hfo] at hok grw
    have hOn : s.2.length ≤ n := hok.le
    have hlt : i < s.2.length := Nat.lt_of_lt_of_le hi0 grw.len
    have hei : iget s.2 i = (e : Int) := (grw.pre i hi0).trans he0
    have hbl : s.1.length = n := hok.l
    (refine goes_seq ?_; refine goes_seq ?_; refine goes_region ?_; apply run_step rfl; (exact stp_move rfl rfl); apply run_step rfl; (exact stp_move rfl rfl); apply run_step rfl; (exact stp_len rfl rfl rfl (by as_aux_lemma => kernel_rfl)); apply run_step rfl; (exact stp_bin rfl rfl rfl rfl); refine run_nil ?_; refine fin_seq ?_)
    refine goes_if rfl (fun h2 => ?_) (fun h2 => ?_)
    · have hkn : k < zss.length := by omega
      have hd := bTo_lt hT he2 (g := k) hkn
      have hrl : (lget zss k).length = n := hT.len k hkn
      have hrowk : (irows zss)[k]? = some (ivals (lget zss k)) := irows_get hkn
      have hilk : (ivals (lget zss k)).length = n := by rw [ivals_len]; exact hrl
      obtain ⟨d, hdd⟩ : ∃ d, bTo zss e k = d := ⟨_, rfl⟩
      have hst : (List.range (k + 1)).foldl (mStep zss mask e) s0 = oStep zss e s k := by
        rw [List.range_succ, List.foldl_append, hfo]; exact hstep k hkn e s
      unfold oStep at hst
      rw [hdd] at hd hst
      have hgetd : (ivals (lget zss k))[e]? = some (I6 (d : Int)) := by rw [ivals_get (by omega), hd.2]
      have hgq : (ivals s.2)[i]? = some (I6 (e : Int)) := by rw [ivals_get hlt, hei]
      have hgb : (bvals (s.1 ++ List.replicate (c + 1) false))[d]? = some (.bool (bat s.1 d)) := by rw [bvals_get (by rw [List.length_append]; omega), bat_pad (by omega)]
      have hel : e < (ivals (lget zss k)).length := by rw [hilk]; exact he2
      have hbb : n + c + 1 ≤ (bvals (s.1 ++ List.replicate (c + 1) false)).length := by rw [bvals_len, List.length_append, hbl, List.length_replicate]; omega
      have hq0 : s.2.length ≤ (ivals s.2).length := by rw [ivals_len]; exact Nat.le_refl _
      (refine goes_skip ?_; refine fin_seq ?_; refine goes_seq ?_; refine goes_block ?_; refine goes_seq ?_)
      apply goes_draw 11 [] [[], [], [0, 1], [0, 1, 2], [], [], [4, 5], [4, 5, 6], [0, 1, 2, 3, 4, 5, 6, 7], [0, 1, 2, 3, 4, 5, 6, 7, 8], [0, 1, 2, 3, 4, 5, 6, 7, 8, 9]] [40, 41, 42, 43, 44, 45, 46, 47, 48, 49, 10] [] (by kernel_rfl) (by kernel_rfl)
      · (apply draw_put rfl; (intro S1 hS; exact stp_move rfl (hS.op rfl)); apply draw_put rfl; (intro S1 hS; exact stp_move rfl (hS.op rfl)); (first | (apply draw_put rfl; (focus (intro S1 hS; exact stp_ix (j := k) rfl (hS.op rfl) (hS.op rfl) (hS.ch _ _ rfl) rfl (by as_aux_lemma => kernel_rfl) rfl hkn (Nat.le_of_eq hlen.symm)))) | (apply draw_put rfl; (focus (intro S1 hS; exact stp_loadR rfl (by as_aux_lemma => kernel_rfl) (hS.op rfl) (hS.ch _ _ rfl) rfl hrowk hilk))) | (apply draw_put rfl; (focus (intro S1 hS; exact stp_ix (j := i) rfl (hS.op rfl) (hS.op rfl) (hS.ch _ _ rfl) rfl (by as_aux_lemma => kernel_rfl) rfl hlt hq0))) | (apply draw_put rfl; (focus (intro S1 hS; exact stp_loadV rfl (by as_aux_lemma => kernel_rfl) (hS.op rfl) (hS.ch _ _ rfl) rfl hgq))) | (apply draw_put rfl; (focus (intro S1 hS; exact stp_ixE (j := e) rfl (hS.op rfl) (hS.op rfl) (hS.ch _ _ rfl) rfl (by as_aux_lemma => kernel_rfl) hrowk rfl he2 (Nat.le_of_eq hilk.symm)))) | (apply draw_put rfl; (focus (intro S1 hS; exact stp_loadE' rfl (by as_aux_lemma => kernel_rfl) (hS.op rfl) (hS.ch _ _ rfl) rfl hrowk hgetd)))); (first | (apply draw_put rfl; (focus (intro S1 hS; exact stp_ix (j := k) rfl (hS.op rfl) (hS.op rfl) (hS.ch _ _ rfl) rfl (by as_aux_lemma => kernel_rfl) rfl hkn (Nat.le_of_eq hlen.symm)))) | (apply draw_put rfl; (focus (intro S1 hS; exact stp_loadR rfl (by as_aux_lemma => kernel_rfl) (hS.op rfl) (hS.ch _ _ rfl) rfl hrowk hilk))) | (apply draw_put rfl; (focus (intro S1 hS; exact stp_ix (j := i) rfl (hS.op rfl) (hS.op rfl) (hS.ch _ _ rfl) rfl (by as_aux_lemma => kernel_rfl) rfl hlt hq0))) | (apply draw_put rfl; (focus (intro S1 hS; exact stp_loadV rfl (by as_aux_lemma => kernel_rfl) (hS.op rfl) (hS.ch _ _ rfl) rfl hgq))) | (apply draw_put rfl; (focus (intro S1 hS; exact stp_ixE (j := e) rfl (hS.op rfl) (hS.op rfl) (hS.ch _ _ rfl) rfl (by as_aux_lemma => kernel_rfl) hrowk rfl he2 (Nat.le_of_eq hilk.symm)))) | (apply draw_put rfl; (focus (intro S1 hS; exact stp_loadE' rfl (by as_aux_lemma => kernel_rfl) (hS.op rfl) (hS.ch _ _ rfl) rfl hrowk hgetd)))); apply draw_put rfl; (intro S1 hS; exact stp_move rfl (hS.op rfl)); apply draw_put rfl; (intro S1 hS; exact stp_move rfl (hS.op rfl)); (first | (apply draw_put rfl; (focus (intro S1 hS; exact stp_ix (j := k) rfl (hS.op rfl) (hS.op rfl) (hS.ch _ _ rfl) rfl (by as_aux_lemma => kernel_rfl) rfl hkn (Nat.le_of_eq hlen.symm)))) | (apply draw_put rfl; (focus (intro S1 hS; exact stp_loadR rfl (by as_aux_lemma => kernel_rfl) (hS.op rfl) (hS.ch _ _ rfl) rfl hrowk hilk))) | (apply draw_put rfl; (focus (intro S1 hS; exact stp_ix (j := i) rfl (hS.op rfl) (hS.op rfl) (hS.ch _ _ rfl) rfl (by as_aux_lemma => kernel_rfl) rfl hlt hq0))) | (apply draw_put rfl; (focus (intro S1 hS; exact stp_loadV rfl (by as_aux_lemma => kernel_rfl) (hS.op rfl) (hS.ch _ _ rfl) rfl hgq))) | (apply draw_put rfl; (focus (intro S1 hS; exact stp_ixE (j := e) rfl (hS.op rfl) (hS.op rfl) (hS.ch _ _ rfl) rfl (by as_aux_lemma => kernel_rfl) hrowk rfl he2 (Nat.le_of_eq hilk.symm)))) | (apply draw_put rfl; (focus (intro S1 hS; exact stp_loadE' rfl (by as_aux_lemma => kernel_rfl) (hS.op rfl) (hS.ch _ _ rfl) rfl hrowk hgetd)))); (first | (apply draw_put rfl; (focus (intro S1 hS; exact stp_ix (j := k) rfl (hS.op rfl) (hS.op rfl) (hS.ch _ _ rfl) rfl (by as_aux_lemma => kernel_rfl) rfl hkn (Nat.le_of_eq hlen.symm)))) | (apply draw_put rfl; (focus (intro S1 hS; exact stp_loadR rfl (by as_aux_lemma => kernel_rfl) (hS.op rfl) (hS.ch _ _ rfl) rfl hrowk hilk))) | (apply draw_put rfl; (focus (intro S1 hS; exact stp_ix (j := i) rfl (hS.op rfl) (hS.op rfl) (hS.ch _ _ rfl) rfl (by as_aux_lemma => kernel_rfl) rfl hlt hq0))) | (apply draw_put rfl; (focus (intro S1 hS; exact stp_loadV rfl (by as_aux_lemma => kernel_rfl) (hS.op rfl) (hS.ch _ _ rfl) rfl hgq))) | (apply draw_put rfl; (focus (intro S1 hS; exact stp_ixE (j := e) rfl (hS.op rfl) (hS.op rfl) (hS.ch _ _ rfl) rfl (by as_aux_lemma => kernel_rfl) hrowk rfl he2 (Nat.le_of_eq hilk.symm)))) | (apply draw_put rfl; (focus (intro S1 hS; exact stp_loadE' rfl (by as_aux_lemma => kernel_rfl) (hS.op rfl) (hS.ch _ _ rfl) rfl hrowk hgetd)))); (first | (apply draw_put rfl; (focus (intro S1 hS; exact stp_ix (j := k) rfl (hS.op rfl) (hS.op rfl) (hS.ch _ _ rfl) rfl (by as_aux_lemma => kernel_rfl) rfl hkn (Nat.le_of_eq hlen.symm)))) | (apply draw_put rfl; (focus (intro S1 hS; exact stp_loadR rfl (by as_aux_lemma => kernel_rfl) (hS.op rfl) (hS.ch _ _ rfl) rfl hrowk hilk))) | (apply draw_put rfl; (focus (intro S1 hS; exact stp_ix (j := i) rfl (hS.op rfl) (hS.op rfl) (hS.ch _ _ rfl) rfl (by as_aux_lemma => kernel_rfl) rfl hlt hq0))) | (apply draw_put rfl; (focus (intro S1 hS; exact stp_loadV rfl (by as_aux_lemma => kernel_rfl) (hS.op rfl) (hS.ch _ _ rfl) rfl hgq))) | (apply draw_put rfl; (focus (intro S1 hS; exact stp_ixE (j := e) rfl (hS.op rfl) (hS.op rfl) (hS.ch _ _ rfl) rfl (by as_aux_lemma => kernel_rfl) hrowk rfl he2 (Nat.le_of_eq hilk.symm)))) | (apply draw_put rfl; (focus (intro S1 hS; exact stp_loadE' rfl (by as_aux_lemma => kernel_rfl) (hS.op rfl) (hS.ch _ _ rfl) rfl hrowk hgetd)))); (first | (apply draw_put rfl; (focus (intro S1 hS; exact stp_ix (j := k) rfl (hS.op rfl) (hS.op rfl) (hS.ch _ _ rfl) rfl (by as_aux_lemma => kernel_rfl) rfl hkn (Nat.le_of_eq hlen.symm)))) | (apply draw_put rfl; (focus (intro S1 hS; exact stp_loadR rfl (by as_aux_lemma => kernel_rfl) (hS.op rfl) (hS.ch _ _ rfl) rfl hrowk hilk))) | (apply draw_put rfl; (focus (intro S1 hS; exact stp_ix (j := i) rfl (hS.op rfl) (hS.op rfl) (hS.ch _ _ rfl) rfl (by as_aux_lemma => kernel_rfl) rfl hlt hq0))) | (apply draw_put rfl; (focus (intro S1 hS; exact stp_loadV rfl (by as_aux_lemma => kernel_rfl) (hS.op rfl) (hS.ch _ _ rfl) rfl hgq))) | (apply draw_put rfl; (focus (intro S1 hS; exact stp_ixE (j := e) rfl (hS.op rfl) (hS.op rfl) (hS.ch _ _ rfl) rfl (by as_aux_lemma => kernel_rfl) hrowk rfl he2 (Nat.le_of_eq hilk.symm)))) | (apply draw_put rfl; (focus (intro S1 hS; exact stp_loadE' rfl (by as_aux_lemma => kernel_rfl) (hS.op rfl) (hS.ch _ _ rfl) rfl hrowk hgetd)))); apply draw_put rfl; (intro S1 hS; exact stp_assign rfl (hS.op rfl)); exact Draw.nil)
      · rfl
      ((refine rest_done (by as_aux_lemma => kernel_rfl) ?_; skip))
      (refine fin_seq ?_; refine goes_seq ?_; refine goes_region ?_; apply run_step rfl; (exact stp_move rfl rfl); apply run_step rfl; (exact stp_move rfl rfl); apply run_step rfl; (exact stp_ix (j := d) rfl rfl rfl rfl rfl (by as_aux_lemma => kernel_rfl) rfl (by omega) hbb); apply run_step rfl; (exact stp_loadV rfl (by as_aux_lemma => kernel_rfl) rfl rfl rfl (by first | assumption | exact ivals_get (by assumption) | exact irows_get (by assumption) | exact ivals_get (by omega) | exact irows_get (by omega) | rfl)); apply run_step rfl; (exact stp_not rfl rfl); refine run_nil ?_; refine fin_seq ?_)
      refine goes_cond rfl (fun hb => ?_) (fun hb => ?_)
      · have hb : bat s.1 d = false := by simpa using hb
        have hv : (List.range (k + 1)).foldl (mStep zss mask e) s0 = (s.1.set d true, s.2 ++ [(d : Int)]) := by rw [hst, if_pos hb]
        (refine goes_seq ?_; refine goes_region ?_; apply run_step rfl; (exact stp_move rfl rfl); apply run_step rfl; (exact stp_move rfl rfl); apply run_step rfl; (first | exact stp_ix (j := d) rfl rfl rfl rfl rfl (by as_aux_lemma => kernel_rfl) rfl (by omega) hbb | exact stp_stB rfl rfl rfl rfl rfl (by rw [List.length_append]; omega) (by as_aux_lemma => kernel_rfl)); apply run_step rfl; (first | exact stp_ix (j := d) rfl rfl rfl rfl rfl (by as_aux_lemma => kernel_rfl) rfl (by omega) hbb | exact stp_stB rfl rfl rfl rfl rfl (by rw [List.length_append]; omega) (by as_aux_lemma => kernel_rfl)); refine run_nil ?_; refine fin_seq ?_; refine goes_region ?_; apply run_step rfl; (exact stp_move rfl rfl); apply run_step rfl; (exact stp_move rfl rfl); apply run_step rfl; (exact stp_lit1I (E := 2) rfl (by as_aux_lemma => kernel_rfl) rfl); apply run_step rfl; (exact stp_appI rfl (by as_aux_lemma => kernel_rfl) rfl rfl rfl (by first | rfl | assumption | (simp; done)) rfl rfl (by omega)); apply run_step rfl; (exact stp_assign rfl rfl); refine run_nil ?_; refine fin_block ?_; refine fin_seq ?_; refine goes_region ?_; apply run_step rfl; (exact stp_move rfl rfl); apply run_step rfl; (exact stp_add rfl rfl rfl (by first | exact IntWalk.i64_in _ (by omega) | rfl)); apply run_step rfl; (exact stp_assign rfl rfl); refine run_nil ?_)
        exact fin_round (k + 1, (s.1.set d true, s.2 ++ [(d : Int)])) ⟨hkn, hv⟩ (by show zss.length - (k + 1) < zss.length - k; omega) (Wk.of ⟨rfl, congrArg (fun x => some (o1 (.sl 12 0 x))) (by simp), rfl, rfl, rfl, trivial⟩ ⟨rfl, rfl, congrArg (fun l => some (boOw l)) (set_padB (by omega) true), trivial⟩ trivial)
      · have hb : bat s.1 d = true := by simpa using hb
        have hv : (List.range (k + 1)).foldl (mStep zss mask e) s0 = s := by rw [hst, if_neg (by rw [hb]; simp)]
        (refine goes_skip ?_; refine fin_block ?_; refine fin_seq ?_; refine goes_region ?_; apply run_step rfl; (exact stp_move rfl rfl); apply run_step rfl; (exact stp_add rfl rfl rfl (by first | exact IntWalk.i64_in _ (by omega) | rfl)); apply run_step rfl; (exact stp_assign rfl rfl); refine run_nil ?_)
        exact fin_round (k + 1, s) ⟨hkn, hv⟩ (by show zss.length - (k + 1) < zss.length - k; omega) (Wk.of ⟨rfl, rfl, rfl, rfl, rfl, trivial⟩ ⟨rfl, rfl, rfl, trivial⟩ trivial)
    · obtain rfl : k = zss.length := by omega
      (refine goes_exit ?_; refine fin_exit_then ?_; refine fin_exit_then ?_; refine fin_exit_eq ?_; refine fin_block ?_; refine fin_seq ?_; refine goes_region ?_; apply run_step rfl; (exact stp_move rfl rfl); apply run_step rfl; (exact stp_add rfl rfl rfl (by first | exact IntWalk.i64_in _ (by omega) | rfl)); apply run_step rfl; (exact stp_assign rfl rfl); refine run_nil ?_)
      exact fin_round (i + 1, s) ⟨hlt, hok, by rw [← hl']; show mLoop _ _ _ (n + 1 - (i + 1)) _ _ = _; rw [show n + 1 - (i + 1) = n - i by omega]; unfold mRow; rw [hfo]⟩ (by show n + 1 - (i + 1) < n + 1 - i; omega) (Wk.of ⟨rfl, rfl, rfl, rfl, trivial⟩ ⟨rfl, rfl, rfl, trivial⟩ trivial)
  · have hio : i = s.2.length := by omega
    have hOM : mLoop zss mask zss.length (n + 1) 0 (oStart n c) = s := by
      rw [← hl, show n + 1 - i = (n - i) + 1 by omega, mLoop, if_neg (by omega)]
    rw [hOM]
    (refine goes_exit ?_; refine fin_exit_then ?_; refine fin_exit_then ?_; refine fin_exit_eq ?_; refine fin_seq ?_; refine goes_seq ?_; refine goes_region ?_; apply run_step rfl; (exact stp_move rfl rfl); apply run_step rfl; (exact stp_assign rfl rfl); refine run_nil ?_; refine fin_seq ?_; refine goes_ret ?_)
    exact fin_ret1 (.inl rfl) rfl (.tmp rfl) ⟨rfl, trivial⟩ trivial
end Go.Proofs.Ytpognnifgcacnaa

/- What a maniplex is, the reference's: l02Is. guards: -/
namespace Go.Proofs.Ytpognnifgcacnaa
open Go.RowKit

abbrev mxB (R : Nat) : Ch := ⟨true, 41, 1, .flat [.sl 1003 0 R]⟩
theorem binNeq {a b : Int} (h : a ≠ b) : binI .i64 .neq a b = some (.bool true) := by simp [binI, h]
theorem binNeq' {a b : Int} (h : a = b) : binI .i64 .neq a b = some (.bool false) := by simp [binI, h]
theorem binEql {a b : Int} (h : a = b) : binI .i64 .eql a b = some (.bool true) := by simp [binI, h]
theorem binEql' {a b : Int} (h : a ≠ b) : binI .i64 .eql a b = some (.bool false) := by simp [binI, h]
/-- what of a maniplex is asked before it is asked whether it hangs together -/
structure Man0 (zss : List (List Int)) : Prop where
  n1 : 1 ≤ zss.length
  n5 : zss.length ≤ 5
  f2 : 2 ≤ (lget zss 0).length
  f4 : (lget zss 0).length ≤ 400
  rows : Rows zss (lget zss 0).length zss.length
  comm : ∀ i k, i + 2 ≤ k → k < zss.length → ∀ f, f < (lget zss 0).length → commAt zss i k f
theorem Man0.man {zss : List (List Int)} (h : Man0 zss) : manB zss = ((((orb zss (lget zss 0).length 0).2.length : Nat) : Int) == (((lget zss 0).length : Nat) : Int)) := by
  by_cases hc : (orb zss (lget zss 0).length 0).2.length = (lget zss 0).length
  · rw [manB_yes ⟨h.n1, h.n5, h.f2, h.f4, fun i hi => (h.rows i hi).1, fun i hi => (h.rows i hi).2.1, fun i hi => (h.rows i hi).2.2, h.comm, hc⟩, hc]; simp
  · rw [manB_no (fun hm => hc hm.conn)]
    have hc' : ((orb zss (lget zss 0).length 0).2.length : Int) ≠ ((lget zss 0).length : Int) := by omega
    symm; simpa using hc'

set_option maxRecDepth 100000 in
set_option maxHeartbeats 4000000 in
theorem manS_fc (zss : List (List Int)) (hR : zss.length ≤ 1048576) (hl : ∀ i, i < zss.length → (lget zss i).length ≤ 1048576) :
    FC Try.prog 108 [(1003, rowsRo zss)] [mA zss.length] [] (vv (.bool (manB zss))) [] := by
  refine fc_enter (nt := 149) Try.func108 rfl rfl (by simp) fun w0 ω0 => ?_
  have hlen : (irows zss).length = zss.length := irows_len _
  by_cases c1 : zss.length < 1
  · rw [manB_no (fun h => by have := h.n1; omega)]
    have b1 : decide ((zss.length : Int) < 1) = true := by simp; omega
    (refine goes_seq ?_; refine goes_region ?_; apply run_step rfl; (exact stp_box rfl rfl rfl rfl); apply run_step rfl; (exact stp_assign rfl rfl); refine run_nil ?_; refine fin_seq ?_; refine goes_seq ?_; refine goes_region ?_; apply run_step rfl; (exact stp_fieldAddr (d := 0) rfl rfl rfl (by as_aux_lemma => kernel_rfl)); apply run_step rfl; (exact stp_loadF rfl (by as_aux_lemma => kernel_rfl) rfl rfl rfl rfl); apply run_step rfl; (exact stp_len rfl rfl rfl (by as_aux_lemma => kernel_rfl)); apply run_step rfl; (exact stp_assign rfl rfl); refine run_nil ?_; refine fin_seq ?_; refine goes_seq ?_; refine goes_seq ?_; refine goes_region ?_; apply run_step rfl; (exact stp_move rfl rfl); apply run_step rfl; (exact stp_bin rfl rfl rfl rfl); apply run_step rfl; (exact stp_move rfl rfl))
    refine run_bool 13 rfl (fun h1 => ?_) (fun h1 => by rw [b1] at h1; cases h1)
    (apply run_gNo rfl rfl rfl rfl rfl; apply run_gNo rfl rfl rfl rfl rfl; apply run_step rfl; (exact stp_pickT rfl rfl rfl); apply run_step rfl; (exact stp_move rfl rfl); apply run_gNo rfl rfl rfl rfl rfl; apply run_gNo rfl rfl rfl rfl rfl; apply run_gNo rfl rfl rfl rfl rfl; apply run_gNo rfl rfl rfl rfl rfl; apply run_gNo rfl rfl rfl rfl rfl; apply run_gNo rfl rfl rfl rfl rfl; apply run_step rfl; (exact stp_pickT rfl rfl rfl); apply run_step rfl; (exact stp_move rfl rfl); apply run_gNo rfl rfl rfl rfl rfl; apply run_gNo rfl rfl rfl rfl rfl; apply run_gNo rfl rfl rfl rfl rfl; apply run_gNo rfl rfl rfl rfl rfl; apply run_gNo rfl rfl rfl rfl rfl; apply run_gNo rfl rfl rfl rfl rfl; apply run_step rfl; (exact stp_pickT rfl rfl rfl); refine run_nil ?_; refine fin_seq ?_)
    refine goes_cond rfl (fun _ => ?_) (fun e => by cases e)
    (refine goes_seq ?_; refine goes_region ?_; apply run_step rfl; (exact stp_assign rfl rfl); refine run_nil ?_; refine fin_seq ?_; refine goes_ret ?_; refine fin_ret_then ?_)
    exact fin_ret1 (.inl rfl) rfl (.tmp rfl) trivial trivial
  have b1 : decide ((zss.length : Int) < 1) = false := by simp; omega
  have hpos : 0 < zss.length := by omega
  have hl0 := hl 0 hpos
  have hrow0 : (irows zss)[0]? = some (ivals (lget zss 0)) := irows_get hpos
  obtain ⟨n, hn⟩ : ∃ n, (lget zss 0).length = n := ⟨_, rfl⟩
  have hil : (ivals (lget zss 0)).length = n := by rw [ivals_len]; exact hn
  have hl0' : (lget zss 0).length ≤ 1048576 := hl0
  rw [hn] at hl0'
  by_cases c2 : 5 < zss.length
  · rw [manB_no (fun h => by have := h.n5; omega)]
    have b2 : decide ((zss.length : Int) > 5) = true := by simp; omega
    (refine goes_seq ?_; refine goes_region ?_; apply run_step rfl; (exact stp_box rfl rfl rfl rfl); apply run_step rfl; (exact stp_assign rfl rfl); refine run_nil ?_; refine fin_seq ?_; refine goes_seq ?_; refine goes_region ?_; apply run_step rfl; (exact stp_fieldAddr (d := 0) rfl rfl rfl (by as_aux_lemma => kernel_rfl)); apply run_step rfl; (exact stp_loadF rfl (by as_aux_lemma => kernel_rfl) rfl rfl rfl rfl); apply run_step rfl; (exact stp_len rfl rfl rfl (by as_aux_lemma => kernel_rfl)); apply run_step rfl; (exact stp_assign rfl rfl); refine run_nil ?_; refine fin_seq ?_; refine goes_seq ?_; refine goes_seq ?_; refine goes_region ?_; apply run_step rfl; (exact stp_move rfl rfl); apply run_step rfl; (exact stp_bin rfl rfl rfl rfl); apply run_step rfl; (exact stp_move rfl rfl))
    refine run_bool 13 rfl (fun h1 => by rw [b1] at h1; cases h1) (fun h1 => ?_)
    (apply run_gYes rfl rfl rfl; (exact stp_move rfl rfl); apply run_gYes rfl rfl rfl; (exact stp_bin rfl rfl rfl rfl); apply run_step rfl; (exact stp_pickF rfl rfl rfl); apply run_step rfl; (exact stp_move rfl rfl))
    refine run_bool 17 rfl (fun h1 => ?_) (fun h1 => by rw [b2] at h1; cases h1)
    (apply run_gNo rfl rfl rfl rfl rfl; apply run_gNo rfl rfl rfl rfl rfl; apply run_gNo rfl rfl rfl rfl rfl; apply run_gNo rfl rfl rfl rfl rfl; apply run_gNo rfl rfl rfl rfl rfl; apply run_gNo rfl rfl rfl rfl rfl; apply run_step rfl; (exact stp_pickT rfl rfl rfl); apply run_step rfl; (exact stp_move rfl rfl); apply run_gNo rfl rfl rfl rfl rfl; apply run_gNo rfl rfl rfl rfl rfl; apply run_gNo rfl rfl rfl rfl rfl; apply run_gNo rfl rfl rfl rfl rfl; apply run_gNo rfl rfl rfl rfl rfl; apply run_gNo rfl rfl rfl rfl rfl; apply run_step rfl; (exact stp_pickT rfl rfl rfl); refine run_nil ?_; refine fin_seq ?_)
    refine goes_cond rfl (fun _ => ?_) (fun e => by cases e)
    (refine goes_seq ?_; refine goes_region ?_; apply run_step rfl; (exact stp_assign rfl rfl); refine run_nil ?_; refine fin_seq ?_; refine goes_ret ?_; refine fin_ret_then ?_)
    exact fin_ret1 (.inl rfl) rfl (.tmp rfl) trivial trivial
  have b2 : decide ((zss.length : Int) > 5) = false := by simp; omega
  by_cases c3 : n < 2
  · rw [manB_no (fun h => by have := h.f2; omega)]
    have b3 : decide ((n : Int) < 2) = true := by simp; omega
    (refine goes_seq ?_; refine goes_region ?_; apply run_step rfl; (exact stp_box rfl rfl rfl rfl); apply run_step rfl; (exact stp_assign rfl rfl); refine run_nil ?_; refine fin_seq ?_; refine goes_seq ?_; refine goes_region ?_; apply run_step rfl; (exact stp_fieldAddr (d := 0) rfl rfl rfl (by as_aux_lemma => kernel_rfl)); apply run_step rfl; (exact stp_loadF rfl (by as_aux_lemma => kernel_rfl) rfl rfl rfl rfl); apply run_step rfl; (exact stp_len rfl rfl rfl (by as_aux_lemma => kernel_rfl)); apply run_step rfl; (exact stp_assign rfl rfl); refine run_nil ?_; refine fin_seq ?_; refine goes_seq ?_; refine goes_seq ?_; refine goes_region ?_; apply run_step rfl; (exact stp_move rfl rfl); apply run_step rfl; (exact stp_bin rfl rfl rfl rfl); apply run_step rfl; (exact stp_move rfl rfl))
    refine run_bool 13 rfl (fun h1 => by rw [b1] at h1; cases h1) (fun h1 => ?_)
    (apply run_gYes rfl rfl rfl; (exact stp_move rfl rfl); apply run_gYes rfl rfl rfl; (exact stp_bin rfl rfl rfl rfl); apply run_step rfl; (exact stp_pickF rfl rfl rfl); apply run_step rfl; (exact stp_move rfl rfl))
    refine run_bool 17 rfl (fun h1 => by rw [b2] at h1; cases h1) (fun h1 => ?_)
    (apply run_gYes rfl rfl rfl; (exact stp_fieldAddr (d := 0) rfl rfl rfl (by as_aux_lemma => kernel_rfl)); apply run_gYes rfl rfl rfl; (exact stp_loadF rfl (by as_aux_lemma => kernel_rfl) rfl rfl rfl rfl); apply run_gYes rfl rfl rfl; (first | exact stp_ix (j := 0) rfl rfl rfl rfl rfl (by as_aux_lemma => kernel_rfl) rfl hpos (Nat.le_of_eq hlen.symm) | exact stp_loadR rfl (by as_aux_lemma => kernel_rfl) rfl rfl rfl hrow0 hil); apply run_gYes rfl rfl rfl; (first | exact stp_ix (j := 0) rfl rfl rfl rfl rfl (by as_aux_lemma => kernel_rfl) rfl hpos (Nat.le_of_eq hlen.symm) | exact stp_loadR rfl (by as_aux_lemma => kernel_rfl) rfl rfl rfl hrow0 hil); apply run_gYes rfl rfl rfl; (exact stp_len rfl rfl rfl (by as_aux_lemma => kernel_rfl)); apply run_gYes rfl rfl rfl; (exact stp_bin rfl rfl rfl rfl); apply run_step rfl; (exact stp_pickF rfl rfl rfl); apply run_step rfl; (exact stp_move rfl rfl))
    refine run_bool 25 rfl (fun h1 => ?_) (fun h1 => by rw [b3] at h1; cases h1)
    (apply run_gNo rfl rfl rfl rfl rfl; apply run_gNo rfl rfl rfl rfl rfl; apply run_gNo rfl rfl rfl rfl rfl; apply run_gNo rfl rfl rfl rfl rfl; apply run_gNo rfl rfl rfl rfl rfl; apply run_gNo rfl rfl rfl rfl rfl; apply run_step rfl; (exact stp_pickT rfl rfl rfl); refine run_nil ?_; refine fin_seq ?_)
    refine goes_cond rfl (fun _ => ?_) (fun e => by cases e)
    (refine goes_seq ?_; refine goes_region ?_; apply run_step rfl; (exact stp_assign rfl rfl); refine run_nil ?_; refine fin_seq ?_; refine goes_ret ?_; refine fin_ret_then ?_)
    exact fin_ret1 (.inl rfl) rfl (.tmp rfl) trivial trivial
  have b3 : decide ((n : Int) < 2) = false := by simp; omega
  (refine goes_seq ?_; refine goes_region ?_; apply run_step rfl; (exact stp_box rfl rfl rfl rfl); apply run_step rfl; (exact stp_assign rfl rfl); refine run_nil ?_; refine fin_seq ?_; refine goes_seq ?_; refine goes_region ?_; apply run_step rfl; (exact stp_fieldAddr (d := 0) rfl rfl rfl (by as_aux_lemma => kernel_rfl)); apply run_step rfl; (exact stp_loadF rfl (by as_aux_lemma => kernel_rfl) rfl rfl rfl rfl); apply run_step rfl; (exact stp_len rfl rfl rfl (by as_aux_lemma => kernel_rfl)); apply run_step rfl; (exact stp_assign rfl rfl); refine run_nil ?_; refine fin_seq ?_; refine goes_seq ?_; refine goes_seq ?_; refine goes_region ?_; apply run_step rfl; (exact stp_move rfl rfl); apply run_step rfl; (exact stp_bin rfl rfl rfl rfl); apply run_step rfl; (exact stp_move rfl rfl))
  refine run_bool 13 rfl (fun h1 => by rw [b1] at h1; cases h1) (fun h1 => ?_)
  (apply run_gYes rfl rfl rfl; (exact stp_move rfl rfl); apply run_gYes rfl rfl rfl; (exact stp_bin rfl rfl rfl rfl); apply run_step rfl; (exact stp_pickF rfl rfl rfl); apply run_step rfl; (exact stp_move rfl rfl))
  refine run_bool 17 rfl (fun h1 => by rw [b2] at h1; cases h1) (fun h1 => ?_)
  (apply run_gYes rfl rfl rfl; (exact stp_fieldAddr (d := 0) rfl rfl rfl (by as_aux_lemma => kernel_rfl)); apply run_gYes rfl rfl rfl; (exact stp_loadF rfl (by as_aux_lemma => kernel_rfl) rfl rfl rfl rfl); apply run_gYes rfl rfl rfl; (first | exact stp_ix (j := 0) rfl rfl rfl rfl rfl (by as_aux_lemma => kernel_rfl) rfl hpos (Nat.le_of_eq hlen.symm) | exact stp_loadR rfl (by as_aux_lemma => kernel_rfl) rfl rfl rfl hrow0 hil); apply run_gYes rfl rfl rfl; (first | exact stp_ix (j := 0) rfl rfl rfl rfl rfl (by as_aux_lemma => kernel_rfl) rfl hpos (Nat.le_of_eq hlen.symm) | exact stp_loadR rfl (by as_aux_lemma => kernel_rfl) rfl rfl rfl hrow0 hil); apply run_gYes rfl rfl rfl; (exact stp_len rfl rfl rfl (by as_aux_lemma => kernel_rfl)); apply run_gYes rfl rfl rfl; (exact stp_bin rfl rfl rfl rfl); apply run_step rfl; (exact stp_pickF rfl rfl rfl); apply run_step rfl; (exact stp_move rfl rfl))
  refine run_bool 25 rfl (fun h1 => by rw [b3] at h1; cases h1) (fun h1 => ?_)
  (apply run_gYes rfl rfl rfl; (exact stp_fieldAddr (d := 0) rfl rfl rfl (by as_aux_lemma => kernel_rfl)); apply run_gYes rfl rfl rfl; (exact stp_loadF rfl (by as_aux_lemma => kernel_rfl) rfl rfl rfl rfl); apply run_gYes rfl rfl rfl; (first | exact stp_ix (j := 0) rfl rfl rfl rfl rfl (by as_aux_lemma => kernel_rfl) rfl hpos (Nat.le_of_eq hlen.symm) | exact stp_loadR rfl (by as_aux_lemma => kernel_rfl) rfl rfl rfl hrow0 hil); apply run_gYes rfl rfl rfl; (first | exact stp_ix (j := 0) rfl rfl rfl rfl rfl (by as_aux_lemma => kernel_rfl) rfl hpos (Nat.le_of_eq hlen.symm) | exact stp_loadR rfl (by as_aux_lemma => kernel_rfl) rfl rfl rfl hrow0 hil); apply run_gYes rfl rfl rfl; (exact stp_len rfl rfl rfl (by as_aux_lemma => kernel_rfl)); apply run_gYes rfl rfl rfl; (exact stp_bin rfl rfl rfl rfl); apply run_step rfl; (exact stp_pickF rfl rfl rfl); refine run_nil ?_; refine fin_seq ?_)
  refine goes_if rfl (fun c4 => ?_) (fun c4 => ?_)
  · rw [manB_no (fun h => by have := h.f4; omega)]
    (refine goes_seq ?_; refine goes_region ?_; apply run_step rfl; (exact stp_assign rfl rfl); refine run_nil ?_; refine fin_seq ?_; refine goes_ret ?_; refine fin_ret_then ?_)
    exact fin_ret1 (.inl rfl) rfl (.tmp rfl) trivial trivial
  (refine goes_skip ?_; refine fin_seq ?_; refine goes_seq ?_; refine goes_seq ?_; refine goes_region ?_; apply run_step rfl; (exact stp_assign rfl rfl); refine run_nil ?_; refine fin_seq ?_; refine goes_block ?_)
  refine goes_loop (fun i : Nat => St.of [(1, o1 (.ptr 1 0)), (3, vv (I6 zss.length)), (4, vv (I6 i))] [(1003, rowsRo zss), (1, mxB zss.length)]) (fun i => i ≤ zss.length ∧ Rows zss n i) (fun i => zss.length - i) 0 ⟨Nat.zero_le _, fun j hj => absurd hj (by omega)⟩ (Wk.of ⟨rfl, rfl, rfl, trivial⟩ ⟨rfl, rfl, trivial⟩ trivial) ?_
  rintro i ⟨hi, hrows⟩
  (refine goes_seq ?_; refine goes_seq ?_; refine goes_region ?_; apply run_step rfl; (exact stp_move rfl rfl); apply run_step rfl; (exact stp_move rfl rfl); apply run_step rfl; (exact stp_bin rfl rfl rfl rfl); refine run_nil ?_; refine fin_seq ?_)
  refine goes_if rfl (fun hlt => ?_) (fun hlt => ?_)
  · have hiz : i < zss.length := by omega
    have hrowi : (irows zss)[i]? = some (ivals (lget zss i)) := irows_get hiz
    have hli := hl i hiz
    have hP := permS_fc zss i hiz hli
    obtain ⟨m, hm⟩ : ∃ m, (lget zss i).length = m := ⟨_, rfl⟩
    have hilm : (ivals (lget zss i)).length = m := by rw [ivals_len]; exact hm
    rw [hm] at hP
    (refine goes_skip ?_; refine fin_seq ?_; refine goes_seq ?_; refine goes_block ?_; refine goes_seq ?_)
    by_cases e1 : (m : Int) = n
    · have e1' : m = n := by omega
      cases hp : isPerm (lget zss i) with
      | false =>
        rw [hp] at hP
        apply goes_drawG 30 [] [[], [0], [], [0, 1, 2], [0, 1, 2, 3], [0, 1, 2, 3, 4], [], [6], [6, 7], [6, 7, 8], [6, 7, 8, 9], [0, 1, 2, 3, 4, 5, 6, 7, 8, 9, 10], [0, 1, 2, 3, 4, 5, 6, 7, 8, 9, 10, 11], [0, 1, 2, 3, 4, 5, 6, 7, 8, 9, 10, 11, 12], [0, 1, 2, 3, 4, 5, 6, 7, 8, 9, 10, 11, 12, 13], [0, 1, 2, 3, 4, 5, 6, 7, 8, 9, 10, 11, 12], [0, 1, 2, 3, 4, 5, 6, 7, 8, 9, 10, 11, 12, 13, 14, 15], [0, 1, 2, 3, 4, 5, 6, 7, 8, 9, 10, 11, 12, 13, 14, 15, 16], [0, 1, 2, 3, 4, 5, 6, 7, 8, 9, 10, 11, 12, 13, 14, 15, 16, 17], [0, 1, 2, 3, 4, 5, 6, 7, 8, 9, 10, 11, 12, 13, 14, 15, 16, 17, 18], [0, 1, 2, 3, 4, 5, 6, 7, 8, 9, 10, 11, 12, 13, 14, 15, 16, 17, 18, 19], [0, 1, 2, 3, 4, 5, 6, 7, 8, 9, 10, 11, 12, 13, 14, 15, 16, 17, 18, 19, 20], [0, 1, 2, 3, 4, 5, 6, 7, 8, 9, 10, 11, 12, 13, 14, 15, 16, 17, 18, 19, 20, 21], [0, 1, 2, 3, 4, 5, 6, 7, 8, 9, 10, 11, 12, 13, 14, 15, 16, 17, 18, 19, 20, 21, 22], [0, 1, 2, 3, 4, 5, 6, 7, 8, 9, 10, 11, 12, 13, 14, 15, 16, 17, 18, 19, 20, 21], [0, 1, 2, 3, 4, 5, 6, 7, 8, 9, 10, 11, 12, 13, 14, 15, 16, 17, 18, 19, 20, 21, 22, 23, 24], [0, 1, 2, 3, 4, 5, 6, 7, 8, 9, 10, 11, 12, 13, 14, 15, 16, 17, 18, 19, 20, 21, 22, 23, 24, 25], [0, 1, 2, 3, 4, 5, 6, 7, 8, 9, 10, 11, 12, 13, 14, 15, 16, 17, 18, 19, 20, 21, 22, 23, 24, 25, 26], [0, 1, 2, 3, 4, 5, 6, 7, 8, 9, 10, 11, 12, 13, 14, 15, 16, 17, 18, 19, 20, 21, 22, 23, 24, 25, 26, 27], [0, 1, 2, 3, 4, 5, 6, 7, 8, 9, 10, 11, 12, 13, 14, 15, 16, 17, 18, 19, 20, 21, 22, 23, 24, 25, 26, 27, 28]] [38, 39, 40, 41, 42, 43, 44, 45, 46, 47, 48, 49, 50, 51, 52, 53, 54, 55, 56, 57, 58, 59, 60, 61, 62, 63, 64, 65, 66, 67] [] (by kernel_rfl) (by kernel_rfl)
        · (apply drawG_put rfl; (intro S1 hS; exact stp_fieldAddr (d := 0) rfl (hS.op rfl) (hS.ch _ _ rfl) (by as_aux_lemma => kernel_rfl)))
          (apply drawG_put rfl; (intro S1 hS; exact stp_loadF rfl (by as_aux_lemma => kernel_rfl) (hS.op rfl) (hS.ch _ _ rfl) rfl rfl))
          (apply drawG_put rfl; (intro S1 hS; exact stp_move rfl (hS.op rfl)))
          (apply drawG_put rfl; (intro S1 hS; exact stp_ix (j := i) rfl (hS.op rfl) (hS.op rfl) (hS.ch _ _ rfl) rfl (by as_aux_lemma => kernel_rfl) rfl hiz (Nat.le_of_eq hlen.symm)))
          (apply drawG_put rfl; (intro S1 hS; exact stp_loadR rfl (by as_aux_lemma => kernel_rfl) (hS.op rfl) (hS.ch _ _ rfl) rfl hrowi hilm))
          (apply drawG_put rfl; (intro S1 hS; exact stp_len rfl (hS.op rfl) rfl (by as_aux_lemma => kernel_rfl)))
          (apply drawG_put rfl; (intro S1 hS; exact stp_fieldAddr (d := 0) rfl (hS.op rfl) (hS.ch _ _ rfl) (by as_aux_lemma => kernel_rfl)))
          (apply drawG_put rfl; (intro S1 hS; exact stp_loadF rfl (by as_aux_lemma => kernel_rfl) (hS.op rfl) (hS.ch _ _ rfl) rfl rfl))
          (apply drawG_put rfl; (intro S1 hS; exact stp_ix (j := 0) rfl (hS.op rfl) (hS.op rfl) (hS.ch _ _ rfl) rfl (by as_aux_lemma => kernel_rfl) rfl hpos (Nat.le_of_eq hlen.symm)))
          (apply drawG_put rfl; (intro S1 hS; exact stp_loadR rfl (by as_aux_lemma => kernel_rfl) (hS.op rfl) (hS.ch _ _ rfl) rfl hrow0 hil))
          (apply drawG_put rfl; (intro S1 hS; exact stp_len rfl (hS.op rfl) rfl (by as_aux_lemma => kernel_rfl)))
          (apply drawG_put rfl; (intro S1 hS; exact stp_bin rfl (hS.op rfl) (hS.op rfl) (binNeq' e1)))
          (apply drawG_put rfl; (intro S1 hS; exact stp_move rfl (hS.op rfl)))
          (apply drawG_yes rfl rfl rfl; (intro S1 hS; exact stp_fieldAddr (d := 0) rfl (hS.op rfl) (hS.ch _ _ rfl) (by as_aux_lemma => kernel_rfl)))
          (apply drawG_yes rfl rfl rfl; (intro S1 hS; exact stp_loadF rfl (by as_aux_lemma => kernel_rfl) (hS.op rfl) (hS.ch _ _ rfl) rfl rfl))
          (apply drawG_yes rfl rfl rfl; (intro S1 hS; exact stp_move rfl (hS.op rfl)))
          (apply drawG_yes rfl rfl rfl; (intro S1 hS; exact stp_ix (j := i) rfl (hS.op rfl) (hS.op rfl) (hS.ch _ _ rfl) rfl (by as_aux_lemma => kernel_rfl) rfl hiz (Nat.le_of_eq hlen.symm)))
          (apply drawG_yes rfl rfl rfl; (intro S1 hS; exact stp_loadR rfl (by as_aux_lemma => kernel_rfl) (hS.op rfl) (hS.ch _ _ rfl) rfl hrowi hilm))
          (apply drawG_yes rfl rfl rfl; (intro S1 hS; apply call_gate 175; exact stp_callR hP (by as_aux_lemma => kernel_rfl) rfl (opL_le hS rfl) ⟨rfl, trivial⟩ (allIn_le hS ⟨⟨_, rfl, .inl rfl⟩, trivial⟩) rfl rfl))
          (apply drawG_yes rfl rfl rfl; (intro S1 hS; exact stp_not rfl (hS.op rfl)))
          (apply drawG_put rfl; (intro S1 hS; exact stp_pickF rfl (hS.op rfl) (hS.op rfl)))
          (apply drawG_put rfl; (intro S1 hS; exact stp_move rfl (hS.op rfl)))
          apply drawG_no rfl rfl rfl rfl rfl
          apply drawG_no rfl rfl rfl rfl rfl
          apply drawG_no rfl rfl rfl rfl rfl
          apply drawG_no rfl rfl rfl rfl rfl
          apply drawG_no rfl rfl rfl rfl rfl
          apply drawG_no rfl rfl rfl rfl rfl
          apply drawG_no rfl rfl rfl rfl rfl
          (apply drawG_put rfl; (intro S1 hS; exact stp_pickT rfl (hS.op rfl) (hS.op rfl)))
          exact DrawG.nil
        · rfl
        ((refine rest_done (by as_aux_lemma => kernel_rfl) ?_; skip))
        (refine fin_seq ?_)
        refine goes_cond rfl (fun _ => ?_) (fun e => by cases e)
        rw [manB_no (fun h => by have := h.perm i hiz; rw [hp] at this; cases this)]
        (refine goes_seq ?_; refine goes_region ?_; apply run_step rfl; (exact stp_assign rfl rfl); refine run_nil ?_; refine fin_seq ?_; refine goes_ret ?_; refine fin_ret_block ?_; refine fin_ret_then ?_; refine fin_ret_then ?_; refine fin_ret_block ?_; refine fin_ret_then ?_)
        exact fin_ret1 (.inl rfl) rfl (.tmp rfl) trivial trivial
      | true =>
        rw [hp] at hP
        have hF := freeS_fc zss i hiz hli hp
        rw [hm] at hF
        apply goes_drawG 30 [] [[], [0], [], [0, 1, 2], [0, 1, 2, 3], [0, 1, 2, 3, 4], [], [6], [6, 7], [6, 7, 8], [6, 7, 8, 9], [0, 1, 2, 3, 4, 5, 6, 7, 8, 9, 10], [0, 1, 2, 3, 4, 5, 6, 7, 8, 9, 10, 11], [0, 1, 2, 3, 4, 5, 6, 7, 8, 9, 10, 11, 12], [0, 1, 2, 3, 4, 5, 6, 7, 8, 9, 10, 11, 12, 13], [0, 1, 2, 3, 4, 5, 6, 7, 8, 9, 10, 11, 12], [0, 1, 2, 3, 4, 5, 6, 7, 8, 9, 10, 11, 12, 13, 14, 15], [0, 1, 2, 3, 4, 5, 6, 7, 8, 9, 10, 11, 12, 13, 14, 15, 16], [0, 1, 2, 3, 4, 5, 6, 7, 8, 9, 10, 11, 12, 13, 14, 15, 16, 17], [0, 1, 2, 3, 4, 5, 6, 7, 8, 9, 10, 11, 12, 13, 14, 15, 16, 17, 18], [0, 1, 2, 3, 4, 5, 6, 7, 8, 9, 10, 11, 12, 13, 14, 15, 16, 17, 18, 19], [0, 1, 2, 3, 4, 5, 6, 7, 8, 9, 10, 11, 12, 13, 14, 15, 16, 17, 18, 19, 20], [0, 1, 2, 3, 4, 5, 6, 7, 8, 9, 10, 11, 12, 13, 14, 15, 16, 17, 18, 19, 20, 21], [0, 1, 2, 3, 4, 5, 6, 7, 8, 9, 10, 11, 12, 13, 14, 15, 16, 17, 18, 19, 20, 21, 22], [0, 1, 2, 3, 4, 5, 6, 7, 8, 9, 10, 11, 12, 13, 14, 15, 16, 17, 18, 19, 20, 21], [0, 1, 2, 3, 4, 5, 6, 7, 8, 9, 10, 11, 12, 13, 14, 15, 16, 17, 18, 19, 20, 21, 22, 23, 24], [0, 1, 2, 3, 4, 5, 6, 7, 8, 9, 10, 11, 12, 13, 14, 15, 16, 17, 18, 19, 20, 21, 22, 23, 24, 25], [0, 1, 2, 3, 4, 5, 6, 7, 8, 9, 10, 11, 12, 13, 14, 15, 16, 17, 18, 19, 20, 21, 22, 23, 24, 25, 26], [0, 1, 2, 3, 4, 5, 6, 7, 8, 9, 10, 11, 12, 13, 14, 15, 16, 17, 18, 19, 20, 21, 22, 23, 24, 25, 26, 27], [0, 1, 2, 3, 4, 5, 6, 7, 8, 9, 10, 11, 12, 13, 14, 15, 16, 17, 18, 19, 20, 21, 22, 23, 24, 25, 26, 27, 28]] [38, 39, 40, 41, 42, 43, 44, 45, 46, 47, 48, 49, 50, 51, 52, 53, 54, 55, 56, 57, 58, 59, 60, 61, 62, 63, 64, 65, 66, 67] [] (by kernel_rfl) (by kernel_rfl)
        · (apply drawG_put rfl; (intro S1 hS; exact stp_fieldAddr (d := 0) rfl (hS.op rfl) (hS.ch _ _ rfl) (by as_aux_lemma => kernel_rfl)))
          (apply drawG_put rfl; (intro S1 hS; exact stp_loadF rfl (by as_aux_lemma => kernel_rfl) (hS.op rfl) (hS.ch _ _ rfl) rfl rfl))
          (apply drawG_put rfl; (intro S1 hS; exact stp_move rfl (hS.op rfl)))
          (apply drawG_put rfl; (intro S1 hS; exact stp_ix (j := i) rfl (hS.op rfl) (hS.op rfl) (hS.ch _ _ rfl) rfl (by as_aux_lemma => kernel_rfl) rfl hiz (Nat.le_of_eq hlen.symm)))
          (apply drawG_put rfl; (intro S1 hS; exact stp_loadR rfl (by as_aux_lemma => kernel_rfl) (hS.op rfl) (hS.ch _ _ rfl) rfl hrowi hilm))
          (apply drawG_put rfl; (intro S1 hS; exact stp_len rfl (hS.op rfl) rfl (by as_aux_lemma => kernel_rfl)))
          (apply drawG_put rfl; (intro S1 hS; exact stp_fieldAddr (d := 0) rfl (hS.op rfl) (hS.ch _ _ rfl) (by as_aux_lemma => kernel_rfl)))
          (apply drawG_put rfl; (intro S1 hS; exact stp_loadF rfl (by as_aux_lemma => kernel_rfl) (hS.op rfl) (hS.ch _ _ rfl) rfl rfl))
          (apply drawG_put rfl; (intro S1 hS; exact stp_ix (j := 0) rfl (hS.op rfl) (hS.op rfl) (hS.ch _ _ rfl) rfl (by as_aux_lemma => kernel_rfl) rfl hpos (Nat.le_of_eq hlen.symm)))
          (apply drawG_put rfl; (intro S1 hS; exact stp_loadR rfl (by as_aux_lemma => kernel_rfl) (hS.op rfl) (hS.ch _ _ rfl) rfl hrow0 hil))
          (apply drawG_put rfl; (intro S1 hS; exact stp_len rfl (hS.op rfl) rfl (by as_aux_lemma => kernel_rfl)))
          (apply drawG_put rfl; (intro S1 hS; exact stp_bin rfl (hS.op rfl) (hS.op rfl) (binNeq' e1)))
          (apply drawG_put rfl; (intro S1 hS; exact stp_move rfl (hS.op rfl)))
          (apply drawG_yes rfl rfl rfl; (intro S1 hS; exact stp_fieldAddr (d := 0) rfl (hS.op rfl) (hS.ch _ _ rfl) (by as_aux_lemma => kernel_rfl)))
          (apply drawG_yes rfl rfl rfl; (intro S1 hS; exact stp_loadF rfl (by as_aux_lemma => kernel_rfl) (hS.op rfl) (hS.ch _ _ rfl) rfl rfl))
          (apply drawG_yes rfl rfl rfl; (intro S1 hS; exact stp_move rfl (hS.op rfl)))
          (apply drawG_yes rfl rfl rfl; (intro S1 hS; exact stp_ix (j := i) rfl (hS.op rfl) (hS.op rfl) (hS.ch _ _ rfl) rfl (by as_aux_lemma => kernel_rfl) rfl hiz (Nat.le_of_eq hlen.symm)))
          (apply drawG_yes rfl rfl rfl; (intro S1 hS; exact stp_loadR rfl (by as_aux_lemma => kernel_rfl) (hS.op rfl) (hS.ch _ _ rfl) rfl hrowi hilm))
          (apply drawG_yes rfl rfl rfl; (intro S1 hS; apply call_gate 175; exact stp_callR hP (by as_aux_lemma => kernel_rfl) rfl (opL_le hS rfl) ⟨rfl, trivial⟩ (allIn_le hS ⟨⟨_, rfl, .inl rfl⟩, trivial⟩) rfl rfl))
          (apply drawG_yes rfl rfl rfl; (intro S1 hS; exact stp_not rfl (hS.op rfl)))
          (apply drawG_put rfl; (intro S1 hS; exact stp_pickF rfl (hS.op rfl) (hS.op rfl)))
          (apply drawG_put rfl; (intro S1 hS; exact stp_move rfl (hS.op rfl)))
          (apply drawG_yes rfl rfl rfl; (intro S1 hS; exact stp_fieldAddr (d := 0) rfl (hS.op rfl) (hS.ch _ _ rfl) (by as_aux_lemma => kernel_rfl)))
          (apply drawG_yes rfl rfl rfl; (intro S1 hS; exact stp_loadF rfl (by as_aux_lemma => kernel_rfl) (hS.op rfl) (hS.ch _ _ rfl) rfl rfl))
          (apply drawG_yes rfl rfl rfl; (intro S1 hS; exact stp_move rfl (hS.op rfl)))
          (apply drawG_yes rfl rfl rfl; (intro S1 hS; exact stp_ix (j := i) rfl (hS.op rfl) (hS.op rfl) (hS.ch _ _ rfl) rfl (by as_aux_lemma => kernel_rfl) rfl hiz (Nat.le_of_eq hlen.symm)))
          (apply drawG_yes rfl rfl rfl; (intro S1 hS; exact stp_loadR rfl (by as_aux_lemma => kernel_rfl) (hS.op rfl) (hS.ch _ _ rfl) rfl hrowi hilm))
          (apply drawG_yes rfl rfl rfl; (intro S1 hS; apply call_gate 176; exact stp_callR hF (by as_aux_lemma => kernel_rfl) rfl (opL_le hS rfl) ⟨rfl, trivial⟩ (allIn_le hS ⟨⟨_, rfl, .inl rfl⟩, trivial⟩) rfl rfl))
          (apply drawG_yes rfl rfl rfl; (intro S1 hS; exact stp_not rfl (hS.op rfl)))
          (apply drawG_put rfl; (intro S1 hS; exact stp_pickF rfl (hS.op rfl) (hS.op rfl)))
          exact DrawG.nil
        · rfl
        ((refine rest_done (by as_aux_lemma => kernel_rfl) ?_; skip))
        (refine fin_seq ?_)
        refine goes_cond rfl (fun hf => ?_) (fun hf => ?_)
        · have hf : isFreeL (lget zss i) = false := by simpa using hf
          rw [manB_no (fun h => by have := h.free i hiz; rw [hf] at this; cases this)]
          (refine goes_seq ?_; refine goes_region ?_; apply run_step rfl; (exact stp_assign rfl rfl); refine run_nil ?_; refine fin_seq ?_; refine goes_ret ?_; refine fin_ret_block ?_; refine fin_ret_then ?_; refine fin_ret_then ?_; refine fin_ret_block ?_; refine fin_ret_then ?_)
          exact fin_ret1 (.inl rfl) rfl (.tmp rfl) trivial trivial
        · have hf : isFreeL (lget zss i) = true := by simpa using hf
          (refine goes_skip ?_; refine fin_block ?_; refine fin_seq ?_; refine goes_region ?_; apply run_step rfl; (exact stp_move rfl rfl); apply run_step rfl; (exact stp_add rfl rfl rfl (by first | exact IntWalk.i64_in _ (by omega) | rfl)); apply run_step rfl; (exact stp_assign rfl rfl); refine run_nil ?_)
          exact fin_round (i + 1) ⟨hiz, fun j hj => by
            by_cases e : j = i
            · subst e; exact ⟨hm.trans e1', hp, hf⟩
            · exact hrows j (by omega)⟩ (by omega) (Wk.of ⟨rfl, rfl, rfl, trivial⟩ ⟨rfl, rfl, trivial⟩ trivial)
    · apply goes_drawG 30 [] [[], [0], [], [0, 1, 2], [0, 1, 2, 3], [0, 1, 2, 3, 4], [], [6], [6, 7], [6, 7, 8], [6, 7, 8, 9], [0, 1, 2, 3, 4, 5, 6, 7, 8, 9, 10], [0, 1, 2, 3, 4, 5, 6, 7, 8, 9, 10, 11], [0, 1, 2, 3, 4, 5, 6, 7, 8, 9, 10, 11, 12], [0, 1, 2, 3, 4, 5, 6, 7, 8, 9, 10, 11, 12, 13], [0, 1, 2, 3, 4, 5, 6, 7, 8, 9, 10, 11, 12], [0, 1, 2, 3, 4, 5, 6, 7, 8, 9, 10, 11, 12, 13, 14, 15], [0, 1, 2, 3, 4, 5, 6, 7, 8, 9, 10, 11, 12, 13, 14, 15, 16], [0, 1, 2, 3, 4, 5, 6, 7, 8, 9, 10, 11, 12, 13, 14, 15, 16, 17], [0, 1, 2, 3, 4, 5, 6, 7, 8, 9, 10, 11, 12, 13, 14, 15, 16, 17, 18], [0, 1, 2, 3, 4, 5, 6, 7, 8, 9, 10, 11, 12, 13, 14, 15, 16, 17, 18, 19], [0, 1, 2, 3, 4, 5, 6, 7, 8, 9, 10, 11, 12, 13, 14, 15, 16, 17, 18, 19, 20], [0, 1, 2, 3, 4, 5, 6, 7, 8, 9, 10, 11, 12, 13, 14, 15, 16, 17, 18, 19, 20, 21], [0, 1, 2, 3, 4, 5, 6, 7, 8, 9, 10, 11, 12, 13, 14, 15, 16, 17, 18, 19, 20, 21, 22], [0, 1, 2, 3, 4, 5, 6, 7, 8, 9, 10, 11, 12, 13, 14, 15, 16, 17, 18, 19, 20, 21], [0, 1, 2, 3, 4, 5, 6, 7, 8, 9, 10, 11, 12, 13, 14, 15, 16, 17, 18, 19, 20, 21, 22, 23, 24], [0, 1, 2, 3, 4, 5, 6, 7, 8, 9, 10, 11, 12, 13, 14, 15, 16, 17, 18, 19, 20, 21, 22, 23, 24, 25], [0, 1, 2, 3, 4, 5, 6, 7, 8, 9, 10, 11, 12, 13, 14, 15, 16, 17, 18, 19, 20, 21, 22, 23, 24, 25, 26], [0, 1, 2, 3, 4, 5, 6, 7, 8, 9, 10, 11, 12, 13, 14, 15, 16, 17, 18, 19, 20, 21, 22, 23, 24, 25, 26, 27], [0, 1, 2, 3, 4, 5, 6, 7, 8, 9, 10, 11, 12, 13, 14, 15, 16, 17, 18, 19, 20, 21, 22, 23, 24, 25, 26, 27, 28]] [38, 39, 40, 41, 42, 43, 44, 45, 46, 47, 48, 49, 50, 51, 52, 53, 54, 55, 56, 57, 58, 59, 60, 61, 62, 63, 64, 65, 66, 67] [] (by kernel_rfl) (by kernel_rfl)
      · (apply drawG_put rfl; (intro S1 hS; exact stp_fieldAddr (d := 0) rfl (hS.op rfl) (hS.ch _ _ rfl) (by as_aux_lemma => kernel_rfl)))
        (apply drawG_put rfl; (intro S1 hS; exact stp_loadF rfl (by as_aux_lemma => kernel_rfl) (hS.op rfl) (hS.ch _ _ rfl) rfl rfl))
        (apply drawG_put rfl; (intro S1 hS; exact stp_move rfl (hS.op rfl)))
        (apply drawG_put rfl; (intro S1 hS; exact stp_ix (j := i) rfl (hS.op rfl) (hS.op rfl) (hS.ch _ _ rfl) rfl (by as_aux_lemma => kernel_rfl) rfl hiz (Nat.le_of_eq hlen.symm)))
        (apply drawG_put rfl; (intro S1 hS; exact stp_loadR rfl (by as_aux_lemma => kernel_rfl) (hS.op rfl) (hS.ch _ _ rfl) rfl hrowi hilm))
        (apply drawG_put rfl; (intro S1 hS; exact stp_len rfl (hS.op rfl) rfl (by as_aux_lemma => kernel_rfl)))
        (apply drawG_put rfl; (intro S1 hS; exact stp_fieldAddr (d := 0) rfl (hS.op rfl) (hS.ch _ _ rfl) (by as_aux_lemma => kernel_rfl)))
        (apply drawG_put rfl; (intro S1 hS; exact stp_loadF rfl (by as_aux_lemma => kernel_rfl) (hS.op rfl) (hS.ch _ _ rfl) rfl rfl))
        (apply drawG_put rfl; (intro S1 hS; exact stp_ix (j := 0) rfl (hS.op rfl) (hS.op rfl) (hS.ch _ _ rfl) rfl (by as_aux_lemma => kernel_rfl) rfl hpos (Nat.le_of_eq hlen.symm)))
        (apply drawG_put rfl; (intro S1 hS; exact stp_loadR rfl (by as_aux_lemma => kernel_rfl) (hS.op rfl) (hS.ch _ _ rfl) rfl hrow0 hil))
        (apply drawG_put rfl; (intro S1 hS; exact stp_len rfl (hS.op rfl) rfl (by as_aux_lemma => kernel_rfl)))
        (apply drawG_put rfl; (intro S1 hS; exact stp_bin rfl (hS.op rfl) (hS.op rfl) (binNeq e1)))
        (apply drawG_put rfl; (intro S1 hS; exact stp_move rfl (hS.op rfl)))
        apply drawG_no rfl rfl rfl rfl rfl
        apply drawG_no rfl rfl rfl rfl rfl
        apply drawG_no rfl rfl rfl rfl rfl
        apply drawG_no rfl rfl rfl rfl rfl
        apply drawG_no rfl rfl rfl rfl rfl
        apply drawG_no rfl rfl rfl rfl rfl
        apply drawG_no rfl rfl rfl rfl rfl
        (apply drawG_put rfl; (intro S1 hS; exact stp_pickT rfl (hS.op rfl) (hS.op rfl)))
        (apply drawG_put rfl; (intro S1 hS; exact stp_move rfl (hS.op rfl)))
        apply drawG_no rfl rfl rfl rfl rfl
        apply drawG_no rfl rfl rfl rfl rfl
        apply drawG_no rfl rfl rfl rfl rfl
        apply drawG_no rfl rfl rfl rfl rfl
        apply drawG_no rfl rfl rfl rfl rfl
        apply drawG_no rfl rfl rfl rfl rfl
        apply drawG_no rfl rfl rfl rfl rfl
        (apply drawG_put rfl; (intro S1 hS; exact stp_pickT rfl (hS.op rfl) (hS.op rfl)))
        exact DrawG.nil
      · rfl
      ((refine rest_done (by as_aux_lemma => kernel_rfl) ?_; skip))
      (refine fin_seq ?_)
      refine goes_cond rfl (fun _ => ?_) (fun e => by cases e)
      rw [manB_no (fun h => by have := h.len i hiz; omega)]
      (refine goes_seq ?_; refine goes_region ?_; apply run_step rfl; (exact stp_assign rfl rfl); refine run_nil ?_; refine fin_seq ?_; refine goes_ret ?_; refine fin_ret_block ?_; refine fin_ret_then ?_; refine fin_ret_then ?_; refine fin_ret_block ?_; refine fin_ret_then ?_)
      exact fin_ret1 (.inl rfl) rfl (.tmp rfl) trivial trivial
  obtain rfl : i = zss.length := by omega
  have hrn : Rows zss n zss.length := hrows
  have hT := rows_leads hrn
  have hB := rows_back hrn
  (refine goes_exit ?_; refine fin_exit_then ?_; refine fin_exit_then ?_; refine fin_exit_eq ?_; refine fin_seq ?_; refine goes_seq ?_; refine goes_seq ?_; refine goes_region ?_; apply run_step rfl; (exact stp_assign rfl rfl); refine run_nil ?_; refine fin_seq ?_; refine goes_block ?_)
  refine goes_loop (fun i : Nat => St.of [(1, o1 (.ptr 1 0)), (3, vv (I6 zss.length)), (5, vv (I6 i))] [(1003, rowsRo zss), (1, mxB zss.length)]) (fun i => i ≤ zss.length ∧ ∀ i' k, i' < i → i' + 2 ≤ k → k < zss.length → ∀ f, f < n → commAt zss i' k f) (fun i => zss.length - i) 0 ⟨Nat.zero_le _, fun j k hj => absurd hj (by omega)⟩ (Wk.of ⟨rfl, rfl, rfl, trivial⟩ ⟨rfl, rfl, trivial⟩ trivial) ?_
  clear hi hrows hlt
  rintro i ⟨hi, hci⟩
  (refine goes_seq ?_; refine goes_seq ?_; refine goes_region ?_; apply run_step rfl; (exact stp_move rfl rfl); apply run_step rfl; (exact stp_move rfl rfl); apply run_step rfl; (exact stp_bin rfl rfl rfl rfl); refine run_nil ?_; refine fin_seq ?_)
  refine goes_if rfl (fun hlt => ?_) (fun hlt => ?_)
  · have hiz : i < zss.length := by omega
    have hrowi : (irows zss)[i]? = some (ivals (lget zss i)) := irows_get hiz
    have hilm : (ivals (lget zss i)).length = n := by rw [ivals_len]; exact (hrn i hiz).1
    have hi2 : ((i : Int) + 2) = ((i + 2 : Nat) : Int) := by omega
    (refine goes_skip ?_; refine fin_seq ?_; refine goes_seq ?_; refine goes_block ?_; refine goes_seq ?_; refine goes_region ?_; apply run_step rfl; (exact stp_move rfl rfl); apply run_step rfl; (exact stp_add rfl rfl rfl (by first | exact IntWalk.i64_in _ (by omega) | rfl)); apply run_step rfl; (exact stp_assign rfl rfl); refine run_nil ?_; refine fin_seq ?_; refine goes_block ?_)
    refine goes_loop (fun k : Nat => St.of [(1, o1 (.ptr 1 0)), (3, vv (I6 zss.length)), (5, vv (I6 i)), (6, vv (I6 k))] [(1003, rowsRo zss), (1, mxB zss.length)]) (fun k => i + 2 ≤ k ∧ ∀ k', i + 2 ≤ k' → k' < k → k' < zss.length → ∀ f, f < n → commAt zss i k' f) (fun k => zss.length + 2 - k) (i + 2) ⟨Nat.le_refl _, fun k' h1 h2 => absurd h1 (by omega)⟩ (Wk.of ⟨rfl, rfl, rfl, congrArg (fun z => some (vv (I6 z))) hi2, trivial⟩ ⟨rfl, rfl, trivial⟩ trivial) ?_
    rintro k ⟨hk, hck⟩
    (refine goes_seq ?_; refine goes_seq ?_; refine goes_region ?_; apply run_step rfl; (exact stp_move rfl rfl); apply run_step rfl; (exact stp_move rfl rfl); apply run_step rfl; (exact stp_bin rfl rfl rfl rfl); refine run_nil ?_; refine fin_seq ?_)
    refine goes_if rfl (fun hlk => ?_) (fun hlk => ?_)
    · have hkz : k < zss.length := by omega
      have hrowk : (irows zss)[k]? = some (ivals (lget zss k)) := irows_get hkz
      have hilk : (ivals (lget zss k)).length = n := by rw [ivals_len]; exact (hrn k hkz).1
      (refine goes_skip ?_; refine fin_seq ?_; refine goes_seq ?_; refine goes_block ?_; refine goes_seq ?_; refine goes_region ?_; apply run_step rfl; (exact stp_assign rfl rfl); refine run_nil ?_; refine fin_seq ?_; refine goes_block ?_)
      refine goes_loop (fun f : Nat => St.of [(1, o1 (.ptr 1 0)), (3, vv (I6 zss.length)), (5, vv (I6 i)), (6, vv (I6 k)), (7, vv (I6 f))] [(1003, rowsRo zss), (1, mxB zss.length)]) (fun f => f ≤ n ∧ ∀ f', f' < f → commAt zss i k f') (fun f => n - f) 0 ⟨Nat.zero_le _, fun f' h1 => absurd h1 (by omega)⟩ (Wk.of ⟨rfl, rfl, rfl, rfl, rfl, trivial⟩ ⟨rfl, rfl, trivial⟩ trivial) ?_
      rintro f ⟨hf, hcf⟩
      (refine goes_seq ?_; refine goes_seq ?_; refine goes_region ?_; apply run_step rfl; (exact stp_move rfl rfl); apply run_step rfl; (exact stp_fieldAddr (d := 0) rfl rfl rfl (by as_aux_lemma => kernel_rfl)); apply run_step rfl; (exact stp_loadF rfl (by as_aux_lemma => kernel_rfl) rfl rfl rfl rfl); apply run_step rfl; (first | exact stp_ix (j := 0) rfl rfl rfl rfl rfl (by as_aux_lemma => kernel_rfl) rfl hpos (Nat.le_of_eq hlen.symm) | exact stp_loadR rfl (by as_aux_lemma => kernel_rfl) rfl rfl rfl hrow0 hil); apply run_step rfl; (first | exact stp_ix (j := 0) rfl rfl rfl rfl rfl (by as_aux_lemma => kernel_rfl) rfl hpos (Nat.le_of_eq hlen.symm) | exact stp_loadR rfl (by as_aux_lemma => kernel_rfl) rfl rfl rfl hrow0 hil); apply run_step rfl; (exact stp_len rfl rfl rfl (by as_aux_lemma => kernel_rfl)); apply run_step rfl; (exact stp_bin rfl rfl rfl rfl); refine run_nil ?_; refine fin_seq ?_)
      refine goes_if rfl (fun hlf => ?_) (fun hlf => ?_)
      · have hfn : f < n := by omega
        have hd1 := bTo_lt hT hfn (g := i) hiz
        have hd2 := bTo_lt hT hfn (g := k) hkz
        have hx1 := bTo_lt hT hd1.1 (g := k) hkz
        have hx2 := bTo_lt hT hd2.1 (g := i) hiz
        have hcm : commAt zss i k f ↔ bTo zss (bTo zss f i) k = bTo zss (bTo zss f k) i ∧ bTo zss f i ≠ bTo zss f k := Iff.rfl
        generalize bTo zss (bTo zss f i) k = x1 at *
        generalize bTo zss (bTo zss f k) i = x2 at *
        generalize bTo zss f i = d1 at *
        generalize bTo zss f k = d2 at *
        have g1 : (ivals (lget zss i))[f]? = some (I6 (d1 : Int)) := by rw [ivals_get (by rw [(hrn i hiz).1]; exact hfn), hd1.2]
        have g2 : (ivals (lget zss k))[f]? = some (I6 (d2 : Int)) := by rw [ivals_get (by rw [(hrn k hkz).1]; exact hfn), hd2.2]
        have g3 : (ivals (lget zss k))[d1]? = some (I6 (x1 : Int)) := by rw [ivals_get (by rw [(hrn k hkz).1]; exact hd1.1), hx1.2]
        have g4 : (ivals (lget zss i))[d2]? = some (I6 (x2 : Int)) := by rw [ivals_get (by rw [(hrn i hiz).1]; exact hd2.1), hx2.2]
        have hni : n ≤ (ivals (lget zss i)).length := Nat.le_of_eq hilm.symm
        have hnk : n ≤ (ivals (lget zss k)).length := Nat.le_of_eq hilk.symm
        (refine goes_skip ?_; refine fin_seq ?_; refine goes_seq ?_; refine goes_block ?_; refine goes_seq ?_)
        by_cases e1 : (x1 : Int) = x2
        · apply goes_drawG 50 [] [[], [0], [], [0, 1, 2], [0, 1, 2, 3], [], [5], [], [5, 6, 7], [5, 6, 7, 8], [], [5, 6, 7, 8, 9, 10], [5, 6, 7, 8, 9, 10, 11], [0, 1, 2, 3, 4, 5, 6, 7, 8, 9, 10, 11, 12], [0, 1, 2, 3, 4, 5, 6, 7, 8, 9, 10, 11, 12, 13], [], [15], [], [15, 16, 17], [15, 16, 17, 18], [], [20], [], [20, 21, 22], [20, 21, 22, 23], [], [20, 21, 22, 23, 24, 25], [20, 21, 22, 23, 24, 25, 26], [15, 16, 17, 18, 19, 20, 21, 22, 23, 24, 25, 26, 27], [15, 16, 17, 18, 19, 20, 21, 22, 23, 24, 25, 26, 27, 28], [0, 1, 2, 3, 4, 5, 6, 7, 8, 9, 10, 11, 12, 13, 14, 15, 16, 17, 18, 19, 20, 21, 22, 23, 24, 25, 26, 27, 28, 29], [0, 1, 2, 3, 4, 5, 6, 7, 8, 9, 10, 11, 12, 13, 14, 15, 16, 17, 18, 19, 20, 21, 22, 23, 24, 25, 26, 27, 28, 29, 30], [0, 1, 2, 3, 4, 5, 6, 7, 8, 9, 10, 11, 12, 13, 14, 15, 16, 17, 18, 19, 20, 21, 22, 23, 24, 25, 26, 27, 28, 29, 30, 31], [0, 1, 2, 3, 4, 5, 6, 7, 8, 9, 10, 11, 12, 13, 14, 15, 16, 17, 18, 19, 20, 21, 22, 23, 24, 25, 26, 27, 28, 29, 30, 31, 32], [0, 1, 2, 3, 4, 5, 6, 7, 8, 9, 10, 11, 12, 13, 14, 15, 16, 17, 18, 19, 20, 21, 22, 23, 24, 25, 26, 27, 28, 29, 30, 31], [0, 1, 2, 3, 4, 5, 6, 7, 8, 9, 10, 11, 12, 13, 14, 15, 16, 17, 18, 19, 20, 21, 22, 23, 24, 25, 26, 27, 28, 29, 30, 31, 32, 33, 34], [0, 1, 2, 3, 4, 5, 6, 7, 8, 9, 10, 11, 12, 13, 14, 15, 16, 17, 18, 19, 20, 21, 22, 23, 24, 25, 26, 27, 28, 29, 30, 31, 32, 33, 34, 35], [0, 1, 2, 3, 4, 5, 6, 7, 8, 9, 10, 11, 12, 13, 14, 15, 16, 17, 18, 19, 20, 21, 22, 23, 24, 25, 26, 27, 28, 29, 30, 31], [0, 1, 2, 3, 4, 5, 6, 7, 8, 9, 10, 11, 12, 13, 14, 15, 16, 17, 18, 19, 20, 21, 22, 23, 24, 25, 26, 27, 28, 29, 30, 31, 32, 33, 34, 35, 36, 37], [0, 1, 2, 3, 4, 5, 6, 7, 8, 9, 10, 11, 12, 13, 14, 15, 16, 17, 18, 19, 20, 21, 22, 23, 24, 25, 26, 27, 28, 29, 30, 31, 32, 33, 34, 35, 36, 37, 38], [0, 1, 2, 3, 4, 5, 6, 7, 8, 9, 10, 11, 12, 13, 14, 15, 16, 17, 18, 19, 20, 21, 22, 23, 24, 25, 26, 27, 28, 29, 30, 31], [0, 1, 2, 3, 4, 5, 6, 7, 8, 9, 10, 11, 12, 13, 14, 15, 16, 17, 18, 19, 20, 21, 22, 23, 24, 25, 26, 27, 28, 29, 30, 31, 40], [0, 1, 2, 3, 4, 5, 6, 7, 8, 9, 10, 11, 12, 13, 14, 15, 16, 17, 18, 19, 20, 21, 22, 23, 24, 25, 26, 27, 28, 29, 30, 31], [0, 1, 2, 3, 4, 5, 6, 7, 8, 9, 10, 11, 12, 13, 14, 15, 16, 17, 18, 19, 20, 21, 22, 23, 24, 25, 26, 27, 28, 29, 30, 31, 40, 41, 42], [0, 1, 2, 3, 4, 5, 6, 7, 8, 9, 10, 11, 12, 13, 14, 15, 16, 17, 18, 19, 20, 21, 22, 23, 24, 25, 26, 27, 28, 29, 30, 31, 40, 41, 42, 43], [0, 1, 2, 3, 4, 5, 6, 7, 8, 9, 10, 11, 12, 13, 14, 15, 16, 17, 18, 19, 20, 21, 22, 23, 24, 25, 26, 27, 28, 29, 30, 31], [0, 1, 2, 3, 4, 5, 6, 7, 8, 9, 10, 11, 12, 13, 14, 15, 16, 17, 18, 19, 20, 21, 22, 23, 24, 25, 26, 27, 28, 29, 30, 31, 40, 41, 42, 43, 44, 45], [0, 1, 2, 3, 4, 5, 6, 7, 8, 9, 10, 11, 12, 13, 14, 15, 16, 17, 18, 19, 20, 21, 22, 23, 24, 25, 26, 27, 28, 29, 30, 31, 40, 41, 42, 43, 44, 45, 46], [0, 1, 2, 3, 4, 5, 6, 7, 8, 9, 10, 11, 12, 13, 14, 15, 16, 17, 18, 19, 20, 21, 22, 23, 24, 25, 26, 27, 28, 29, 30, 31, 32, 33, 34, 35, 36, 37, 38, 39, 40, 41, 42, 43, 44, 45, 46, 47], [0, 1, 2, 3, 4, 5, 6, 7, 8, 9, 10, 11, 12, 13, 14, 15, 16, 17, 18, 19, 20, 21, 22, 23, 24, 25, 26, 27, 28, 29, 30, 31, 32, 33, 34, 35, 36, 37, 38, 39, 40, 41, 42, 43, 44, 45, 46, 47, 48]] [89, 90, 91, 92, 93, 94, 95, 96, 97, 98, 99, 100, 101, 102, 103, 104, 105, 106, 107, 108, 109, 110, 111, 112, 113, 114, 115, 116, 117, 118, 119, 120, 121, 122, 123, 124, 125, 126, 127, 128, 129, 130, 131, 132, 133, 134, 135, 136, 137, 138] [] (by kernel_rfl) (by kernel_rfl)
          · (apply drawG_put rfl; (intro S1 hS; exact stp_fieldAddr (d := 0) rfl (hS.op rfl) (hS.ch _ _ rfl) (by as_aux_lemma => kernel_rfl)))
            (apply drawG_put rfl; (intro S1 hS; exact stp_loadF rfl (by as_aux_lemma => kernel_rfl) (hS.op rfl) (hS.ch _ _ rfl) rfl rfl))
            (apply drawG_put rfl; (intro S1 hS; exact stp_move rfl (hS.op rfl)))
            (apply drawG_put rfl; (intro S1 hS; exact stp_ix (j := k) rfl (hS.op rfl) (hS.op rfl) (hS.ch _ _ rfl) rfl (by as_aux_lemma => kernel_rfl) rfl hkz (Nat.le_of_eq hlen.symm)))
            (apply drawG_put rfl; (intro S1 hS; exact stp_loadR rfl (by as_aux_lemma => kernel_rfl) (hS.op rfl) (hS.ch _ _ rfl) rfl hrowk hilk))
            (apply drawG_put rfl; (intro S1 hS; exact stp_fieldAddr (d := 0) rfl (hS.op rfl) (hS.ch _ _ rfl) (by as_aux_lemma => kernel_rfl)))
            (apply drawG_put rfl; (intro S1 hS; exact stp_loadF rfl (by as_aux_lemma => kernel_rfl) (hS.op rfl) (hS.ch _ _ rfl) rfl rfl))
            (apply drawG_put rfl; (intro S1 hS; exact stp_move rfl (hS.op rfl)))
            (apply drawG_put rfl; (intro S1 hS; exact stp_ix (j := i) rfl (hS.op rfl) (hS.op rfl) (hS.ch _ _ rfl) rfl (by as_aux_lemma => kernel_rfl) rfl hiz (Nat.le_of_eq hlen.symm)))
            (apply drawG_put rfl; (intro S1 hS; exact stp_loadR rfl (by as_aux_lemma => kernel_rfl) (hS.op rfl) (hS.ch _ _ rfl) rfl hrowi hilm))
            (apply drawG_put rfl; (intro S1 hS; exact stp_move rfl (hS.op rfl)))
            (apply drawG_put rfl; (intro S1 hS; exact stp_ixE (j := f) rfl (hS.op rfl) (hS.op rfl) (hS.ch _ _ rfl) rfl (by as_aux_lemma => kernel_rfl) hrowi rfl hfn hni))
            (apply drawG_put rfl; (intro S1 hS; exact stp_loadE' rfl (by as_aux_lemma => kernel_rfl) (hS.op rfl) (hS.ch _ _ rfl) rfl hrowi g1))
            (apply drawG_put rfl; (intro S1 hS; exact stp_ixE (j := d1) rfl (hS.op rfl) (hS.op rfl) (hS.ch _ _ rfl) rfl (by as_aux_lemma => kernel_rfl) hrowk rfl hd1.1 hnk))
            (apply drawG_put rfl; (intro S1 hS; exact stp_loadE' rfl (by as_aux_lemma => kernel_rfl) (hS.op rfl) (hS.ch _ _ rfl) rfl hrowk g3))
            (apply drawG_put rfl; (intro S1 hS; exact stp_fieldAddr (d := 0) rfl (hS.op rfl) (hS.ch _ _ rfl) (by as_aux_lemma => kernel_rfl)))
            (apply drawG_put rfl; (intro S1 hS; exact stp_loadF rfl (by as_aux_lemma => kernel_rfl) (hS.op rfl) (hS.ch _ _ rfl) rfl rfl))
            (apply drawG_put rfl; (intro S1 hS; exact stp_move rfl (hS.op rfl)))
            (apply drawG_put rfl; (intro S1 hS; exact stp_ix (j := i) rfl (hS.op rfl) (hS.op rfl) (hS.ch _ _ rfl) rfl (by as_aux_lemma => kernel_rfl) rfl hiz (Nat.le_of_eq hlen.symm)))
            (apply drawG_put rfl; (intro S1 hS; exact stp_loadR rfl (by as_aux_lemma => kernel_rfl) (hS.op rfl) (hS.ch _ _ rfl) rfl hrowi hilm))
            (apply drawG_put rfl; (intro S1 hS; exact stp_fieldAddr (d := 0) rfl (hS.op rfl) (hS.ch _ _ rfl) (by as_aux_lemma => kernel_rfl)))
            (apply drawG_put rfl; (intro S1 hS; exact stp_loadF rfl (by as_aux_lemma => kernel_rfl) (hS.op rfl) (hS.ch _ _ rfl) rfl rfl))
            (apply drawG_put rfl; (intro S1 hS; exact stp_move rfl (hS.op rfl)))
            (apply drawG_put rfl; (intro S1 hS; exact stp_ix (j := k) rfl (hS.op rfl) (hS.op rfl) (hS.ch _ _ rfl) rfl (by as_aux_lemma => kernel_rfl) rfl hkz (Nat.le_of_eq hlen.symm)))
            (apply drawG_put rfl; (intro S1 hS; exact stp_loadR rfl (by as_aux_lemma => kernel_rfl) (hS.op rfl) (hS.ch _ _ rfl) rfl hrowk hilk))
            (apply drawG_put rfl; (intro S1 hS; exact stp_move rfl (hS.op rfl)))
            (apply drawG_put rfl; (intro S1 hS; exact stp_ixE (j := f) rfl (hS.op rfl) (hS.op rfl) (hS.ch _ _ rfl) rfl (by as_aux_lemma => kernel_rfl) hrowk rfl hfn hnk))
            (apply drawG_put rfl; (intro S1 hS; exact stp_loadE' rfl (by as_aux_lemma => kernel_rfl) (hS.op rfl) (hS.ch _ _ rfl) rfl hrowk g2))
            (apply drawG_put rfl; (intro S1 hS; exact stp_ixE (j := d2) rfl (hS.op rfl) (hS.op rfl) (hS.ch _ _ rfl) rfl (by as_aux_lemma => kernel_rfl) hrowi rfl hd2.1 hni))
            (apply drawG_put rfl; (intro S1 hS; exact stp_loadE' rfl (by as_aux_lemma => kernel_rfl) (hS.op rfl) (hS.ch _ _ rfl) rfl hrowi g4))
            (apply drawG_put rfl; (intro S1 hS; exact stp_bin rfl (hS.op rfl) (hS.op rfl) (binNeq' e1)))
            (apply drawG_put rfl; (intro S1 hS; exact stp_move rfl (hS.op rfl)))
            (apply drawG_yes rfl rfl rfl; (intro S1 hS; exact stp_fieldAddr (d := 0) rfl (hS.op rfl) (hS.ch _ _ rfl) (by as_aux_lemma => kernel_rfl)))
            (apply drawG_yes rfl rfl rfl; (intro S1 hS; exact stp_loadF rfl (by as_aux_lemma => kernel_rfl) (hS.op rfl) (hS.ch _ _ rfl) rfl rfl))
            (apply drawG_yes rfl rfl rfl; (intro S1 hS; exact stp_move rfl (hS.op rfl)))
            (apply drawG_yes rfl rfl rfl; (intro S1 hS; exact stp_ix (j := i) rfl (hS.op rfl) (hS.op rfl) (hS.ch _ _ rfl) rfl (by as_aux_lemma => kernel_rfl) rfl hiz (Nat.le_of_eq hlen.symm)))
            (apply drawG_yes rfl rfl rfl; (intro S1 hS; exact stp_loadR rfl (by as_aux_lemma => kernel_rfl) (hS.op rfl) (hS.ch _ _ rfl) rfl hrowi hilm))
            (apply drawG_yes rfl rfl rfl; (intro S1 hS; exact stp_move rfl (hS.op rfl)))
            (apply drawG_yes rfl rfl rfl; (intro S1 hS; exact stp_ixE (j := f) rfl (hS.op rfl) (hS.op rfl) (hS.ch _ _ rfl) rfl (by as_aux_lemma => kernel_rfl) hrowi rfl hfn hni))
            (apply drawG_yes rfl rfl rfl; (intro S1 hS; exact stp_loadE' rfl (by as_aux_lemma => kernel_rfl) (hS.op rfl) (hS.ch _ _ rfl) rfl hrowi g1))
            (apply drawG_yes rfl rfl rfl; (intro S1 hS; exact stp_fieldAddr (d := 0) rfl (hS.op rfl) (hS.ch _ _ rfl) (by as_aux_lemma => kernel_rfl)))
            (apply drawG_yes rfl rfl rfl; (intro S1 hS; exact stp_loadF rfl (by as_aux_lemma => kernel_rfl) (hS.op rfl) (hS.ch _ _ rfl) rfl rfl))
            (apply drawG_yes rfl rfl rfl; (intro S1 hS; exact stp_move rfl (hS.op rfl)))
            (apply drawG_yes rfl rfl rfl; (intro S1 hS; exact stp_ix (j := k) rfl (hS.op rfl) (hS.op rfl) (hS.ch _ _ rfl) rfl (by as_aux_lemma => kernel_rfl) rfl hkz (Nat.le_of_eq hlen.symm)))
            (apply drawG_yes rfl rfl rfl; (intro S1 hS; exact stp_loadR rfl (by as_aux_lemma => kernel_rfl) (hS.op rfl) (hS.ch _ _ rfl) rfl hrowk hilk))
            (apply drawG_yes rfl rfl rfl; (intro S1 hS; exact stp_move rfl (hS.op rfl)))
            (apply drawG_yes rfl rfl rfl; (intro S1 hS; exact stp_ixE (j := f) rfl (hS.op rfl) (hS.op rfl) (hS.ch _ _ rfl) rfl (by as_aux_lemma => kernel_rfl) hrowk rfl hfn hnk))
            (apply drawG_yes rfl rfl rfl; (intro S1 hS; exact stp_loadE' rfl (by as_aux_lemma => kernel_rfl) (hS.op rfl) (hS.ch _ _ rfl) rfl hrowk g2))
            (apply drawG_yes rfl rfl rfl; (intro S1 hS; exact stp_bin rfl (hS.op rfl) (hS.op rfl) rfl))
            (apply drawG_put rfl; (intro S1 hS; exact stp_pickF rfl (hS.op rfl) (hS.op rfl)))
            exact DrawG.nil
          · rfl
          ((refine rest_done (by as_aux_lemma => kernel_rfl) ?_; skip))
          (refine fin_seq ?_)
          refine goes_cond rfl (fun e2 => ?_) (fun e2 => ?_)
          · have e2 : (d1 : Int) = d2 := by simpa using e2
            rw [manB_no (fun h => by have := (hcm.1 (h.comm i k hk hkz f (by omega))).2; omega)]
            (refine goes_seq ?_; refine goes_region ?_; apply run_step rfl; (exact stp_assign rfl rfl); refine run_nil ?_; refine fin_seq ?_; refine goes_ret ?_; refine fin_ret_block ?_; refine fin_ret_then ?_; refine fin_ret_then ?_; refine fin_ret_block ?_; refine fin_ret_block ?_; refine fin_ret_then ?_; refine fin_ret_then ?_; refine fin_ret_block ?_; refine fin_ret_block ?_; refine fin_ret_then ?_; refine fin_ret_then ?_; refine fin_ret_block ?_; refine fin_ret_then ?_)
            exact fin_ret1 (.inl rfl) rfl (.tmp rfl) trivial trivial
          · have e2 : (d1 : Int) ≠ d2 := by simpa using e2
            (refine goes_skip ?_; refine fin_block ?_; refine fin_seq ?_; refine goes_region ?_; apply run_step rfl; (exact stp_move rfl rfl); apply run_step rfl; (exact stp_add rfl rfl rfl (by first | exact IntWalk.i64_in _ (by omega) | rfl)); apply run_step rfl; (exact stp_assign rfl rfl); refine run_nil ?_)
            exact fin_round (f + 1) ⟨hfn, fun f' hf' => by
              by_cases e : f' = f
              · subst e; exact hcm.2 ⟨by omega, by omega⟩
              · exact hcf f' (by omega)⟩ (by omega) (Wk.of ⟨rfl, rfl, rfl, rfl, rfl, trivial⟩ ⟨rfl, rfl, trivial⟩ trivial)
        · apply goes_drawG 50 [] [[], [0], [], [0, 1, 2], [0, 1, 2, 3], [], [5], [], [5, 6, 7], [5, 6, 7, 8], [], [5, 6, 7, 8, 9, 10], [5, 6, 7, 8, 9, 10, 11], [0, 1, 2, 3, 4, 5, 6, 7, 8, 9, 10, 11, 12], [0, 1, 2, 3, 4, 5, 6, 7, 8, 9, 10, 11, 12, 13], [], [15], [], [15, 16, 17], [15, 16, 17, 18], [], [20], [], [20, 21, 22], [20, 21, 22, 23], [], [20, 21, 22, 23, 24, 25], [20, 21, 22, 23, 24, 25, 26], [15, 16, 17, 18, 19, 20, 21, 22, 23, 24, 25, 26, 27], [15, 16, 17, 18, 19, 20, 21, 22, 23, 24, 25, 26, 27, 28], [0, 1, 2, 3, 4, 5, 6, 7, 8, 9, 10, 11, 12, 13, 14, 15, 16, 17, 18, 19, 20, 21, 22, 23, 24, 25, 26, 27, 28, 29], [0, 1, 2, 3, 4, 5, 6, 7, 8, 9, 10, 11, 12, 13, 14, 15, 16, 17, 18, 19, 20, 21, 22, 23, 24, 25, 26, 27, 28, 29, 30], [0, 1, 2, 3, 4, 5, 6, 7, 8, 9, 10, 11, 12, 13, 14, 15, 16, 17, 18, 19, 20, 21, 22, 23, 24, 25, 26, 27, 28, 29, 30, 31], [0, 1, 2, 3, 4, 5, 6, 7, 8, 9, 10, 11, 12, 13, 14, 15, 16, 17, 18, 19, 20, 21, 22, 23, 24, 25, 26, 27, 28, 29, 30, 31, 32], [0, 1, 2, 3, 4, 5, 6, 7, 8, 9, 10, 11, 12, 13, 14, 15, 16, 17, 18, 19, 20, 21, 22, 23, 24, 25, 26, 27, 28, 29, 30, 31], [0, 1, 2, 3, 4, 5, 6, 7, 8, 9, 10, 11, 12, 13, 14, 15, 16, 17, 18, 19, 20, 21, 22, 23, 24, 25, 26, 27, 28, 29, 30, 31, 32, 33, 34], [0, 1, 2, 3, 4, 5, 6, 7, 8, 9, 10, 11, 12, 13, 14, 15, 16, 17, 18, 19, 20, 21, 22, 23, 24, 25, 26, 27, 28, 29, 30, 31, 32, 33, 34, 35], [0, 1, 2, 3, 4, 5, 6, 7, 8, 9, 10, 11, 12, 13, 14, 15, 16, 17, 18, 19, 20, 21, 22, 23, 24, 25, 26, 27, 28, 29, 30, 31], [0, 1, 2, 3, 4, 5, 6, 7, 8, 9, 10, 11, 12, 13, 14, 15, 16, 17, 18, 19, 20, 21, 22, 23, 24, 25, 26, 27, 28, 29, 30, 31, 32, 33, 34, 35, 36, 37], [0, 1, 2, 3, 4, 5, 6, 7, 8, 9, 10, 11, 12, 13, 14, 15, 16, 17, 18, 19, 20, 21, 22, 23, 24, 25, 26, 27, 28, 29, 30, 31, 32, 33, 34, 35, 36, 37, 38], [0, 1, 2, 3, 4, 5, 6, 7, 8, 9, 10, 11, 12, 13, 14, 15, 16, 17, 18, 19, 20, 21, 22, 23, 24, 25, 26, 27, 28, 29, 30, 31], [0, 1, 2, 3, 4, 5, 6, 7, 8, 9, 10, 11, 12, 13, 14, 15, 16, 17, 18, 19, 20, 21, 22, 23, 24, 25, 26, 27, 28, 29, 30, 31, 40], [0, 1, 2, 3, 4, 5, 6, 7, 8, 9, 10, 11, 12, 13, 14, 15, 16, 17, 18, 19, 20, 21, 22, 23, 24, 25, 26, 27, 28, 29, 30, 31], [0, 1, 2, 3, 4, 5, 6, 7, 8, 9, 10, 11, 12, 13, 14, 15, 16, 17, 18, 19, 20, 21, 22, 23, 24, 25, 26, 27, 28, 29, 30, 31, 40, 41, 42], [0, 1, 2, 3, 4, 5, 6, 7, 8, 9, 10, 11, 12, 13, 14, 15, 16, 17, 18, 19, 20, 21, 22, 23, 24, 25, 26, 27, 28, 29, 30, 31, 40, 41, 42, 43], [0, 1, 2, 3, 4, 5, 6, 7, 8, 9, 10, 11, 12, 13, 14, 15, 16, 17, 18, 19, 20, 21, 22, 23, 24, 25, 26, 27, 28, 29, 30, 31], [0, 1, 2, 3, 4, 5, 6, 7, 8, 9, 10, 11, 12, 13, 14, 15, 16, 17, 18, 19, 20, 21, 22, 23, 24, 25, 26, 27, 28, 29, 30, 31, 40, 41, 42, 43, 44, 45], [0, 1, 2, 3, 4, 5, 6, 7, 8, 9, 10, 11, 12, 13, 14, 15, 16, 17, 18, 19, 20, 21, 22, 23, 24, 25, 26, 27, 28, 29, 30, 31, 40, 41, 42, 43, 44, 45, 46], [0, 1, 2, 3, 4, 5, 6, 7, 8, 9, 10, 11, 12, 13, 14, 15, 16, 17, 18, 19, 20, 21, 22, 23, 24, 25, 26, 27, 28, 29, 30, 31, 32, 33, 34, 35, 36, 37, 38, 39, 40, 41, 42, 43, 44, 45, 46, 47], [0, 1, 2, 3, 4, 5, 6, 7, 8, 9, 10, 11, 12, 13, 14, 15, 16, 17, 18, 19, 20, 21, 22, 23, 24, 25, 26, 27, 28, 29, 30, 31, 32, 33, 34, 35, 36, 37, 38, 39, 40, 41, 42, 43, 44, 45, 46, 47, 48]] [89, 90, 91, 92, 93, 94, 95, 96, 97, 98, 99, 100, 101, 102, 103, 104, 105, 106, 107, 108, 109, 110, 111, 112, 113, 114, 115, 116, 117, 118, 119, 120, 121, 122, 123, 124, 125, 126, 127, 128, 129, 130, 131, 132, 133, 134, 135, 136, 137, 138] [] (by kernel_rfl) (by kernel_rfl)
          · (apply drawG_put rfl; (intro S1 hS; exact stp_fieldAddr (d := 0) rfl (hS.op rfl) (hS.ch _ _ rfl) (by as_aux_lemma => kernel_rfl)))
            (apply drawG_put rfl; (intro S1 hS; exact stp_loadF rfl (by as_aux_lemma => kernel_rfl) (hS.op rfl) (hS.ch _ _ rfl) rfl rfl))
            (apply drawG_put rfl; (intro S1 hS; exact stp_move rfl (hS.op rfl)))
            (apply drawG_put rfl; (intro S1 hS; exact stp_ix (j := k) rfl (hS.op rfl) (hS.op rfl) (hS.ch _ _ rfl) rfl (by as_aux_lemma => kernel_rfl) rfl hkz (Nat.le_of_eq hlen.symm)))
            (apply drawG_put rfl; (intro S1 hS; exact stp_loadR rfl (by as_aux_lemma => kernel_rfl) (hS.op rfl) (hS.ch _ _ rfl) rfl hrowk hilk))
            (apply drawG_put rfl; (intro S1 hS; exact stp_fieldAddr (d := 0) rfl (hS.op rfl) (hS.ch _ _ rfl) (by as_aux_lemma => kernel_rfl)))
            (apply drawG_put rfl; (intro S1 hS; exact stp_loadF rfl (by as_aux_lemma => kernel_rfl) (hS.op rfl) (hS.ch _ _ rfl) rfl rfl))
            (apply drawG_put rfl; (intro S1 hS; exact stp_move rfl (hS.op rfl)))
            (apply drawG_put rfl; (intro S1 hS; exact stp_ix (j := i) rfl (hS.op rfl) (hS.op rfl) (hS.ch _ _ rfl) rfl (by as_aux_lemma => kernel_rfl) rfl hiz (Nat.le_of_eq hlen.symm)))
            (apply drawG_put rfl; (intro S1 hS; exact stp_loadR rfl (by as_aux_lemma => kernel_rfl) (hS.op rfl) (hS.ch _ _ rfl) rfl hrowi hilm))
            (apply drawG_put rfl; (intro S1 hS; exact stp_move rfl (hS.op rfl)))
            (apply drawG_put rfl; (intro S1 hS; exact stp_ixE (j := f) rfl (hS.op rfl) (hS.op rfl) (hS.ch _ _ rfl) rfl (by as_aux_lemma => kernel_rfl) hrowi rfl hfn hni))
            (apply drawG_put rfl; (intro S1 hS; exact stp_loadE' rfl (by as_aux_lemma => kernel_rfl) (hS.op rfl) (hS.ch _ _ rfl) rfl hrowi g1))
            (apply drawG_put rfl; (intro S1 hS; exact stp_ixE (j := d1) rfl (hS.op rfl) (hS.op rfl) (hS.ch _ _ rfl) rfl (by as_aux_lemma => kernel_rfl) hrowk rfl hd1.1 hnk))
            (apply drawG_put rfl; (intro S1 hS; exact stp_loadE' rfl (by as_aux_lemma => kernel_rfl) (hS.op rfl) (hS.ch _ _ rfl) rfl hrowk g3))
            (apply drawG_put rfl; (intro S1 hS; exact stp_fieldAddr (d := 0) rfl (hS.op rfl) (hS.ch _ _ rfl) (by as_aux_lemma => kernel_rfl)))
            (apply drawG_put rfl; (intro S1 hS; exact stp_loadF rfl (by as_aux_lemma => kernel_rfl) (hS.op rfl) (hS.ch _ _ rfl) rfl rfl))
            (apply drawG_put rfl; (intro S1 hS; exact stp_move rfl (hS.op rfl)))
            (apply drawG_put rfl; (intro S1 hS; exact stp_ix (j := i) rfl (hS.op rfl) (hS.op rfl) (hS.ch _ _ rfl) rfl (by as_aux_lemma => kernel_rfl) rfl hiz (Nat.le_of_eq hlen.symm)))
            (apply drawG_put rfl; (intro S1 hS; exact stp_loadR rfl (by as_aux_lemma => kernel_rfl) (hS.op rfl) (hS.ch _ _ rfl) rfl hrowi hilm))
            (apply drawG_put rfl; (intro S1 hS; exact stp_fieldAddr (d := 0) rfl (hS.op rfl) (hS.ch _ _ rfl) (by as_aux_lemma => kernel_rfl)))
            (apply drawG_put rfl; (intro S1 hS; exact stp_loadF rfl (by as_aux_lemma => kernel_rfl) (hS.op rfl) (hS.ch _ _ rfl) rfl rfl))
            (apply drawG_put rfl; (intro S1 hS; exact stp_move rfl (hS.op rfl)))
            (apply drawG_put rfl; (intro S1 hS; exact stp_ix (j := k) rfl (hS.op rfl) (hS.op rfl) (hS.ch _ _ rfl) rfl (by as_aux_lemma => kernel_rfl) rfl hkz (Nat.le_of_eq hlen.symm)))
            (apply drawG_put rfl; (intro S1 hS; exact stp_loadR rfl (by as_aux_lemma => kernel_rfl) (hS.op rfl) (hS.ch _ _ rfl) rfl hrowk hilk))
            (apply drawG_put rfl; (intro S1 hS; exact stp_move rfl (hS.op rfl)))
            (apply drawG_put rfl; (intro S1 hS; exact stp_ixE (j := f) rfl (hS.op rfl) (hS.op rfl) (hS.ch _ _ rfl) rfl (by as_aux_lemma => kernel_rfl) hrowk rfl hfn hnk))
            (apply drawG_put rfl; (intro S1 hS; exact stp_loadE' rfl (by as_aux_lemma => kernel_rfl) (hS.op rfl) (hS.ch _ _ rfl) rfl hrowk g2))
            (apply drawG_put rfl; (intro S1 hS; exact stp_ixE (j := d2) rfl (hS.op rfl) (hS.op rfl) (hS.ch _ _ rfl) rfl (by as_aux_lemma => kernel_rfl) hrowi rfl hd2.1 hni))
            (apply drawG_put rfl; (intro S1 hS; exact stp_loadE' rfl (by as_aux_lemma => kernel_rfl) (hS.op rfl) (hS.ch _ _ rfl) rfl hrowi g4))
            (apply drawG_put rfl; (intro S1 hS; exact stp_bin rfl (hS.op rfl) (hS.op rfl) (binNeq e1)))
            (apply drawG_put rfl; (intro S1 hS; exact stp_move rfl (hS.op rfl)))
            apply drawG_no rfl rfl rfl rfl rfl
            apply drawG_no rfl rfl rfl rfl rfl
            apply drawG_no rfl rfl rfl rfl rfl
            apply drawG_no rfl rfl rfl rfl rfl
            apply drawG_no rfl rfl rfl rfl rfl
            apply drawG_no rfl rfl rfl rfl rfl
            apply drawG_no rfl rfl rfl rfl rfl
            apply drawG_no rfl rfl rfl rfl rfl
            apply drawG_no rfl rfl rfl rfl rfl
            apply drawG_no rfl rfl rfl rfl rfl
            apply drawG_no rfl rfl rfl rfl rfl
            apply drawG_no rfl rfl rfl rfl rfl
            apply drawG_no rfl rfl rfl rfl rfl
            apply drawG_no rfl rfl rfl rfl rfl
            apply drawG_no rfl rfl rfl rfl rfl
            apply drawG_no rfl rfl rfl rfl rfl
            apply drawG_no rfl rfl rfl rfl rfl
            (apply drawG_put rfl; (intro S1 hS; exact stp_pickT rfl (hS.op rfl) (hS.op rfl)))
            exact DrawG.nil
          · rfl
          ((refine rest_done (by as_aux_lemma => kernel_rfl) ?_; skip))
          (refine fin_seq ?_)
          refine goes_cond rfl (fun _ => ?_) (fun e => by cases e)
          rw [manB_no (fun h => by have := (hcm.1 (h.comm i k hk hkz f (by omega))).1; omega)]
          (refine goes_seq ?_; refine goes_region ?_; apply run_step rfl; (exact stp_assign rfl rfl); refine run_nil ?_; refine fin_seq ?_; refine goes_ret ?_; refine fin_ret_block ?_; refine fin_ret_then ?_; refine fin_ret_then ?_; refine fin_ret_block ?_; refine fin_ret_block ?_; refine fin_ret_then ?_; refine fin_ret_then ?_; refine fin_ret_block ?_; refine fin_ret_block ?_; refine fin_ret_then ?_; refine fin_ret_then ?_; refine fin_ret_block ?_; refine fin_ret_then ?_)
          exact fin_ret1 (.inl rfl) rfl (.tmp rfl) trivial trivial
      · (refine goes_exit ?_; refine fin_exit_then ?_; refine fin_exit_then ?_; refine fin_exit_eq ?_; refine fin_block ?_; refine fin_seq ?_; refine goes_region ?_; apply run_step rfl; (exact stp_move rfl rfl); apply run_step rfl; (exact stp_add rfl rfl rfl (by first | exact IntWalk.i64_in _ (by omega) | rfl)); apply run_step rfl; (exact stp_assign rfl rfl); refine run_nil ?_)
        exact fin_round (k + 1) ⟨by omega, fun k' h1 h2 h3 f' hf' => by
          by_cases e : k' = k
          · subst e; exact hcf f' (by omega)
          · exact hck k' h1 (by omega) h3 f' hf'⟩ (by omega) (Wk.of ⟨rfl, rfl, rfl, rfl, trivial⟩ ⟨rfl, rfl, trivial⟩ trivial)
    · (refine goes_exit ?_; refine fin_exit_then ?_; refine fin_exit_then ?_; refine fin_exit_eq ?_; refine fin_block ?_; refine fin_seq ?_; refine goes_region ?_; apply run_step rfl; (exact stp_move rfl rfl); apply run_step rfl; (exact stp_add rfl rfl rfl (by first | exact IntWalk.i64_in _ (by omega) | rfl)); apply run_step rfl; (exact stp_assign rfl rfl); refine run_nil ?_)
      exact fin_round (i + 1) ⟨hiz, fun i' k' h1 h2 h3 => by
        by_cases e : i' = i
        · subst e; exact hck k' h2 (by omega) h3
        · exact hci i' k' (by omega) h2 h3⟩ (by omega) (Wk.of ⟨rfl, rfl, rfl, trivial⟩ ⟨rfl, rfl, trivial⟩ trivial)
  obtain rfl : i = zss.length := by omega
  have hM : Man0 zss := ⟨by omega, by omega, by omega, by omega, by rw [hn]; exact hrn, fun i k h1 h2 f hf => hci i k (by omega) h1 h2 f (by omega)⟩
  have hO := (orbS_fc zss n 0 hT hpos (by omega) (by omega) (by omega)).nm [(1003, 1003), (12, 141)] (by kernel_rfl)
  have hO : FC Try.prog 177 [(1003, rowsRo zss)] [o1 (.sl 1003 0 zss.length), vv (I6 0)] [(141, leOw (orb zss n 0).2)] (o1 (.sl 141 0 (orb zss n 0).2.length)) [] := hO
  rw [hM.man, hn]
  (refine goes_exit ?_; refine fin_exit_then ?_; refine fin_exit_then ?_; refine fin_exit_eq ?_; refine fin_seq ?_; refine goes_seq ?_)
  apply goes_draw 11 [] [[], [0], [0, 1], [0, 1, 2], [], [4], [4, 5], [4, 5, 6], [4, 5, 6, 7], [0, 1, 2, 3, 4, 5, 6, 7, 8], [0, 1, 2, 3, 4, 5, 6, 7, 8, 9]] [139, 140, 141, 142, 143, 144, 145, 146, 147, 148, 2] [141] (by kernel_rfl) (by kernel_rfl)
  · (apply draw_put rfl; (intro S1 hS; exact stp_fieldAddr (d := 0) rfl (hS.op rfl) (hS.ch _ _ rfl) (by as_aux_lemma => kernel_rfl)))
    (apply draw_put rfl; (intro S1 hS; exact stp_loadF rfl (by as_aux_lemma => kernel_rfl) (hS.op rfl) (hS.ch _ _ rfl) rfl rfl))
    (apply draw_new rfl; (intro S1 hS; apply call_gate 177; exact stp_callN hO (by as_aux_lemma => kernel_rfl) rfl (opL_le hS rfl) ⟨rfl, rfl, trivial⟩ (allIn_le hS ⟨⟨_, rfl, .inl rfl⟩, trivial⟩) rfl rfl rfl))
    (apply draw_put rfl; (intro S1 hS; exact stp_len rfl (hS.op rfl) rfl (by as_aux_lemma => kernel_rfl)))
    (apply draw_put rfl; (intro S1 hS; exact stp_fieldAddr (d := 0) rfl (hS.op rfl) (hS.ch _ _ rfl) (by as_aux_lemma => kernel_rfl)))
    (apply draw_put rfl; (intro S1 hS; exact stp_loadF rfl (by as_aux_lemma => kernel_rfl) (hS.op rfl) (hS.ch _ _ rfl) rfl rfl))
    (apply draw_put rfl; (intro S1 hS; exact stp_ix (j := 0) rfl (hS.op rfl) (hS.op rfl) (hS.ch _ _ rfl) rfl (by as_aux_lemma => kernel_rfl) rfl hpos (Nat.le_of_eq hlen.symm)))
    (apply draw_put rfl; (intro S1 hS; exact stp_loadR rfl (by as_aux_lemma => kernel_rfl) (hS.op rfl) (hS.ch _ _ rfl) rfl hrow0 hil))
    (apply draw_put rfl; (intro S1 hS; exact stp_len rfl (hS.op rfl) rfl (by as_aux_lemma => kernel_rfl)))
    (apply draw_put rfl; (intro S1 hS; exact stp_bin rfl (hS.op rfl) (hS.op rfl) rfl))
    (apply draw_put rfl; (intro S1 hS; exact stp_assign rfl (hS.op rfl)))
    exact Draw.nil
  · rfl
  ((refine rest_done (by as_aux_lemma => kernel_rfl) ?_; skip))
  (refine fin_seq ?_; refine goes_ret ?_)
  exact fin_ret1 (.inl rfl) rfl (.tmp rfl) trivial trivial
end Go.Proofs.Ytpognnifgcacnaa

/- A search in depth numbers an orbit, on lists. No program in sight. -/
namespace Go.Proofs.Ytpognnifgcacnaa

def negc (L : List Int) : Nat := (L.filter fun z => decide (z < 0)).length
theorem negc_set : ∀ (L : List Int) (d : Nat) (z : Int), d < L.length → iget L d < 0 → 0 ≤ z → negc (L.set d z) + 1 = negc L
  | [], d, _, h, _, _ => by simp at h
  | a :: r, 0, z, _, h, hz => by
    have h : a < 0 := by simpa [iget] using h
    simp [negc, h, show ¬ z < 0 by omega]
  | a :: r, d + 1, z, hd, h, hz => by
    have ih := negc_set r d z (by simpa using hd) (by simpa [iget] using h) hz
    unfold negc at ih ⊢
    simp only [List.set_cons_succ, List.filter_cons]
    split
    · simp only [List.length_cons]; omega
    · exact ih
theorem iget_setD {L : List Int} {d e : Nat} {z : Int} : iget (L.set d z) e = if d = e ∧ d < L.length then z else iget L e := by
  simp only [iget, List.getD_eq_getElem?_getD, List.getElem?_set]
  by_cases h : d = e
  · subst h
    by_cases h2 : d < L.length
    · simp [h2]
    · simp [h2]
  · simp [h]
structure DOK (T : List (List Int)) (n i k : Nat) (L0 : List Int) (ex : Nat → Prop) (L st : List Int) : Prop where
  len : L.length = n
  st_ : ∀ z ∈ st, ∃ d : Nat, z = (d : Int) ∧ d < n ∧ rch T n i d = true ∧ iget L d = (k : Int)
  eq : ∀ d, d < n → iget L d = iget L0 d ∨ (iget L d = (k : Int) ∧ rch T n i d = true)
  self : iget L i = (k : Int)
  cl : ∀ d, d < n → rch T n i d = true → iget L d = (k : Int) → (d : Int) ∉ st → ¬ ex d → ∀ g, g < T.length → iget L (bTo T d g) = (k : Int)
section
variable {T : List (List Int)} {n i k : Nat} {L0 L st : List Int} {ex : Nat → Prop}
theorem dok_start (hT : Leads T n) (hi : i < n) (hl : L0.length = n) (hnew : ∀ d, d < n → rch T n i d = true → iget L0 d = -1) : DOK T n i k L0 (fun _ => False) (L0.set i (k : Int)) [(i : Int)] := by
  refine ⟨by simpa using hl, fun z hz => ?_, fun d hd => ?_, by rw [iget_setD, if_pos ⟨rfl, by omega⟩], fun d hd hr he hn => ?_⟩
  · obtain rfl : z = (i : Int) := by simpa using hz
    exact ⟨i, rfl, hi, rch_refl hT hi, by rw [iget_setD, if_pos ⟨rfl, by omega⟩]⟩
  · rw [iget_setD]
    split
    · rename_i h; obtain ⟨rfl, _⟩ := h; exact .inr ⟨rfl, rch_refl hT hi⟩
    · exact .inl rfl
  · exfalso
    have hne : i ≠ d := fun e => hn (by simp [e])
    rw [iget_setD, if_neg (fun h => hne h.1), hnew d hd hr] at he
    omega
theorem dok_pop {m x : Nat} (h : DOK T n i k L0 (fun _ => False) L st) (hm : st.length = m + 1) (hx : iget st m = (x : Int)) : DOK T n i k L0 (fun d => d = x) L (st.take m) := by
  refine ⟨h.len, fun z hz => h.st_ z (List.mem_of_mem_take hz), h.eq, h.self, fun d hd hr he hn hne => ?_⟩
  refine h.cl d hd hr he (fun hs => ?_) (fun f => f)
  have hst : st = st.take m ++ [(x : Int)] := by
    have := take_iget (zs := st) (k := m) (by omega)
    rw [hx, ← hm, List.take_length] at this; exact this
  rw [hst] at hs
  rcases List.mem_append.1 hs with hs | hs
  · exact hn hs
  · have : (d : Int) = x := by simpa using hs
    exact hne (by omega)
theorem dok_step {y : Nat} (h : DOK T n i k L0 ex L st) (hy : y < n) (hr : rch T n i y = true) (hl : iget L y < 0) : DOK T n i k L0 ex (L.set y (k : Int)) (st ++ [(y : Int)]) := by
  have hyl : y < L.length := by rw [h.len]; exact hy
  have keep : ∀ d, iget L d = (k : Int) → iget (L.set y (k : Int)) d = (k : Int) := fun d hd => by
    rw [iget_setD]; split
    · rfl
    · exact hd
  refine ⟨by rw [List.length_set]; exact h.len, fun z hz => ?_, fun d hd => ?_, keep i h.self, fun d hd hrd he hn hne => ?_⟩
  · rcases List.mem_append.1 hz with hz | hz
    · obtain ⟨d, h1, h2, h3, h4⟩ := h.st_ z hz
      exact ⟨d, h1, h2, h3, keep d h4⟩
    · obtain rfl : z = (y : Int) := by simpa using hz
      exact ⟨y, rfl, hy, hr, by rw [iget_setD, if_pos ⟨rfl, hyl⟩]⟩
  · rw [iget_setD]
    split
    · rename_i e; obtain ⟨rfl, _⟩ := e; exact .inr ⟨rfl, hr⟩
    · exact h.eq d hd
  · have hyd : y ≠ d := fun e => hn (by subst e; simp)
    rw [iget_setD, if_neg (fun e => hyd e.1)] at he
    exact fun g hg => keep _ (h.cl d hd hrd he (fun hs => hn (List.mem_append_left _ hs)) hne g hg)
theorem dok_end {x : Nat} (h : DOK T n i k L0 (fun d => d = x) L st) (hx : ∀ g, g < T.length → iget L (bTo T x g) = (k : Int)) : DOK T n i k L0 (fun _ => False) L st :=
  ⟨h.len, h.st_, h.eq, h.self, fun d hd hr he hn _ => by
    by_cases e : d = x
    · subst e; exact hx
    · exact h.cl d hd hr he hn e⟩
theorem dok_done (hT : Leads T n) (hi : i < n) (h : DOK T n i k L0 (fun _ => False) L []) : L = (labSet T n i (L0, k)).1 := by
  refine iget_ext (by rw [h.len, labSet_len]) fun d hd => ?_
  rw [h.len] at hd
  rw [labSet_get hd]
  have hall : ∀ d, d < n → rch T n i d = true → iget L d = (k : Int) :=
    fun d hd hr => (rch_in (p := fun d => iget L d = (k : Int) ∧ rch T n i d = true) hT hi ⟨h.self, rch_refl hT hi⟩ (fun e he hp g hg => ⟨h.cl e he hp.2 hp.1 (by simp) (fun f => f) g hg, rch_on hT hi he hp.2 hg⟩) d hd hr).1
  split
  · rename_i hr; exact hall d hd hr
  · rename_i hr
    rcases h.eq d hd with h1 | h1
    · exact h1
    · exact absurd h1.2 hr
end
end Go.Proofs.Ytpognnifgcacnaa

/- Contracts in names of small functions: size, slices.Repeat. -/
namespace Go.Proofs.Ytpognnifgcacnaa
open Go.RowKit

theorem sizeR_fc (x n : Nat) : FC Try.prog 145 [] [o1 (.sl x 0 n)] [] (vv (I6 n)) [] := by
  refine fc_enter (nt := 5) Try.func145 rfl rfl (by simp) fun w0 ω0 => ?_
  (refine goes_seq ?_; refine goes_region ?_; apply run_step rfl; (exact stp_assign rfl rfl); refine run_nil ?_; refine fin_seq ?_; refine goes_seq ?_; refine goes_region ?_; apply run_step rfl; (exact stp_move rfl rfl); apply run_step rfl; (exact stp_len rfl rfl rfl (by as_aux_lemma => kernel_rfl)); apply run_step rfl; (exact stp_assign rfl rfl); refine run_nil ?_; refine fin_seq ?_; refine goes_ret ?_)
  exact fin_ret1 (.inl rfl) rfl (.tmp rfl) trivial trivial
theorem sizeE_fc (x i n : Nat) : FC Try.prog 139 [] [o1 (.esl x i 0 n)] [] (vv (I6 n)) [] := by
  refine fc_enter (nt := 5) Try.func139 rfl rfl (by simp) fun w0 ω0 => ?_
  (refine goes_seq ?_; refine goes_region ?_; apply run_step rfl; (exact stp_assign rfl rfl); refine run_nil ?_; refine fin_seq ?_; refine goes_seq ?_; refine goes_region ?_; apply run_step rfl; (exact stp_move rfl rfl); apply run_step rfl; (exact stp_len rfl rfl rfl (by as_aux_lemma => kernel_rfl)); apply run_step rfl; (exact stp_assign rfl rfl); refine run_nil ?_; refine fin_seq ?_; refine goes_ret ?_)
  exact fin_ret1 (.inl rfl) rfl (.tmp rfl) trivial trivial

theorem repL_single (z : Int) : ∀ n, repL [z] n = List.replicate n z := fun n => by
  unfold repL
  induction n with
  | zero => rfl
  | succ n ih => simp [List.replicate_succ] at ih ⊢
theorem lk_self {α : Type} (x : Nat) (c : α) : lk x [(x, c)] = some c := by simp [lk]
/-- slices.Repeat of a list of one number -/
theorem repeat1_fc (x y n : Nat) (z : Int) (hn : n ≤ 1048576) (hn0 : 0 < n) :
    FC Try.prog 180 [(x, ⟨false, 2, 1, .vals (ivals [z])⟩)] [o1 (.sl x 0 1), vv (I6 n)] [(y, ⟨true, 2, 1, .vals (ivals (List.replicate n z))⟩)] (o1 (.sl y 0 n)) [] := by
  have h := fc_of_own (P := Try.prog) (f := 180) (ins := [(x, ⟨false, 2, 1, .vals (ivals [z])⟩)]) (args := [o1 (.sl x 0 1), vv (I6 n)]) (x := y) (E := 2) (zs := List.replicate n z) fun w η ω us hm hd => by
    obtain ⟨hl, ha⟩ := hd
    obtain ⟨u0, h0, d0⟩ := ha 0 _ rfl
    obtain ⟨u1, h1, d1⟩ := ha 1 _ rfl
    obtain ⟨ao, c, e0, hi⟩ := rdS (zs := [z]) (E := 2) (own := false) hm (lk_self _ _) d0 (by simp)
    have d1 : u1 = I6 n := d1
    subst e0 d1
    obtain rfl : us = [.slice ao 1 c, I6 n] := by
      match us, hl, h0, h1 with
      | [p, q], _, h0, h1 => simp at h0 h1; rw [h0, h1]
    refine (repeat_any ao 1 c n [z] w hi (by omega) hn (by omega) (by omega)).mono ?_
    rintro e w' ⟨ao', c', rfl, ho, hb⟩
    rw [Nat.one_mul, repL_single] at ho
    rw [List.length_replicate]
    exact ⟨ao', c', by rw [Nat.one_mul], ho, hb⟩
  rw [List.length_replicate] at h
  exact h
end Go.Proofs.Ytpognnifgcacnaa

/- The numbers of orbits, the program's: orbitLabels. -/
namespace Go.Proofs.Ytpognnifgcacnaa
open Go.RowKit

theorem ivals_take (zs : List Int) (m : Nat) : (ivals zs).take m = ivals (zs.take m) := by simp [ivals, List.map_take]
set_option maxRecDepth 100000 in
set_option maxHeartbeats 2000000 in
theorem orbI_fc (zss : List (List Int)) (n ng : Nat) (hng : zss.length = ng) (hT : Leads zss n) (hB : Back2 zss n) (hpos : 0 < n) (hn : n ≤ 1000000) (hg : ng ≤ 1000000) :
    FC Try.prog 187 [(1003, rowsRo zss)] [vv (I6 n), o1 (.sl 1003 0 ng)] [(16, leOw (labs zss n).1)] (.tup [.one (.sl 16 0 n), .one (.val (I6 (labs zss n).2))]) [] := by
  have hlen : (irows zss).length = ng := by rw [irows_len]; exact hng
  have hR : FC Try.prog 180 [(14, ⟨false, 2, 1, .vals (ivals [-1])⟩)] [o1 (.sl 14 0 1), vv (I6 n)] [(16, ⟨true, 2, 1, .vals (ivals (List.replicate n (-1)))⟩)] (o1 (.sl 16 0 n)) [] := repeat1_fc 14 16 n (-1) (by omega) hpos
  refine fc_enter (nt := 75) Try.func187 rfl rfl (by simp) fun w0 ω0 => ?_
  (refine goes_seq ?_; refine goes_region ?_; apply run_step rfl; (exact stp_assign rfl rfl); apply run_step rfl; (exact stp_assign rfl rfl); refine run_nil ?_; refine fin_seq ?_; refine goes_seq ?_; refine goes_region ?_; apply run_step rfl; (exact stp_lit1I (E := 2) rfl (by as_aux_lemma => kernel_rfl) rfl); apply run_step rfl; (exact stp_move rfl rfl); apply run_step rfl; (apply call_gate 180; exact stp_callN hR (by as_aux_lemma => kernel_rfl) rfl rfl ⟨rfl, rfl, trivial⟩ ⟨⟨_, rfl, .inr rfl⟩, trivial⟩ rfl rfl rfl); apply run_step rfl; (exact stp_assign rfl rfl); refine run_nil ?_; refine fin_seq ?_; refine goes_seq ?_; refine goes_region ?_; apply run_step rfl; (exact stp_assign rfl rfl); refine run_nil ?_; refine fin_seq ?_; refine goes_seq ?_; refine goes_seq ?_; refine goes_region ?_; apply run_step rfl; (exact stp_move rfl rfl); apply run_step rfl; (exact stp_move rfl rfl); refine run_nil ?_; refine fin_seq ?_; refine goes_block ?_)
  refine goes_loop (fun q : Nat × LSt => St.of [(1, o1 (.sl 1003 0 ng)), (6, o1 (.sl 16 0 n)), (7, vv (I6 q.2.2)), (17, vv (I6 n)), (18, vv (I6 q.1))] [(1003, rowsRo zss), (16, leOw q.2.1)]) (fun q => q.1 ≤ n ∧ labTo zss n q.1 = q.2) (fun q => n - q.1) (0, labStart n) ⟨Nat.zero_le _, rfl⟩ (Wk.of ⟨rfl, rfl, rfl, rfl, rfl, trivial⟩ ⟨rfl, rfl, trivial⟩ trivial) ?_
  rintro ⟨i, L, k⟩ ⟨hi, hl⟩
  dsimp only at hi hl ⊢
  have hOK := labTo_ok hT hB i hi
  rw [hl] at hOK
  have hLl : L.length = n := hOK.len
  have hil : n ≤ (ivals L).length := by rw [ivals_len, hLl]; exact Nat.le_refl _
  have hnext := labTo_succ (T := zss) (n := n) i
  rw [hl] at hnext
  unfold labStep at hnext
  (refine goes_seq ?_; refine goes_region ?_; apply run_step rfl; (exact stp_bin rfl rfl rfl rfl); refine run_nil ?_; refine fin_seq ?_; refine goes_seq ?_)
  refine goes_if rfl (fun h => ?_) (fun h => ?_)
  · have hin : i < n := by omega
    have gi : (ivals L)[i]? = some (I6 (iget L i)) := ivals_get (by omega)
    have hkb : k ≤ n := by
      have hk : ∀ m, m ≤ n → (labTo zss n m).2 ≤ m := by
        intro m
        induction m with
        | zero => intro _; exact Nat.le_refl _
        | succ m ih =>
          intro hm
          have := ih (by omega)
          rw [labTo_succ]; unfold labStep; split
          · omega
          · show (labTo zss n m).2 + 1 ≤ m + 1; omega
      have := hk i hi
      rw [hl] at this
      have : k ≤ i := this
      omega
    (refine goes_skip ?_; refine fin_seq ?_; refine goes_seq ?_; refine goes_block ?_; refine goes_seq ?_; refine goes_region ?_; apply run_step rfl; (exact stp_move rfl rfl); apply run_step rfl; (exact stp_assign rfl rfl); refine run_nil ?_; refine fin_seq ?_; refine goes_seq ?_; refine goes_seq ?_; refine goes_region ?_; apply run_step rfl; (exact stp_move rfl rfl); apply run_step rfl; (exact stp_move rfl rfl); apply run_step rfl; (exact stp_ix (j := i) rfl rfl rfl rfl rfl (by as_aux_lemma => kernel_rfl) rfl hin hil); apply run_step rfl; (exact stp_loadV rfl (by as_aux_lemma => kernel_rfl) rfl rfl rfl (by first | assumption | exact ivals_get (by assumption) | exact irows_get (by assumption) | exact ivals_get (by omega) | exact irows_get (by omega) | rfl)); apply run_step rfl; (exact stp_bin rfl rfl rfl rfl); refine run_nil ?_; refine fin_seq ?_)
    refine goes_if rfl (fun h1 => ?_) (fun h1 => ?_)
    · have h1' : 0 ≤ iget L i := h1
      rw [if_pos h1'] at hnext
      (refine goes_exit ?_; refine fin_exit_then ?_; refine fin_exit_eq ?_; refine fin_seq ?_; refine goes_region ?_; apply run_step rfl; (exact stp_add rfl rfl rfl (by first | exact IntWalk.i64_in _ (by omega) | rfl)); apply run_step rfl; (exact stp_move rfl rfl); refine run_nil ?_)
      exact fin_round (i + 1, L, k) ⟨hin, hnext⟩ (by show n - (i + 1) < n - i; omega) (Wk.of ⟨rfl, rfl, rfl, rfl, rfl, trivial⟩ ⟨rfl, rfl, trivial⟩ trivial)
    · have h1' : ¬ 0 ≤ iget L i := h1
      rw [if_neg h1'] at hnext
      have hnew : ∀ d, d < n → rch zss n i d = true → iget L d = -1 := fun d hd hr => lab_new hT hB hin hOK (by dsimp only; omega) hd hr
      (refine goes_skip ?_; refine fin_seq ?_; refine goes_seq ?_; refine goes_region ?_; apply run_step rfl; (exact stp_move rfl rfl); apply run_step rfl; (exact stp_move rfl rfl); apply run_step rfl; (exact stp_move rfl rfl); apply run_step rfl; (first | exact stp_ix (j := i) rfl rfl rfl rfl rfl (by as_aux_lemma => kernel_rfl) rfl hin hil | exact stp_stI rfl rfl rfl rfl rfl (by omega) (by as_aux_lemma => kernel_rfl)); apply run_step rfl; (first | exact stp_ix (j := i) rfl rfl rfl rfl rfl (by as_aux_lemma => kernel_rfl) rfl hin hil | exact stp_stI rfl rfl rfl rfl rfl (by omega) (by as_aux_lemma => kernel_rfl)); refine run_nil ?_; refine fin_seq ?_; refine goes_seq ?_; refine goes_seq ?_; refine goes_region ?_; apply run_step rfl; (exact stp_move rfl rfl); apply run_step rfl; (exact stp_lit1I (E := 2) rfl (by as_aux_lemma => kernel_rfl) rfl); apply run_step rfl; (exact stp_assign rfl rfl); refine run_nil ?_; refine fin_seq ?_; refine goes_block ?_)
      refine goes_loop (fun q : List Int × List Int => St.of [(1, o1 (.sl 1003 0 ng)), (6, o1 (.sl 16 0 n)), (7, vv (I6 k)), (9, o1 (.sl 31 0 q.2.length)), (17, vv (I6 n)), (18, vv (I6 i))] [(1003, rowsRo zss), (16, leOw q.1), (31, leOw q.2)])
        (fun q => DOK zss n i k L (fun _ => False) q.1 q.2 ∧ 2 * negc q.1 + q.2.length ≤ 2 * n + 1) (fun q => 2 * negc q.1 + q.2.length) (L.set i (k : Int), [(i : Int)]) ⟨dok_start hT hin hLl hnew, ?_⟩ (Wk.of ⟨rfl, rfl, rfl, rfl, rfl, rfl, trivial⟩ ⟨rfl, rfl, rfl, trivial⟩ trivial) ?_
      · have h2 : negc L ≤ L.length := List.length_filter_le _ _
        have h3 := negc_set L i (k : Int) (by omega) (by omega) (by omega)
        show 2 * negc (L.set i (k : Int)) + 1 ≤ 2 * n + 1
        omega
      rintro ⟨M, st⟩ ⟨hD, hmu⟩
      dsimp only at hD hmu ⊢
      have hMl : M.length = n := hD.len
      (refine goes_seq ?_; refine goes_seq ?_; refine goes_region ?_; apply run_step rfl; (exact stp_move rfl rfl); apply run_step rfl; (exact stp_len rfl rfl rfl (by as_aux_lemma => kernel_rfl)); apply run_step rfl; (exact stp_bin rfl rfl rfl rfl); refine run_nil ?_; refine fin_seq ?_)
      refine goes_if rfl (fun h2 => ?_) (fun h2 => ?_)
      · obtain ⟨m, hm⟩ : ∃ m, st.length = m + 1 := ⟨st.length - 1, by omega⟩
        obtain ⟨x, hx1, hx2, hx3, hx4⟩ := hD.st_ (iget st m) (iget_mem (by omega))
        have hP := dok_pop hD hm hx1
        have gm : (ivals st)[m]? = some (I6 (x : Int)) := by rw [ivals_get (by omega), hx1]
        have hm1 : ((st.length : Int) - 1) = ((m : Nat) : Int) := by omega
        have hsl : m + 1 ≤ (ivals st).length := by rw [ivals_len]; omega
        have htk : (st.take m).length = m := by rw [List.length_take]; omega
        rw [hm]
        rw [hm] at hm1
        (refine goes_skip ?_; refine fin_seq ?_; refine goes_block ?_; refine goes_seq ?_; refine goes_region ?_; apply run_step rfl; (exact stp_move rfl rfl); apply run_step rfl; (exact stp_move rfl rfl); apply run_step rfl; (exact stp_len rfl rfl rfl (by as_aux_lemma => kernel_rfl)); apply run_step rfl; (first | exact stp_sub rfl rfl rfl (IntWalk.i64_in _ (by omega)) | exact stp_ix (j := m) rfl rfl rfl rfl rfl (by as_aux_lemma => kernel_rfl) hm1 (by omega) hsl | exact stp_slice (k := 1) (l := 0) (h := m) rfl rfl rfl rfl (by as_aux_lemma => kernel_rfl) (by omega) bnd_none (bnd_some rfl hm1) (by omega) (by omega) (by rw [Nat.mul_one, Nat.zero_add]; exact hsl)); apply run_step rfl; (first | exact stp_sub rfl rfl rfl (IntWalk.i64_in _ (by omega)) | exact stp_ix (j := m) rfl rfl rfl rfl rfl (by as_aux_lemma => kernel_rfl) hm1 (by omega) hsl | exact stp_slice (k := 1) (l := 0) (h := m) rfl rfl rfl rfl (by as_aux_lemma => kernel_rfl) (by omega) bnd_none (bnd_some rfl hm1) (by omega) (by omega) (by rw [Nat.mul_one, Nat.zero_add]; exact hsl)); apply run_step rfl; (exact stp_loadV rfl (by as_aux_lemma => kernel_rfl) rfl rfl rfl (by first | assumption | exact ivals_get (by assumption) | exact irows_get (by assumption) | exact ivals_get (by omega) | exact irows_get (by omega) | rfl)); apply run_step rfl; (exact stp_assign rfl rfl); refine run_nil ?_; refine fin_seq ?_; refine goes_seq ?_; refine goes_region ?_; apply run_step rfl; (exact stp_move rfl rfl); apply run_step rfl; (exact stp_move rfl rfl); apply run_step rfl; (exact stp_len rfl rfl rfl (by as_aux_lemma => kernel_rfl)); apply run_step rfl; (first | exact stp_sub rfl rfl rfl (IntWalk.i64_in _ (by omega)) | exact stp_ix (j := m) rfl rfl rfl rfl rfl (by as_aux_lemma => kernel_rfl) hm1 (by omega) hsl | exact stp_slice (k := 1) (l := 0) (h := m) rfl rfl rfl rfl (by as_aux_lemma => kernel_rfl) (by omega) bnd_none (bnd_some rfl hm1) (by omega) (by omega) (by rw [Nat.mul_one, Nat.zero_add]; exact hsl)); apply run_step rfl; (first | exact stp_sub rfl rfl rfl (IntWalk.i64_in _ (by omega)) | exact stp_ix (j := m) rfl rfl rfl rfl rfl (by as_aux_lemma => kernel_rfl) hm1 (by omega) hsl | exact stp_slice (k := 1) (l := 0) (h := m) rfl rfl rfl rfl (by as_aux_lemma => kernel_rfl) (by omega) bnd_none (bnd_some rfl hm1) (by omega) (by omega) (by rw [Nat.mul_one, Nat.zero_add]; exact hsl)); apply run_step rfl; (exact stp_assign rfl rfl); refine run_nil ?_; refine fin_seq ?_; refine goes_seq ?_; refine goes_region ?_; apply run_step rfl; (exact stp_move rfl rfl); apply run_step rfl; (exact stp_len rfl rfl rfl (by as_aux_lemma => kernel_rfl)); apply run_step rfl; (exact stp_move rfl rfl); refine run_nil ?_; refine fin_seq ?_; refine goes_block ?_)
        have hsame : 2 * negc M + m + 1 = 2 * negc M + st.length := by omega
        refine goes_loop (fun q : Nat × List Int × List Int => St.of [(1, o1 (.sl 1003 0 ng)), (6, o1 (.sl 16 0 n)), (7, vv (I6 k)), (9, o1 (.sl 31 0 q.2.2.length)), (10, vv (I6 x)), (17, vv (I6 n)), (18, vv (I6 i)), (46, o1 (.sl 1003 0 ng)), (47, vv (I6 ng)), (48, vv (I6 q.1))] [(1003, rowsRo zss), (16, leOw q.2.1), (31, leOw q.2.2)])
          (fun q => q.1 ≤ ng ∧ DOK zss n i k L (fun d => d = x) q.2.1 q.2.2 ∧ (∀ g, g < q.1 → iget q.2.1 (bTo zss x g) = (k : Int)) ∧ 2 * negc q.2.1 + q.2.2.length ≤ 2 * negc M + m) (fun q => ng - q.1) (0, M, st.take m) ⟨Nat.zero_le _, hP, fun g hg => absurd hg (by omega), by dsimp only; omega⟩
          (Wk.trans (wk_cut (n := 31) (m := m) (vs := ivals st) rfl (by rw [ivals_len]; omega)) (Wk.of ⟨rfl, rfl, rfl, by rw [htk]; rfl, rfl, rfl, rfl, rfl, rfl, rfl, trivial⟩ ⟨rfl, rfl, congrArg (fun l => some (⟨true, 2, 1, .vals l⟩ : Ch)) (ivals_take st m), trivial⟩ trivial)) ?_
        rintro ⟨g, N, su⟩ ⟨hgl, hD2, hdone, hmu2⟩
        dsimp only at hgl hD2 hdone hmu2 ⊢
        have hNl : N.length = n := hD2.len
        have hsu : su.length ≤ 2 * n + 1 := by omega
        (refine goes_seq ?_; refine goes_region ?_; apply run_step rfl; (exact stp_bin rfl rfl rfl rfl); refine run_nil ?_; refine fin_seq ?_; refine goes_seq ?_)
        refine goes_if rfl (fun h3 => ?_) (fun h3 => ?_)
        · have hgn : g < ng := by omega
          have hgz : g < zss.length := by omega
          have hd := bTo_lt hT hx2 (g := g) hgz
          have hr := rch_on hT hin hx2 hx3 hgz
          obtain ⟨y, hy⟩ : ∃ y, bTo zss x g = y := ⟨_, rfl⟩
          rw [hy] at hd hr
          have hrowg : (irows zss)[g]? = some (ivals (lget zss g)) := irows_get hgz
          have hlg : (lget zss g).length = n := hT.len g hgz
          have gx : (ivals (lget zss g))[x]? = some (I6 (y : Int)) := by rw [ivals_get (by omega), hd.2]
          have gy : (ivals N)[y]? = some (I6 (iget N y)) := ivals_get (by omega)
          have hilg : (ivals (lget zss g)).length = n := by rw [ivals_len]; exact hlg
          have hNi : n ≤ (ivals N).length := by rw [ivals_len, hNl]; exact Nat.le_refl _
          have step : ∀ (N' : List Int), (∀ e, iget N e = (k : Int) → iget N' e = (k : Int)) → iget N' y = (k : Int) → ∀ g', g' < g + 1 → iget N' (bTo zss x g') = (k : Int) := fun N' hk hyk g' hg' => by
            by_cases e : g' = g
            · subst e; rw [hy]; exact hyk
            · exact hk _ (hdone g' (by omega))
          (refine goes_skip ?_; refine fin_seq ?_; refine goes_seq ?_; refine goes_block ?_; refine goes_seq ?_; refine goes_region ?_; apply run_step rfl; (first | exact stp_ix (j := g) rfl rfl rfl rfl rfl (by as_aux_lemma => kernel_rfl) rfl hgn (Nat.le_of_eq hlen.symm) | exact stp_loadR rfl (by as_aux_lemma => kernel_rfl) rfl rfl rfl hrowg hilg | exact stp_ixE (j := x) rfl rfl rfl rfl rfl (by as_aux_lemma => kernel_rfl) hrowg rfl hx2 (Nat.le_of_eq hilg.symm) | exact stp_loadE' rfl (by as_aux_lemma => kernel_rfl) rfl rfl rfl hrowg gx | exact stp_ix (j := y) rfl rfl rfl rfl rfl (by as_aux_lemma => kernel_rfl) rfl hd.1 hNi); apply run_step rfl; (first | exact stp_ix (j := g) rfl rfl rfl rfl rfl (by as_aux_lemma => kernel_rfl) rfl hgn (Nat.le_of_eq hlen.symm) | exact stp_loadR rfl (by as_aux_lemma => kernel_rfl) rfl rfl rfl hrowg hilg | exact stp_ixE (j := x) rfl rfl rfl rfl rfl (by as_aux_lemma => kernel_rfl) hrowg rfl hx2 (Nat.le_of_eq hilg.symm) | exact stp_loadE' rfl (by as_aux_lemma => kernel_rfl) rfl rfl rfl hrowg gx | exact stp_ix (j := y) rfl rfl rfl rfl rfl (by as_aux_lemma => kernel_rfl) rfl hd.1 hNi); apply run_step rfl; (exact stp_assign rfl rfl); refine run_nil ?_; refine fin_seq ?_; refine goes_seq ?_; refine goes_region ?_; apply run_step rfl; (exact stp_move rfl rfl); apply run_step rfl; (exact stp_move rfl rfl); apply run_step rfl; (first | exact stp_ix (j := g) rfl rfl rfl rfl rfl (by as_aux_lemma => kernel_rfl) rfl hgn (Nat.le_of_eq hlen.symm) | exact stp_loadR rfl (by as_aux_lemma => kernel_rfl) rfl rfl rfl hrowg hilg | exact stp_ixE (j := x) rfl rfl rfl rfl rfl (by as_aux_lemma => kernel_rfl) hrowg rfl hx2 (Nat.le_of_eq hilg.symm) | exact stp_loadE' rfl (by as_aux_lemma => kernel_rfl) rfl rfl rfl hrowg gx | exact stp_ix (j := y) rfl rfl rfl rfl rfl (by as_aux_lemma => kernel_rfl) rfl hd.1 hNi); apply run_step rfl; (first | exact stp_ix (j := g) rfl rfl rfl rfl rfl (by as_aux_lemma => kernel_rfl) rfl hgn (Nat.le_of_eq hlen.symm) | exact stp_loadR rfl (by as_aux_lemma => kernel_rfl) rfl rfl rfl hrowg hilg | exact stp_ixE (j := x) rfl rfl rfl rfl rfl (by as_aux_lemma => kernel_rfl) hrowg rfl hx2 (Nat.le_of_eq hilg.symm) | exact stp_loadE' rfl (by as_aux_lemma => kernel_rfl) rfl rfl rfl hrowg gx | exact stp_ix (j := y) rfl rfl rfl rfl rfl (by as_aux_lemma => kernel_rfl) rfl hd.1 hNi); apply run_step rfl; (exact stp_assign rfl rfl); refine run_nil ?_; refine fin_seq ?_; refine goes_seq ?_; refine goes_region ?_; apply run_step rfl; (exact stp_move rfl rfl); apply run_step rfl; (exact stp_move rfl rfl); apply run_step rfl; (first | exact stp_ix (j := g) rfl rfl rfl rfl rfl (by as_aux_lemma => kernel_rfl) rfl hgn (Nat.le_of_eq hlen.symm) | exact stp_loadR rfl (by as_aux_lemma => kernel_rfl) rfl rfl rfl hrowg hilg | exact stp_ixE (j := x) rfl rfl rfl rfl rfl (by as_aux_lemma => kernel_rfl) hrowg rfl hx2 (Nat.le_of_eq hilg.symm) | exact stp_loadE' rfl (by as_aux_lemma => kernel_rfl) rfl rfl rfl hrowg gx | exact stp_ix (j := y) rfl rfl rfl rfl rfl (by as_aux_lemma => kernel_rfl) rfl hd.1 hNi); apply run_step rfl; (exact stp_loadV rfl (by as_aux_lemma => kernel_rfl) rfl rfl rfl (by first | assumption | exact ivals_get (by assumption) | exact irows_get (by assumption) | exact ivals_get (by omega) | exact irows_get (by omega) | rfl)); apply run_step rfl; (exact stp_bin rfl rfl rfl rfl); refine run_nil ?_; refine fin_seq ?_)
          refine goes_if rfl (fun h4 => ?_) (fun h4 => ?_)
          · have h4' : iget N y < 0 := h4
            have hN' := negc_set N y (k : Int) (by omega) h4' (by omega)
            have hkeep : ∀ e, iget N e = (k : Int) → iget (N.set y (k : Int)) e = (k : Int) := fun e he => by
              rw [iget_setD]
              split
              · rfl
              · exact he
            have hyN : iget (N.set y (k : Int)) y = (k : Int) := by rw [iget_setD, if_pos ⟨rfl, by omega⟩]
            (refine goes_seq ?_; refine goes_region ?_; apply run_step rfl; (exact stp_move rfl rfl); apply run_step rfl; (exact stp_move rfl rfl); apply run_step rfl; (exact stp_move rfl rfl); apply run_step rfl; (first | exact stp_ix (j := y) rfl rfl rfl rfl rfl (by as_aux_lemma => kernel_rfl) rfl hd.1 hNi | exact stp_stI rfl rfl rfl rfl rfl (by omega) (by as_aux_lemma => kernel_rfl)); apply run_step rfl; (first | exact stp_ix (j := y) rfl rfl rfl rfl rfl (by as_aux_lemma => kernel_rfl) rfl hd.1 hNi | exact stp_stI rfl rfl rfl rfl rfl (by omega) (by as_aux_lemma => kernel_rfl)); refine run_nil ?_; refine fin_seq ?_; refine goes_region ?_; apply run_step rfl; (exact stp_move rfl rfl); apply run_step rfl; (exact stp_move rfl rfl); apply run_step rfl; (exact stp_lit1I (E := 2) rfl (by as_aux_lemma => kernel_rfl) rfl); apply run_step rfl; (exact stp_appI rfl (by as_aux_lemma => kernel_rfl) rfl rfl rfl (by first | rfl | assumption | (simp; done)) rfl rfl (by omega)); apply run_step rfl; (exact stp_assign rfl rfl); refine run_nil ?_; refine fin_block ?_; refine fin_seq ?_; refine goes_region ?_; apply run_step rfl; (exact stp_add rfl rfl rfl (by first | exact IntWalk.i64_in _ (by omega) | rfl)); apply run_step rfl; (exact stp_move rfl rfl); refine run_nil ?_)
            exact fin_round (g + 1, N.set y (k : Int), su ++ [(y : Int)]) ⟨hgn, dok_step hD2 hd.1 hr h4', step _ hkeep hyN, by simp only [List.length_append, List.length_singleton]; omega⟩ (by show ng - (g + 1) < ng - g; omega) (Wk.of ⟨rfl, rfl, rfl, congrArg (fun x => some (o1 (.sl 31 0 x))) (by simp), rfl, rfl, rfl, rfl, rfl, rfl, trivial⟩ ⟨rfl, rfl, rfl, trivial⟩ trivial)
          · have h4' : ¬ iget N y < 0 := h4
            have hyk : iget N y = (k : Int) := by
              rcases hD2.eq y hd.1 with h5 | h5
              · rw [hnew y hd.1 hr] at h5; omega
              · exact h5.1
            (refine goes_skip ?_; refine fin_block ?_; refine fin_seq ?_; refine goes_region ?_; apply run_step rfl; (exact stp_add rfl rfl rfl (by first | exact IntWalk.i64_in _ (by omega) | rfl)); apply run_step rfl; (exact stp_move rfl rfl); refine run_nil ?_)
            exact fin_round (g + 1, N, su) ⟨hgn, hD2, step N (fun _ h => h) hyk, hmu2⟩ (by show ng - (g + 1) < ng - g; omega) (Wk.of ⟨rfl, rfl, rfl, rfl, rfl, rfl, rfl, rfl, rfl, rfl, trivial⟩ ⟨rfl, rfl, rfl, trivial⟩ trivial)
        · obtain rfl : g = ng := by omega
          (refine goes_exit ?_; refine fin_exit_then ?_; refine fin_exit_then ?_; refine fin_exit_eq ?_; refine fin_block ?_)
          exact fin_round (N, su) ⟨dok_end hD2 (fun g' hg' => hdone g' (by omega)), by dsimp only; omega⟩ (by show 2 * negc N + su.length < 2 * negc M + st.length; omega) (Wk.of ⟨rfl, rfl, rfl, rfl, rfl, rfl, trivial⟩ ⟨rfl, rfl, rfl, trivial⟩ trivial)
      · obtain rfl : st = [] := List.length_eq_zero_iff.1 (by omega)
        have hM := dok_done hT hin hD
        have hk1 : (((labSet zss n i (L, k)).2 : Nat) : Int) = (k : Int) + 1 := by show ((k + 1 : Nat) : Int) = _; omega
        (refine goes_exit ?_; refine fin_exit_then ?_; refine fin_exit_then ?_; refine fin_exit_eq ?_; refine fin_seq ?_; refine goes_region ?_; apply run_step rfl; (exact stp_move rfl rfl); apply run_step rfl; (exact stp_add rfl rfl rfl (by first | exact IntWalk.i64_in _ (by omega) | rfl)); apply run_step rfl; (exact stp_assign rfl rfl); refine run_nil ?_; refine fin_block ?_; refine fin_seq ?_; refine goes_region ?_; apply run_step rfl; (exact stp_add rfl rfl rfl (by first | exact IntWalk.i64_in _ (by omega) | rfl)); apply run_step rfl; (exact stp_move rfl rfl); refine run_nil ?_)
        exact fin_round (i + 1, labSet zss n i (L, k)) ⟨hin, hnext⟩ (by show n - (i + 1) < n - i; omega) (Wk.of ⟨rfl, rfl, congrArg (fun z => some (vv (I6 z))) hk1.symm, rfl, rfl, trivial⟩ ⟨rfl, congrArg (fun l => some (leOw l)) hM, trivial⟩ trivial)
  · obtain rfl : i = n := by omega
    have hfin : labs zss i = (L, k) := hl
    rw [hfin]
    (refine goes_exit ?_; refine fin_exit_then ?_; refine fin_exit_then ?_; refine fin_exit_eq ?_; refine fin_seq ?_; refine goes_seq ?_; refine goes_region ?_; apply run_step rfl; (exact stp_move rfl rfl); apply run_step rfl; (exact stp_move rfl rfl); apply run_step rfl; (exact stp_assign rfl rfl); apply run_step rfl; (exact stp_assign rfl rfl); refine run_nil ?_; refine fin_seq ?_; refine goes_ret ?_)
    exact fin_ret2 (.inl rfl) rfl (.tmp rfl) (.tmp rfl) ⟨rfl, trivial⟩ trivial
end Go.Proofs.Ytpognnifgcacnaa

/- The program's within, in names. -/
namespace Go.Proofs.Ytpognnifgcacnaa
open Go.RowKit

theorem us_three {us : List Value} {u0 u1 u2 : Value} (hl : us.length = 3) (g0 : us[0]? = some u0) (g1 : us[1]? = some u1) (g2 : us[2]? = some u2) : us = [u0, u1, u2] := by
  match us, hl with
  | [p, q, r], _ => simp at g0 g1 g2; rw [g0, g1, g2]
theorem within_fc (a b c : Int) : FC Try.prog 97 [] [vv (I6 a), vv (I6 b), vv (I6 c)] [] (vv (.bool (inB a b c))) [] :=
  fc_of_calls fun w η ω us hm ⟨hl, ha⟩ => by
    obtain ⟨u0, g0, d0⟩ := ha 0 _ rfl
    obtain ⟨u1, g1, d1⟩ := ha 1 _ rfl
    obtain ⟨u2, g2, d2⟩ := ha 2 _ rfl
    have d0 : u0 = I6 a := d0
    have d1 : u1 = I6 b := d1
    have d2 : u2 = I6 c := d2
    subst d0 d1 d2
    rw [us_three hl g0 g1 g2]
    refine (within_any a b c w).mono ?_
    rintro e w' ⟨rfl, rfl⟩
    exact ⟨rfl, Below.refl _ _⟩
end Go.Proofs.Ytpognnifgcacnaa
