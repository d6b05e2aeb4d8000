/- The map of polygons: its faces, edges and vertices. No program in sight. -/
import Derived.Test.YtpognnifgcacnaaPart6
import Derived.Test.YtpognnifgcacnaaPart4
import Derived.Test.YtpognnifgcacnaaPart3
import Derived.Test.YtpognnifgcacnaaProg
import Derived.Test.YtpognnifgcacnaaPart2
import Derived.Test.YtpognnifgcacnaaPart1
namespace Go.Proofs.Ytpognnifgcacnaa
open Go.RowKit

theorem pigeonV : ∀ (m n : Nat) (f : Nat → Nat), (∀ i, i < n → f i < m) → (∀ i j, i < n → j < n → f i = f j → i = j) → n ≤ m
  | 0, n, f, h, _ => by
    rcases Nat.eq_zero_or_pos n with e | e
    · omega
    · have := h 0 e; omega
  | m + 1, 0, f, _, _ => Nat.zero_le _
  | m + 1, n + 1, f, h, hi => by
    have := pigeonV m n (fun i => if f i = m then f n else f i) (fun i hin => by
      have h1 := h i (by omega)
      have h2 := h n (by omega)
      have h3 := hi i n (by omega) (by omega)
      split <;> omega) (fun i j hin hjn e => by
      have h3 := hi i n (by omega) (by omega)
      have h4 := hi j n (by omega) (by omega)
      have h5 := hi i j (by omega) (by omega)
      split at e <;> split at e <;> omega)
    omega
section
variable {T : List (List Int)} {n : Nat}
/-- labels are alike exactly where one leads to the other -/
theorem labTo_alike (hT : Leads T n) (hb : Back2 T n) : ∀ i, i ≤ n → ∀ c d, c < n → d < n → 0 ≤ iget (labTo T n i).1 c → iget (labTo T n i).1 c = iget (labTo T n i).1 d → rch T n c d = true
  | 0, _, c, d, hc, hd, h, _ => by simp [labTo, labStart, iget, hc] at h
  | i + 1, hi, c, d, hc, hd, h, e => by
    have ih := labTo_alike hT hb i (by omega) c d hc hd
    have ok := labTo_ok hT hb i (by omega)
    rw [labTo_succ] at h e
    generalize labTo T n i = s at *
    unfold labStep at h e
    split at h
    · rename_i hl; rw [if_pos hl] at e; exact ih h e
    · rename_i hl
      rw [if_neg hl, labSet_get hc, labSet_get hd] at e
      rw [labSet_get hc] at h
      have h1 := ok.low c hc
      have h2 := ok.low d hd
      split at e
      · rename_i r1
        split at e
        · rename_i r2
          exact rch_trans hT hc hi hd (rch_symm hT hb hi hc r1) r2
        · omega
      · rename_i r1
        rw [if_neg r1] at h
        split at e
        · omega
        · exact ih h e
theorem labs_alike (hT : Leads T n) (hb : Back2 T n) {c d : Nat} (hc : c < n) (hd : d < n) (e : iget (labs T n).1 c = iget (labs T n).1 d) : rch T n c d = true := by
  obtain ⟨-, -, h⟩ := labs_all hT hb
  obtain ⟨x, hx, _⟩ := h c hc
  exact labTo_alike hT hb n (Nat.le_refl _) c d hc hd (by show 0 ≤ iget (labs T n).1 c; omega) e
/-- classes that come one behind the other: their numbers are the labels -/
theorem labTo_cls (q : Nat → Nat) (h0 : q 0 = 0) (hs : ∀ i, i + 1 < n → q (i + 1) = q i ∨ q (i + 1) = q i + 1) (hr : ∀ c d, c < n → d < n → (rch T n c d = true ↔ q c = q d)) :
    ∀ i, i ≤ n → (labTo T n i).2 = (if i = 0 then 0 else q (i - 1) + 1) ∧ ∀ d, d < n → iget (labTo T n i).1 d = if q d < (labTo T n i).2 then (q d : Int) else -1
  | 0, _ => ⟨rfl, fun d hd => by rw [if_neg (by show ¬ q d < 0; omega)]; simp [labTo, labStart, iget, hd]⟩
  | i + 1, hi => by
    obtain ⟨h1, h2⟩ := labTo_cls q h0 hs hr i (by omega)
    rw [labTo_succ]
    generalize labTo T n i = s at *
    have hli := h2 i (by omega)
    have hq : q i ≤ s.2 ∧ s.2 ≤ q i + 1 := by
      by_cases e : i = 0
      · subst e; rw [if_pos rfl] at h1; omega
      · rw [if_neg e] at h1
        have := hs (i - 1) (by omega)
        rw [show i - 1 + 1 = i by omega] at this
        omega
    unfold labStep
    by_cases hlt : q i < s.2
    · rw [if_pos hlt] at hli
      rw [if_pos (by omega)]
      refine ⟨?_, h2⟩
      rw [if_neg (by omega), show i + 1 - 1 = i by omega]; omega
    · rw [if_neg hlt] at hli
      rw [if_neg (by omega)]
      have hcnt : (labSet T n i s).2 = s.2 + 1 := rfl
      refine ⟨?_, fun d hd => ?_⟩
      · rw [hcnt, if_neg (by omega), show i + 1 - 1 = i by omega]; omega
      · rw [hcnt, labSet_get hd]
        have hrd := hr i d (by omega) hd
        have := h2 d hd
        by_cases e : q i = q d
        · rw [if_pos (hrd.2 e), if_pos (by omega)]; omega
        · rw [if_neg (fun h => e (hrd.1 h)), this]
          split
          · rw [if_pos (by omega)]
          · rw [if_neg (by omega)]
theorem filter_or_len {p q r : Nat → Bool} : ∀ l : List Nat, (∀ x, x ∈ l → r x = (p x || q x)) → (∀ x, x ∈ l → p x = true → q x = false) → (l.filter r).length = (l.filter p).length + (l.filter q).length
  | [], _, _ => rfl
  | a :: l, h1, h2 => by
    have ih := filter_or_len l (fun x hx => h1 x (by simp [hx])) (fun x hx => h2 x (by simp [hx]))
    have ha := h1 a (by simp)
    have hb := h2 a (by simp)
    rw [List.filter_cons, List.filter_cons, List.filter_cons]
    cases hp : p a with
    | true =>
      rw [hb hp] 
      rw [hp] at ha
      simp at ha
      simp [ha, ih]; omega
    | false =>
      rw [hp] at ha
      simp at ha
      rw [ha]
      cases hq : q a with
      | true => simp [ih]; omega
      | false => simp [ih]
theorem filter_alike {p q : Nat → Bool} : ∀ l : List Nat, (∀ x, x ∈ l → p x = q x) → l.filter p = l.filter q
  | [], _ => rfl
  | a :: l, h => by
    rw [List.filter_cons, List.filter_cons, filter_alike l (fun x hx => h x (by simp [hx])), h a (by simp)]
/-- orbits that all have k points: k times their number is that of the points -/
theorem labs_even (hT : Leads T n) (hb : Back2 T n) (k : Nat) (hk : ∀ i, i < n → ((List.range n).filter fun d => rch T n i d).length = k) : k * (labs T n).2 = n := by
  have key : ∀ i, i ≤ n → ((List.range n).filter fun d => decide (0 ≤ iget (labTo T n i).1 d)).length = k * (labTo T n i).2 := by
    intro i
    induction i with
    | zero =>
      intro _
      rw [filter_none_ n fun d hd => by simp [labTo, labStart, iget, hd]]
      simp [labTo, labStart]
    | succ i ih =>
      intro hi
      have ih := ih (by omega)
      have ok := labTo_ok hT hb i (by omega)
      rw [labTo_succ]
      generalize labTo T n i = s at *
      unfold labStep
      split
      · exact ih
      · rename_i hl
        rw [filter_or_len (p := fun d => rch T n i d) (q := fun d => decide (0 ≤ iget s.1 d)) (List.range n) (fun d hd => by
            rw [labSet_get (List.mem_range.1 hd)]
            cases hr : rch T n i d with
            | true => simp
            | false => simp) (fun d hd hr => by
            have := lab_new hT hb (i := i) hi ok (by omega) (List.mem_range.1 hd) hr
            rw [this]; rfl), hk i (by omega), ih]
        show k + k * s.2 = k * (s.2 + 1)
        rw [Nat.mul_succ]; omega
  have := key n (Nat.le_refl _)
  obtain ⟨-, -, h3⟩ := labs_all hT hb
  rw [filter_alike (q := fun _ => true) _ (fun d hd => by
    obtain ⟨x, hx, _⟩ := h3 d (List.mem_range.1 hd)
    have hx : iget (labTo T n n).1 d = (x : Int) := hx
    rw [hx]; simp), List.filter_eq_self.2 (fun _ _ => rfl), List.length_range] at this
  exact this.symm
end
/-- the edges of a map have four flags each -/
theorem edges4 {zss : List (List Int)} (h : Man zss) (h3 : zss.length = 3) : 4 * (labs (zss.eraseIdx 1) (lget zss 0).length).2 = (lget zss 0).length := by
  obtain ⟨hT, hB⟩ := erase_ok h (r := 1) (by omega)
  have hL := rows_leads h.rows
  have hB0 := rows_back h.rows
  have e0 : ∀ d, bTo (zss.eraseIdx 1) d 0 = bTo zss d 0 := fun d => by unfold bTo; rw [lget_erase]; rfl
  have e1 : ∀ d, bTo (zss.eraseIdx 1) d 1 = bTo zss d 2 := fun d => by unfold bTo; rw [lget_erase]; rfl
  have hl : (zss.eraseIdx 1).length = 2 := by rw [List.length_eraseIdx, if_pos (by omega)]; omega
  generalize hn : (lget zss 0).length = n at *
  have a2 := hB0 0 (by omega)
  have b2 := hB0 2 (by omega)
  have alt : ∀ d, d < n → bTo zss d 0 < n := fun d hd => (bTo_lt hL hd (by omega)).1
  have blt : ∀ d, d < n → bTo zss d 2 < n := fun d hd => (bTo_lt hL hd (by omega)).1
  have fr : ∀ r, r < 3 → ∀ d, d < n → bTo zss d r ≠ d := fun r hr d hd e => by
    have := (isFreeL_at (h.free r (by omega)) (i := d) (by rw [h.len r (by omega), hn]; exact hd)).1
    have h1 := (bTo_lt hL hd (g := r) (by omega)).2
    rw [e] at h1; exact this h1
  have cm : ∀ d, d < n → bTo zss (bTo zss d 0) 2 = bTo zss (bTo zss d 2) 0 ∧ bTo zss d 0 ≠ bTo zss d 2 := fun d hd => h.comm 0 2 (by omega) (by omega) d (by rw [hn]; exact hd)
  refine labs_even hT hB 4 fun i hi => ?_
  have ha := alt i hi
  have hb := blt i hi
  have hab := alt _ hb
  have c1 := cm i hi
  have n1 := fr 0 (by omega) i hi
  have n2 := fr 2 (by omega) i hi
  have n3 := fr 0 (by omega) _ hb
  have n4 : bTo zss (bTo zss i 2) 0 ≠ i := fun e => by
    have := congrArg (fun x => bTo zss x 0) e
    have this : bTo zss (bTo zss (bTo zss i 2) 0) 0 = bTo zss i 0 := this
    rw [a2 _ hb] at this
    exact c1.2 this.symm
  have n5 : bTo zss (bTo zss i 2) 0 ≠ bTo zss i 0 := fun e => by
    have := congrArg (fun x => bTo zss x 0) e
    have this : bTo zss (bTo zss (bTo zss i 2) 0) 0 = bTo zss (bTo zss i 0) 0 := this
    rw [a2 _ hb, a2 _ hi] at this
    exact n2 this
  have hiff : ∀ d, d < n → (rch (zss.eraseIdx 1) n i d = true ↔ d = i ∨ d = bTo zss i 0 ∨ d = bTo zss i 2 ∨ d = bTo zss (bTo zss i 2) 0) := fun d hd => by
    constructor
    · refine rch_in (p := fun d => d = i ∨ d = bTo zss i 0 ∨ d = bTo zss i 2 ∨ d = bTo zss (bTo zss i 2) 0) hT hi (.inl rfl) (fun d hd hp g hg => ?_) d hd
      rw [hl] at hg
      match g, hg with
      | 0, _ =>
        rw [e0]
        rcases hp with rfl | rfl | rfl | rfl
        · exact .inr (.inl rfl)
        · exact .inl (a2 _ hi)
        · exact .inr (.inr (.inr rfl))
        · exact .inr (.inr (.inl (a2 _ hb)))
      | 1, _ =>
        rw [e1]
        rcases hp with rfl | rfl | rfl | rfl
        · exact .inr (.inr (.inl rfl))
        · exact .inr (.inr (.inr c1.1))
        · exact .inl (b2 _ hi)
        · refine .inr (.inl ?_)
          rw [← c1.1, b2 _ ha]
    · have r0 := rch_refl hT hi
      have ra := rch_on hT hi hi r0 (g := 0) (by omega)
      have rb := rch_on hT hi hi r0 (g := 1) (by omega)
      rw [e0] at ra; rw [e1] at rb
      have rab := rch_on hT hi hb rb (g := 0) (by omega)
      rw [e0] at rab
      rintro (rfl | rfl | rfl | rfl)
      · exact r0
      · exact ra
      · exact rb
      · exact rab
  generalize bTo zss (bTo zss i 2) 0 = ab at *
  generalize bTo zss i 2 = b at *
  generalize bTo zss i 0 = a at *
  rw [filter_or_len (p := fun d => decide (d = i)) (q := fun d => decide (d = a) || (decide (d = b) || decide (d = ab))) (List.range n) (fun d hd => by
      have := hiff d (List.mem_range.1 hd)
      rw [Bool.eq_iff_iff, this]; simp) (fun d hd e => by simp at e; subst e; simp; omega),
    filter_or_len (p := fun d => decide (d = a)) (q := fun d => decide (d = b) || decide (d = ab)) (List.range n) (fun d hd => rfl) (fun d hd e => by simp at e; subst e; simp; omega),
    filter_or_len (p := fun d => decide (d = b)) (q := fun d => decide (d = ab)) (List.range n) (fun d hd => rfl) (fun d hd e => by simp at e; subst e; simp; omega),
    filter_one_ (p := fun d => decide (d = i)) (g := i) (by simp) n hi (fun x _ e => by simpa using e), filter_one_ (p := fun d => decide (d = a)) (g := a) (by simp) n ha (fun x _ e => by simpa using e),
    filter_one_ (p := fun d => decide (d = b)) (g := b) (by simp) n hb (fun x _ e => by simpa using e), filter_one_ (p := fun d => decide (d = ab)) (g := ab) (by simp) n hab (fun x _ e => by simpa using e)]
  rfl
/-- the polygon of a corner -/
def polN : List (List Int) → Nat → Nat
  | [], _ => 0
  | p :: r, c => if c < p.length then 0 else polN r (c - p.length) + 1
theorem polN_at : ∀ (ps : List (List Int)) (k i : Nat), k < ps.length → i < (lget ps k).length → polN ps (begP ps k + i) = k
  | [], k, i, hk, _ => by simp at hk
  | p :: r, 0, i, _, hi => by
    have h0 : lget (p :: r) 0 = p := rfl
    rw [h0] at hi
    rw [begP_zero, Nat.zero_add]; unfold polN; rw [if_pos hi]
  | p :: r, k + 1, i, hk, hi => by
    rw [lget_cons] at hi
    rw [begP_cons]
    unfold polN
    rw [if_neg (by omega), show p.length + begP r k + i - p.length = begP r k + i by omega, polN_at r k i (by simpa using hk) hi]
section
variable {ps : List (List Int)}
theorem polN_nx {c : Nat} (h : c < lenSS ps) : polN ps (nxP ps c) = polN ps c := by
  obtain ⟨k, i, h1, h2, rfl⟩ := corner_of ps c h
  rw [nxP_at ps k i h1 h2, polN_at ps k i h1 h2, polN_at ps k _ h1 (Nat.mod_lt _ (by omega))]
theorem polN_pv {c : Nat} (h : c < lenSS ps) : polN ps (pvP ps c) = polN ps c := by
  obtain ⟨k, i, h1, h2, rfl⟩ := corner_of ps c h
  rw [pvP_at ps k i h1 h2, polN_at ps k i h1 h2, polN_at ps k _ h1 (Nat.mod_lt _ (by omega))]
theorem begP_le (k : Nat) : begP ps k ≤ lenSS ps := lenSS_take_le _ _
theorem polN_zero (h0 : 0 < ps.length) (h : ∀ j, j < ps.length → 1 ≤ (lget ps j).length) : polN ps 0 = 0 := by
  have := polN_at ps 0 0 h0 (h 0 h0)
  rw [begP_zero] at this; exact this
theorem polN_step (h : ∀ j, j < ps.length → 1 ≤ (lget ps j).length) {c : Nat} (hc : c + 1 < lenSS ps) : polN ps (c + 1) = polN ps c ∨ polN ps (c + 1) = polN ps c + 1 := by
  obtain ⟨k, i, h1, h2, rfl⟩ := corner_of ps c (by omega)
  rw [polN_at ps k i h1 h2]
  by_cases e : i + 1 < (lget ps k).length
  · rw [Nat.add_assoc, polN_at ps k _ h1 e]; exact .inl rfl
  · have hb := begP_succ h1
    have h3 : k + 1 < ps.length := by
      rcases Nat.lt_or_ge (k + 1) ps.length with q | q
      · exact q
      · have hk : k + 1 = ps.length := by omega
        rw [hk, begP_all] at hb
        omega
    have := polN_at ps (k + 1) 0 h3 (h _ h3)
    rw [hb] at this
    rw [show begP ps k + i + 1 = begP ps k + (lget ps k).length + 0 by omega, this]
    exact .inr rfl
theorem polN_last (h0 : 0 < ps.length) (h : ∀ j, j < ps.length → 1 ≤ (lget ps j).length) (hN : 0 < lenSS ps) : polN ps (lenSS ps - 1) + 1 = ps.length := by
  obtain ⟨k, i, h1, h2, h3⟩ := corner_of ps (lenSS ps - 1) (by omega)
  rw [h3, polN_at ps k i h1 h2]
  have hb := begP_succ h1
  rcases Nat.lt_or_ge (k + 1) ps.length with q | q
  · have hb2 := begP_succ q
    have := begP_le (ps := ps) (k + 1 + 1)
    have := h _ q
    omega
  · omega
theorem bTo_zer {f : Nat} (hf : f < 2 * lenSS ps) : bTo (mpM ps) f 0 = if f % 2 = 0 then 2 * nxP ps (f / 2) + 1 else 2 * pvP ps (f / 2) := by
  obtain ⟨a, b⟩ := dupL_get (fun c => ((2 * nxP ps c + 1 : Nat) : Int)) (fun c => ((2 * pvP ps c : Nat) : Int)) (lenSS ps) (f / 2) (by omega)
  have e : bTo (mpM ps) f 0 = (iget (zerL ps (lenSS ps)) f).toNat := rfl
  rw [e]
  split
  · rename_i q
    rw [show 2 * (f / 2) = f by omega] at a
    show (iget (dupL _ _ _) f).toNat = _
    rw [a]; rfl
  · rename_i q
    rw [show 2 * (f / 2) + 1 = f by omega] at b
    show (iget (dupL _ _ _) f).toNat = _
    rw [b]; rfl
theorem bTo_one {f : Nat} (hf : f < 2 * lenSS ps) : bTo (mpM ps) f 1 = if f % 2 = 0 then f + 1 else f - 1 := by
  obtain ⟨a, b⟩ := dupL_get (fun c => ((2 * c + 1 : Nat) : Int)) (fun c => ((2 * c : Nat) : Int)) (lenSS ps) (f / 2) (by omega)
  have e : bTo (mpM ps) f 1 = (iget (oneL (lenSS ps)) f).toNat := rfl
  rw [e]
  split
  · rename_i q
    rw [show 2 * (f / 2) = f by omega] at a
    show (iget (dupL _ _ _) f).toNat = _
    rw [a]; omega
  · rename_i q
    rw [show 2 * (f / 2) + 1 = f by omega] at b
    show (iget (dupL _ _ _) f).toNat = _
    rw [b]; omega
theorem mpM_len0 : (lget (mpM ps) 0).length = 2 * lenSS ps := dupL_len _ _ _
theorem lenSS_pos (h0 : 0 < ps.length) (h : ∀ j, j < ps.length → 1 ≤ (lget ps j).length) : 0 < lenSS ps := by
  have h1 := begP_succ h0
  have h2 := begP_le (ps := ps) (0 + 1)
  have := h 0 h0
  rw [begP_zero] at h1; omega
/-- the faces of the map are the polygons, in their order -/
theorem mp_faces (hM : Man (mpM ps)) (h0 : 0 < ps.length) (h : ∀ j, j < ps.length → 1 ≤ (lget ps j).length) :
    (labs ((mpM ps).eraseIdx 2) (lget (mpM ps) 0).length).2 = ps.length ∧ ∀ f, f < 2 * lenSS ps → iget (labs ((mpM ps).eraseIdx 2) (lget (mpM ps) 0).length).1 f = (polN ps (f / 2) : Int) := by
  obtain ⟨hT, hB⟩ := erase_ok hM (r := 2) (by show 2 < 3; omega)
  rw [mpM_len0] at *
  have hN := lenSS_pos h0 h
  have e0 : ∀ d, bTo ((mpM ps).eraseIdx 2) d 0 = bTo (mpM ps) d 0 := fun d => rfl
  have e1 : ∀ d, bTo ((mpM ps).eraseIdx 2) d 1 = bTo (mpM ps) d 1 := fun d => rfl
  generalize hTT : (mpM ps).eraseIdx 2 = T at *
  have hl : T.length = 2 := by rw [← hTT]; rfl
  have on0 : ∀ c d, c < 2 * lenSS ps → d < 2 * lenSS ps → rch T (2 * lenSS ps) c d = true → rch T (2 * lenSS ps) c (bTo (mpM ps) d 0) = true := fun c d hc hd hr => by have := rch_on hT hc hd hr (g := 0) (by omega); rwa [e0] at this
  have on1 : ∀ c d, c < 2 * lenSS ps → d < 2 * lenSS ps → rch T (2 * lenSS ps) c d = true → rch T (2 * lenSS ps) c (bTo (mpM ps) d 1) = true := fun c d hc hd hr => by have := rch_on hT hc hd hr (g := 1) (by omega); rwa [e1] at this
  have reach : ∀ k, k < ps.length → ∀ i, i < (lget ps k).length → rch T (2 * lenSS ps) (2 * begP ps k) (2 * (begP ps k + i)) = true ∧ rch T (2 * lenSS ps) (2 * begP ps k) (2 * (begP ps k + i) + 1) = true := by
    intro k hk i
    have hc0 := corner_lt hk (h k hk)
    induction i with
    | zero =>
      intro hi
      have r0 := rch_refl hT (c := 2 * begP ps k) (by omega)
      have r1 := on1 _ _ (by omega) (by omega) r0
      rw [bTo_one (by omega), if_pos (by omega)] at r1
      exact ⟨r0, r1⟩
    | succ i ih =>
      intro hi
      have hc := corner_lt hk hi
      obtain ⟨r0, -⟩ := ih (by omega)
      have r1 := on0 _ _ (by omega) (by omega) r0
      rw [bTo_zer (by omega), if_pos (by omega), show 2 * (begP ps k + i) / 2 = begP ps k + i by omega, nxP_at ps k i hk (by omega), Nat.mod_eq_of_lt hi] at r1
      have r2 := on1 _ _ (by omega) (by omega) r1
      rw [bTo_one (by omega), if_neg (by omega), show 2 * (begP ps k + (i + 1)) + 1 - 1 = 2 * (begP ps k + (i + 1)) by omega] at r2
      exact ⟨r2, r1⟩
  have hr : ∀ c d, c < 2 * lenSS ps → d < 2 * lenSS ps → (rch T (2 * lenSS ps) c d = true ↔ polN ps (c / 2) = polN ps (d / 2)) := fun c d hc hd => by
    constructor
    · intro hr
      refine rch_in (p := fun d => polN ps (c / 2) = polN ps (d / 2)) hT hc rfl (fun d hd hp g hg => ?_) d hd hr
      rw [hl] at hg
      match g, hg with
      | 0, _ =>
        rw [e0, bTo_zer hd, hp]
        split
        · rw [show (2 * nxP ps (d / 2) + 1) / 2 = nxP ps (d / 2) by omega, polN_nx (by omega)]
        · rw [show (2 * pvP ps (d / 2)) / 2 = pvP ps (d / 2) by omega, polN_pv (by omega)]
      | 1, _ =>
        rw [e1, bTo_one hd, hp]
        split
        · rw [show (d + 1) / 2 = d / 2 by omega]
        · rw [show (d - 1) / 2 = d / 2 by omega]
    · intro he
      have key : ∀ c, c < 2 * lenSS ps → rch T (2 * lenSS ps) (2 * begP ps (polN ps (c / 2))) c = true ∧ 2 * begP ps (polN ps (c / 2)) < 2 * lenSS ps := fun c hc => by
        obtain ⟨k, i, h1, h2, h3⟩ := corner_of ps (c / 2) (by omega)
        rw [h3, polN_at ps k i h1 h2]
        obtain ⟨r0, r1⟩ := reach k h1 i h2
        have hc0 := corner_lt h1 (h k h1)
        refine ⟨?_, by omega⟩
        by_cases e : c % 2 = 0
        · rw [show c = 2 * (begP ps k + i) by omega]; exact r0
        · rw [show c = 2 * (begP ps k + i) + 1 by omega]; exact r1
      obtain ⟨k1, l1⟩ := key c hc
      obtain ⟨k2, l2⟩ := key d hd
      rw [← he] at k2
      exact rch_trans hT hc l1 hd (rch_symm hT hB l1 hc k1) k2
  have hcls := labTo_cls (T := T) (n := 2 * lenSS ps) (fun f => polN ps (f / 2)) (by show polN ps (0 / 2) = 0; exact polN_zero h0 h) (fun i hi => by
    by_cases e : i % 2 = 0
    · left; show polN ps ((i + 1) / 2) = polN ps (i / 2); rw [show (i + 1) / 2 = i / 2 by omega]
    · show polN ps ((i + 1) / 2) = polN ps (i / 2) ∨ polN ps ((i + 1) / 2) = polN ps (i / 2) + 1
      rw [show (i + 1) / 2 = i / 2 + 1 by omega]
      exact polN_step h (by omega)) hr (2 * lenSS ps) (Nat.le_refl _)
  obtain ⟨h1, h2⟩ := hcls
  rw [if_neg (by omega)] at h1
  have hlast := polN_last h0 h hN
  have h1 : (labs T (2 * lenSS ps)).2 = ps.length := by
    show (labTo T (2 * lenSS ps) (2 * lenSS ps)).2 = _
    rw [h1, show (2 * lenSS ps - 1) / 2 = lenSS ps - 1 by omega, hlast]
  refine ⟨h1, fun f hf => ?_⟩
  have h3 : (labTo T (2 * lenSS ps) (2 * lenSS ps)).2 = ps.length := h1
  have := h2 f hf
  rw [h3] at this
  show iget (labTo T (2 * lenSS ps) (2 * lenSS ps)).1 f = _
  rw [this, if_pos]
  obtain ⟨k, i, g1, g2, g3⟩ := corner_of ps (f / 2) (by omega)
  rw [g3, polN_at ps k i g1 g2]; exact g1
/-- twice the edges: the corners -/
theorem mp_edges (hM : Man (mpM ps)) : 2 * (labs ((mpM ps).eraseIdx 1) (lget (mpM ps) 0).length).2 = lenSS ps := by
  have := edges4 hM rfl
  rw [mpM_len0] at *
  omega
/-- the vertices met among the first corners -/
def metL (ps : List (List Int)) : Nat → List Int
  | 0 => []
  | m + 1 => if vtx ps m ∈ metL ps m then metL ps m else metL ps m ++ [vtx ps m]
theorem metL_ok : ∀ m, (metL ps m).Nodup ∧ ∀ v, v ∈ metL ps m ↔ ∃ c, c < m ∧ vtx ps c = v
  | 0 => ⟨by simp [metL], fun v => ⟨fun h => by simp [metL] at h, fun ⟨c, h, _⟩ => by omega⟩⟩
  | m + 1 => by
    obtain ⟨h1, h2⟩ := metL_ok m
    unfold metL
    split
    · rename_i hin
      refine ⟨h1, fun v => ?_⟩
      rw [h2]
      constructor
      · rintro ⟨c, a, b⟩; exact ⟨c, by omega, b⟩
      · rintro ⟨c, a, b⟩
        by_cases e : c = m
        · subst e; rw [b] at hin; exact (h2 v).1 hin
        · exact ⟨c, by omega, b⟩
    · rename_i hin
      refine ⟨?_, fun v => ?_⟩
      · rw [List.nodup_append]
        refine ⟨h1, by simp, fun a ha b hb => ?_⟩
        simp at hb; subst hb
        intro e; subst e; exact hin ha
      · rw [List.mem_append, h2]
        constructor
        · rintro (⟨c, a, b⟩ | h)
          · exact ⟨c, by omega, b⟩
          · simp at h; exact ⟨m, by omega, h.symm⟩
        · rintro ⟨c, a, b⟩
          by_cases e : c = m
          · subst e; right; simp [b]
          · exact .inl ⟨c, by omega, b⟩
theorem metL_len (m : Nat) : (metL ps m).length ≤ m := by
  induction m with
  | zero => exact Nat.le_refl _
  | succ m ih =>
    unfold metL
    split
    · omega
    · rw [List.length_append, List.length_singleton]; omega
/-- the second move keeps the vertex -/
theorem own_two (hg : mpGood ps = true) (hM : Man (mpM ps)) {f : Nat} (hf : f < 2 * lenSS ps) : iget (ownL ps (lenSS ps)) (bTo (mpM ps) f 2) = iget (ownL ps (lenSS ps)) f := by
  unfold mpGood goodUp at hg
  have := List.all_eq_true.1 hg f (List.mem_range.2 hf)
  rw [decide_eq_true_eq] at this
  have htw : ∀ F f, f < F → iget (twoL ps (lenSS ps) F) f = iget (fndL ps (lenSS ps) f (2 * lenSS ps)) 0 := by
    intro F
    induction F with
    | zero => intro f hf; omega
    | succ F ih =>
      intro f hf
      have hl := twoL_len ps (lenSS ps) F
      unfold twoL
      by_cases e : f = F
      · subst e
        conv => lhs; unfold iget
        rw [List.getD_eq_getElem?_getD, List.getElem?_append_right (by omega), hl, Nat.sub_self]; rfl
      · rw [← ih f (by omega)]
        conv => lhs; unfold iget
        rw [List.getD_eq_getElem?_getD, List.getElem?_append_left (by omega), ← List.getD_eq_getElem?_getD]; rfl
  have hb : bTo (mpM ps) f 2 = (iget (twoL ps (lenSS ps) (2 * lenSS ps)) f).toNat := rfl
  rw [hb, htw _ f hf]
  rw [fndL_filter, List.length_map] at this
  obtain ⟨g, hg2⟩ := List.length_eq_one_iff.1 this
  rw [fndL_filter, hg2]
  have hm : g ∈ (List.range (2 * lenSS ps)).filter (fndB ps (lenSS ps) f) := by rw [hg2]; simp
  rw [List.mem_filter] at hm
  have h3 := hm.2
  unfold fndB at h3
  simp only [Bool.and_eq_true, beq_iff_eq] at h3
  show iget (ownL ps (lenSS ps)) ((g : Int)).toNat = _
  rw [Int.toNat_natCast]; exact h3.1.2
/-- as many vertices as are met, or more -/
theorem mp_verts (hg : mpGood ps = true) (hM : Man (mpM ps)) : (metL ps (lenSS ps)).length ≤ (labs ((mpM ps).eraseIdx 0) (lget (mpM ps) 0).length).2 := by
  obtain ⟨hT, hB⟩ := erase_ok hM (r := 0) (by show 0 < 3; omega)
  rw [mpM_len0] at *
  have e0 : ∀ d, bTo ((mpM ps).eraseIdx 0) d 0 = bTo (mpM ps) d 1 := fun d => rfl
  have e1 : ∀ d, bTo ((mpM ps).eraseIdx 0) d 1 = bTo (mpM ps) d 2 := fun d => rfl
  generalize hTT : (mpM ps).eraseIdx 0 = T at *
  have hl : T.length = 2 := by rw [← hTT]; rfl
  have hev : ∀ c, c < lenSS ps → iget (ownL ps (lenSS ps)) (2 * c) = vtx ps c := fun c hc => (own_even hc).1
  have hod : ∀ c, c < lenSS ps → iget (ownL ps (lenSS ps)) (2 * c + 1) = vtx ps c := fun c hc => (own_odd hc).1
  have hv : ∀ f, f < 2 * lenSS ps → iget (ownL ps (lenSS ps)) f = vtx ps (f / 2) := fun f hf => by
    by_cases e : f % 2 = 0
    · have := hev (f / 2) (by omega); rwa [show 2 * (f / 2) = f by omega] at this
    · have := hod (f / 2) (by omega); rwa [show 2 * (f / 2) + 1 = f by omega] at this
  have keep : ∀ c d, c < 2 * lenSS ps → d < 2 * lenSS ps → rch T (2 * lenSS ps) c d = true → iget (ownL ps (lenSS ps)) d = iget (ownL ps (lenSS ps)) c := fun c d hc hd hr => by
    refine rch_in (p := fun d => iget (ownL ps (lenSS ps)) d = iget (ownL ps (lenSS ps)) c) hT hc rfl (fun d hd hp g hg2 => ?_) d hd hr
    rw [hl] at hg2
    match g, hg2 with
    | 0, _ =>
      rw [e0, ← hp, bTo_one hd]
      split
      · rw [hv _ (by omega), hv _ hd, show (d + 1) / 2 = d / 2 by omega]
      · rw [hv _ (by omega), hv _ hd, show (d - 1) / 2 = d / 2 by omega]
    | 1, _ => rw [e1, own_two hg hM hd, hp]
  obtain ⟨hnd, hmem⟩ := metL_ok (ps := ps) (lenSS ps)
  obtain ⟨-, -, hlab⟩ := labs_all hT hB
  have hc : ∀ i, ∃ c, i < (metL ps (lenSS ps)).length → c < lenSS ps ∧ (metL ps (lenSS ps))[i]? = some (vtx ps c) := fun i => by
    by_cases hi : i < (metL ps (lenSS ps)).length
    · obtain ⟨c, a, b⟩ := (hmem _).1 (List.getElem_mem hi)
      exact ⟨c, fun _ => ⟨a, by rw [List.getElem?_eq_getElem hi, b]⟩⟩
    · exact ⟨0, fun h => absurd h hi⟩
  refine pigeonV _ _ (fun i => (iget (labs T (2 * lenSS ps)).1 (2 * Classical.choose (hc i))).toNat) (fun i hi => ?_) (fun i j hi hj he => ?_)
  · obtain ⟨a, b⟩ := Classical.choose_spec (hc i) hi
    obtain ⟨x, h1, h2⟩ := hlab (2 * Classical.choose (hc i)) (by omega)
    show (iget (labs T (2 * lenSS ps)).1 (2 * Classical.choose (hc i))).toNat < _
    rw [h1, Int.toNat_natCast]; exact h2
  · obtain ⟨a, b⟩ := Classical.choose_spec (hc i) hi
    obtain ⟨a', b'⟩ := Classical.choose_spec (hc j) hj
    generalize Classical.choose (hc i) = c at *
    generalize Classical.choose (hc j) = c' at *
    obtain ⟨x, h1, h2⟩ := hlab (2 * c) (by omega)
    obtain ⟨x', h1', h2'⟩ := hlab (2 * c') (by omega)
    have he : (iget (labs T (2 * lenSS ps)).1 (2 * c)).toNat = (iget (labs T (2 * lenSS ps)).1 (2 * c')).toNat := he
    rw [h1, h1', Int.toNat_natCast, Int.toNat_natCast] at he
    have hr := labs_alike hT hB (c := 2 * c) (d := 2 * c') (by omega) (by omega) (by rw [h1, h1', he])
    have := keep _ _ (by omega) (by omega) hr
    rw [hev _ a, hev _ a'] at this
    rw [this] at b'
    rw [← b'] at b
    exact (List.getElem?_inj hi hnd).1 b
end
end Go.Proofs.Ytpognnifgcacnaa

/- Faces of a maniplex: labels and numbers (the program's FaceLabels, FaceCounts). -/
namespace Go.Proofs.Ytpognnifgcacnaa
open Go.RowKit

theorem implManG {E1 E : Nat} {lo hi : Nat} {v : Value} {d : List (List Int)} (w : World) (h : OwM E1 E w lo hi v d) (h1 : d.length ≤ 1048576) (h2 : ∀ i, i < d.length → (lget d i).length ≤ 1048576) :
    Calls Try.prog 114 #[v] w fun e w' => e = .returned (.bool (manB d)) ∧ Below w.heap.size w w' := one_val (callM (fun _ => manI_fc d h1 h2) h)
theorem orbW_any {d : List (List Int)} {n : Nat} {v : Value} (w : World) (h : RdSSc w v d) (hT : Leads d n) (hB : Back2 d n) (hn0 : 0 < n) (hn : n ≤ 1000) (hd : d.length ≤ 1000) :
    Calls Try.prog 187 #[.int .i64 n, v] w fun e w' => ∃ v', e = .returned (.tuple #[v', .int .i64 ((labs d n).2 : Nat)]) ∧ OwnS 2 w' w.heap.size w'.heap.size v' (labs d n).1 ∧ Below w.heap.size w w' := by
  have hl := (labs_all hT hB).1
  refine (callNR (orbI_fc d n d.length rfl hT hB hn0 (by omega) (by omega)) h).mono ?_
  rintro e w' ⟨v, η, ω, rfl, hde, hm, hb, hlo⟩
  obtain ⟨u, u', rfl, h1, h2⟩ := den_tup2 hde
  have h1 : Den1 η (.sl 16 0 n) u := h1
  have h2 : u' = .int .i64 ((labs d n).2 : Nat) := h2
  subst h2
  have := toS (x := 16) (E := 2) (zs := (labs d n).1) hm hlo rfl (by rw [hl]; exact h1) (by omega)
  exact ⟨u, rfl, this, hb⟩
theorem sizeRM_any (ao : Option Addr) (n c : Nat) (w : World) : Calls Try.prog 145 #[.slice ao n c] w fun e w' => e = .returned (.int .i64 n) ∧ w = w' := by
  go_enter Try.func145, Try.ntmps145
  go_wp2
  go_ret
  exact ⟨rfl, rfl⟩
theorem rankM_any (mb n c : Nat) (ao : Option Addr) (w : World) (hm : Blk w mb 41 #[.slice ao n c]) :
    Calls Try.prog 185 #[.pointer (some ⟨mb, 0, none⟩)] w fun e w' => e = .returned (.int .i64 n) ∧ w = w' := by
  have x0 := hm.cell 0
  simp at x0
  go_enter Try.func185, Try.ntmps185
  go_wp2_with (go_at_call 145; refine (sizeRM_any _ _ _ _).mono ?_; rintro e w' ⟨rfl, hw⟩; subst hw)
  go_ret
  exact ⟨rfl, rfl⟩
theorem hasRankM_any (mb n c r : Nat) (ao : Option Addr) (w : World) (hm : Blk w mb 41 #[.slice ao n c]) (hn : n ≤ 5) :
    Calls Try.prog 127 #[.pointer (some ⟨mb, 0, none⟩), .int .i64 r] w fun e w' => e = .returned (.bool (inB (r : Int) 0 ((n : Int) - 1))) ∧ w = w' := by
  go_enter Try.func127, Try.ntmps127
  go_wp2_with (first | (go_at_call 97; refine (within_any _ _ _ _).mono ?_; rintro e w' ⟨rfl, rfl⟩) | (go_at_call 185; refine (rankM_any mb n c ao w hm).mono ?_; rintro e w' ⟨rfl, hw⟩; subst hw))
  go_ret
  exact ⟨rfl, rfl⟩
set_option maxHeartbeats 3200000 in
theorem facesI_any (mb c r : Nat) (ao : Option Addr) (d : List (List Int)) (w : World) (hm : Blk w mb 41 #[.slice ao d.length c]) (h : RdSSc w (.slice ao d.length c) d) (hM : Man d) (hr : r < d.length) :
    Calls Try.prog 128 #[.pointer (some ⟨mb, 0, none⟩), .int .i64 r] w fun e w' => ∃ v, e = .returned (.tuple #[v, .int .i64 ((labs (d.eraseIdx r) (lget d 0).length).2 : Nat)]) ∧ OwnS 2 w' w.heap.size w'.heap.size v (labs (d.eraseIdx r) (lget d 0).length).1 ∧ Below w.heap.size w w' := by
  obtain ⟨hT, hB⟩ := erase_ok hM hr
  have hn2 := hM.f2
  have hn4 := hM.f4
  have h5 := hM.n5
  have hlen : (d.eraseIdx r).length ≤ 1000 := by have := List.length_eraseIdx_le d r; omega
  obtain ⟨n, hn⟩ : ∃ n, (lget d 0).length = n := ⟨_, rfl⟩
  have hN := Lib.hid hn
  rw [hn] at hT hB hn2 hn4
  rw [hn]
  have HM := Lib.hid hm
  have HR := Lib.hid h
  have HO := Lib.hid (fun (w : World) (v : Value) (h : RdSSc w v (d.eraseIdx r)) => orbW_any w h hT hB (by omega) (by omega) hlen)
  generalize (labs (d.eraseIdx r) n).2 = m at *
  generalize (labs (d.eraseIdx r) n).1 = L at *
  clear hT hB hm h hn
  go_enter Try.func128, Try.ntmps128
  go_wp2_with fail
  refine (flagsI_any mb ao d.length c n d w HM.out HR.out.rd (by omega) hN.out (by omega)).mono ?_
  rintro e w' ⟨rfl, hw⟩
  subst hw
  go_wp2_with fail
  refine (without_any mb c r ao d w HM.out HR.out hr (by omega)).mono ?_
  rintro e w2 ⟨v2, rfl, r2, b2⟩
  have R2 := Lib.hid r2
  have z2 := b2.size
  clear r2
  go_wp2_with fail
  refine (HO.out w2 v2 R2.out).mono ?_
  rintro e w3 ⟨v3, rfl, o3, b3⟩
  have OS := Lib.hid (show OwnS 2 w3 w.heap.size w3.heap.size v3 L from ⟨o3.1, o3.2.mono z2 (Nat.le_refl _)⟩)
  have hb := b2.trans (b3.mono z2)
  clear o3 b2 b3 R2
  go_wp2_with fail
  exact bodyPost_ret (v := .tuple #[v3, .int .i64 (m : Nat)]) (by simp [results, Try.f128, go_sem]) rfl ⟨v3, rfl, OS.out, hb⟩
def fcL (d : List (List Int)) (k : Nat) : List Int := (List.range k).map fun i => (((labs (d.eraseIdx i) (lget d 0).length).2 : Nat) : Int)
theorem fcL_succ (d : List (List Int)) (k : Nat) : fcL d (k + 1) = fcL d k ++ [(((labs (d.eraseIdx k) (lget d 0).length).2 : Nat) : Int)] := by simp [fcL, List.range_succ]
set_option maxHeartbeats 3200000 in
theorem faceCounts_any (mb c : Nat) (ao : Option Addr) (d : List (List Int)) (w : World) (hm : Blk w mb 41 #[.slice ao d.length c]) (h : RdSSc w (.slice ao d.length c) d) (hM : Man d) :
    Calls Try.prog 126 #[.pointer (some ⟨mb, 0, none⟩)] w fun e w' => ∃ a2 c2, e = .returned (.slice a2 d.length c2) ∧ Own w' w.heap.size 2 a2 d.length c2 ((fcL d d.length).map (Value.int .i64)) ∧ Below w.heap.size w w' := by
  have h5 := hM.n5
  have HM := Lib.hid hm
  have HR := Lib.hid h
  obtain ⟨K, hK⟩ : ∃ K, d.length = K := ⟨_, rfl⟩
  have HK := Lib.hid hK
  have HF := Lib.hid (fun (w' : World) (k : Nat) (hk : k < K) (hm : Blk w' mb 41 #[.slice ao d.length c]) (h : RdSSc w' (.slice ao d.length c) d) => facesI_any mb c k ao d w' hm h hM (by omega))
  rw [hK] at h5
  clear hm h
  rw [hK]
  have hE : Own w w.heap.size 2 none 0 0 [] := Own.nil_ _ _ _
  clear hK
  go_enter Try.func126, Try.ntmps126
  go_wp2_with fail
  refine (rankM_any mb d.length c ao w HM.out).mono ?_
  rintro e w' ⟨rfl, hw⟩
  subst hw
  rw [HK.out]
  go_wp2_with fail
  go_loopw [3, 9] (fun sv iv wr => ∃ (k : Nat) (a2 : Option Addr) (c2 : Nat), k ≤ K ∧ sv = .slice a2 k c2 ∧ iv = .int .i64 k ∧ Own wr w.heap.size 2 a2 k c2 ((fcL d k).map (Value.int .i64)) ∧ Below w.heap.size w wr) (fun _ i _ => K - (intOf i).toNat)
  case atStart => exact ⟨0, none, 0, Nat.zero_le _, rfl, rfl, hE, Below.refl _ _⟩
  case round =>
    clear hE
    obtain ⟨k, a2, c2, hk, rfl, rfl, ho, hb⟩ := hrel
    have hsz := hb.size
    by_cases hlt : k < K
    · have HO := Lib.hid ho
      clear ho
      go_wp2_with fail
      refine (HF.out wr k hlt (HM.out.belowS hb) (HR.out.below hb)).mono ?_
      rintro e w3 ⟨v3, rfl, -, b3⟩
      have HS := Lib.hid (fcL_succ d k)
      generalize (labs (d.eraseIdx k) (lget d 0).length).2 = x at *
      have HO3 := Lib.hid (HO.out.below b3)
      have hb3 := hb.trans (b3.mono hsz)
      have hsz3 := hb3.size
      have hol := fun g hg => (HO3.out.lt g hg).1
      clear HO b3 hb
      go_wp2_with (at_builtin; refine wpList_ap1 etI _ rfl _ _ rfl w.heap.size a2 k c2 _ rfl HO3.out (.int .i64 (x : Int)) rfl rfl (by omega) hsz3 ?_; intro ao2 c4 w4 ho2 hg2 hblk)
      have HO4 := Lib.hid ho2
      have hb4 := hb3.grown hg2 hsz3 hol
      clear ho2 hblk hg2 hb3
      go_wp2
      go_roundw
      case rel => exact ⟨k + 1, ao2, c4, by omega, rfl, by go_num, by rw [HS.out, List.map_append]; exact HO4.out, hb4⟩
      case measure => simp [intOf]; omega
    · obtain rfl : k = K := by omega
      go_wp2_with fail
      go_ret
      exact ⟨a2, c2, rfl, ho, hb⟩
theorem OwM.rdcM {E1 E : Nat} {w : World} {lo hi : Nat} {ao : Option Addr} {n c : Nat} {d : List (List Int)} (h : OwM E1 E w lo hi (.agg #[.slice ao n c]) d) : RdSSc w (.slice ao n c) d ∧ d.length = n := by
  obtain ⟨a', n', c', us, e, hor⟩ := h
  have e2 : Value.slice ao n c = .slice a' n' c' := by
    injection e with e
    have := congrArg (fun x : Array Value => x[0]?) e
    simpa using this
  injection e2 with e3 e4 e5
  subst e3 e4 e5
  exact ⟨OwSS.rdc (⟨_, _, _, _, rfl, hor⟩ : OwSS E1 E w lo hi _ d), hor.len⟩
set_option maxHeartbeats 3200000 in
theorem api_faceCounts {E1 E : Nat} {lo hi : Nat} {ao : Option Addr} {n c : Nat} {d : List (List Int)} (w : World) (h : OwM E1 E w lo hi (.agg #[.slice ao n c]) d) (hM : Man d) :
    Calls Try.prog 50 #[.agg #[.slice ao n c]] w fun e w' => ∃ a2 c2, e = .returned (.tuple #[.slice a2 n c2, .int .i64 0]) ∧ Own w' w.heap.size 2 a2 n c2 ((fcL d n).map (Value.int .i64)) ∧ Below w.heap.size w w' := by
  obtain ⟨hrd, rfl⟩ := h.rdcM
  have hf4 := hM.f4
  have h5 := hM.n5
  have b1 := below_alloc1 w (.cells #[.slice ao d.length c] 41)
  have k1 : Blk (w.alloc (.cells #[.slice ao d.length c] 41)) w.heap.size 41 #[.slice ao d.length c] := blk_at rfl
  have x1 := k1.cell 0
  have HW := Lib.hid (h.below b1)
  have HRD := Lib.hid (hrd.below b1)
  have HMB := Lib.hid (manB_yes hM)
  have HL := Lib.hid (show ∀ i, i < d.length → (lget d i).length ≤ 1048576 from fun i hi => by rw [hM.len i hi]; omega)
  clear h hrd
  go_enter Try.func50, Try.ntmps50
  go_wp2_with (go_at_call 114; refine (implManG _ HW.out (by omega) HL.out).mono ?_; rintro e w2 ⟨rfl, b2⟩; rw [HMB.out])
  have z2 := b2.size
  have hb2 := b1.trans (b2.mono b1.size)
  refine (faceCounts_any w.heap.size c ao d w2 (k1.belowS b2) (HRD.out.below b2) hM).mono ?_
  rintro e w3 ⟨a2, c2, rfl, o3, b3⟩
  have O3 := Lib.hid (o3.mono (show w.heap.size ≤ w2.heap.size by have := b1.size; omega))
  have hb3 := hb2.trans (b3.mono (by have := b1.size; omega))
  clear o3 b3 b2 hb2
  go_wp2_with fail
  exact bodyPost_ret (v := .tuple #[.slice a2 d.length c2, .int .i64 0]) (by simp [results, Try.f50, go_sem]) rfl ⟨a2, c2, rfl, O3.out, hb3⟩
set_option maxHeartbeats 3200000 in
theorem api_faceLabels {E1 E : Nat} {lo hi : Nat} {ao : Option Addr} {n c r : Nat} {d : List (List Int)} (w : World) (h : OwM E1 E w lo hi (.agg #[.slice ao n c]) d) (hM : Man d) (hr : r < n) :
    Calls Try.prog 51 #[.agg #[.slice ao n c], .int .i64 r] w fun e w' => ∃ v, e = .returned (.tuple #[v, .int .i64 0]) ∧ OwnS 2 w' w.heap.size w'.heap.size v (labs (d.eraseIdx r) (lget d 0).length).1 ∧ Below w.heap.size w w' := by
  obtain ⟨hrd, rfl⟩ := h.rdcM
  have hf4 := hM.f4
  have h5 := hM.n5
  have b1 := below_alloc1 w (.cells #[.slice ao d.length c] 41)
  have k1 : Blk (w.alloc (.cells #[.slice ao d.length c] 41)) w.heap.size 41 #[.slice ao d.length c] := blk_at rfl
  have x1 := k1.cell 0
  have HW := Lib.hid (h.below b1)
  have HRD := Lib.hid (hrd.below b1)
  have HMB := Lib.hid (manB_yes hM)
  have HL := Lib.hid (show ∀ i, i < d.length → (lget d i).length ≤ 1048576 from fun i hi => by rw [hM.len i hi]; omega)
  have HRB := Lib.hid (show inB (r : Int) 0 ((d.length : Int) - 1) = true by simp [inB]; omega)
  clear h hrd
  go_enter Try.func51, Try.ntmps51
  go_wp2_with (go_at_call 114; refine (implManG _ HW.out (by omega) HL.out).mono ?_; rintro e w2 ⟨rfl, b2⟩; rw [HMB.out])
  have z2 := b2.size
  have hb2 := b1.trans (b2.mono b1.size)
  have k2 := k1.belowS b2
  have HR2 := Lib.hid (HRD.out.below b2)
  clear b2 HW HRD
  refine (hasRankM_any w.heap.size d.length c r ao w2 k2 h5).mono ?_
  rintro e w' ⟨rfl, hw⟩
  subst hw
  rw [HRB.out]
  go_wp2_with fail
  refine (facesI_any w.heap.size c r ao d w2 k2 HR2.out hM hr).mono ?_
  rintro e w3 ⟨v3, rfl, o3, b3⟩
  have O3 := Lib.hid (show OwnS 2 w3 w.heap.size w3.heap.size v3 (labs (d.eraseIdx r) (lget d 0).length).1 from ⟨o3.1, o3.2.mono (by have := b1.size; omega) (Nat.le_refl _)⟩)
  have hb3 := hb2.trans (b3.mono (by have := b1.size; omega))
  clear o3 b3 hb2
  generalize (labs (d.eraseIdx r) (lget d 0).length).2 = y at *
  go_wp2_with fail
  exact bodyPost_ret (v := .tuple #[v3, .int .i64 0]) (by simp [results, Try.f51, go_sem]) rfl ⟨v3, rfl, O3.out, hb3⟩
end Go.Proofs.Ytpognnifgcacnaa

/- Coset enumeration: l11Find. -/
namespace Go.Proofs.Ytpognnifgcacnaa
open Go.RowKit

end Go.Proofs.Ytpognnifgcacnaa

/- Coset enumeration: l11Define. -/
namespace Go.Proofs.Ytpognnifgcacnaa
open Go.RowKit

end Go.Proofs.Ytpognnifgcacnaa

/- The laws' helpers on lists of words: likeInts, same9, run9. -/
namespace Go.Proofs.Ytpognnifgcacnaa
open Go.RowKit

set_option maxHeartbeats 400000 in
theorem likeInts_any (a b : Option Addr) (n ca cb : Nat) (zs : List Int) (w : World) (ha : Ints w a n zs) (hb : Ints w b n zs) :
    Calls Try.prog 142 #[.slice a n ca, .slice b n cb] w fun e w' => e = .returned (.bool true) ∧ ∃ m, w' = w.drewN m := by
  have hla := ha.2.1
  have hl' : ((n : Int) != (n:Int)) = false := by simp
  go_enter Try.func142, Try.ntmps142
  go_wp2
  go_loopw [5] (fun i wr => ∃ k : Nat, k ≤ n ∧ i = .int .i64 k ∧ ∃ m, wr = w.drewN m) (fun i _ => n - (intOf i).toNat)
  case atStart => exact ⟨0, Nat.zero_le _, rfl, 0, rfl⟩
  case round =>
    obtain ⟨k, hk, rfl, m, rfl⟩ := hrel
    by_cases hlt : k < n
    · obtain ⟨ba, oa, rfl, hca⟩ := ha.at_ hlt
      obtain ⟨bb, ob, rfl, hcb⟩ := hb.at_ hlt
      have he' : (iget zs k != iget zs k) = false := by simp
      go_wp2_with fail
      go_quiet (fail)
      go_wp2
      go_roundw
      case rel => exact ⟨k + 1, by omega, by go_num, _, rfl⟩
      case measure => first | (simp [intOf]; done) | (simp [intOf]; omega)
    · obtain rfl : k = n := by omega
      go_wp2
      go_ret
      exact ⟨rfl, _, rfl⟩
end Go.Proofs.Ytpognnifgcacnaa

/- Laws' helpers: likeRows5, like5, flags5. -/
namespace Go.Proofs.Ytpognnifgcacnaa
open Go.RowKit

set_option maxHeartbeats 1600000 in
theorem likeRows5_any {v v' : Value} {zss : List (List Int)} (w : World) (h : RdSS w v zss) (h' : RdSS w v' zss) :
    Calls Try.prog 125 #[v, v'] w fun e w' => e = .returned (.bool true) ∧ Below w.heap.size w w' := by
  obtain ⟨ao, n, c, rfl, hi⟩ := h
  obtain ⟨ao', n', c', rfl, hi'⟩ := h'
  obtain rfl : n = n' := by rw [← hi.1, ← hi'.1]
  have hbd := hi.2.1
  have hl' : ((n : Int) != (n:Int)) = false := by simp
  go_enter Try.func125, Try.ntmps125
  go_wp2
  go_loopw [5] (fun i wr => ∃ k : Nat, k ≤ n ∧ i = .int .i64 k ∧ Below w.heap.size w wr) (fun i _ => n - (intOf i).toNat)
  case atStart => exact ⟨0, Nat.zero_le _, rfl, Below.refl _ _⟩
  case round =>
    obtain ⟨k, hk, rfl, hb⟩ := hrel
    by_cases hlt : k < n
    · obtain ⟨b1, o1, a1, n1, c1, rfl, hc1, hin1⟩ := (hi.below hb).at_ hlt
      obtain ⟨b2, o2, a2, n2, c2, rfl, hc2, hin2⟩ := (hi'.below hb).at_ hlt
      obtain rfl : n1 = n2 := by rw [← hin1.1, ← hin2.1]
      have HH := Lib.hid hi
      have HH' := Lib.hid hi'
      clear hi hi'
      go_wp2_with fail
      go_quiet ((go_at_call 142; exact Calls.quiet_of (likeInts_any a1 a2 n1 c1 c2 (lget zss k) _ (hin1.drewN _) (hin2.drewN _))))
      go_wp2
      go_roundw
      case rel => exact ⟨k + 1, by omega, by go_num, below_drewN hb _⟩
      case measure => first | (simp [intOf]; done) | (simp [intOf]; omega)
    · obtain rfl : k = n := by omega
      go_wp2
      go_ret
      exact ⟨rfl, hb⟩
theorem like5_any {a a' : Option Addr} {n n' c c' : Nat} {zss : List (List Int)} (w : World) (h : RdSS w (.slice a n c) zss) (h' : RdSS w (.slice a' n' c') zss) :
    Calls Try.prog 49 #[.agg #[.slice a n c], .agg #[.slice a' n' c']] w fun e w' => e = .returned (.bool true) ∧ Below w.heap.size w w' := by
  have b2 := below_alloc2 w (.cells #[.slice a n c] 41) (.cells #[.slice a' n' c'] 41)
  have x1 := ((blk_at rfl : Blk (w.alloc (.cells #[.slice a n c] 41)) w.heap.size 41 #[.slice a n c]).alloc (.cells #[.slice a' n' c'] 41)).cell 0
  have H1 := Lib.hid (h.below b2)
  have H2 := Lib.hid (h'.below b2)
  clear h h'
  go_enter Try.func49, Try.ntmps49
  go_wp2_with (go_at_call 125; refine (likeRows5_any _ H1.out H2.out).mono ?_; rintro e w3 ⟨rfl, b3⟩)
  go_ret
  exact ⟨rfl, b2.trans (b3.mono b2.size)⟩
theorem flags5_any {a : Option Addr} {n c m : Nat} {zss : List (List Int)} (w : World) (h : RdSS w (.slice a n c) zss) (hn : 0 < n) (hm : (lget zss 0).length = m) :
    Calls Try.prog 52 #[.agg #[.slice a n c]] w fun e w' => e = .returned (.int .i64 m) ∧ Below w.heap.size w w' := by
  obtain ⟨ao', n', c', e, hi⟩ := h
  injection e with e1 e2 e3
  subst e1 e2 e3
  have b1 := below_alloc1 w (.cells #[.slice a n c] 41)
  have x1 := (blk_at rfl : Blk (w.alloc (.cells #[.slice a n c] 41)) w.heap.size 41 #[.slice a n c]).cell 0
  obtain ⟨b, off, a1, n1, c1, rfl, hc, hin⟩ := (hi.below b1).at_ hn
  obtain rfl : n1 = m := by rw [← hm, ← hin.1]
  simp at hc x1
  clear hi hin hm
  go_enter Try.func52, Try.ntmps52
  go_wp2_with fail
  go_ret
  exact ⟨rfl, b1⟩
end Go.Proofs.Ytpognnifgcacnaa

/- The laws' helpers on words and codes: times9, big. -/
namespace Go.Proofs.Ytpognnifgcacnaa
open Go.RowKit

theorem big_any (ao : Option Addr) (n c : Nat) (w : World) : Calls Try.prog 47 #[.slice ao n c] w fun e w' => e = .returned (.bool (decide (4096 < n))) ∧ w' = w := by
  by_cases h : 4096 < n
  · have e0 : decide ((4096 : Int) < n) = true := by simp; omega
    go_enter Try.func47, Try.ntmps47
    go_wp2
    go_ret
    exact ⟨by simp [h], rfl⟩
  · have e0 : decide ((4096 : Int) < n) = false := by simp; omega
    go_enter Try.func47, Try.ntmps47
    go_wp2
    go_ret
    exact ⟨by simp [h], rfl⟩
end Go.Proofs.Ytpognnifgcacnaa

/- The walk of FnPolygonMaps: true, whatever the draws. -/
namespace Go.Proofs.Ytpognnifgcacnaa
open Go.RowKit

theorem own_bool {w : World} {base E g n c : Nat} {bs : List Bool} (h : Own w base E (some ⟨g, 0, none⟩) n c (bs.map Value.bool)) {k : Nat} (hk : k < n) : w.cell? ⟨g, k, none⟩ = some (.bool (bs.getD k false)) := by
  have hl := h.len
  rw [List.length_map] at hl
  obtain ⟨g', e, -, -, -, hc, -⟩ := h.form (by omega)
  injection e with e; injection e with e; subst e
  rw [hc k hk, List.getElem?_map, List.getElem?_eq_getElem (by omega), List.getD_eq_getElem?_getD, List.getElem?_eq_getElem (by omega)]; rfl
/-- which vertices are met -/
def SeenB (ps : List (List Int)) (c : Nat) (Z : Nat) (bs : List Bool) : Prop := bs.length = Z ∧ ∀ v : Nat, v < Z → (bs.getD v false = true ↔ (v : Int) ∈ metL ps c)
theorem SeenB.start (ps : List (List Int)) (Z : Nat) : SeenB ps 0 Z (List.replicate Z false) := ⟨by simp, fun v hv => by simp [metL, List.getD_eq_getElem?_getD, hv]⟩
theorem SeenB.old {ps : List (List Int)} {c Z : Nat} {bs : List Bool} (h : SeenB ps c Z bs) (hm : vtx ps c ∈ metL ps c) : SeenB ps (c + 1) Z bs ∧ (metL ps (c + 1)).length = (metL ps c).length := by
  have e : metL ps (c + 1) = metL ps c := by show (if vtx ps c ∈ metL ps c then metL ps c else metL ps c ++ [vtx ps c]) = _; rw [if_pos hm]
  exact ⟨⟨h.1, fun v hv => by rw [e]; exact h.2 v hv⟩, by rw [e]⟩
theorem SeenB.new {ps : List (List Int)} {c Z x : Nat} {bs : List Bool} (h : SeenB ps c Z bs) (hx : vtx ps c = (x : Int)) (hxZ : x < Z) (hm : ¬ vtx ps c ∈ metL ps c) : SeenB ps (c + 1) Z (bs.set x true) ∧ (metL ps (c + 1)).length = (metL ps c).length + 1 := by
  have e : metL ps (c + 1) = metL ps c ++ [vtx ps c] := by show (if vtx ps c ∈ metL ps c then metL ps c else metL ps c ++ [vtx ps c]) = _; rw [if_neg hm]
  refine ⟨⟨by rw [List.length_set]; exact h.1, fun v hv => ?_⟩, by rw [e]; simp⟩
  rw [e, List.mem_append, List.mem_singleton, hx]
  have hl := h.1
  by_cases hvx : v = x
  · subst hvx
    rw [List.getD_eq_getElem?_getD, List.getElem?_set_self (by omega)]
    simp
  · rw [List.getD_eq_getElem?_getD, List.getElem?_set_ne (by omega), ← List.getD_eq_getElem?_getD, h.2 v hv]
    constructor
    · exact .inl
    · rintro (h1 | h1)
      · exact h1
      · omega
theorem vtx_in {n : Int} {ps : List (List Int)} (ok : PsOk n ps) {k i : Nat} (hk : k < ps.length) (hi : i < (lget ps k).length) : ∃ x : Nat, iget (lget ps k) i = (x : Int) ∧ (x : Int) < n ∧ vtx ps (begP ps k + i) = (x : Int) := by
  have hp := ok.poly k hk
  unfold polyOk at hp
  simp only [Bool.and_eq_true, List.all_eq_true, List.mem_range, polyAt, decide_eq_true_eq] at hp
  have h1 := (hp.2 i hi).1
  have h2 : vtx ps (begP ps k + i) = iget (lget ps k) i := flat_at ps k i hk hi
  generalize iget (lget ps k) i = y at *
  simp [inB] at h1
  exact ⟨y.toNat, by omega, by omega, by rw [h2]; omega⟩
/-- what a map of polygons that is one is -/
structure MpOk (z : Int) (ps : List (List Int)) : Prop where
  z1 : 1 ≤ z ∧ z ≤ 100
  ok : PsOk z ps
  man : Man (mpM ps)
  good : mpGood ps = true
  r : mpR z ps = mpM ps
theorem mpC_zero {z : Int} {ps : List (List Int)} (h : mpC z ps = 0) : MpOk z ps := by
  unfold mpC at h
  split at h
  · rename_i h1
    split at h
    · rename_i h2
      simp only [Bool.and_eq_true] at h1
      have h3 := h2
      unfold mpOk at h3
      simp only [Bool.and_eq_true] at h3
      refine ⟨by have := h1.1; simp [inB] at this; omega, psOk_of h1.2, manB_iff.1 h3.2, h3.1, ?_⟩
      unfold mpR; rw [h1.1, h1.2, h2]; rfl
    · cases h
  · cases h
theorem rdc_row {w : World} {ao : Option Addr} {m c : Nat} {ps : List (List Int)} (h : RdSSc w (.slice ao m c) ps) : Intss w ao m ps := by
  obtain ⟨a', n', c', e, hi⟩ := h.rd
  injection e with e1 e2 e3
  subst e1 e2 e3
  exact hi
set_option maxRecDepth 100000 in
set_option maxHeartbeats 6400000 in
theorem walkPolygonMaps {ao : Option Addr} {n c : Nat} (w : World) (h : Bts w ao n w.heap.size) :
    Calls Try.prog 10 #[.slice ao n c] w fun e w' => e = .returned (.bool true) ∧ Below w.heap.size w w' := by
  go_enter Try.func10, Try.ntmps10
  go_wp2_with fail
  refine (big_any ao n c w).mono ?_
  rintro e w1 ⟨rfl, hw1⟩
  obtain rfl : w = w1 := hw1.symm
  by_cases hbig : 4096 < n
  · go_wp2
    go_ret
    exact ⟨rfl, Below.refl _ _⟩
  · go_wp2_with fail
    refine (drawMp_any ao n c w h).mono ?_
    rintro e w2 ⟨z, v, ps, rfl, hz1, hz2, hl1, hl2, hrd, B2⟩
    obtain ⟨a2, c2, rfl, -⟩ := id hrd
    have HPS := Lib.hid hrd
    have z2 := B2.size
    clear hrd h
    go_wp2_with fail
    refine (api_implMp z w2 HPS.out).mono ?_
    rintro e w3 ⟨u3, rfl, o3, b3⟩
    obtain ⟨a3, n3, c3, rfl⟩ := o3.form
    have z3 := b3.size
    have kA := below_alloc1 w3 (.cells #[.slice a3 n3 c3] 41)
    have B4 : Below w.heap.size w (w3.alloc (.cells #[.slice a3 n3 c3] 41)) := (B2.trans (b3.mono z2)).trans (kA.mono (by omega))
    have HP4 := Lib.hid ((HPS.out.below b3).below kA)
    have O4 := Lib.hid (o3.below kA)
    have k4 : Blk (w3.alloc (.cells #[.slice a3 n3 c3] 41)) w3.heap.size 41 #[.slice a3 n3 c3] := blk_at rfl
    clear HPS o3 b3 kA B2
    go_upto_region 5 with fail
    generalize w3.alloc (.cells #[.slice a3 n3 c3] 41) = w4 at *
    have z4 := k4.lt
    go_wp2_with fail
    refine (api_specMp z w4 HP4.out).mono ?_
    rintro e w5 ⟨u5, rfl, o5, b5⟩
    obtain ⟨a5, n5, c5, rfl⟩ := o5.form
    have z5 := b5.size
    have kA := below_alloc1 w5 (.cells #[.slice a5 n5 c5] 41)
    have B6 : Below w.heap.size w (w5.alloc (.cells #[.slice a5 n5 c5] 41)) := (B4.trans (b5.mono (by omega))).trans (kA.mono (by omega))
    have HP6 := Lib.hid ((HP4.out.below b5).below kA)
    have O6 := Lib.hid ((O4.out.below b5).below kA)
    have OS6 := Lib.hid (o5.below kA)
    have k6 : Blk (w5.alloc (.cells #[.slice a5 n5 c5] 41)) w3.heap.size 41 #[.slice a3 n3 c3] := (k4.belowS b5).alloc _
    have q6 : Blk (w5.alloc (.cells #[.slice a5 n5 c5] 41)) w5.heap.size 41 #[.slice a5 n5 c5] := blk_at rfl
    clear HP4 o5 O4 k4 b5 kA B4
    go_upto_region 6 with fail
    generalize w5.alloc (.cells #[.slice a5 n5 c5] 41) = w6 at *
    have x6 := k6.cell 0
    have y6 := q6.cell 0
    simp at x6 y6
    generalize hC : mpC z ps = C at *
    have HC := Lib.hid hC
    clear hC
    have hR1 := O6.out.rdcM
    have hR2 := OS6.out.rdcM
    go_wp2_with fail
    refine (like5_any w6 hR1.1.rd hR2.1.rd).mono ?_
    rintro e w7 ⟨rfl, b7⟩
    have z7 := b7.size
    have B7 := B6.trans (b7.mono B6.size)
    by_cases hC0 : C = 0
    · subst hC0
      have hmp := mpC_zero HC.out
      have O7 := Lib.hid (O6.out.below b7)
      rw [hmp.r] at O7
      have hn3 : n3 = 3 := by have := O7.out.rdcM.2; exact this.symm
      subst hn3
      have HP7 := Lib.hid (HP6.out.below b7)
      have k7 := k6.belowS b7
      have x7 := k7.cell 0
      simp at x7
      clear hR1 hR2 O6 OS6 HP6 k6 q6 x6 y6 b7 B6
      go_wp2_with fail
      refine (api_faceCounts w7 O7.out hmp.man).mono ?_
      rintro e w8 ⟨a8, c8, rfl, o8, b8⟩
      have z8 := b8.size
      have O8 := Lib.hid (O7.out.below b8)
      have HP8 := Lib.hid (HP7.out.below b8)
      have k8 := k7.belowS b8
      have x8 := k8.cell 0
      simp at x8
      have A8 := Lib.hid o8
      have B8 := B7.trans (b8.mono B7.size)
      clear O7 HP7 k7 x7 b8 B7 o8
      go_wp2_with fail
      refine (api_faceLabels (r := 2) w8 O8.out hmp.man (by omega)).mono ?_
      rintro e w9 ⟨v9, rfl, ol9, b9⟩
      have z9 := b9.size
      have O9 := Lib.hid (O8.out.below b9)
      have HP9 := Lib.hid (HP8.out.below b9)
      have k9 := k8.belowS b9
      have x9 := k9.cell 0
      simp at x9
      have A9 := Lib.hid (A8.out.below b9)
      have B9 := B8.trans (b9.mono B8.size)
      obtain ⟨⟨al, nl, cl, rfl, ow9⟩, -⟩ := ol9
      clear O8 HP8 k8 x8 b9 B8 A8
      have hps0 := hmp.ok.some_
      have hthree : ∀ j, j < ps.length → 1 ≤ (lget ps j).length := fun j hj => by have := hmp.ok.three hj; omega
      obtain ⟨hf2, hlab⟩ := mp_faces hmp.man hps0 hthree
      have he1 := mp_edges hmp.man
      have hv0 := mp_verts hmp.good hmp.man
      have hnl : nl = 2 * lenSS ps := by
        have h1 := ow9.len
        rw [List.length_map] at h1
        have h2 := (labs_all (erase_ok hmp.man (r := 2) (by show 2 < 3; omega)).1 (erase_ok hmp.man (r := 2) (by show 2 < 3; omega)).2).1
        rw [mpM_len0] at h2
        rw [mpM_len0] at h1
        omega
      have hfc : fcL (mpM ps) 3 = [(((labs ((mpM ps).eraseIdx 0) (lget (mpM ps) 0).length).2 : Nat) : Int), (((labs ((mpM ps).eraseIdx 1) (lget (mpM ps) 0).length).2 : Nat) : Int), (((labs ((mpM ps).eraseIdx 2) (lget (mpM ps) 0).length).2 : Nat) : Int)] := rfl
      have A10 := A9.out
      rw [hfc] at A10
      have hfl : (lget (mpM ps) 0).length = nl := by rw [mpM_len0, hnl]
      generalize (labs ((mpM ps).eraseIdx 0) (lget (mpM ps) 0).length).2 = F0 at *
      generalize (labs ((mpM ps).eraseIdx 1) (lget (mpM ps) 0).length).2 = F1 at *
      generalize (labs ((mpM ps).eraseIdx 2) (lget (mpM ps) 0).length).2 = F2 at *
      generalize (labs ((mpM ps).eraseIdx 2) (lget (mpM ps) 0).length).1 = L at *
      have HLAB := Lib.hid hlab
      have HNL := Lib.hid hnl
      have HA := Lib.hid A10
      have OW := Lib.hid ow9
      have HMP := Lib.hid hmp
      have HF2 := Lib.hid hf2
      have HE1 := Lib.hid he1
      have HV0 := Lib.hid hv0
      have hzz := hmp.z1
      have hR9 := O9.out.rdcM.1.rd
      have hNpos := lenSS_pos hps0 hthree
      clear A9 A10 ow9 hlab hfc hmp hf2 he1 hv0 hthree hnl
      go_wp2_with fail
      refine (flags5_any w9 hR9 (by omega) hfl).mono ?_
      rintro e w10 ⟨rfl, b10⟩
      have z10 := b10.size
      have HP10 := Lib.hid (HP9.out.below b10)
      have O10 := Lib.hid (O9.out.below b10)
      have k10 := k9.belowS b10
      have x10 := k10.cell 0
      simp at x10
      have HA10 := Lib.hid (HA.out.below b10)
      have OW10 := Lib.hid (OW.out.below b10)
      have B10 := B9.trans (b10.mono B9.size)
      clear HP9 O9 k9 x9 HA OW b10 B9 hR9
      obtain ⟨Z, hZ⟩ := Int.eq_ofNat_of_zero_le (show 0 ≤ z by omega)
      subst hZ
      go_wp2_with (at_make; refine wpList_mk etB _ rfl _ _ rfl w10.heap.size _ _ _ _ Z rfl rfl rfl rfl (by omega) (Nat.le_refl _) ?_; intro w11 h11 g11 s11)
      have hb11 : Below w10.heap.size w10 w11 := (Below.refl _ _).grown g11 (Nat.le_refl _) (fun k e => by cases e)
      have H11 : Own w11 w10.heap.size 4 (some ⟨w10.heap.size, 0, none⟩) Z Z ((List.replicate Z false).map Value.bool) := by rw [List.map_replicate]; exact h11
      have HH11 := Lib.hid H11
      generalize hsb : w10.heap.size = sb at *
      have HSB := Lib.hid hsb
      clear h11 g11 s11 H11 hsb
      go_loopw [14, 15, 16, 17] (fun s14 s15 s16 s17 wr => ∃ (i C M A : Nat) (bs : List Bool), i ≤ ps.length ∧ s14 = .int .i64 C ∧ s15 = .int .i64 M ∧ s16 = .int .i64 A ∧ s17 = .int .i64 i ∧ C = begP ps i ∧ M = (metL ps C).length ∧ A = 2 * C ∧ SeenB ps C Z bs ∧ Own wr sb 4 (some ⟨sb, 0, none⟩) Z Z (bs.map Value.bool) ∧ Below sb w10 wr) (fun _ _ _ s17 _ => ps.length - (intOf s17).toNat)
      case atStart => exact ⟨0, 0, 0, 0, _, Nat.zero_le _, rfl, rfl, rfl, rfl, by rw [begP_zero], rfl, rfl, SeenB.start ps Z, HH11.out, hb11⟩
      case round =>
        clear HH11 hb11
        obtain ⟨i, C, M, A, bs, hi, rfl, rfl, rfl, rfl, hCi, hM, hA, hbs, hob, hbl⟩ := hrel
        have hb10 : Below w10.heap.size w10 wr := by rw [HSB.out]; exact hbl
        by_cases hlt : i < ps.length
        · obtain ⟨br, offr, a', n', c', rfl, hcr, hin⟩ := (rdc_row (HP10.out.below hb10)).at_ hlt
          have hn' : (lget ps i).length = n' := hin.1
          have h9r := HMP.out.ok.three hlt
          have hbeg := begP_succ hlt
          have hbl2 := begP_le (ps := ps) (i + 1)
          rw [hn'] at hbeg h9r
          rw [← hCi] at hbeg
          have HIN := Lib.hid (show ∀ k, k < n' → ∃ b o, a' = some ⟨b, o, none⟩ ∧ ∀ w', Below w10.heap.size w10 w' → w'.cell? ⟨b, o + k, none⟩ = some (.int .i64 (iget (lget ps i) k)) from fun k hk => by
            obtain ⟨br2, offr2, a2', n2', c2', e2, hcr2, hin2⟩ := (rdc_row HP10.out).at_ hlt
            injection e2 with e2; injection e2 with e3 e4
            subst e3 e4
            have hblk : br < w10.heap.size := World.block_lt_of_cell? w10 _ hcr2
            have := hb10.cell (p := ⟨br, offr + i, none⟩) hblk
            rw [hcr, hcr2] at this
            injection this with this
            injection this with e5 e6 e7
            subst e5 e6 e7
            obtain ⟨b, o, e, hc⟩ := hin2.at_ hk
            exact ⟨b, o, e, fun w' hb' => (hb'.cell (p := ⟨b, o + k, none⟩) (World.block_lt_of_cell? w10 _ hc)).trans hc⟩)
          have HROW := Lib.hid (show ∀ w', Below w10.heap.size w10 w' → w'.cell? ⟨br, offr + i, none⟩ = some (.slice a' n' c') from fun w' hb' => by
            obtain ⟨br2, offr2, a2', n2', c2', e2, hcr2, hin2⟩ := (rdc_row HP10.out).at_ hlt
            injection e2 with e2; injection e2 with e3 e4
            subst e3 e4
            have hblk : br < w10.heap.size := World.block_lt_of_cell? w10 _ hcr2
            have h1 := hb10.cell (p := ⟨br, offr + i, none⟩) hblk
            have h2 := hb'.cell (p := ⟨br, offr + i, none⟩) hblk
            rw [h2, ← h1]; exact hcr)
          have HN' := Lib.hid hn'
          have HCI := Lib.hid hCi
          have S0 : SeenB ps (C + 0) Z bs := hbs
          clear hin hn' hCi
          go_wp2_with fail
          go_loopw [15, 16, 18] (fun s15 s16 s18 wi => ∃ (k M A : Nat) (bs : List Bool), k ≤ n' ∧ s15 = .int .i64 M ∧ s16 = .int .i64 A ∧ s18 = .int .i64 k ∧ M = (metL ps (C + k)).length ∧ A = 2 * (C + k) ∧ SeenB ps (C + k) Z bs ∧ Own wi sb 4 (some ⟨sb, 0, none⟩) Z Z (bs.map Value.bool) ∧ Below sb w10 wi) (fun _ _ s18 _ => n' - (intOf s18).toNat)
          case atStart => exact ⟨0, M, A, bs, Nat.zero_le _, rfl, rfl, rfl, hM, hA, S0, hob, hbl⟩
          case round =>
            clear S0 hob hbl hb10 hbs hcr hM hA
            obtain ⟨k, M, A, bs, hk, rfl, rfl, rfl, hM, hA, hbs, hob, hbl⟩ := hrel
            have hb10 : Below w10.heap.size w10 wr := by rw [HSB.out]; exact hbl
            have hrow := HROW.out wr hb10
            by_cases hltk : k < n'
            · obtain ⟨bq, oq, rfl, hcq⟩ := HIN.out k hltk
              have hcell := hcq wr hb10
              obtain ⟨x, hx1, hx2, hx3⟩ := vtx_in HMP.out.ok hlt (i := k) (by rw [HN'.out]; exact hltk)
              rw [hx1] at hcell
              rw [← HCI.out] at hx3
              have hxZ : x < Z := by omega
              have hCk : C + k < lenSS ps := by omega
              have hpol : polN ps (C + k) = i := by rw [HCI.out]; exact polN_at ps i k hlt (by rw [HN'.out]; exact hltk)
              obtain ⟨gl, e5, -, -, -, -, -⟩ := OW10.out.form (by have := HNL.out; omega)
              have hlw := OW10.out.below hb10
              rw [e5] at hlw
              have l0 := own_int hlw (k := A) (by have := HNL.out; omega)
              have l1 := own_int hlw (k := A + 1) (by have := HNL.out; omega)
              rw [HLAB.out A (by omega), show A / 2 = C + k by omega, hpol] at l0
              rw [HLAB.out (A + 1) (by omega), show (A + 1) / 2 = C + k by omega, hpol] at l1
              have sc := own_bool hob hxZ
              obtain ⟨gs, es, -, -, -, -, hfs⟩ := hob.form (by omega)
              injection es with es; injection es with es; subst es
              have sf := hfs x
              have hA1 : A + 1 < nl := by have := HNL.out; omega
              have hA0 : A < nl := by omega
              have HBS := Lib.hid hbs
              have HM := Lib.hid hM
              have HAA := Lib.hid hA
              have HOB := Lib.hid hob
              have HX3 := Lib.hid hx3
              have ht1 : ((A : Int) + 1).toNat = A + 1 := by omega
              have hA9 : A ≤ 1000 := by omega
              have hM9 : M ≤ 1000 := by have := metL_len (ps := ps) (C + k); omega
              have hw1 : IntKind.i64.wrap ((A : Int) + 1) = (A : Int) + 1 := IntWalk.i64_in _ (by omega)
              have hi0 : (0 : Int) ≤ (A : Int) + 1 := by omega
              have hi1 : (A : Int) + 1 < (nl : Int) := by omega
              have hi2 : (x : Int) < (Z : Int) := by omega
              clear hlw hcq hbs hM hA hob hx1 hx2 hx3 hpol hfs
              subst e5
              by_cases hseen : bs.getD x false = true
              · have hin : vtx ps (C + k) ∈ metL ps (C + k) := by rw [HX3.out]; exact (HBS.out.2 x hxZ).1 hseen
                obtain ⟨q1, q2⟩ := HBS.out.old hin
                rw [hseen] at sc
                have Q1 := Lib.hid q1
                have Q2 := Lib.hid q2
                clear q1 q2 hin
                go_wp2_with fail
                go_roundw
                case rel => exact ⟨k + 1, M, A + 2, bs, by omega, rfl, by go_num, by go_num, by rw [HM.out]; exact Q2.out.symm, by have := HAA.out; omega, Q1.out, HOB.out, hbl⟩
                case measure => simp [intOf]; omega
              · have hin : ¬ vtx ps (C + k) ∈ metL ps (C + k) := fun q => by rw [HX3.out] at q; exact hseen ((HBS.out.2 x hxZ).2 q)
                obtain ⟨q1, q2⟩ := HBS.out.new HX3.out hxZ hin
                have hsf : bs.getD x false = false := by cases hq : bs.getD x false with | false => rfl | true => exact absurd hq hseen
                rw [hsf] at sc
                obtain ⟨st, -⟩ := HOB.out.stored x (.bool true)
                rw [← List.map_set] at st
                have Q1 := Lib.hid q1
                have Q2 := Lib.hid q2
                have ST := Lib.hid st
                have hbl3 := hbl.setCell (p := ⟨sb, x, none⟩) (Nat.le_refl _) (.bool true)
                have HB3 := Lib.hid hbl3
                clear q1 q2 hin st hbl3 hseen hsf
                go_wp2_with fail
                go_roundw
                case rel => exact ⟨k + 1, M + 1, A + 2, _, by omega, by go_num, by go_num, by go_num, by rw [HM.out]; exact Q2.out.symm, by have := HAA.out; omega, Q1.out, ST.out, HB3.out⟩
                case measure => simp [intOf]; omega
            · obtain rfl : k = n' := by omega
              have HBS := Lib.hid hbs
              have HM := Lib.hid hM
              have HAA := Lib.hid hA
              have HOB := Lib.hid hob
              have HBEG := Lib.hid hbeg
              clear hbs hM hA hob hbeg
              go_wp2_with fail
              go_roundw
              case rel => exact ⟨i + 1, C + k, M, A, bs, by omega, by go_num, rfl, rfl, by go_num, HBEG.out.symm, HM.out, HAA.out, HBS.out, HOB.out, hbl⟩
              case measure => simp [intOf]; omega
        · obtain rfl : i = ps.length := by omega
          have hCN : C = lenSS ps := by rw [hCi]; exact begP_all ps
          have hHA := HA10.out.below hb10
          obtain ⟨g8, e8, -, -, -, -, -⟩ := hHA.form (by omega)
          subst e8
          have a0 := own_int hHA (k := 0) (by omega)
          have a1 := own_int hHA (k := 1) (by omega)
          have a2' := own_int hHA (k := 2) (by omega)
          have a0 : wr.cell? ⟨g8, 0, none⟩ = some (.int .i64 (F0 : Int)) := a0
          have a1 : wr.cell? ⟨g8, 1, none⟩ = some (.int .i64 (F1 : Int)) := a1
          have a2' : wr.cell? ⟨g8, 2, none⟩ = some (.int .i64 (F2 : Int)) := a2'
          have hF2 : F2 = ps.length := HF2.out
          have hF1 : 2 * F1 = C := by rw [hCN]; exact HE1.out
          have hF0 : M ≤ F0 := by rw [hM, hCN]; exact HV0.out
          have hnlC : nl = 2 * C := by rw [hCN]; exact HNL.out
          have kr := k10.belowS hb10
          have xr := kr.cell 0
          simp at xr
          have hRr := (O10.out.below hb10).rdcM.1.rd
          have hC200 : C ≤ 200 := by omega
          have hF1b : F1 ≤ 200 := by omega
          have hm1 : IntKind.i64.wrap (2 * (F1 : Int)) = (C : Int) := by rw [show 2 * (F1 : Int) = (C : Int) by omega]; exact IntWalk.i64_in _ (by omega)
          have hm2 : IntKind.i64.wrap (2 * (C : Int)) = (nl : Int) := by rw [show 2 * (C : Int) = (nl : Int) by omega]; exact IntWalk.i64_in _ (by omega)
          have hm3 : 2 * (F1 : Int) = (C : Int) := by omega
          have hm4 : 2 * (C : Int) = (nl : Int) := by omega
          have hge : (M : Int) ≤ (F0 : Int) := by omega
          have hfin := B10.trans (hb10.mono B10.size)
          have HFIN := Lib.hid hfin
          subst hF2
          clear hHA hCN hM hA hCi hF1 hF0 hnlC hbs hob hbl hfin kr
          go_wp2_with fail
          refine (flags5_any wr hRr (by omega) hfl).mono ?_
          rintro e wz ⟨rfl, bz⟩
          have hbz := HFIN.out.trans (bz.mono HFIN.out.size)
          go_wp2_with fail
          go_ret
          exact ⟨rfl, hbz⟩
    · have hC1 : (C == 0) = false := by simp [hC0]
      go_wp2_with fail
      go_ret
      exact ⟨rfl, B7⟩
end Go.Proofs.Ytpognnifgcacnaa
