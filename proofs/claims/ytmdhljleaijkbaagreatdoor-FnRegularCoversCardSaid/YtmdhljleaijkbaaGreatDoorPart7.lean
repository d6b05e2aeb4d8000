/- Groups of permutations, on lists: the search for the elements, ascending lists of lists. No program in sight. -/
import Derived.Test.YtmdhljleaijkbaaGreatDoorPart3
import Derived.Test.YtmdhljleaijkbaaGreatDoorPart5
import Derived.Test.YtmdhljleaijkbaaGreatDoorPart1
import Derived.Deep.DeepCutAuto
import Derived.Test.YtmdhljleaijkbaaGreatDoorPart4
import Derived.Deep.QuietTactic
import Derived.Test.YtmdhljleaijkbaaGreatDoorPart6
namespace Go.Proofs.YtmdhljleaijkbaaGreatDoor

/-- p, then q -/
theorem thenL_len (p q : List Int) : (thenL p q).length = p.length := by simp [thenL]
def unitL (n : Nat) : List Int := (List.range n).map fun (i : Nat) => (i : Int)
/-- one list comes before another one -/
def ltL : List Int → List Int → Bool
  | [], [] => false
  | [], _ :: _ => true
  | _ :: _, [] => false
  | a :: r, b :: s => if a < b then true else if b < a then false else ltL r s
theorem ltL_irr : ∀ a : List Int, ltL a a = false
  | [] => rfl
  | a :: r => by unfold ltL; rw [if_neg (by omega), if_neg (by omega)]; exact ltL_irr r
theorem ltL_tri : ∀ a b : List Int, ltL a b = true ∨ a = b ∨ ltL b a = true
  | [], [] => .inr (.inl rfl)
  | [], _ :: _ => .inl rfl
  | _ :: _, [] => .inr (.inr rfl)
  | a :: r, b :: s => by
    unfold ltL
    by_cases h1 : a < b
    · left; rw [if_pos h1]
    · by_cases h2 : b < a
      · right; right; rw [if_pos h2]
      · obtain rfl : a = b := by omega
        rw [if_neg h1, if_neg h1]
        rcases ltL_tri r s with h | h | h
        · exact .inl h
        · exact .inr (.inl (by rw [h]))
        · right; right; rw [if_neg h1, if_neg h1]; exact h
theorem ltL_trans : ∀ {a b c : List Int}, ltL a b = true → ltL b c = true → ltL a c = true
  | [], [], _, h, _ => by simp [ltL] at h
  | [], _ :: _, [], _, h => by simp [ltL] at h
  | [], _ :: _, _ :: _, _, _ => rfl
  | _ :: _, [], _, h, _ => by simp [ltL] at h
  | _ :: _, _ :: _, [], _, h => by simp [ltL] at h
  | a :: r, b :: s, c :: t, h1, h2 => by
    unfold ltL at h1 h2 ⊢
    by_cases hab : a < b
    · by_cases hbc : b < c
      · rw [if_pos (by omega)]
      · rw [if_neg hbc] at h2
        by_cases hcb : c < b
        · rw [if_pos hcb] at h2; cases h2
        · rw [if_pos (by omega)]
    · rw [if_neg hab] at h1
      by_cases hba : b < a
      · rw [if_pos hba] at h1; cases h1
      · rw [if_neg hba] at h1
        by_cases hbc : b < c
        · rw [if_pos (by omega)]
        · rw [if_neg hbc] at h2
          by_cases hcb : c < b
          · rw [if_pos hcb] at h2; cases h2
          · rw [if_neg hcb] at h2
            rw [if_neg (by omega), if_neg (by omega)]
            exact ltL_trans h1 h2
theorem ltL_asym {a b : List Int} (h : ltL a b = true) : ltL b a = false := by
  cases h2 : ltL b a with
  | false => rfl
  | true => have := ltL_trans h h2; rw [ltL_irr] at this; cases this
/-- ascending -/
def AscL (xs : List (List Int)) : Prop := xs.Pairwise fun a b => ltL a b = true
theorem ascL_uniq : ∀ {xs ys : List (List Int)}, AscL xs → AscL ys → (∀ z, z ∈ xs ↔ z ∈ ys) → xs = ys
  | [], [], _, _, _ => rfl
  | [], y :: _, _, _, h => by have := (h y).2 (by simp); simp at this
  | x :: _, [], _, _, h => by have := (h x).1 (by simp); simp at this
  | x :: xs, y :: ys, hx, hy, h => by
    have hx' := List.pairwise_cons.1 hx
    have hy' := List.pairwise_cons.1 hy
    have hxy : x = y := by
      have h1 := (h x).1 (by simp)
      have h2 := (h y).2 (by simp)
      rw [List.mem_cons] at h1 h2
      rcases h1 with h1 | h1
      · exact h1
      · rcases h2 with h2 | h2
        · exact h2.symm
        · have a := hy'.1 x h1
          have b := hx'.1 y h2
          rw [ltL_asym a] at b; cases b
    subst hxy
    have := ascL_uniq hx'.2 hy'.2 fun z => by
      constructor
      · intro hz
        have := (h z).1 (List.mem_cons_of_mem _ hz)
        rcases List.mem_cons.1 this with e | e
        · subst e; have := hx'.1 z hz; rw [ltL_irr] at this; cases this
        · exact e
      · intro hz
        have := (h z).2 (List.mem_cons_of_mem _ hz)
        rcases List.mem_cons.1 this with e | e
        · subst e; have := hy'.1 z hz; rw [ltL_irr] at this; cases this
        · exact e
    rw [this]
/-- how many stand before p -/
def lowL (xs : List (List Int)) (p : List Int) : Nat := (xs.filter fun a => ltL a p).length
theorem lowL_le (xs : List (List Int)) (p : List Int) : lowL xs p ≤ xs.length := List.length_filter_le _ _
theorem lowL_at : ∀ {xs : List (List Int)} {p : List Int}, AscL xs → ∀ j, j < xs.length → (ltL (lget xs j) p = true ↔ j < lowL xs p)
  | [], _, _, j, h => by simp at h
  | x :: xs, p, hx, j, hj => by
    have hx' := List.pairwise_cons.1 hx
    cases hp : ltL x p with
    | true =>
      have e : lowL (x :: xs) p = lowL xs p + 1 := by simp [lowL, hp]
      rw [e]
      cases j with
      | zero => simp [lget, hp]
      | succ j =>
        have := lowL_at hx'.2 (p := p) j (by simpa using hj)
        have e2 : lget (x :: xs) (j + 1) = lget xs j := by simp [lget]
        rw [e2, this]; omega
    | false =>
      have hall : ∀ a ∈ xs, ltL a p = false := fun a ha => by
        cases h : ltL a p with
        | false => rfl
        | true => have := ltL_trans (hx'.1 a ha) h; rw [hp] at this; cases this
      have e : lowL (x :: xs) p = 0 := by
        have : xs.filter (fun a => ltL a p) = [] := List.filter_eq_nil_iff.2 fun a ha => by rw [hall a ha]; simp
        simp [lowL, hp, this]
      rw [e]
      constructor
      · intro h
        cases j with
        | zero => simp [lget, hp] at h
        | succ j =>
          have e2 : lget (x :: xs) (j + 1) = lget xs j := by simp [lget]
          rw [e2, hall _ (lget_mem (by simpa using hj))] at h; cases h
      · intro h; omega
/-- a list is put at its place -/
def putAt (xs : List (List Int)) (p : List Int) : List (List Int) := xs.take (lowL xs p) ++ p :: xs.drop (lowL xs p)
theorem mem_low {xs : List (List Int)} {p : List Int} (h : AscL xs) : p ∈ xs ↔ lowL xs p < xs.length ∧ lget xs (lowL xs p) = p := by
  constructor
  · intro hp
    obtain ⟨j, hj, e⟩ := List.getElem_of_mem hp
    have ej : lget xs j = p := by rw [lget_lt hj]; exact e
    have h1 : ¬ j < lowL xs p := fun q => by have := (lowL_at h j hj).2 q; rw [ej, ltL_irr] at this; cases this
    have h2 : ¬ lowL xs p < j := fun q => by
      have hl : lowL xs p < xs.length := by omega
      have hn : ¬ (ltL (lget xs (lowL xs p)) p = true) := fun t => by have := (lowL_at h _ hl).1 t; omega
      have := List.pairwise_iff_getElem.1 h _ _ hl hj q
      rw [← lget_lt hl, ← lget_lt hj, ej] at this
      exact hn this
    obtain rfl : lowL xs p = j := by omega
    exact ⟨hj, ej⟩
  · rintro ⟨h1, h2⟩
    rw [← h2]; exact lget_mem h1
theorem putAt_asc {xs : List (List Int)} {p : List Int} (h : AscL xs) (hp : p ∉ xs) : AscL (putAt xs p) ∧ ∀ z, z ∈ putAt xs p ↔ z ∈ xs ∨ z = p := by
  have htd := List.take_append_drop (lowL xs p) xs
  have hlt : ∀ a ∈ xs.take (lowL xs p), ltL a p = true := fun a ha => by
    obtain ⟨j, hj, e⟩ := List.getElem_of_mem ha
    rw [List.length_take] at hj
    rw [List.getElem_take] at e
    have := (lowL_at h (p := p) j (by omega)).2 (by omega)
    rw [lget_lt (by omega), e] at this; exact this
  have hgt : ∀ a ∈ xs.drop (lowL xs p), ltL p a = true := fun a ha => by
    obtain ⟨j, hj, e⟩ := List.getElem_of_mem ha
    rw [List.length_drop] at hj
    rw [List.getElem_drop] at e
    rcases ltL_tri a p with t | t | t
    · have := (lowL_at h (lowL xs p + j) (by omega)).1 (by rw [lget_lt (by omega), e]; exact t)
      omega
    · subst t; exact absurd (by rw [← e]; exact List.getElem_mem _) hp
    · exact t
  have h' := h
  unfold AscL at h'
  rw [← htd, List.pairwise_append] at h'
  refine ⟨?_, fun z => ?_⟩
  · unfold AscL putAt
    rw [List.pairwise_append, List.pairwise_cons]
    refine ⟨h'.1, ⟨hgt, h'.2.1⟩, fun a ha b hb => ?_⟩
    rcases List.mem_cons.1 hb with e | e
    · subst e; exact hlt a ha
    · exact h'.2.2 a ha b e
  · unfold putAt
    rw [List.mem_append, List.mem_cons]
    have : z ∈ xs ↔ z ∈ xs.take (lowL xs p) ∨ z ∈ xs.drop (lowL xs p) := by rw [← List.mem_append, htd]
    rw [this]
    constructor
    · rintro (h1 | h1 | h1)
      · exact .inl (.inl h1)
      · exact .inr h1
      · exact .inl (.inr h1)
    · rintro ((h1 | h1) | h1)
      · exact .inl h1
      · exact .inr (.inr h1)
      · exact .inr (.inl h1)
/-- one element times one generator -/
def stepGr (gs es : List (List Int)) (i k : Nat) : List (List Int) := if thenL (lget es i) (lget gs k) ∈ es then es else es ++ [thenL (lget es i) (lget gs k)]
def rowG (gs es : List (List Int)) (i : Nat) : Nat → List (List Int)
  | 0 => es
  | k + 1 => stepGr gs (rowG gs es i k) i k
theorem stepG_len (gs es : List (List Int)) (i k : Nat) : es.length ≤ (stepGr gs es i k).length ∧ (stepGr gs es i k).length ≤ es.length + 1 := by
  unfold stepGr; split
  · omega
  · rw [List.length_append]; simp
theorem stepG_get {gs es : List (List Int)} {i k j : Nat} (hj : j < es.length) : lget (stepGr gs es i k) j = lget es j := by
  unfold stepGr; split
  · rfl
  · exact lget_app_lt hj
theorem rowG_len (gs es : List (List Int)) (i : Nat) : ∀ k, es.length ≤ (rowG gs es i k).length ∧ (rowG gs es i k).length ≤ es.length + k
  | 0 => ⟨Nat.le_refl _, Nat.le_refl _⟩
  | k + 1 => by
    have h1 := rowG_len gs es i k
    have h2 := stepG_len gs (rowG gs es i k) i k
    show es.length ≤ (stepGr gs (rowG gs es i k) i k).length ∧ (stepGr gs (rowG gs es i k) i k).length ≤ es.length + (k + 1)
    omega
theorem rowG_mono (gs es : List (List Int)) (i : Nat) {k l : Nat} (h : k ≤ l) : (rowG gs es i k).length ≤ (rowG gs es i l).length := by
  induction l with
  | zero => obtain rfl : k = 0 := by omega
            exact Nat.le_refl _
  | succ l ih =>
    by_cases e : k = l + 1
    · subst e; exact Nat.le_refl _
    · exact Nat.le_trans (ih (by omega)) (stepG_len gs (rowG gs es i l) i l).1
theorem rowG_get {gs es : List (List Int)} {i j : Nat} (hj : j < es.length) : ∀ k, lget (rowG gs es i k) j = lget es j
  | 0 => rfl
  | k + 1 => by
    show lget (stepGr gs (rowG gs es i k) i k) j = _
    rw [stepG_get (by have := rowG_len gs es i k; omega)]
    exact rowG_get hj k
/-- the elements, if there are no more than 1000 -/
def runG (gs : List (List Int)) : Nat → Nat → List (List Int) → Option (List (List Int))
  | 0, _, _ => none
  | f + 1, i, es => if i < es.length then (if 1000 < (rowG gs es i gs.length).length then none else runG gs f (i + 1) (rowG gs es i gs.length)) else some es
theorem runG_go {gs es : List (List Int)} {f i : Nat} (h : i < es.length) (h2 : (rowG gs es i gs.length).length ≤ 1000) : runG gs (f + 1) i es = runG gs f (i + 1) (rowG gs es i gs.length) := by
  have e : runG gs (f + 1) i es = if i < es.length then (if 1000 < (rowG gs es i gs.length).length then none else runG gs f (i + 1) (rowG gs es i gs.length)) else some es := rfl
  rw [e]; rw [if_pos h, if_neg (by omega)]
theorem runG_bad {gs es : List (List Int)} {f i : Nat} (h : i < es.length) (h2 : 1000 < (rowG gs es i gs.length).length) : runG gs (f + 1) i es = none := by
  have e : runG gs (f + 1) i es = if i < es.length then (if 1000 < (rowG gs es i gs.length).length then none else runG gs f (i + 1) (rowG gs es i gs.length)) else some es := rfl
  rw [e]; rw [if_pos h, if_pos h2]
theorem runG_end {gs es : List (List Int)} {f i : Nat} (h : ¬ i < es.length) : runG gs (f + 1) i es = some es := by
  have e : runG gs (f + 1) i es = if i < es.length then (if 1000 < (rowG gs es i gs.length).length then none else runG gs f (i + 1) (rowG gs es i gs.length)) else some es := rfl
  rw [e]; rw [if_neg h]
def grpE (gs : List (List Int)) (n : Nat) : Option (List (List Int)) := runG gs 1002 0 [unitL n]
end Go.Proofs.YtmdhljleaijkbaaGreatDoor

/- Groups of permutations: the reference's l01Less, l01Same, l01Then, l01Put. guards: -/
namespace Go.Proofs.YtmdhljleaijkbaaGreatDoor
open Go.RowKit

theorem iget_cons_drop {x : List Int} {k : Nat} (h : k < x.length) : x.drop k = iget x k :: x.drop (k + 1) := by rw [List.drop_eq_getElem_cons h, iget_lt h]
theorem ltL_step {x y : List Int} {n k : Nat} (hx : x.length = n) (hy : y.length = n) (hk : k < n) : ltL (x.drop k) (y.drop k) = if iget x k < iget y k then true else if iget y k < iget x k then false else ltL (x.drop (k + 1)) (y.drop (k + 1)) := by
  rw [iget_cons_drop (by omega : k < x.length), iget_cons_drop (by omega : k < y.length)]; rfl
theorem quiet_tr {w w1 w2 : World} (h1 : ∃ m, w1 = w.drewN m) (h2 : ∃ m, w2 = w1.drewN m) : ∃ m, w2 = w.drewN m := by
  obtain ⟨a, rfl⟩ := h1
  obtain ⟨b, rfl⟩ := h2
  exact ⟨a + b, by simp [World.drewN, Nat.add_assoc]⟩
set_option maxHeartbeats 1600000 in
theorem specLess_any (a b : Option Addr) (n ca cb : Nat) (x y : List Int) (w : World) (ha : Ints w a n x) (hb : Ints w b n y) :
    Calls Tryz.prog 78 #[.slice a n ca, .slice b n cb] w fun e w' => e = .returned (.bool (ltL x y)) ∧ ∃ m, w' = w.drewN m := by
  have hla := ha.2.1
  have hx := ha.1
  have hy := hb.1
  obtain ⟨V, hV⟩ : ∃ V, V = ltL x y := ⟨_, rfl⟩
  have H0 : V = ltL (x.drop 0) (y.drop 0) := by rw [hV]; rfl
  rw [← hV]
  clear hV
  go_enter Tryz.func78, Tryz.ntmps78
  go_wp2
  go_loopw [5] (fun i wr => ∃ k m : Nat, k ≤ n ∧ i = .int .i64 k ∧ wr = w.drewN m ∧ V = ltL (x.drop k) (y.drop k)) (fun i _ => n - (intOf i).toNat)
  case atStart => exact ⟨0, 0, Nat.zero_le _, rfl, rfl, H0⟩
  case round =>
    clear H0
    obtain ⟨k, m, hk, rfl, rfl, hv⟩ := hrel
    by_cases hlt : k < n
    · obtain ⟨ba, oa, rfl, hca⟩ := ha.at_ hlt
      obtain ⟨bb, ob, rfl, hcb⟩ := hb.at_ hlt
      rw [ltL_step hx hy hlt] at hv
      have HV := Lib.hid hv
      have HA := Lib.hid ha
      have HB := Lib.hid hb
      clear hv ha hb
      generalize iget x k = p at *
      generalize iget y k = q at *
      by_cases hpq : p = q
      · have hv2 : V = ltL (x.drop (k + 1)) (y.drop (k + 1)) := by rw [HV.out, if_neg (by omega), if_neg (by omega)]
        have HV2 := Lib.hid hv2
        subst hpq
        have he' : (p != p) = false := by simp
        clear hv2
        go_wp2_with fail
        go_quiet (fail)
        go_wp2
        go_roundw
        case rel => exact ⟨k + 1, _, by omega, by go_num, rfl, HV2.out⟩
        case measure => first | (simp [intOf]; done) | (simp [intOf]; omega)
      · have he' : (p != q) = true := by simp [hpq]
        have hv2 : V = decide (p < q) := by
          rw [HV.out]
          by_cases h1 : p < q
          · rw [if_pos h1]; simp [h1]
          · rw [if_neg h1, if_pos (by omega)]; simp [h1]
        have HV2 := Lib.hid hv2
        clear hv2
        go_wp2_with fail
        go_quiet (fail)
        go_wp2_with fail
        go_quiet (fail)
        go_wp2_with fail
        rw [HV2.out]
        go_ret
        exact ⟨rfl, quiet_tr (quiet_tr ⟨m, rfl⟩ ⟨_, rfl⟩) ⟨_, rfl⟩⟩
    · obtain rfl : k = n := by omega
      have hv2 : V = false := by rw [hv, List.drop_of_length_le (by omega), List.drop_of_length_le (by omega)]; rfl
      have HV2 := Lib.hid hv2
      clear hv hv2
      go_wp2
      rw [HV2.out]
      go_ret
      exact ⟨rfl, _, rfl⟩
theorem thenL_take {p q : List Int} {k : Nat} (h : k < p.length) : thenL (p.take (k + 1)) q = thenL (p.take k) q ++ [iget q (iget p k).toNat] := by
  unfold thenL
  rw [List.take_succ_eq_append_getElem h, List.map_append, iget_lt h]; rfl
set_option maxHeartbeats 3200000 in
theorem specThen_any (a b : Option Addr) (n m ca cb : Nat) (p q : List Int) (w : World) (ha : Ints w a n p) (hb : Ints w b m q) (hp : ∀ k, k < n → ∃ x : Nat, iget p k = (x : Int) ∧ x < m) (hn : n ≤ 1000) :
    Calls Tryz.prog 27 #[.slice a n ca, .slice b m cb] w fun e w' => ∃ a2 c2, e = .returned (.slice a2 n c2) ∧ Own w' w.heap.size 2 a2 n c2 ((thenL p q).map (Value.int .i64)) ∧ Below w.heap.size w w' := by
  have hE := Own.empty_ w 2 (base := w.heap.size) (Nat.le_refl _)
  have hB := below_alloc1 w (.cells #[] 2)
  have HL := Lib.hid ha.1
  have HA := Lib.hid ha
  have HB := Lib.hid hb
  have HP := Lib.hid hp
  clear ha hb hp
  go_enter Tryz.func27, Tryz.ntmps27
  go_wp2_with fail
  go_loopw [5, 6] (fun sv iv wr => ∃ (k : Nat) (ao : Option Addr) (c : Nat), k ≤ n ∧ sv = .slice ao k c ∧ iv = .int .i64 k ∧ Own wr w.heap.size 2 ao k c ((thenL (p.take k) q).map (Value.int .i64)) ∧ Below w.heap.size w wr) (fun _ i _ => n - (intOf i).toNat)
  case atStart => exact ⟨0, _, _, Nat.zero_le _, rfl, rfl, by simpa [thenL] using hE, hB⟩
  case round =>
    clear hE hB
    obtain ⟨k, ao, c, hk, rfl, rfl, ho, hbl⟩ := hrel
    by_cases hlt : k < n
    · obtain ⟨x, hx, hxm⟩ := HP.out k hlt
      obtain ⟨ba, oa, rfl, hca⟩ := (HA.out.below hbl).at_ hlt
      obtain ⟨bb, ob, rfl, hcb⟩ := (HB.out.below hbl).at_ hxm
      have hT := thenL_take (p := p) (q := q) (k := k) (by rw [HL.out]; exact hlt)
      rw [hx, Int.toNat_natCast] at hT
      rw [hx] at hca
      have HO := Lib.hid ho
      have hlo := fun g hg => (ho.lt g hg).1
      have hsz := hbl.size
      have HT := Lib.hid hT
      generalize iget q x = y at *
      have hx0 : (0 : Int) ≤ (x : Int) := by omega
      have hx1 : (x : Int) < (m : Int) := by omega
      clear ho hT hx
      go_wp2_with (at_builtin; refine wpList_ap1 etI _ rfl _ _ rfl w.heap.size ao k c _ rfl HO.out (.int .i64 y) rfl rfl (by omega) hsz ?_; intro ao2 c2 w4 ho2 hg2 hblk)
      have HO2 := Lib.hid ho2
      have hb2 := hbl.grown hg2 hsz hlo
      clear ho2 hblk hg2 hbl hca hcb
      go_wp2
      go_roundw
      case rel => exact ⟨k + 1, ao2, c2, by omega, rfl, by go_num, by rw [HT.out, List.map_append]; exact HO2.out, hb2⟩
      case measure => simp [intOf]; omega
    · obtain rfl : k = n := by omega
      have ht : p.take k = p := List.take_of_length_le (by rw [HL.out]; exact Nat.le_refl _)
      rw [ht] at ho
      go_wp2_with fail
      go_ret
      exact ⟨ao, c, rfl, ho, hbl⟩
/-- the lists of a spine: each in a block of numbers that nothing writes any more -/
structure SpF (w : World) (lo : Nat) (ao : Option Addr) (n c : Nat) (us : List Value) (ds : List (List Int)) : Prop where
  own : Own w lo 38 ao n c us
  len : ds.length = n
  row : ∀ (j : Nat) (u : Value) (d : List Int), us[j]? = some u → ds[j]? = some d → ∃ a m k, u = .slice a m k ∧ Own w lo 2 a m k (d.map (Value.int .i64))
theorem Own.typG {w : World} {lo E n c : Nat} {ao : Option Addr} {xs : List Value} (h : Own w lo E ao n c xs) {g : Nat} (hg : bk ao = some g) : ∃ cs, w.heap[g]? = some (.cells cs E (0, 0)) := by
  rcases h.1.2 with h2 | ⟨g', cap, cur, hv, _, hh, _⟩
  · have h2 := h2.1
    injection h2 with h3; subst h3; cases hg
  · injection hv with h3; subst h3
    obtain rfl := Option.some.inj hg
    exact ⟨cur, hh⟩
theorem own_neT {w : World} {lo lo' E E' n n' c c' : Nat} {ao ao' : Option Addr} {xs xs' : List Value} (h : Own w lo E ao n c xs) (h' : Own w lo' E' ao' n' c' xs') (hE : E ≠ E') {g : Nat} (hg : bk ao = some g) : bk ao' ≠ some g := fun e => by
  obtain ⟨cs, h1⟩ := h.typG hg
  obtain ⟨cs', h2⟩ := h'.typG e
  rw [h1] at h2
  injection h2 with h2
  injection h2 with _ h2
  exact hE h2
section
variable {w w' : World} {lo : Nat} {ao : Option Addr} {n c : Nat} {us : List Value} {ds : List (List Int)}
theorem SpF.at_ (h : SpF w lo ao n c us ds) {j : Nat} (hj : j < n) : ∃ g a m k, ao = some ⟨g, 0, none⟩ ∧ w.cell? ⟨g, j, none⟩ = some (.slice a m k) ∧ us[j]? = some (.slice a m k) ∧ Own w lo 2 a m k ((lget ds j).map (Value.int .i64)) := by
  have hl := h.own.len
  have hd := h.len
  obtain ⟨g, rfl, -, -, -, hc, -⟩ := h.own.form (by omega)
  have hu := List.getElem?_eq_getElem (by omega : j < us.length)
  obtain ⟨a, m, k, e, ho⟩ := h.row j _ _ hu (get?_lget (by omega))
  exact ⟨g, a, m, k, rfl, by rw [hc j hj, hu, e], by rw [hu, e], ho⟩
/-- another spine has grown -/
theorem SpF.far (h : SpF w lo ao n c us ds) {b : Option Addr} {nb cb : Nat} {vs : List Value} {lob : Nat} (hb : Own w lob 38 b nb cb vs) (hg : w.grownBy w' (bk b)) (hne : ∀ g, bk ao = some g → bk b ≠ some g) : SpF w' lo ao n c us ds :=
  ⟨h.own.same fun g e => hg.block g (h.own.lt g e).2 (fun q => hne g e q.symm), h.len, fun j u d hu hd => by
    obtain ⟨a, m, k, e, ho⟩ := h.row j u d hu hd
    exact ⟨a, m, k, e, ho.same fun g eg => hg.block g (ho.lt g eg).2 (fun q => own_neT ho hb (by decide) eg q.symm)⟩⟩
theorem SpF.below (h : SpF w lo ao n c us ds) (hb : Below w.heap.size w w') : SpF w' lo ao n c us ds :=
  ⟨h.own.below hb, h.len, fun j u d hu hd => by
    obtain ⟨a, m, k, e, ho⟩ := h.row j u d hu hd
    exact ⟨a, m, k, e, ho.below hb⟩⟩
theorem SpF.push (h : SpF w lo ao n c us ds) {a' : Option Addr} {m' k' c' : Nat} {a2 : Option Addr} {d : List Int} (ho : Own w lo 2 a' m' k' (d.map (Value.int .i64))) (hg : w.grownBy w' (bk ao)) (hown : Own w' lo 38 a2 (n + 1) c' (us ++ [.slice a' m' k'])) : SpF w' lo a2 (n + 1) c' (us ++ [.slice a' m' k']) (ds ++ [d]) := by
  have hl := h.own.len
  have hd := h.len
  have keep : ∀ {a m k} {x : List Int}, Own w lo 2 a m k (x.map (Value.int .i64)) → Own w' lo 2 a m k (x.map (Value.int .i64)) := fun ho => ho.same fun g eg => hg.block g (ho.lt g eg).2 (fun q => own_neT ho h.own (by decide) eg q.symm)
  refine ⟨hown, by rw [List.length_append, hd]; rfl, fun j u x hu hx => ?_⟩
  by_cases hj : j < n
  · rw [List.getElem?_append_left (by omega)] at hu hx
    obtain ⟨a, m, k, e, ho⟩ := h.row j u x hu hx
    exact ⟨a, m, k, e, keep ho⟩
  · have hj2 : j = n := by have := (List.getElem?_eq_some_iff.1 hx).1; rw [List.length_append] at this; simp at this; omega
    subst hj2
    rw [List.getElem?_append_right (by omega), hl, Nat.sub_self] at hu
    rw [List.getElem?_append_right (by omega), hd, Nat.sub_self] at hx
    simp at hu hx
    subst hu hx
    exact ⟨_, _, _, rfl, keep ho⟩
end
end Go.Proofs.YtmdhljleaijkbaaGreatDoor

/- Groups of permutations: the reference's l01Put. -/
namespace Go.Proofs.YtmdhljleaijkbaaGreatDoor
open Go.RowKit

/-- the spine while its end is shifted: places up to k stand as they were -/
def shfL (us : List Value) (u : Value) (k : Nat) : List Value := (us ++ [u]).take (k + 1) ++ us.drop k
theorem shfL_start {us : List Value} {u : Value} {n : Nat} (h : us.length = n) : shfL us u n = us ++ [u] := by
  unfold shfL
  rw [List.take_of_length_le (by simp; omega), List.drop_of_length_le (by omega), List.append_nil]
theorem shfL_step {us : List Value} {u : Value} {n k : Nat} (h : us.length = n) (hk : 0 < k) (hkn : k ≤ n) : (shfL us u k).set k (us.getD (k - 1) u) = shfL us u (k - 1) ∧ (shfL us u k)[k - 1]? = some (us.getD (k - 1) u) := by
  unfold shfL
  have h1 : ((us ++ [u]).take (k + 1)).length = k + 1 := by simp; omega
  have h0 : k - 1 < us.length := by omega
  have hg : us.getD (k - 1) u = us[k - 1] := by rw [List.getD_eq_getElem?_getD, List.getElem?_eq_getElem h0]; rfl
  refine ⟨?_, ?_⟩
  · rw [List.set_append_left _ _ (by omega), hg]
    have h2 : us.drop (k - 1) = us[k - 1] :: us.drop k := by rw [List.drop_eq_getElem_cons h0, show k - 1 + 1 = k by omega]
    rw [h2, show k - 1 + 1 = k by omega]
    have h3 : (us ++ [u]).take (k + 1) = (us ++ [u]).take k ++ [(us ++ [u])[k]'(by simp; omega)] := by rw [List.take_succ_eq_append_getElem]
    rw [h3, List.set_append_right _ _ (by simp; omega)]
    have h4 : k - ((us ++ [u]).take k).length = 0 := by simp; omega
    rw [h4, List.set_cons_zero, List.append_assoc]; rfl
  · rw [List.getElem?_append_left (by omega), List.getElem?_take_of_lt (by omega), List.getElem?_append_left (by omega), List.getElem?_eq_getElem h0, hg]
theorem shfL_end {us : List Value} {u : Value} {n k : Nat} (h : us.length = n) (hkn : k ≤ n) : (shfL us u k).set k u = us.take k ++ u :: us.drop k := by
  unfold shfL
  have h3 : (us ++ [u]).take (k + 1) = (us ++ [u]).take k ++ [(us ++ [u])[k]'(by simp; omega)] := by rw [List.take_succ_eq_append_getElem]
  rw [h3, List.append_assoc, List.set_append_right _ _ (by simp; omega)]
  have h4 : k - ((us ++ [u]).take k).length = 0 := by simp; omega
  rw [h4]
  have h5 : (us ++ [u]).take k = us.take k := List.take_append_of_le_length (by omega)
  rw [h5]; rfl
theorem shfL_len {us : List Value} {u : Value} {n k : Nat} (h : us.length = n) (hkn : k ≤ n) : (shfL us u k).length = n + 1 := by
  unfold shfL; simp; omega
/-- what l01Put leaves of the spine -/
def PutAns (w : World) (lo : Nat) (ao : Option Addr) (n : Nat) (p : List Int) (ds : List (List Int)) (e : Ending) (w' : World) : Prop :=
  ∃ (fresh : Bool) (a2 : Option Addr) (n2 c2 : Nat) (us2 : List Value) (ds2 : List (List Int)), e = .returned (.tuple #[.slice a2 n2 c2, .bool fresh]) ∧ (fresh = true ↔ p ∉ ds) ∧ ds2 = (if fresh = true then putAt ds p else ds) ∧ SpF w' lo a2 n2 c2 us2 ds2 ∧ w.grownBy w' (bk ao) ∧ (bk a2 = bk ao ∨ ∃ g, bk a2 = some g ∧ w.heap.size ≤ g)
theorem grown_drew {w : World} {m : Nat} {row : Option Nat} : w.grownBy (w.drewN m) row := grown_of_below (below_drewN (Below.refl _ _) m) _
theorem grown_on {w w4 w5 : World} {row : Option Nat} {g2 : Nat} (hg : w.grownBy w4 row) (hg2 : w4.grownBy w5 (some g2)) (hat : some g2 = row ∨ w.heap.size ≤ g2) : w.grownBy w5 row :=
  ⟨hg2.os.trans hg.os, hg2.tape.trans hg.tape, hg2.output.trans hg.output, Nat.le_trans hg.size hg2.size, fun i hi hne => (hg2.block i (Nat.lt_of_lt_of_le hi hg.size) (fun e => by
    rcases hat with h | h
    · exact hne (by rw [← h]; exact e)
    · have := Option.some.inj e; omega)).trans (hg.block i hi hne)⟩
theorem put_rows {w w' : World} {lo q n c c2 : Nat} {ao a2 pa : Option Addr} {pn pc : Nat} {us : List Value} {ds : List (List Int)} {p : List Int} (h : SpF w lo ao n c us ds) (hp : Own w lo 2 pa pn pc (p.map (Value.int .i64))) (hq : q ≤ n) (hown : Own w' lo 38 a2 (n + 1) c2 (us.take q ++ .slice pa pn pc :: us.drop q)) (hg : w.grownBy w' (bk ao)) :
    SpF w' lo a2 (n + 1) c2 (us.take q ++ .slice pa pn pc :: us.drop q) (ds.take q ++ p :: ds.drop q) := by
  have hl := h.own.len
  have hd := h.len
  have keep : ∀ {a m k} {x : List Int}, Own w lo 2 a m k (x.map (Value.int .i64)) → Own w' lo 2 a m k (x.map (Value.int .i64)) := fun ho => ho.same fun g eg => hg.block g (ho.lt g eg).2 (fun e => own_neT ho h.own (by decide) eg e.symm)
  refine ⟨hown, by simp; omega, fun j u x hu hx => ?_⟩
  rcases Nat.lt_trichotomy j q with hj | hj | hj
  · rw [List.getElem?_append_left (by simp; omega), List.getElem?_take_of_lt hj] at hu hx
    obtain ⟨a, m, k, e, ho⟩ := h.row j u x hu hx
    exact ⟨a, m, k, e, keep ho⟩
  · subst hj
    have h1 : (us.take j).length = j := by simp; omega
    have h2 : (ds.take j).length = j := by simp; omega
    rw [List.getElem?_append_right (by omega), h1, Nat.sub_self] at hu
    rw [List.getElem?_append_right (by omega), h2, Nat.sub_self] at hx
    simp at hu hx
    subst hu hx
    exact ⟨_, _, _, rfl, keep hp⟩
  · have h1 : (us.take q).length = q := by simp; omega
    have h2 : (ds.take q).length = q := by simp; omega
    rw [List.getElem?_append_right (by omega), h1, show j - q = (j - q - 1) + 1 by omega, List.getElem?_cons_succ, List.getElem?_drop] at hu
    rw [List.getElem?_append_right (by omega), h2, show j - q = (j - q - 1) + 1 by omega, List.getElem?_cons_succ, List.getElem?_drop] at hx
    obtain ⟨a, m, k, e, ho⟩ := h.row _ u x hu hx
    exact ⟨a, m, k, e, keep ho⟩
set_option maxHeartbeats 6400000 in
set_option maxRecDepth 100000 in
theorem specPut_any (lo : Nat) (ao pa : Option Addr) (n c pn pc : Nat) (us : List Value) (ds : List (List Int)) (p : List Int) (w : World) (h : SpF w lo ao n c us ds) (hp : Own w lo 2 pa pn pc (p.map (Value.int .i64))) (hasc : AscL ds) (hlen : ∀ d ∈ ds, d.length = pn) (hlo : lo ≤ w.heap.size) (hn : n ≤ 2000) :
    Calls Tryz.prog 55 #[.slice ao n c, .slice pa pn pc] w (PutAns w lo ao n p ds) := by
  have hl := h.own.len
  have hd := h.len
  have HP := Lib.hid hp
  have H := Lib.hid h
  have HLEN := Lib.hid hlen
  have hlow := lowL_le ds p
  have hmem := mem_low (p := p) hasc
  have hat := fun j hj => lowL_at hasc (p := p) j hj
  rw [hd] at hlow hmem hat
  generalize hq : lowL ds p = q at *
  have HQ := Lib.hid hq
  have HM := Lib.hid hmem
  have HAT := Lib.hid hat
  have HASC := Lib.hid hasc
  clear h hp hlen hmem hat hasc hq
  go_enter Tryz.func55, Tryz.ntmps55
  go_wp2_with fail
  go_loopw [6, 7] (fun lv hv wr => ∃ l k m : Nat, l ≤ q ∧ q ≤ k ∧ k ≤ n ∧ lv = .int .i64 l ∧ hv = .int .i64 k ∧ wr = w.drewN m) (fun lv hv _ => (intOf hv).toNat - (intOf lv).toNat)
  case atStart => exact ⟨0, n, 0, Nat.zero_le _, hlow, Nat.le_refl _, rfl, rfl, rfl⟩
  case round =>
    obtain ⟨l, k, m, h1, h2, h3, rfl, rfl, rfl⟩ := hrel
    by_cases hlt : l < k
    · have hmid : ((l : Int) + (k : Int)).tdiv 2 = (((l + k) / 2 : Nat) : Int) := by rw [show ((l : Int) + (k : Int)) = ((l + k : Nat) : Int) by omega]; rfl
      obtain ⟨j, hj⟩ : ∃ j, j = (l + k) / 2 := ⟨_, rfl⟩
      rw [← hj] at hmid
      have hjk : j < k := by omega
      have hlj : l ≤ j := by omega
      have hjn : j < n := by omega
      obtain ⟨g, a, b, kk, rfl, hc, hu, ho⟩ := (H.out.below (below_drewN (Below.refl _ _) m)).at_ hjn
      have hbn : b = pn := by
        have h5 := ho.len
        rw [List.length_map, HLEN.out _ (lget_mem (by rw [hd]; exact hjn))] at h5
        exact h5.symm
      subst hbn
      have hmidd : ((l : Int) + (k : Int)) / 2 = (j : Int) := by omega
      have hj0 : (0 : Int) ≤ (j : Int) := by omega
      have hj1 : (j : Int) < (n : Int) := by omega
      have HI := Lib.hid ho.ints
      have HPI := Lib.hid (HP.out.below (below_drewN (Below.refl _ _) m)).ints
      have hA := HAT.out j hjn
      clear hj ho
      cases hless : ltL (lget ds j) p with
      | true =>
        have hjq := hA.1 hless
        have HLS := Lib.hid hless
        clear hless hA
        go_wp2_with (go_at_call 78; refine (specLess_any _ _ _ _ _ _ _ _ HI.out HPI.out).mono ?_; rintro e w2 ⟨rfl, m2, rfl⟩; rw [HLS.out])
        go_roundw
        case rel => exact ⟨j + 1, k, _, by omega, h2, h3, by go_num, rfl, rfl⟩
        case measure => simp [intOf]; omega
      | false =>
        have hjq : q ≤ j := by
          rcases Nat.lt_or_ge j q with t | t
          · rw [hA.2 t] at hless; cases hless
          · exact t
        have HLS := Lib.hid hless
        clear hless hA
        go_wp2_with (go_at_call 78; refine (specLess_any _ _ _ _ _ _ _ _ HI.out HPI.out).mono ?_; rintro e w2 ⟨rfl, m2, rfl⟩; rw [HLS.out])
        go_roundw
        case rel => exact ⟨l, j, _, h1, hjq, by omega, rfl, by go_num, rfl⟩
        case measure => simp [intOf]; omega
    · obtain rfl : l = q := by omega
      have HW := Lib.hid (H.out.below (below_drewN (Below.refl _ _) m))
      have HPW := Lib.hid (HP.out.below (below_drewN (Below.refl _ _) m))
      have hgw : w.grownBy (w.drewN m) (bk ao) := grown_drew
      have hsz : lo ≤ (w.drewN m).heap.size := hlo
      by_cases hin : p ∈ ds
      · obtain ⟨hln, hle⟩ := HM.out.1 hin
        obtain ⟨g, a, b, kk, rfl, hc, hu, ho⟩ := HW.out.at_ hln
        rw [hle] at ho
        have HI := Lib.hid ho.ints
        have hdec : decide (p = p) = true := by simp
        clear ho hle
        go_wp2_with (go_at_call 28; refine (same_any _ _ _ _ _ _ _ _ _ HI.out HPW.out.ints).mono ?_; rintro e w2 ⟨rfl, m2, rfl⟩; rw [hdec])
        exact bodyPost_ret (v := .tuple #[.slice (some ⟨g, 0, none⟩) n c, .bool false]) (by simp [results, Tryz.f55, go_sem]) rfl (by unfold PutAns; exact ⟨false, _, _, _, us, ds, rfl, by simp [hin], rfl, H.out.below (below_drewN (Below.refl _ _) _), grown_drew, .inl rfl⟩)
      go_upto_region 7 with fail
      go_cut [40] (fun s40 wx => s40 = .bool false ∧ ∃ m2, wx = w.drewN m2)
      case first =>
        by_cases hln : l < n
        · obtain ⟨g, a, b, kk, rfl, hc, hu, ho⟩ := HW.out.at_ hln
          have HI := Lib.hid ho.ints
          have hdec : decide (lget ds l = p) = false := by simp; exact fun e => hin (HM.out.2 ⟨hln, e⟩)
          clear ho
          go_wp2_with (go_at_call 28; refine (same_any _ _ _ _ _ _ _ _ _ HI.out HPW.out.ints).mono ?_; rintro e w2 ⟨rfl, m2, rfl⟩; rw [hdec])
          go_meet
          case rel => exact ⟨rfl, _, rfl⟩
        · go_wp2_with fail
          go_meet
          case rel => exact ⟨rfl, _, rfl⟩
      case rest =>
        obtain ⟨rfl, m2, rfl⟩ := hcut
        have HW2 := Lib.hid (H.out.below (below_drewN (Below.refl _ _) m2))
        have HP2 := Lib.hid (HP.out.below (below_drewN (Below.refl _ _) m2))
        have hgw2 : w.grownBy (w.drewN m2) (bk ao) := grown_drew
        have hsz2 : lo ≤ (w.drewN m2).heap.size := hlo
        clear HW HPW hgw hsz
        go_wp2_with (at_builtin; refine wpList_ap1 etSS _ rfl _ _ rfl lo ao n c us rfl HW2.out.own (.slice pa pn pc) rfl rfl (by omega) hsz2 ?_; intro ao2 c2 w4 o4 g4 hat)
        obtain ⟨g2, rfl, -, -, hnc2, -, -⟩ := o4.form (by omega)
        have O4 := Lib.hid (show Own w4 lo 38 (some ⟨g2, 0, none⟩) (n + 1) c2 (shfL us (.slice pa pn pc) n) by rw [shfL_start hl]; exact o4)
        have G4 := Lib.hid (grown_on (g2 := g2) g4 (World.grownBy.refl w4 _) (hat.imp id (fun e => by simp [bk] at e; show w.heap.size ≤ g2; omega)))
        have HAT2 := Lib.hid hat
        clear o4 hat
        go_wp2_with fail
        go_loopw [10] (fun iv wr => ∃ k : Nat, l ≤ k ∧ k ≤ n ∧ iv = .int .i64 k ∧ Own wr lo 38 (some ⟨g2, 0, none⟩) (n + 1) c2 (shfL us (.slice pa pn pc) k) ∧ w4.grownBy wr (some g2)) (fun iv _ => (intOf iv).toNat)
        case atStart => exact ⟨n, hlow, Nat.le_refl _, by go_num, O4.out, World.grownBy.refl _ _⟩
        case round =>
          clear O4
          obtain ⟨k, hk1, hk2, rfl, ho, hg⟩ := hrel
          obtain ⟨g', e', -, -, -, hcell, hfz⟩ := ho.form (by omega)
          injection e' with e'; injection e' with e'; subst e'
          have hsl := shfL_len (u := .slice pa pn pc) hl hk2
          by_cases hlt : l < k
          · obtain ⟨gq, a, b, kk, -, -, hu, -⟩ := H.out.at_ (j := k - 1) (by omega)
            obtain ⟨s1, s2⟩ := shfL_step (u := .slice pa pn pc) hl (by omega) hk2
            have hv : us.getD (k - 1) (.slice pa pn pc) = .slice a b kk := by rw [List.getD_eq_getElem?_getD, hu]; rfl
            rw [hv] at s1 s2
            have c1 := hcell (k - 1) (by omega)
            rw [s2] at c1
            have c2' := hcell k (by omega)
            rw [List.getElem?_eq_getElem (by omega)] at c2'
            have f1 := hfz k
            obtain ⟨st, gst⟩ := ho.stored k (.slice a b kk)
            rw [s1] at st
            have ST := Lib.hid st
            have GS := Lib.hid (grown_on hg gst (.inl rfl))
            generalize (shfL us (.slice pa pn pc) k)[k]'(by omega) = old at *
            have hk0 : ((k : Int) - 1).toNat = k - 1 := by omega
            have hk3 : (0 : Int) ≤ (k : Int) - 1 := by omega
            have hk4 : (k : Int) - 1 < (n : Int) + 1 := by omega
            have hk5 : (k : Int) < (n : Int) + 1 := by omega
            have hk6 : IntKind.i64.wrap ((k : Int) - 1) = (k : Int) - 1 := IntWalk.i64_in _ (by omega)
            clear ho hcell hfz st gst s1 s2 hv hu hg hsl
            go_wp2_with fail
            go_roundw
            case rel => exact ⟨k - 1, by omega, by omega, by rw [show (k : Int) - 1 = ((k - 1 : Nat) : Int) by omega], ST.out, GS.out⟩
            case measure => simp [intOf]; omega
          · obtain rfl : l = k := by omega
            have c2' := hcell l (by omega)
            rw [List.getElem?_eq_getElem (by omega)] at c2'
            have f1 := hfz l
            obtain ⟨st, gst⟩ := ho.stored l (.slice pa pn pc)
            rw [shfL_end hl hk2] at st
            have GS := grown_on hg gst (.inl rfl)
            have hgf : w.grownBy (wr.setCell ⟨g2, l, none⟩ (.slice pa pn pc)) (bk ao) := grown_on (grown_tr hgw2 G4.out) GS (HAT2.out.imp id (fun e => by simp [bk] at e; omega))
            have hsp := put_rows H.out HP.out hk2 st hgf
            have HSP := Lib.hid hsp
            have HGF := Lib.hid hgf
            have hk5 : (l : Int) < (n : Int) + 1 := by omega
            have hpa : putAt ds p = ds.take l ++ p :: ds.drop l := by unfold putAt; rw [HQ.out]
            have HPA := Lib.hid hpa
            generalize (shfL us (.slice pa pn pc) l)[l]'(by omega) = old at *
            clear ho hcell hfz st gst hsp hgf hpa GS hg
            go_wp2_with fail
            exact bodyPost_ret (v := .tuple #[.slice (some ⟨g2, 0, none⟩) (n + 1) c2, .bool true]) (by simp [results, Tryz.f55, go_sem]) rfl (by unfold PutAns; exact ⟨true, _, _, _, _, _, rfl, by simp [hin], rfl, by rw [if_pos rfl, HPA.out]; exact HSP.out, HGF.out, HAT2.out.imp id (fun e => ⟨_, e, Nat.le_succ _⟩)⟩)
end Go.Proofs.YtmdhljleaijkbaaGreatDoor

/- Groups of permutations: the reference's l01Group. -/
namespace Go.Proofs.YtmdhljleaijkbaaGreatDoor
open Go.RowKit

/-- lists of n numbers below n -/
def Pts (n : Nat) (p : List Int) : Prop := p.length = n ∧ ∀ k, k < n → ∃ x : Nat, iget p k = (x : Int) ∧ x < n
theorem unitL_pts (n : Nat) : Pts n (unitL n) := ⟨by simp [unitL], fun k hk => ⟨k, by simp [unitL, iget, hk], hk⟩⟩
theorem thenL_pts {n : Nat} {p q : List Int} (hp : Pts n p) (hq : Pts n q) : Pts n (thenL p q) := ⟨by rw [thenL_len]; exact hp.1, fun k hk => by
  obtain ⟨x, h1, h2⟩ := hp.2 k hk
  obtain ⟨y, h3, h4⟩ := hq.2 x h2
  have hl := hp.1
  refine ⟨y, ?_, h4⟩
  rw [← h3]
  unfold iget at h1 ⊢
  rw [List.getD_eq_getElem?_getD] at h1
  unfold thenL
  rw [List.getD_eq_getElem?_getD, List.getElem?_map, List.getElem?_eq_getElem (by omega)]
  rw [List.getElem?_eq_getElem (by omega)] at h1
  have h1 : p[k] = (x : Int) := h1
  show iget q (p[k]).toNat = q.getD x 0
  rw [h1, Int.toNat_natCast]; rfl⟩
/-- the search: what is found, and the same lists in order -/
structure GrS (w wr : World) (n : Nat) (gs : List (List Int)) (af : Option Addr) (nf cf : Nat) (uf : List Value) (es : List (List Int)) (as' : Option Addr) (ns cs : Nat) (us : List Value) (ss : List (List Int)) : Prop where
  fnd : SpF wr w.heap.size af nf cf uf es
  srt : SpF wr w.heap.size as' ns cs us ss
  asc : AscL ss
  mem : ∀ z, z ∈ ss ↔ z ∈ es
  pts : ∀ z, z ∈ es → Pts n z
  ne : ∀ g, bk af = some g → bk as' ≠ some g
  nn : ns = nf
  bel : Below w.heap.size w wr
section
variable {w wr w' : World} {n : Nat} {gs : List (List Int)} {af : Option Addr} {nf cf : Nat} {uf : List Value} {es : List (List Int)} {as' : Option Addr} {ns cs : Nat} {us : List Value} {ss : List (List Int)}
theorem GrS.below (h : GrS w wr n gs af nf cf uf es as' ns cs us ss) (b : Below wr.heap.size wr w') : GrS w w' n gs af nf cf uf es as' ns cs us ss :=
  ⟨h.fnd.below b, h.srt.below b, h.asc, h.mem, h.pts, h.ne, h.nn, h.bel.trans (b.mono h.bel.size)⟩
/-- a list that is new is put among those in order -/
theorem GrS.put (h : GrS w wr n gs af nf cf uf es as' ns cs us ss) {p : List Int} {a2 : Option Addr} {n2 c2 : Nat} {us2 : List Value} (hs : SpF w' w.heap.size a2 n2 c2 us2 ss) (hg : wr.grownBy w' (bk as')) (hat : bk a2 = bk as' ∨ ∃ g, bk a2 = some g ∧ wr.heap.size ≤ g) (_hp : p ∈ ss) : GrS w w' n gs af nf cf uf es a2 n2 c2 us2 ss :=
  ⟨h.fnd.far h.srt.own hg h.ne, hs, h.asc, h.mem, h.pts, fun g e => by
    rcases hat with q | ⟨g2, q, hge⟩
    · rw [q]; exact h.ne g e
    · rw [q]; intro t; have := Option.some.inj t; have := (h.fnd.own.lt g e).2; omega, by have := hs.len; have := h.srt.len; have := h.nn; omega, h.bel.grown hg h.bel.size (fun g e => (h.srt.own.lt g e).1)⟩
theorem GrS.grow {w2 w4 : World} {p : List Int} {pa a2 a4 : Option Addr} {pn pc c2 c4 n2 : Nat} {us2 : List Value} (h : GrS w wr n gs af nf cf uf es as' ns cs us ss) (hp : Pts n p) (hn : p ∉ ss) (hs : SpF w2 w.heap.size a2 n2 c2 us2 (putAt ss p)) (hg : wr.grownBy w2 (bk as')) (hat : bk a2 = bk as' ∨ ∃ g, bk a2 = some g ∧ wr.heap.size ≤ g)
    (ho : Own w2 w.heap.size 2 pa pn pc (p.map (Value.int .i64))) (hown : Own w4 w.heap.size 38 a4 (nf + 1) c4 (uf ++ [.slice pa pn pc])) (hg4 : w2.grownBy w4 (bk af)) (hat4 : bk a4 = bk af ∨ ∃ g, bk a4 = some g ∧ w2.heap.size ≤ g) :
    GrS w w4 n gs a4 (nf + 1) c4 (uf ++ [.slice pa pn pc]) (es ++ [p]) a2 n2 c2 us2 (putAt ss p) := by
  have hf2 := h.fnd.far h.srt.own hg h.ne
  have hsz := hg.size
  have ne2 : ∀ g, bk a2 = some g → bk af ≠ some g := fun g e q => by
    rcases hat with t | ⟨g2, t, hge⟩
    · exact h.ne g q (t ▸ e)
    · rw [t] at e; have := Option.some.inj e; have := (h.fnd.own.lt g q).2; omega
  obtain ⟨hasc, hmem⟩ := putAt_asc h.asc hn
  have hlen : (putAt ss p).length = ss.length + 1 := by
    unfold putAt
    have := lowL_le ss p
    simp; omega
  refine ⟨hf2.push ho hg4 hown, hs.far hf2.own hg4 ne2, hasc, fun z => ?_, fun z hz => ?_, fun g e q => ?_, ?_, ?_⟩
  · rw [hmem, h.mem, List.mem_append, List.mem_singleton]
  · rcases List.mem_append.1 hz with t | t
    · exact h.pts z t
    · simp at t; subst t; exact hp
  · rcases hat4 with t | ⟨g4, t, hge⟩
    · exact ne2 g q (t ▸ e)
    · rw [t] at e; have := Option.some.inj e; have := (hs.own.lt g q).2; omega
  · have a := hs.len; have b := h.srt.len; have c := h.nn; omega
  · exact (h.bel.grown hg h.bel.size (fun g e => (h.srt.own.lt g e).1)).grown hg4 (Nat.le_trans h.bel.size hsz) (fun g e => (h.fnd.own.lt g e).1)
end
end Go.Proofs.YtmdhljleaijkbaaGreatDoor

/- Groups of permutations, plain: what the search leaves, the elements in order, their numbers. No program in sight. -/
namespace Go.Proofs.YtmdhljleaijkbaaGreatDoor

theorem mem_stepG {gs es : List (List Int)} {i k : Nat} {z : List Int} (h : z ∈ es) : z ∈ stepGr gs es i k := by
  unfold stepGr; split
  · exact h
  · exact List.mem_append_left _ h
theorem stepG_has (gs es : List (List Int)) (i k : Nat) : thenL (lget es i) (lget gs k) ∈ stepGr gs es i k := by
  unfold stepGr; split
  · assumption
  · exact List.mem_append_right _ (by simp)
theorem stepG_nodup {gs es : List (List Int)} {i k : Nat} (h : es.Nodup) : (stepGr gs es i k).Nodup := by
  unfold stepGr; split
  · exact h
  · rename_i hn
    rw [List.nodup_append]
    refine ⟨h, by simp, fun a ha b hb => ?_⟩
    simp at hb; subst hb
    intro e; subst e; exact hn ha
theorem mem_rowG {gs es : List (List Int)} {i : Nat} {z : List Int} (h : z ∈ es) : ∀ k, z ∈ rowG gs es i k
  | 0 => h
  | k + 1 => mem_stepG (mem_rowG h k)
theorem mem_rowG_mono {gs es : List (List Int)} {i : Nat} {z : List Int} {k l : Nat} (hkl : k ≤ l) (h : z ∈ rowG gs es i k) : z ∈ rowG gs es i l := by
  induction l with
  | zero => obtain rfl : k = 0 := by omega
            exact h
  | succ l ih =>
    by_cases e : k = l + 1
    · subst e; exact h
    · exact mem_stepG (ih (by omega))
theorem rowG_nodup {gs es : List (List Int)} {i : Nat} (h : es.Nodup) : ∀ k, (rowG gs es i k).Nodup
  | 0 => h
  | k + 1 => stepG_nodup (rowG_nodup h k)
theorem rowG_has {gs es : List (List Int)} {i k l : Nat} (hi : i < es.length) (hk : k < l) : thenL (lget es i) (lget gs k) ∈ rowG gs es i l := by
  have h := stepG_has gs (rowG gs es i k) i k
  rw [rowG_get hi] at h
  exact mem_rowG_mono hk h
/-- what the search leaves -/
theorem runG_ok {gs : List (List Int)} : ∀ {f i : Nat} {es R : List (List Int)}, runG gs f i es = some R → es.Nodup → i ≤ es.length → (∀ i' k, i' < i → k < gs.length → thenL (lget es i') (lget gs k) ∈ es) →
    R.Nodup ∧ (∀ i' k, i' < R.length → k < gs.length → thenL (lget R i') (lget gs k) ∈ R) ∧ (∀ z, z ∈ es → z ∈ R)
  | 0, _, _, _, h, _, _, _ => by cases h
  | f + 1, i, es, R, h, hn, hi, hc => by
    by_cases hlt : i < es.length
    · by_cases hb : 1000 < (rowG gs es i gs.length).length
      · rw [runG_bad hlt hb] at h; cases h
      · rw [runG_go hlt (by omega)] at h
        obtain ⟨h1, h2, h3⟩ := runG_ok h (rowG_nodup hn _) (by have := (rowG_len gs es i gs.length).1; omega) (fun i' k hi' hk => by
          rw [rowG_get (by omega)]
          by_cases e : i' = i
          · subst e; exact rowG_has hlt hk
          · exact mem_rowG (hc i' k (by omega) hk) _)
        exact ⟨h1, h2, fun z hz => h3 z (mem_rowG hz _)⟩
    · rw [runG_end hlt] at h
      injection h with h; subst h
      exact ⟨hn, fun i' k hi' hk => hc i' k (by omega) hk, fun z hz => hz⟩
theorem grpE_ok {gs : List (List Int)} {n : Nat} {R : List (List Int)} (h : grpE gs n = some R) : R.Nodup ∧ (∀ i' k, i' < R.length → k < gs.length → thenL (lget R i') (lget gs k) ∈ R) ∧ unitL n ∈ R := by
  obtain ⟨h1, h2, h3⟩ := runG_ok h (by simp) (by omega) (fun i' k hi' => absurd hi' (by omega))
  exact ⟨h1, h2, h3 _ (by simp)⟩
theorem rowG_pts {gs es : List (List Int)} {i n : Nat} (he : ∀ z ∈ es, Pts n z) (hg : ∀ z ∈ gs, Pts n z) (hi : i < es.length) : ∀ k, k ≤ gs.length → ∀ z ∈ rowG gs es i k, Pts n z
  | 0, _ => he
  | k + 1, hk => fun z hz => by
    have ih := rowG_pts he hg hi k (by omega)
    have hz : z ∈ stepGr gs (rowG gs es i k) i k := hz
    unfold stepGr at hz
    split at hz
    · exact ih z hz
    · rcases List.mem_append.1 hz with t | t
      · exact ih z t
      · simp at t
        subst t
        exact thenL_pts (ih _ (lget_mem (by have := (rowG_len gs es i k).1; omega))) (hg _ (lget_mem (by omega)))
theorem runG_pts {gs : List (List Int)} {n : Nat} (hg : ∀ z ∈ gs, Pts n z) : ∀ {f i : Nat} {es R : List (List Int)}, runG gs f i es = some R → (∀ z ∈ es, Pts n z) → ∀ z ∈ R, Pts n z
  | 0, _, _, _, h, _ => by cases h
  | f + 1, i, es, R, h, he => by
    by_cases hlt : i < es.length
    · by_cases hb : 1000 < (rowG gs es i gs.length).length
      · rw [runG_bad hlt hb] at h; cases h
      · rw [runG_go hlt (by omega)] at h
        exact runG_pts hg h (rowG_pts he hg hlt _ (Nat.le_refl _))
    · rw [runG_end hlt] at h
      injection h with h; subst h
      exact he
theorem grpE_pts {gs : List (List Int)} {n : Nat} {R : List (List Int)} (hg : ∀ z ∈ gs, Pts n z) (h : grpE gs n = some R) : ∀ z ∈ R, Pts n z := runG_pts hg h fun z hz => by simp at hz; subst hz; exact unitL_pts n
/-- the lists in order -/
def srtE (es : List (List Int)) : List (List Int) := es.foldl putAt []
theorem srtE_go : ∀ {es acc : List (List Int)}, AscL acc → es.Nodup → (∀ z, z ∈ es → z ∉ acc) → AscL (es.foldl putAt acc) ∧ (∀ z, z ∈ es.foldl putAt acc ↔ z ∈ acc ∨ z ∈ es) ∧ (es.foldl putAt acc).length = acc.length + es.length
  | [], acc, h, _, _ => ⟨h, fun z => by simp, by simp⟩
  | p :: es, acc, h, hn, hd => by
    obtain ⟨h1, h2⟩ := putAt_asc h (hd p (by simp))
    have hn' := List.nodup_cons.1 hn
    obtain ⟨a, b, c⟩ := srtE_go (es := es) (acc := putAt acc p) h1 hn'.2 (fun z hz hz2 => by
      rcases (h2 z).1 hz2 with t | t
      · exact hd z (List.mem_cons_of_mem _ hz) t
      · subst t; exact hn'.1 hz)
    have hl : (putAt acc p).length = acc.length + 1 := by
      unfold putAt; have := lowL_le acc p; simp; omega
    refine ⟨a, fun z => ?_, by rw [List.foldl_cons, c, hl, List.length_cons]; omega⟩
    rw [List.foldl_cons, b, h2, List.mem_cons]
    constructor
    · rintro ((t | t) | t)
      · exact .inl t
      · exact .inr (.inl t)
      · exact .inr (.inr t)
    · rintro (t | t | t)
      · exact .inl (.inl t)
      · exact .inl (.inr t)
      · exact .inr t
theorem srtE_ok {es : List (List Int)} (h : es.Nodup) : AscL (srtE es) ∧ (∀ z, z ∈ srtE es ↔ z ∈ es) ∧ (srtE es).length = es.length := by
  obtain ⟨a, b, c⟩ := srtE_go (es := es) (acc := []) List.Pairwise.nil h (fun z _ => by simp)
  exact ⟨a, fun z => by show z ∈ es.foldl putAt [] ↔ _; rw [b]; simp, by show (es.foldl putAt []).length = _; rw [c]; simp⟩
theorem asc_srt {es ss : List (List Int)} (h : es.Nodup) (ha : AscL ss) (hm : ∀ z, z ∈ ss ↔ z ∈ es) : ss = srtE es := by
  obtain ⟨a, b, _⟩ := srtE_ok h
  exact ascL_uniq ha a fun z => (hm z).trans (b z).symm
/-- the numbers of p, moved by g -/
def cayRow (ss : List (List Int)) (g : List Int) (k : Nat) : List Int := (ss.take k).map fun p => (lowL ss (thenL p g) : Int)
def cayL (gs ss : List (List Int)) : List (List Int) := gs.map fun g => cayRow ss g ss.length
theorem cayRow_succ {ss : List (List Int)} {g : List Int} {k : Nat} (h : k < ss.length) : cayRow ss g (k + 1) = cayRow ss g k ++ [(lowL ss (thenL (lget ss k) g) : Int)] := by
  unfold cayRow
  rw [List.take_succ_eq_append_getElem h, List.map_append, lget_lt h]; rfl
theorem cayRow_len {ss : List (List Int)} {g : List Int} {k : Nat} (h : k ≤ ss.length) : (cayRow ss g k).length = k := by unfold cayRow; simp; omega
theorem cayL_take {gs ss : List (List Int)} {k : Nat} (h : k < gs.length) : (cayL gs ss).take (k + 1) = (cayL gs ss).take k ++ [cayRow ss (lget gs k) ss.length] := by
  unfold cayL
  rw [← List.map_take, ← List.map_take, List.take_succ_eq_append_getElem h, List.map_append, lget_lt h]; rfl
/-- the first place of q among ss -/
theorem low_first {ss : List (List Int)} {q : List Int} (ha : AscL ss) (hq : q ∈ ss) {k : Nat} (hk : k ≤ lowL ss q) : (decide (lget ss k = q) = true ↔ k = lowL ss q) ∧ k < ss.length := by
  obtain ⟨h1, h2⟩ := (mem_low ha).1 hq
  have hkl : k < ss.length := by omega
  refine ⟨?_, hkl⟩
  rw [decide_eq_true_iff]
  constructor
  · intro e
    by_cases hlt : k < lowL ss q
    · have := (lowL_at ha k hkl).2 hlt
      rw [e, ltL_irr] at this; cases this
    · omega
  · rintro rfl; exact h2
theorem low_uniq {ss : List (List Int)} {q : List Int} (ha : AscL ss) {m : Nat} (hm : m < ss.length) (e : lget ss m = q) : m = lowL ss q := by
  have hq : q ∈ ss := by rw [← e]; exact lget_mem hm
  obtain ⟨h1, h2⟩ := (mem_low ha).1 hq
  rcases Nat.lt_trichotomy m (lowL ss q) with h | h | h
  · have := (lowL_at ha m hm).2 h
    rw [e, ltL_irr] at this; cases this
  · exact h
  · have := List.pairwise_iff_getElem.1 ha _ _ h1 hm h
    rw [← lget_lt h1, ← lget_lt hm, e, h2, ltL_irr] at this; cases this
end Go.Proofs.YtmdhljleaijkbaaGreatDoor

/- Regular covers, plain: the elements in order, the maniplex whose flags they are. No program in sight. -/
namespace Go.Proofs.YtmdhljleaijkbaaGreatDoor

noncomputable def rcC (d : List (List Int)) : Int :=
  if manB d = true then (match grpE d (lget d 0).length with | none => 3 | some es => if es.length ≤ 400 then 0 else 3) else 1
noncomputable def rcR (d : List (List Int)) : List (List Int) :=
  if manB d = true then (match grpE d (lget d 0).length with | none => [] | some es => if es.length ≤ 400 then cayL d (srtE es) else []) else []
section
variable {d es : List (List Int)}
theorem rc_no (h : manB d = false) : rcC d = 1 ∧ rcR d = [] := by unfold rcC rcR; rw [h]; simp
theorem rc_none (h : manB d = true) (h2 : grpE d (lget d 0).length = none) : rcC d = 3 ∧ rcR d = [] := by unfold rcC rcR; rw [h, h2]; simp
theorem rc_big (h : manB d = true) (h2 : grpE d (lget d 0).length = some es) (h3 : ¬ es.length ≤ 400) : rcC d = 3 ∧ rcR d = [] := by unfold rcC rcR; rw [h, h2]; simp [h3]
theorem rc_yes (h : manB d = true) (h2 : grpE d (lget d 0).length = some es) (h3 : es.length ≤ 400) : rcC d = 0 ∧ rcR d = cayL d (srtE es) := by unfold rcC rcR; rw [h, h2]; simp [h3]
end
/-- what a maniplex's moves are for the search -/
theorem man_pts {d : List (List Int)} (h : Man d) : ∀ z ∈ d, Pts (lget d 0).length z := fun z hz => by
  obtain ⟨i, hi, rfl⟩ := List.getElem_of_mem hz
  have hl := h.len i hi
  have hp := h.perm i hi
  rw [lget_lt hi] at hl hp
  refine ⟨hl, fun k hk => ?_⟩
  obtain ⟨h1, h2⟩ := isPerm_within hp (k := k) (by omega)
  exact ⟨(iget d[i] k).toNat, by omega, by omega⟩
end Go.Proofs.YtmdhljleaijkbaaGreatDoor

/- Lists that are permutations. No program in sight. -/
namespace Go.Proofs.YtmdhljleaijkbaaGreatDoor

theorem nodup_iget {zs : List Int} (h : ∀ i j, i < zs.length → j < zs.length → iget zs i = iget zs j → i = j) : zs.Nodup := by
  rw [List.nodup_iff_pairwise_ne, List.pairwise_iff_getElem]
  intro i j hi hj hij e
  have := h i j hi hj (by rw [iget_lt hi, iget_lt hj]; exact e)
  omega
theorem permGo_ok {n : Nat} : ∀ (zs : List Int) (seen : List Bool), seen.length = n → (∀ z ∈ zs, 0 ≤ z ∧ z < n) → zs.Nodup → (∀ z ∈ zs, seen.getD z.toNat false = false) → permGo n seen zs = true
  | [], _, _, _, _, _ => rfl
  | z :: r, seen, hs, hz, hn, hf => by
    rw [List.nodup_cons] at hn
    have h0 := hz z (by simp)
    unfold permGo
    rw [Bool.and_eq_true, Bool.and_eq_true]
    refine ⟨⟨inB_true.2 (by omega), by rw [hf z (by simp)]; rfl⟩, permGo_ok r _ (by rw [List.length_set]; exact hs) (fun x hx => hz x (by simp [hx])) hn.2 fun x hx => ?_⟩
    have hx0 := hz x (by simp [hx])
    have hne : z ≠ x := fun e => hn.1 (e ▸ hx)
    have := hf x (by simp [hx])
    rw [List.getD_eq_getElem?_getD] at this ⊢
    rw [List.getElem?_set_ne (by omega)]
    exact this
theorem isPerm_ok {zs : List Int} (hl : zs.length ≤ 400) (hz : ∀ k, k < zs.length → 0 ≤ iget zs k ∧ iget zs k < zs.length) (hi : ∀ i j, i < zs.length → j < zs.length → iget zs i = iget zs j → i = j) : isPerm zs = true := by
  unfold isPerm
  rw [Bool.and_eq_true]
  refine ⟨decide_eq_true hl, permGo_ok zs _ (by simp) (fun z hzm => ?_) (nodup_iget hi) fun z hzm => ?_⟩
  · obtain ⟨j, hj, rfl⟩ := List.getElem_of_mem hzm
    rw [← iget_lt hj]; exact hz j hj
  · rw [List.getD_eq_getElem?_getD, List.getElem?_replicate]
    split <;> rfl
end Go.Proofs.YtmdhljleaijkbaaGreatDoor

/- Regular covers, plain: the elements of the moves' group as flags. No program in sight. -/
namespace Go.Proofs.YtmdhljleaijkbaaGreatDoor

/-- what the moves make, one behind the other -/
inductive Gen (d : List (List Int)) (N : Nat) : List Int → Prop
  | one : Gen d N (unitL N)
  | step {p : List Int} {g : Nat} : Gen d N p → g < d.length → Gen d N (thenL p (lget d g))
section
variable {d es : List (List Int)} {N : Nat}
theorem rowG_gen {i : Nat} (he : ∀ z ∈ es, Gen d N z) (hi : i < es.length) : ∀ k, k ≤ d.length → ∀ z ∈ rowG d es i k, Gen d N z
  | 0, _, z, hz => he z hz
  | k + 1, hk, z, hz => by
    have ih := rowG_gen he hi k (by omega)
    have hz : z ∈ stepGr d (rowG d es i k) i k := hz
    unfold stepGr at hz
    split at hz
    · exact ih z hz
    · rcases List.mem_append.1 hz with hz | hz
      · exact ih z hz
      · simp at hz; subst hz
        rw [rowG_get hi]
        exact Gen.step (he _ (lget_mem hi)) (by omega)
theorem runG_gen : ∀ {f i : Nat} {es R : List (List Int)}, runG d f i es = some R → (∀ z ∈ es, Gen d N z) → ∀ z ∈ R, Gen d N z
  | 0, _, _, _, h, _ => by cases h
  | f + 1, i, es, R, h, he => by
    by_cases hlt : i < es.length
    · by_cases hb : 1000 < (rowG d es i d.length).length
      · rw [runG_bad hlt hb] at h; cases h
      · rw [runG_go hlt (by omega)] at h
        exact runG_gen h (rowG_gen he hlt _ (Nat.le_refl _))
    · rw [runG_end hlt] at h
      injection h with h; subst h
      exact he
theorem grpE_gen {R : List (List Int)} (h : grpE d N = some R) : ∀ z, z ∈ R ↔ Gen d N z := fun z => by
  refine ⟨fun hz => runG_gen (N := N) h (fun y hy => by simp at hy; subst hy; exact .one) z hz, fun hz => ?_⟩
  obtain ⟨-, h2, h3⟩ := grpE_ok h
  induction hz with
  | one => exact h3
  | @step p g hp hg ih =>
    obtain ⟨j, hj, e⟩ := List.getElem_of_mem ih
    have := h2 j g hj hg
    rw [lget_lt hj, e] at this; exact this
end
theorem at_then {N : Nat} {p q : List Int} (hp : Pts N p) {x : Nat} (hx : x < N) : at_ (thenL p q) x = at_ q (at_ p x) := by
  unfold at_; rw [iget_thenL (by rw [hp.1]; exact hx)]
theorem Pts.at_lt {N : Nat} {p : List Int} (hp : Pts N p) {x : Nat} (hx : x < N) : at_ p x < N ∧ iget p x = (at_ p x : Int) := by
  obtain ⟨y, h1, h2⟩ := hp.2 x hx
  unfold at_; rw [h1]; exact ⟨by omega, by omega⟩
theorem at_unit {N x : Nat} (hx : x < N) : at_ (unitL N) x = x := by simp [at_, unitL, iget, hx]
theorem pts_ext {N : Nat} {p q : List Int} (hp : Pts N p) (hq : Pts N q) (h : ∀ x, x < N → at_ p x = at_ q x) : p = q := by
  refine iget_ext (by rw [hp.1, hq.1]) fun k hk => ?_
  rw [hp.1] at hk
  rw [(hp.at_lt hk).2, (hq.at_lt hk).2, h k hk]
/-- where two lists first differ -/
theorem ltL_first : ∀ {a b : List Int}, a.length = b.length → ltL a b = true → ∃ j, j < a.length ∧ (∀ i, i < j → iget a i = iget b i) ∧ iget a j < iget b j
  | [], [], _, h => by simp [ltL] at h
  | [], _ :: _, hl, _ => by simp at hl
  | _ :: _, [], hl, _ => by simp at hl
  | a :: r, b :: s, hl, h => by
    unfold ltL at h
    by_cases h1 : a < b
    · exact ⟨0, by simp, fun i hi => absurd hi (by omega), by simpa [iget] using h1⟩
    · rw [if_neg h1] at h
      by_cases h2 : b < a
      · rw [if_pos h2] at h; cases h
      · rw [if_neg h2] at h
        obtain rfl : a = b := by omega
        obtain ⟨j, hj, e1, e2⟩ := ltL_first (a := r) (b := s) (by simpa using hl) h
        refine ⟨j + 1, by simpa using hj, fun i hi => ?_, by simpa [iget] using e2⟩
        cases i with
        | zero => simp [iget]
        | succ i => simpa [iget] using e1 i (by omega)
/-- the group of a maniplex's moves, in order -/
structure Grp (d ss : List (List Int)) : Prop where
  man : Man d
  asc : AscL ss
  mem : ∀ z, z ∈ ss ↔ Gen d (flg d) z
  few : ss.length ≤ 400
theorem grp_of {d es ss : List (List Int)} (hM : Man d) (h : grpE d (flg d) = some es) (hs : ss = srtE es) (h4 : es.length ≤ 400) : Grp d ss := by
  obtain ⟨h1, h2, h3⟩ := srtE_ok (grpE_ok h).1
  rw [← hs] at h1 h2 h3
  exact ⟨hM, h1, fun z => (h2 z).trans (grpE_gen h z), by omega⟩
section
variable {d ss : List (List Int)}
theorem Gen.pts (hM : Man d) {p : List Int} (h : Gen d (flg d) p) : Pts (flg d) p := by
  induction h with
  | one => exact unitL_pts _
  | step _ hg ih => exact thenL_pts ih (man_pts hM _ (lget_mem hg))
theorem Gen.inj (hM : Man d) {p : List Int} (h : Gen d (flg d) p) : ∀ x y, x < flg d → y < flg d → at_ p x = at_ p y → x = y := by
  induction h with
  | one => intro x y hx hy e; rw [at_unit hx, at_unit hy] at e; exact e
  | @step p g hp hg ih =>
    intro x y hx hy e
    have hP := hp.pts hM
    rw [at_then hP hx, at_then hP hy] at e
    refine ih x y hx hy ?_
    have e1 := man_back hM g hg _ (hP.at_lt hx).1
    have e2 := man_back hM g hg _ (hP.at_lt hy).1
    have e3 : bTo d (at_ p x) g = bTo d (at_ p y) g := e
    rw [← e1, ← e2, e3]
theorem Gen.move (hM : Man d) {g : Nat} (hg : g < d.length) : Gen d (flg d) (lget d g) := by
  have h := Gen.step (Gen.one (d := d) (N := flg d)) hg
  have e : thenL (unitL (flg d)) (lget d g) = lget d g := pts_ext (thenL_pts (unitL_pts _) (man_pts hM _ (lget_mem hg))) (man_pts hM _ (lget_mem hg)) fun x hx => by rw [at_then (unitL_pts _) hx, at_unit hx]
  rwa [e] at h
theorem then_assoc {N : Nat} {p q r : List Int} (hp : Pts N p) (hq : Pts N q) (hr : Pts N r) : thenL p (thenL q r) = thenL (thenL p q) r :=
  pts_ext (thenL_pts hp (thenL_pts hq hr)) (thenL_pts (thenL_pts hp hq) hr) fun x hx => by
    rw [at_then hp hx, at_then hq (hp.at_lt hx).1, at_then (thenL_pts hp hq) hx, at_then hp hx]
theorem Gen.left (hM : Man d) {q p : List Int} (hq : Gen d (flg d) q) (hp : Gen d (flg d) p) : Gen d (flg d) (thenL q p) := by
  induction hp with
  | one =>
    have e : thenL q (unitL (flg d)) = q := pts_ext (thenL_pts (hq.pts hM) (unitL_pts _)) (hq.pts hM) fun x hx => by rw [at_then (hq.pts hM) hx, at_unit ((hq.pts hM).at_lt hx).1]
    rw [e]; exact hq
  | step hp hg ih =>
    rw [then_assoc (hq.pts hM) (hp.pts hM) (man_pts hM _ (lget_mem hg))]
    exact .step ih hg
/-- the number of an element -/
theorem Grp.num (h : Grp d ss) {p : List Int} (hp : Gen d (flg d) p) : lowL ss p < ss.length ∧ lget ss (lowL ss p) = p := (mem_low h.asc).1 ((h.mem p).2 hp)
theorem Grp.gen (h : Grp d ss) {i : Nat} (hi : i < ss.length) : Gen d (flg d) (lget ss i) := (h.mem _).1 (lget_mem hi)
theorem Grp.pts (h : Grp d ss) {i : Nat} (hi : i < ss.length) : Pts (flg d) (lget ss i) := (h.gen hi).pts h.man
theorem Grp.pos (h : Grp d ss) : 0 < ss.length := List.length_pos_of_mem ((h.mem _).2 .one)
theorem Grp.uniq (h : Grp d ss) {i j : Nat} (hi : i < ss.length) (hj : j < ss.length) (e : lget ss i = lget ss j) : i = j :=
  (low_uniq h.asc hi e).trans (low_uniq h.asc hj rfl).symm
theorem Grp.first (h : Grp d ss) : lget ss 0 = unitL (flg d) := by
  obtain ⟨h1, h2⟩ := h.num (Gen.one)
  rcases Nat.eq_zero_or_pos (lowL ss (unitL (flg d))) with q | q
  · rw [q] at h2; exact h2
  · exfalso
    have hlt := List.pairwise_iff_getElem.1 h.asc 0 _ h.pos h1 q
    rw [← lget_lt h.pos, ← lget_lt h1, h2] at hlt
    have hP := h.pts h.pos
    obtain ⟨j, hj, e1, e2⟩ := ltL_first (by rw [hP.1, (unitL_pts _).1]) hlt
    rw [hP.1] at hj
    have hj0 := hP.at_lt hj
    have hu : ∀ i, i < flg d → iget (unitL (flg d)) i = (i : Int) := fun i hi => by rw [((unitL_pts _).at_lt hi).2, at_unit hi]
    rw [hj0.2, hu j hj] at e2
    have hm : at_ (lget ss 0) j < j := by omega
    have e3 := e1 _ hm
    rw [hu _ hj0.1, (hP.at_lt hj0.1).2] at e3
    have := (h.gen h.pos).inj h.man _ _ hj0.1 hj (by omega)
    omega
/-- the cover -/
theorem cay_len : (cayL d ss).length = d.length := by simp [cayL]
theorem cay_row {g : Nat} (hg : g < d.length) : lget (cayL d ss) g = cayRow ss (lget d g) ss.length := by
  rw [lget_lt (by rw [cay_len]; exact hg)]; simp [cayL, lget_lt hg]
theorem cay_get {r : List Int} {i : Nat} (hi : i < ss.length) : iget (cayRow ss r ss.length) i = (lowL ss (thenL (lget ss i) r) : Int) := by
  rw [iget_lt (by rw [cayRow_len (Nat.le_refl _)]; exact hi)]
  simp [cayRow, lget_lt hi]
theorem Grp.flg_ (h : Grp d ss) : flg (cayL d ss) = ss.length := by
  unfold flg; rw [cay_row (by have := h.man.n1; omega), cayRow_len (Nat.le_refl _)]
theorem Grp.to_ (_h : Grp d ss) {g i : Nat} (hg : g < d.length) (hi : i < ss.length) : bTo (cayL d ss) i g = lowL ss (thenL (lget ss i) (lget d g)) := by
  unfold bTo; rw [cay_row hg, cay_get hi]; omega
theorem Grp.to_lt (h : Grp d ss) {g i : Nat} (hg : g < d.length) (hi : i < ss.length) : bTo (cayL d ss) i g < ss.length ∧ lget ss (bTo (cayL d ss) i g) = thenL (lget ss i) (lget d g) := by
  rw [h.to_ hg hi]; exact h.num (.step (h.gen hi) hg)
theorem Grp.to_at (h : Grp d ss) {g i x : Nat} (hg : g < d.length) (hi : i < ss.length) (hx : x < flg d) : at_ (lget ss (bTo (cayL d ss) i g)) x = bTo d (at_ (lget ss i) x) g := by
  rw [(h.to_lt hg hi).2, at_then (h.pts hi) hx]; rfl
theorem Grp.same (h : Grp d ss) {i j : Nat} (hi : i < ss.length) (hj : j < ss.length) (e : ∀ x, x < flg d → at_ (lget ss i) x = at_ (lget ss j) x) : i = j := h.uniq hi hj (pts_ext (h.pts hi) (h.pts hj) e)
theorem Grp.leads (h : Grp d ss) : Leads (cayL d ss) ss.length := ⟨fun k hk => by rw [cay_len] at hk; rw [cay_row hk, cayRow_len (Nat.le_refl _)], fun k hk x hx => by
  rw [cay_len] at hk
  rw [cay_row hk, cay_get hx]
  have := (h.num (.step (h.gen hx) hk)).1
  omega⟩
theorem Grp.back (h : Grp d ss) {g i : Nat} (hg : g < d.length) (hi : i < ss.length) : bTo (cayL d ss) (bTo (cayL d ss) i g) g = i := by
  have h1 := (h.to_lt hg hi).1
  refine h.same (h.to_lt hg h1).1 hi fun x hx => ?_
  rw [h.to_at hg h1 hx, h.to_at hg hi hx, man_back h.man g hg _ ((h.pts hi).at_lt hx).1]
theorem man_ne (hM : Man d) {g x : Nat} (hg : g < d.length) (hx : x < flg d) : bTo d x g ≠ x := fun e => by
  have h1 := (isFreeL_at (hM.free g hg) (i := x) (by rw [hM.len g hg]; exact hx)).1
  have h2 := (bTo_lt (man_leads hM) hx hg).2
  rw [e] at h2; exact h1 h2
theorem Grp.cay_man (h : Grp d ss) : Man (cayL d ss) := by
  have hM := h.man
  have hf2 : 2 ≤ flg d := hM.f2
  have hn1 := hM.n1
  have hL := h.leads
  have hrow : ∀ i, i < d.length → (lget (cayL d ss) i).length = ss.length := fun i hi => by rw [cay_row hi, cayRow_len (Nat.le_refl _)]
  have h0 : (lget (cayL d ss) 0).length = ss.length := hrow 0 (by omega)
  have hne : ∀ g i, g < d.length → i < ss.length → bTo (cayL d ss) i g ≠ i := fun g i hg hi e => by
    have h1 := h.to_at hg hi (show 0 < flg d by omega)
    rw [e] at h1
    exact man_ne hM hg ((h.pts hi).at_lt (show 0 < flg d by omega)).1 h1.symm
  refine ⟨by rw [cay_len]; exact hM.n1, by rw [cay_len]; exact hM.n5, ?_, by rw [h0]; exact h.few, fun i hi => ?_, fun i hi => ?_, fun i hi => ?_, fun i k hik hk f hf => ?_, ?_⟩
  · rw [h0]
    have h1 := (h.to_lt (show 0 < d.length by omega) h.pos).1
    have h2 := hne 0 0 (by omega) h.pos
    omega
  · rw [cay_len] at hi
    rw [hrow i hi, h0]
  · have hi' : i < (cayL d ss).length := hi
    rw [cay_len] at hi
    refine isPerm_ok (by rw [hrow i hi]; exact h.few) (fun k hk => by rw [hrow i hi] at hk ⊢; exact hL.within i hi' k hk) (fun a b ha hb q => ?_)
    rw [hrow i hi] at ha hb
    have e3 : bTo (cayL d ss) a i = bTo (cayL d ss) b i := by unfold bTo; rw [q]
    rw [← h.back hi ha, ← h.back hi hb, e3]
  · have hi' : i < (cayL d ss).length := hi
    rw [cay_len] at hi
    refine isFreeL_yes fun j hj => ?_
    rw [hrow i hi] at hj
    have h1 := hne i j hi hj
    have h2 := bTo_lt hL hj hi'
    have h3 := bTo_lt hL h2.1 hi'
    rw [h2.2, Int.toNat_natCast, h3.2, h.back hi hj]
    exact ⟨by omega, rfl⟩
  · rw [cay_len] at hk
    rw [h0] at hf
    have h1 := h.to_lt (g := i) (by omega) hf
    have h2 := h.to_lt hk hf
    refine ⟨h.same (h.to_lt hk h1.1).1 (h.to_lt (by omega) h2.1).1 fun x hx => ?_, fun e => ?_⟩
    · rw [h.to_at hk h1.1 hx, h.to_at (by omega) hf hx, h.to_at (by omega) h2.1 hx, h.to_at hk hf hx]
      exact (hM.comm i k hik hk _ ((h.pts hf).at_lt hx).1).1
    · have e1 := h.to_at (g := i) (by omega) hf (show 0 < flg d by omega)
      have e2 := h.to_at (g := k) hk hf (show 0 < flg d by omega)
      rw [e] at e1
      exact (hM.comm i k hik hk _ ((h.pts hf).at_lt (show 0 < flg d by omega)).1).2 (e1.symm.trans e2)
  · rw [h0]
    refine (orb_full hL h.pos).2 fun j hj => ?_
    have key : ∀ p, Gen d (flg d) p → rch (cayL d ss) ss.length 0 (lowL ss p) = true := fun p hp => by
      induction hp with
      | one =>
        have : lowL ss (unitL (flg d)) = 0 := (low_uniq h.asc h.pos h.first).symm
        rw [this]; exact rch_refl hL h.pos
      | @step p g hp hg ih =>
        obtain ⟨h1, h2⟩ := h.num hp
        have h3 := rch_on hL h.pos h1 ih (g := g) (by rw [cay_len]; exact hg)
        rw [h.to_ hg h1, h2] at h3
        exact h3
    have := key _ (h.gen hj)
    rwa [← low_uniq h.asc hj rfl] at this
/-- each flag of the maniplex gives a covering -/
theorem Grp.cov (h : Grp d ss) {x : Nat} (hx : x < flg d) : ∃ r, Cov (cayL d ss) d r ∧ ∀ i, i < ss.length → at_ r i = at_ (lget ss i) x := by
  have hf := h.flg_
  obtain ⟨h1, h2⟩ := cov_mk (d := cayL d ss) (e := d) (fun i => at_ (lget ss i) x) (fun i hi => ((h.pts (by omega)).at_lt hx).1) h.cay_man h.man cay_len (fun g i hg hi => h.to_at (by rw [cay_len] at hg; exact hg) (by omega) hx)
  exact ⟨_, h1, fun i hi => h2 i (by omega)⟩
theorem Grp.cov0 (h : Grp d ss) : ∃ r, Cov (cayL d ss) d r ∧ at_ r 0 = 0 := by
  have h2 : 0 < flg d := by have := h.man.f2; unfold flg; omega
  obtain ⟨r, h1, h3⟩ := h.cov h2
  exact ⟨r, h1, by rw [h3 0 h.pos, h.first, at_unit h2]⟩
/-- multiplication from the left: an automorphism of the cover -/
theorem Grp.aut (h : Grp d ss) {g : Nat} (hg : g < d.length) : AutTo (cayL d ss) 0 (bTo (cayL d ss) 0 g) := by
  have hf := h.flg_
  have hG := Gen.move h.man hg
  have hn : ∀ i, i < ss.length → lowL ss (thenL (lget d g) (lget ss i)) < ss.length ∧ lget ss (lowL ss (thenL (lget d g) (lget ss i))) = thenL (lget d g) (lget ss i) := fun i hi => h.num (Gen.left h.man hG (h.gen hi))
  obtain ⟨h1, h2⟩ := cov_mk (d := cayL d ss) (e := cayL d ss) (fun i => lowL ss (thenL (lget d g) (lget ss i))) (fun i hi => by rw [hf] at hi ⊢; exact (hn i hi).1) h.cay_man h.cay_man rfl (fun g' i hg' hi => by
    rw [cay_len] at hg'
    rw [hf] at hi
    obtain ⟨n1, n2⟩ := hn i hi
    rw [h.to_ hg' n1, n2, (h.to_lt hg' hi).2, then_assoc (hG.pts h.man) (h.pts hi) (man_pts h.man _ (lget_mem hg'))])
  refine ⟨_, h1, ?_⟩
  rw [h2 0 (by rw [hf]; exact h.pos), h.to_ hg h.pos, h.first]
  have e1 : thenL (lget d g) (unitL (flg d)) = lget d g := pts_ext (thenL_pts (hG.pts h.man) (unitL_pts _)) (hG.pts h.man) fun x hx => by rw [at_then (hG.pts h.man) hx, at_unit ((hG.pts h.man).at_lt hx).1]
  have e2 : thenL (unitL (flg d)) (lget d g) = lget d g := pts_ext (thenL_pts (unitL_pts _) (hG.pts h.man)) (hG.pts h.man) fun x hx => by rw [at_then (unitL_pts _) hx, at_unit hx]
  rw [e1, e2]
/-- all flags are alike -/
theorem one_iff (hd : Man d) : (forb d).2 = 1 ↔ ∀ x, x < flg d → AutTo d 0 x := by
  have h2 : 0 < flg d := by have := hd.f2; unfold flg; omega
  unfold forb
  rw [labs_oneS (autL_leads hd) (aut_sym hd) h2, orb_full (autL_leads hd) h2]
  exact ⟨fun h x hx => (aut_rch hd h2 hx).1 (h x hx), fun h x hx => (aut_rch hd h2 hx).2 (h x hx)⟩
theorem aut_move (hd : Man d) (h : ∀ g, g < d.length → AutTo d 0 (bTo d 0 g)) : (forb d).2 = 1 := by
  have h2 : 0 < flg d := by have := hd.f2; unfold flg; omega
  refine (one_iff hd).2 (man_ind hd (p := fun x => AutTo d 0 x) ?_ (fun x hx h1 g hg => ?_))
  · obtain ⟨p, h1, h3⟩ := cov_id hd
    exact ⟨p, h1, h3 0 h2⟩
  · obtain ⟨p, c, rfl⟩ := h1
    exact autTo_trans hd h2 (h g hg) ⟨p, c, c.on hg h2⟩
theorem Grp.reg (h : Grp d ss) : (forb (cayL d ss)).2 = 1 := aut_move h.cay_man fun g hg => h.aut (by rw [cay_len] at hg; exact hg)
/-- an automorphism goes with the elements -/
theorem cov_gen (hM : Man d) {q : List Int} (hq : Cov d d q) {p : List Int} (hp : Gen d (flg d) p) : ∀ x, x < flg d → at_ q (at_ p x) = at_ p (at_ q x) := by
  induction hp with
  | one => intro x hx; rw [at_unit hx, at_unit (hq.at_lt hx).1]
  | @step p g hp hg ih =>
    intro x hx
    have hP := hp.pts hM
    rw [at_then hP hx, at_then hP (hq.at_lt hx).1, ← ih x hx]
    exact hq.on hg (hP.at_lt hx).1
theorem Grp.own (h : Grp d ss) : (forb d).2 = 1 ↔ flg d = ss.length := by
  have hM := h.man
  have h2 : 0 < flg d := by have := hM.f2; unfold flg; omega
  obtain ⟨r, hr, hr0⟩ := h.cov h2
  have hfl := h.flg_
  have hcl : (cayL d ss).length = d.length := cay_len
  constructor
  · intro h1
    have h1 := (one_iff hM).1 h1
    have hinj : ∀ i j, i < ss.length → j < ss.length → at_ r i = at_ r j → i = j := fun i j hi hj e => by
      rw [hr0 i hi, hr0 j hj] at e
      refine h.same hi hj fun x hx => ?_
      obtain ⟨q, c, rfl⟩ := h1 x hx
      rw [← cov_gen hM c (h.gen hi) 0 h2, ← cov_gen hM c (h.gen hj) 0 h2, e]
    have l1 := holes (flg d) ss.length (fun i => at_ r i) (fun i hi => (hr.at_lt (by omega)).1) hinj
    obtain ⟨f, hf⟩ : ∃ f : Nat → Nat, ∀ y, y < flg d → f y < ss.length ∧ at_ r (f y) = y := by
      refine Classical.axiomOfChoice (r := fun y i => y < flg d → i < ss.length ∧ at_ r i = y) fun y => ?_
      by_cases hy : y < flg d
      · obtain ⟨i, k1, k2⟩ := hr.onto h.cay_man hM hcl y hy; exact ⟨i, fun _ => ⟨by omega, k2⟩⟩
      · exact ⟨0, fun q => absurd q hy⟩
    have l2 := holes ss.length (flg d) f (fun i hi => (hf i hi).1) (fun i j hi hj e => by rw [← (hf i hi).2, ← (hf j hj).2, e])
    omega
  · intro e
    obtain ⟨q, hq, q1, -⟩ := hr.back h.cay_man hM hcl (by omega)
    refine aut_move hM fun g hg => ?_
    obtain ⟨a, ha, a0⟩ := h.aut hg
    obtain ⟨b, hb, b1⟩ := hq.comp ha hM h.cay_man hcl.symm rfl
    obtain ⟨c, hc, c1⟩ := hb.comp hr hM hM hcl.symm hcl
    refine ⟨c, hc, ?_⟩
    have hr00 : at_ r 0 = 0 := by rw [hr0 0 h.pos, h.first, at_unit h2]
    have q0 : at_ q 0 = 0 := by
      have := q1 0 (by rw [hfl]; exact h.pos)
      rwa [hr00] at this
    rw [c1 0 h2, b1 0 h2, q0, a0, hr.on (by rw [hcl]; exact hg) (by rw [hfl]; exact h.pos), hr00]
end
end Go.Proofs.YtmdhljleaijkbaaGreatDoor

/- Cycles of a permutation, plain: how long points take to come back. No program in sight. -/
namespace Go.Proofs.YtmdhljleaijkbaaGreatDoor

/-- a point, moved so often -/
def itr (p : List Int) : Nat → Nat → Nat
  | 0, x => x
  | k + 1, x => at_ p (itr p k x)
/-- a permutation of N points -/
structure PermN (N : Nat) (p : List Int) : Prop where
  pts : Pts N p
  inj : ∀ x y, x < N → y < N → at_ p x = at_ p y → x = y
/-- a point comes back behind m moves -/
def Per (p : List Int) (x m : Nat) : Prop := 0 < m ∧ ∀ k, itr p k x = x ↔ m ∣ k
section
variable {p : List Int} {N : Nat}
theorem itr_add (p : List Int) (a b x : Nat) : itr p (a + b) x = itr p a (itr p b x) := by
  induction a with
  | zero => rw [Nat.zero_add]; rfl
  | succ a ih => rw [Nat.succ_add]; show at_ p (itr p (a + b) x) = at_ p (itr p a (itr p b x)); rw [ih]
theorem itr_lt (h : PermN N p) {x : Nat} (hx : x < N) : ∀ k, itr p k x < N
  | 0 => hx
  | k + 1 => (h.pts.at_lt (itr_lt h hx k)).1
theorem itr_inj (h : PermN N p) {x y : Nat} (hx : x < N) (hy : y < N) : ∀ {k}, itr p k x = itr p k y → x = y
  | 0, e => e
  | k + 1, e => itr_inj h hx hy (k := k) (h.inj _ _ (itr_lt h hx k) (itr_lt h hy k) e)
theorem itr_one (p : List Int) (k x : Nat) : itr p k (at_ p x) = at_ p (itr p k x) := by
  have h1 : itr p (k + 1) x = at_ p (itr p k x) := rfl
  have h2 := itr_add p k 1 x
  rw [h1] at h2; exact h2.symm
theorem itr_mul {x t : Nat} (h : itr p t x = x) : ∀ q, itr p (t * q) x = x
  | 0 => rfl
  | q + 1 => by rw [Nat.mul_succ, itr_add, h]; exact itr_mul h q
theorem per_of (_h : PermN N p) {x t : Nat} (_hx : x < N) (ht : 0 < t) (e : itr p t x = x) (hm : ∀ s, 0 < s → s < t → itr p s x ≠ x) : Per p x t := by
  refine ⟨ht, fun k => ?_⟩
  have hk : itr p k x = itr p (k % t) x := by
    have h1 : k = k % t + t * (k / t) := (Nat.mod_add_div k t).symm
    have h2 := itr_add p (k % t) (t * (k / t)) x
    rw [← h1, itr_mul e] at h2; exact h2
  rw [hk]
  constructor
  · intro q
    rcases Nat.eq_zero_or_pos (k % t) with z | z
    · exact Nat.dvd_of_mod_eq_zero z
    · exact absurd q (hm _ z (Nat.mod_lt _ ht))
  · intro q
    rw [Nat.mod_eq_zero_of_dvd q]; rfl
theorem Per.move (h : PermN N p) {x m : Nat} (hx : x < N) (hp : Per p x m) : Per p (at_ p x) m := by
  refine ⟨hp.1, fun k => ?_⟩
  rw [itr_one, ← hp.2 k]
  exact ⟨fun e => h.inj _ _ (itr_lt h hx k) hx e, fun e => by rw [e]⟩
theorem Per.moves (h : PermN N p) {x m : Nat} (hx : x < N) (hp : Per p x m) : ∀ s, Per p (itr p s x) m
  | 0 => hp
  | s + 1 => (Per.moves h hx hp s).move h (itr_lt h hx s)
/-- the outer loop: whom the cycles found meet -/
structure CI (p : List Int) (N i : Nat) (S : List Bool) (cs : List (List Int)) : Prop where
  len : S.length = N
  cls : ∀ x, x < N → bget S (at_ p x) = bget S x
  low : ∀ j, j < i → bget S j = true
  has : ∀ x, x < N → bget S x = true → ∃ c ∈ cs, Per p x c.length
  all : ∀ c ∈ cs, ∃ x, x < N ∧ Per p x c.length
  few : cs.length ≤ i
/-- the inner loop: a cycle as far as it is found -/
structure CJ (p : List Int) (N i : Nat) (S0 : List Bool) (t : Nat) (S : List Bool) (c : List Int) : Prop where
  len : S.length = N
  cl : c.length = t
  met : ∀ y, y < N → (bget S y = true ↔ bget S0 y = true ∨ ∃ s, s < t ∧ itr p s i = y)
  dif : ∀ s, 0 < s → s < t → itr p s i ≠ i
  op : 0 < t → bget S0 i = false
theorem bget_setP {S : List Bool} {k y : Nat} {b : Bool} (hk : k < S.length) : bget (S.set k b) y = if y = k then b else bget S y := by
  unfold bget
  rw [List.getD_eq_getElem?_getD, List.getD_eq_getElem?_getD, List.getElem?_set]
  by_cases h : y = k
  · subst h; simp [hk]
  · rw [if_neg h, if_neg fun e => h e.symm]
theorem CI.start : CI p N 0 (List.replicate N false) [] := by
  have hb : ∀ x, bget (List.replicate N false) x = false := fun x => by
    unfold bget; rw [List.getD_eq_getElem?_getD, List.getElem?_replicate]; split <;> rfl
  exact ⟨by simp, fun x _ => by rw [hb, hb], fun j hj => absurd hj (by omega), fun x _ h => absurd h (by rw [hb]; simp), fun c hc => absurd hc (by simp), by simp⟩
theorem CJ.start {i : Nat} {S0 : List Bool} (h : S0.length = N) : CJ p N i S0 0 S0 [] :=
  ⟨h, rfl, fun y _ => ⟨fun e => .inl e, fun e => by rcases e with e | ⟨s, hs, _⟩; exact e; exact absurd hs (by omega)⟩, fun s _ hs => absurd hs (by omega), fun h0 => absurd h0 (by omega)⟩
theorem CJ.few {i t : Nat} {S0 S : List Bool} {c : List Int} (hp : PermN N p) (hi : i < N) (h : CJ p N i S0 t S c) : t ≤ N :=
  holes N t (fun s => itr p s i) (fun s _ => itr_lt hp hi s) fun a b ha hb e => by
    rcases Nat.lt_trichotomy a b with q | q | q
    · have e1 : itr p b i = itr p a (itr p (b - a) i) := by rw [← itr_add]; congr 1; omega
      have e2 := itr_inj hp hi (itr_lt hp hi (b - a)) (k := a) (e.trans e1)
      exact absurd e2.symm (h.dif _ (by omega) (by omega))
    · exact q
    · have e1 : itr p a i = itr p b (itr p (a - b) i) := by rw [← itr_add]; congr 1; omega
      have e2 := itr_inj hp hi (itr_lt hp hi (a - b)) (k := b) (e.symm.trans e1)
      exact absurd e2.symm (h.dif _ (by omega) (by omega))
theorem CJ.next {i t : Nat} {S0 S : List Bool} {c : List Int} (hp : PermN N p) (hi : i < N) (h : CJ p N i S0 t S c) (hx : bget S (itr p t i) = false) : CJ p N i S0 (t + 1) (S.set (itr p t i) true) (c ++ [(itr p t i : Int)]) := by
  have hlt := itr_lt hp hi t
  refine ⟨by rw [List.length_set]; exact h.len, by simp [h.cl], fun y hy => ?_, fun s hs hst => ?_, fun _ => ?_⟩
  · rw [bget_setP (by rw [h.len]; exact hlt)]
    by_cases e : y = itr p t i
    · rw [if_pos e]; exact ⟨fun _ => .inr ⟨t, by omega, e.symm⟩, fun _ => rfl⟩
    · rw [if_neg e, h.met y hy]
      constructor
      · rintro (q | ⟨s, hs, q⟩)
        · exact .inl q
        · exact .inr ⟨s, by omega, q⟩
      · rintro (q | ⟨s, hs, q⟩)
        · exact .inl q
        · refine .inr ⟨s, ?_, q⟩
          rcases Nat.lt_or_ge s t with z | z
          · exact z
          · obtain rfl : s = t := by omega
            exact absurd q.symm e
  · rcases Nat.lt_or_ge s t with z | z
    · exact h.dif s hs z
    · obtain rfl : s = t := by omega
      intro e
      have := (h.met _ hi).2 (.inr ⟨0, by omega, rfl⟩)
      rw [e, this] at hx; cases hx
  · rcases Nat.eq_zero_or_pos t with z | z
    · subst z
      cases q : bget S0 i with
      | false => rfl
      | true =>
        have := (h.met _ hi).2 (.inl q)
        have hx : bget S i = false := hx
        rw [this] at hx; cases hx
    · exact h.op z
/-- nothing new: the point was met before -/
theorem CJ.none {i : Nat} {S0 S : List Bool} {c : List Int} {cs : List (List Int)} (h0 : CI p N i S0 cs) (hi : i < N) (h : CJ p N i S0 0 S c) (hx : bget S i = true) : CI p N (i + 1) S cs := by
  have hs : ∀ y, y < N → (bget S y = true ↔ bget S0 y = true) := fun y hy => by
    rw [h.met y hy]
    exact ⟨fun e => by rcases e with e | ⟨s, hs, _⟩; exact e; exact absurd hs (by omega), .inl⟩
  have hb : ∀ y, y < N → bget S y = bget S0 y := fun y hy => by
    cases q : bget S0 y with
    | true => exact (hs y hy).2 q
    | false =>
      cases q2 : bget S y with
      | false => rfl
      | true => rw [(hs y hy).1 q2] at q; cases q
  refine ⟨h.len, fun x hx2 => ?_, fun j hj => ?_, fun x hx2 q => h0.has x hx2 ((hs x hx2).1 q), h0.all, by have := h0.few; omega⟩
  · by_cases hq : at_ p x < N
    · rw [hb _ hq, hb x hx2, h0.cls x hx2]
    · have l1 : bget S (at_ p x) = false := by unfold bget; rw [List.getD_eq_getElem?_getD, List.getElem?_eq_none (by rw [h.len]; omega)]; rfl
      have l2 : bget S0 (at_ p x) = false := by unfold bget; rw [List.getD_eq_getElem?_getD, List.getElem?_eq_none (by rw [h0.len]; omega)]; rfl
      rw [l1, hb x hx2, ← h0.cls x hx2, l2]
  · rcases Nat.lt_or_ge j i with z | z
    · exact (hs j (by omega)).2 (h0.low j z)
    · obtain rfl : j = i := by omega
      exact hx
/-- the cycle is closed -/
theorem CJ.done {i t : Nat} {S0 S : List Bool} {c : List Int} {cs : List (List Int)} (hp : PermN N p) (h0 : CI p N i S0 cs) (hi : i < N) (ht : 0 < t) (h : CJ p N i S0 t S c) (hx : bget S (itr p t i) = true) : CI p N (i + 1) S (cs ++ [c]) := by
  have hop := h.op ht
  have hS0 : ∀ s, bget S0 (itr p s i) = false := fun s => by
    induction s with
    | zero => exact hop
    | succ s ih => rw [← ih]; exact h0.cls _ (itr_lt hp hi s)
  have hcl : itr p t i = i := by
    rcases (h.met _ (itr_lt hp hi t)).1 hx with q | ⟨s, hs, q⟩
    · rw [hS0] at q; cases q
    · have e1 : itr p t i = itr p s (itr p (t - s) i) := by rw [← itr_add]; congr 1; omega
      have e2 := itr_inj hp hi (itr_lt hp hi (t - s)) (k := s) (q.trans e1)
      rcases Nat.eq_zero_or_pos s with z | z
      · subst z; rw [Nat.sub_zero] at e2; exact e2.symm
      · exact absurd e2.symm (h.dif _ (by omega) (by omega))
  have hper := per_of hp hi ht hcl h.dif
  refine ⟨h.len, fun x hx2 => ?_, fun j hj => ?_, fun x hx2 q => ?_, fun c' hc' => ?_, by have := h0.few; simp; omega⟩
  · have hlt := (hp.pts.at_lt hx2).1
    have key : (bget S (at_ p x) = true ↔ bget S x = true) := by
      rw [h.met _ hlt, h.met _ hx2, h0.cls x hx2]
      constructor
      · rintro (q | ⟨s, hs, q⟩)
        · exact .inl q
        · right
          rcases Nat.eq_zero_or_pos s with z | z
          · subst z
            refine ⟨t - 1, by omega, hp.inj _ _ (itr_lt hp hi _) hx2 ?_⟩
            have e1 : at_ p (itr p (t - 1) i) = itr p t i := by
              have : itr p (t - 1 + 1) i = at_ p (itr p (t - 1) i) := rfl
              rw [← this]; congr 1; omega
            rw [e1, hcl]; exact q
          · refine ⟨s - 1, by omega, hp.inj _ _ (itr_lt hp hi _) hx2 ?_⟩
            have e1 : at_ p (itr p (s - 1) i) = itr p s i := by
              have : itr p (s - 1 + 1) i = at_ p (itr p (s - 1) i) := rfl
              rw [← this]; congr 1; omega
            rw [e1]; exact q
      · rintro (q | ⟨s, hs, q⟩)
        · exact .inl q
        · right
          rcases Nat.lt_or_ge (s + 1) t with z | z
          · exact ⟨s + 1, z, by show at_ p (itr p s i) = _; rw [q]⟩
          · refine ⟨0, ht, ?_⟩
            have e1 : itr p (s + 1) i = itr p t i := by congr 1; omega
            have e2 : itr p (s + 1) i = at_ p (itr p s i) := rfl
            rw [← q, ← e2, e1, hcl]; rfl
    cases q : bget S x with
    | true => exact key.2 q
    | false =>
      cases q2 : bget S (at_ p x) with
      | false => rfl
      | true => rw [key.1 q2] at q; cases q
  · rcases Nat.lt_or_ge j i with z | z
    · exact (h.met j (by omega)).2 (.inl (h0.low j z))
    · obtain rfl : j = i := by omega
      exact (h.met j hi).2 (.inr ⟨0, ht, rfl⟩)
  · rcases (h.met x hx2).1 q with q | ⟨s, hs, rfl⟩
    · obtain ⟨c', h1, h2⟩ := h0.has x hx2 q
      exact ⟨c', List.mem_append_left _ h1, h2⟩
    · exact ⟨c, List.mem_append_right _ (by simp), by rw [h.cl]; exact hper.moves hp hi s⟩
  · rcases List.mem_append.1 hc' with q | q
    · exact h0.all c' q
    · simp at q; subst q
      exact ⟨i, hi, by rw [h.cl]; exact hper⟩
/-- a number all of whose multiples, and no others, bring all points back -/
def Ord (p : List Int) (N o : Nat) : Prop := 0 < o ∧ ∀ k, (∀ x, x < N → itr p k x = x) ↔ o ∣ k
theorem ord_uniq {q : List Int} {M o o' : Nat} (h : Ord p N o) (h' : Ord q M o') (hk : ∀ k, (∀ x, x < N → itr p k x = x) ↔ ∀ x, x < M → itr q k x = x) : o = o' :=
  Nat.dvd_antisymm ((h.2 o').1 ((hk o').2 ((h'.2 o').2 (Nat.dvd_refl _)))) ((h'.2 o).1 ((hk o).1 ((h.2 o).2 (Nat.dvd_refl _))))
theorem ord_of {cs : List (List Int)} {S : List Bool} {o : Nat} (h : CI p N N S cs) (ho : 0 < o) (hk : ∀ k, (∀ c ∈ cs, c.length ∣ k) ↔ o ∣ k) : Ord p N o := by
  refine ⟨ho, fun k => ?_⟩
  rw [← hk k]
  constructor
  · intro q c hc
    obtain ⟨x, hx, hp⟩ := h.all c hc
    exact (hp.2 k).1 (q x hx)
  · intro q x hx
    obtain ⟨c, hc, hp⟩ := h.has x hx (h.low x hx)
    exact (hp.2 k).2 (q c hc)
/-- some number of moves brings a point back -/
theorem itr_some (h : PermN N p) {x : Nat} (hx : x < N) : ∃ k, 0 < k ∧ k ≤ N ∧ itr p k x = x := by
  refine Classical.byContradiction fun hno => ?_
  have := holes N (N + 1) (fun k => itr p k x) (fun k _ => itr_lt h hx k) fun a b ha hb e => by
    rcases Nat.lt_trichotomy a b with q | q | q
    · have e1 : itr p b x = itr p a (itr p (b - a) x) := by rw [← itr_add]; congr 1; omega
      exact absurd ⟨b - a, by omega, by omega, (itr_inj h hx (itr_lt h hx _) (k := a) (e.trans e1)).symm⟩ hno
    · exact q
    · have e1 : itr p a x = itr p b (itr p (a - b) x) := by rw [← itr_add]; congr 1; omega
      exact absurd ⟨a - b, by omega, by omega, (itr_inj h hx (itr_lt h hx _) (k := b) (e.symm.trans e1)).symm⟩ hno
  omega
end
end Go.Proofs.YtmdhljleaijkbaaGreatDoor

/- Groups of permutations, the program's: identity, then. -/
namespace Go.Proofs.YtmdhljleaijkbaaGreatDoor
open Go.RowKit

theorem unitL_succ (k : Nat) : unitL (k + 1) = unitL k ++ [(k : Int)] := by simp [unitL, List.range_succ]
theorem unitL_len' (k : Nat) : (unitL k).length = k := by simp [unitL]
set_option maxHeartbeats 1600000 in
theorem identity_any (n : Nat) (w : World) (hn : n ≤ 1000) :
    Calls Tryz.prog 46 #[.int .i64 n] w fun e w' => ∃ ao c, e = .returned (.slice ao n c) ∧ Own w' w.heap.size 2 ao n c ((unitL n).map (Value.int .i64)) ∧ Below w.heap.size w w' := by
  go_enter Tryz.func46, Tryz.ntmps46
  go_wp2_with (at_make; refine wpList_mk etI _ rfl _ _ rfl w.heap.size _ _ _ _ n rfl rfl rfl rfl (by omega) (Nat.le_refl _) ?_; intro w1 hown hgrow hsz)
  have hb1 : Below w.heap.size w w1 := (Below.refl _ _).grown hgrow (Nat.le_refl _) (by simp)
  clear hgrow
  go_loopw [9] (fun i wr => ∃ k : Nat, k ≤ n ∧ i = .int .i64 k ∧ Own wr w.heap.size 2 (some ⟨w.heap.size, 0, none⟩) n n ((unitL k ++ List.replicate (n - k) 0).map (Value.int .i64)) ∧ Below w.heap.size w wr) (fun i _ => n - (intOf i).toNat)
  case atStart => exact ⟨0, Nat.zero_le _, rfl, by simpa [unitL] using hown, hb1⟩
  case round =>
    obtain ⟨k, hk, rfl, ho, hb⟩ := hrel
    clear hown hb1 hsz
    by_cases hlt : k < n
    · obtain ⟨g, hg, _, hgl, _, hcell, hfr⟩ := ho.form (by omega)
      obtain rfl : g = w.heap.size := by injection hg with hg; injection hg with hg; exact hg.symm
      have hc2 : wr.cell? ⟨w.heap.size, k, none⟩ = some (.int .i64 0) := by
        rw [hcell k hlt]; exact get_pad (unitL_len' k) hlt
      have hf := hfr k
      obtain ⟨st1, st2⟩ := ho.stored k (.int .i64 (k : Int))
      have HS1 := Lib.hid st1
      have HS2 := Lib.hid st2
      clear st1 st2 hg hcell hfr
      go_wp2
      go_roundw
      case rel =>
        refine ⟨k + 1, by omega, by go_num, ?_, ?_⟩
        · have h1 := HS1.out
          rw [← List.map_set, set_pad (unitL_len' k) hlt, ← unitL_succ] at h1
          exact h1
        · exact hb.grown HS2.out hb.size (by intro g hg; injection hg with hg; omega)
      case measure => simp [intOf]; omega
    · obtain rfl : k = n := by omega
      go_wp2
      go_ret
      exact ⟨_, _, rfl, by simpa using ho, hb⟩
set_option maxHeartbeats 1600000 in
theorem thenG_any (a b : Option Addr) (n m ca cb : Nat) (p q : List Int) (w : World) (ha : Ints w a n p) (hb : Ints w b m q) (hp : ∀ k, k < n → ∃ x : Nat, iget p k = (x : Int) ∧ x < m) (hn : n ≤ 1000) :
    Calls Tryz.prog 48 #[.slice a n ca, .slice b m cb] w fun e w' => ∃ a2 c2, e = .returned (.slice a2 n c2) ∧ Own w' w.heap.size 2 a2 n c2 ((thenL p q).map (Value.int .i64)) ∧ Below w.heap.size w w' := by
  have HL := Lib.hid ha.1
  have HA := Lib.hid ha
  have HB := Lib.hid hb
  have HP := Lib.hid hp
  clear ha hb hp
  go_enter Tryz.func48, Tryz.ntmps48
  go_wp2_with (at_make; refine wpList_mk etI _ rfl _ _ rfl w.heap.size _ _ _ _ n rfl rfl rfl rfl (by omega) (Nat.le_refl _) ?_; intro w1 hown hgrow hsz)
  have hb1 : Below w.heap.size w w1 := (Below.refl _ _).grown hgrow (Nat.le_refl _) (by simp)
  clear hgrow
  go_loopw [13] (fun i wr => ∃ k : Nat, k ≤ n ∧ i = .int .i64 k ∧ Own wr w.heap.size 2 (some ⟨w.heap.size, 0, none⟩) n n ((thenL (p.take k) q ++ List.replicate (n - k) 0).map (Value.int .i64)) ∧ Below w.heap.size w wr) (fun i _ => n - (intOf i).toNat)
  case atStart => exact ⟨0, Nat.zero_le _, rfl, by simpa [thenL] using hown, hb1⟩
  case round =>
    obtain ⟨k, hk, rfl, ho, hb⟩ := hrel
    clear hown hb1 hsz
    by_cases hlt : k < n
    · obtain ⟨x, hx, hxm⟩ := HP.out k hlt
      obtain ⟨ba, oa, rfl, hca⟩ := (HA.out.below hb).at_ hlt
      obtain ⟨bb, ob, rfl, hcb⟩ := (HB.out.below hb).at_ hxm
      have hT := thenL_take (p := p) (q := q) (k := k) (by rw [HL.out]; exact hlt)
      have hTl : (thenL (p.take k) q).length = k := by rw [thenL_len, List.length_take, HL.out]; omega
      rw [hx, Int.toNat_natCast] at hT
      rw [hx] at hca
      obtain ⟨g, hg, _, hgl, _, hcell, hfr⟩ := ho.form (by omega)
      obtain rfl : g = w.heap.size := by injection hg with hg; injection hg with hg; exact hg.symm
      have hc2 : wr.cell? ⟨w.heap.size, k, none⟩ = some (.int .i64 0) := by
        rw [hcell k hlt]; exact get_pad hTl hlt
      have hf := hfr k
      have HT := Lib.hid hT
      have HTl := Lib.hid hTl
      generalize iget q x = y at *
      have hx0 : (0 : Int) ≤ (x : Int) := by omega
      have hx1 : (x : Int) < (m : Int) := by omega
      obtain ⟨st1, st2⟩ := ho.stored k (.int .i64 y)
      have HS1 := Lib.hid st1
      have HS2 := Lib.hid st2
      clear st1 st2 hg hcell hfr hT hTl hx ho
      go_wp2
      go_roundw
      case rel =>
        refine ⟨k + 1, by omega, by go_num, ?_, ?_⟩
        · have h1 := HS1.out
          rw [← List.map_set, set_pad HTl.out hlt, ← HT.out] at h1
          exact h1
        · exact hb.grown HS2.out hb.size (by intro g hg; injection hg with hg; omega)
      case measure => simp [intOf]; omega
    · obtain rfl : k = n := by omega
      have ht : p.take k = p := List.take_of_length_le (by rw [HL.out]; exact Nat.le_refl _)
      rw [ht] at ho
      go_wp2
      go_ret
      exact ⟨_, _, rfl, by simpa using ho, hb⟩
end Go.Proofs.YtmdhljleaijkbaaGreatDoor

/- Words of moves: whether a list is one, what it does. guards: -/
namespace Go.Proofs.YtmdhljleaijkbaaGreatDoor
open Go.RowKit

/-- a word of moves -/
def wdB (n : Nat) (p : List Int) : Prop := p.length ≤ 64 ∧ ∀ x ∈ p, 0 ≤ x ∧ x < n
theorem isWord_any (mb : Nat) (ao lo : Option Addr) (n c m lc : Nat) (p : List Int) (w : World) (hm : Blk w mb 26 #[.slice ao n c]) (hn : n ≤ 5) (hp : Ints w lo m p) (hb : wdB n p) :
    Calls Tryz.prog 34 #[.pointer (some ⟨mb, 0, none⟩), .slice lo m lc] w fun e w' => e = .returned (.bool true) ∧ Below w.heap.size w w' := by
  have hl := hp.1
  have hb1 := hb.1
  have hle : (m : Int) ≤ 64 := by omega
  have hall : (p.all fun z => inB z 0 ((n : Int) - 1)) = true := List.all_eq_true.2 fun z hz => by
    have := hb.2 z hz
    simp [inB]; omega
  have HA := Lib.hid hall
  clear hall hb hb1 hl
  go_enter Tryz.func34, Tryz.ntmps34
  go_wp2_with (first | (go_at_call 42; refine (rankM_any mb n c ao w hm).mono ?_; rintro e w' ⟨rfl, hw⟩; subst hw) | (go_at_call 59; refine (areWithin_any lo m lc p 0 ((n : Int) - 1) _ hp).mono ?_; rintro e w1 ⟨rfl, b1⟩; rw [HA.out]))
  go_ret
  exact ⟨rfl, b1⟩
/-- what a word does -/
def doL (d : List (List Int)) (N : Nat) (p : List Int) : List Int := p.foldl (fun q x => thenL q (lget d x.toNat)) (unitL N)
theorem doL_snoc (d : List (List Int)) (N : Nat) (p : List Int) (x : Int) : doL d N (p ++ [x]) = thenL (doL d N p) (lget d x.toNat) := by simp [doL]
theorem doL_pts {d : List (List Int)} {N : Nat} (hd : ∀ z ∈ d, Pts N z) {p : List Int} (hp : ∀ x ∈ p, 0 ≤ x ∧ x < d.length) : ∀ k, k ≤ p.length → Pts N (doL d N (p.take k))
  | 0, _ => unitL_pts N
  | k + 1, hk => by
    have hx := hp p[k] (List.getElem_mem (by omega))
    rw [List.take_succ_eq_append_getElem (by omega), doL_snoc]
    exact thenL_pts (doL_pts hd hp k (by omega)) (hd _ (lget_mem (by omega)))
set_option maxHeartbeats 1600000 in
theorem does_any (mb : Nat) (ao lo : Option Addr) (n c m lc N : Nat) (d : List (List Int)) (p : List Int) (w : World) (hm : Blk w mb 26 #[.slice ao n c]) (hd : RdSSc w (.slice ao n c) d) (hM : Man d) (hN : flg d = N) (hp : Ints w lo m p) (hb : wdB n p) :
    Calls Tryz.prog 36 #[.pointer (some ⟨mb, 0, none⟩), .slice lo m lc] w fun e w' => ∃ a cc, e = .returned (.slice a N cc) ∧ Ints w' a N (doL d N p) ∧ Below w.heap.size w w' := by
  have hdl := hd.intss.1
  have hn1 := hM.n1
  have hl0 : (lget d 0).length = N := hN
  have hN4 : N ≤ 400 := by rw [← hN]; exact hM.f4
  have hpl := hp.1
  have hp64 := hb.1
  have HPT := Lib.hid (show ∀ z ∈ d, Pts N z from by have := man_pts hM; rw [hl0] at this; exact this)
  have HB := Lib.hid (show ∀ x ∈ p, 0 ≤ x ∧ x < d.length from by rw [hdl]; exact hb.2)
  have HD := Lib.hid hd
  have HPI := Lib.hid hp
  have HM := Lib.hid hm
  have HPO := Lib.hid (fun k (hk : k ≤ p.length) => doL_pts HPT.out HB.out k hk)
  have x0 := hm.cell 0
  simp at x0
  clear hd hp hm hb hM hN
  go_enter Tryz.func36, Tryz.ntmps36
  go_upto_region 2 with (first | (go_at_call 22; refine (flagsI_any mb ao n c N d w HM.out HD.out.rd (by omega) hl0 (by omega)).mono ?_; rintro e w1 ⟨rfl, hw⟩; subst hw) | (go_at_call 46; refine (identity_any N w (by omega)).mono ?_; rintro e w1 ⟨a0, c0, rfl, o0, b0⟩))
  have I0 := Lib.hid (show Ints w1 a0 N (doL d N (p.take 0)) from o0.ints)
  have B0 := Lib.hid b0
  clear o0 b0 x0
  go_wp2_with fail
  go_loopw [5, 13] (fun pv kv wr => ∃ (k : Nat) (a : Option Addr) (cc : Nat), pv = .slice a N cc ∧ kv = .int .i64 k ∧ k ≤ m ∧ Ints wr a N (doL d N (p.take k)) ∧ Below w.heap.size w wr) (fun _ kv _ => m - (intOf kv).toNat)
  case atStart => exact ⟨0, a0, c0, rfl, rfl, Nat.zero_le _, I0.out, B0.out⟩
  case round =>
    clear I0 B0
    obtain ⟨k, a, cc, rfl, rfl, hk, hi, hbw⟩ := hrel
    have BW := Lib.hid hbw
    have I1 := Lib.hid hi
    have x1 := (HM.out.belowS hbw).cell 0
    simp at x1
    clear hi hbw
    by_cases hlt : k < m
    · have hki : (k : Int) < (m : Int) := by omega
      obtain ⟨b3, off3, e3, hc3⟩ := (HPI.out.below BW.out).at_ hlt
      have hx := HB.out p[k] (List.getElem_mem (by omega))
      rw [← iget_lt (by omega)] at hx
      obtain ⟨g, hg⟩ : ∃ g : Nat, iget p k = (g : Int) := ⟨(iget p k).toNat, by omega⟩
      rw [hg] at hx hc3
      have hgn : g < n := by omega
      have hgi : (g : Int) < (n : Int) := by omega
      obtain ⟨b4, off4, a4, n4, c4, e4, hc4, hi4⟩ := (HD.out.below BW.out).intss.at_ hgn
      have hP4 := HPT.out (lget d g) (lget_mem (by omega))
      have hn4 : n4 = N := by rw [← hi4.1]; exact hP4.1
      subst hn4
      have I4 := Lib.hid hi4
      have hsn : doL d n4 (p.take (k + 1)) = thenL (doL d n4 (p.take k)) (lget d g) := by
        rw [List.take_succ_eq_append_getElem (by omega), doL_snoc, ← iget_lt (by omega), hg, Int.toNat_natCast]
      have HS := Lib.hid hsn
      have HPK := Lib.hid (HPO.out k (by omega)).2
      clear hsn hi4 hP4 hx hg
      subst e3 e4
      go_wp2_with (go_at_call 48; refine (thenG_any a a4 n4 n4 cc c4 (doL d n4 (p.take k)) (lget d g) wr I1.out I4.out HPK.out (by omega)).mono ?_; rintro e w2 ⟨a2, c2, rfl, o2, b2⟩)
      have I2 := Lib.hid o2.ints
      have B2 := Lib.hid (below_tr b2 BW.out)
      clear o2 b2
      go_wp2_with fail
      go_roundw
      case rel => exact ⟨k + 1, a2, c2, rfl, by go_num, hlt, by rw [HS.out]; exact I2.out, B2.out⟩
      case measure => simp [intOf]; omega
    · obtain rfl : k = m := by omega
      have hki : ¬ (k : Int) < (k : Int) := by omega
      have hts : p.take k = p := List.take_of_length_le (by omega)
      rw [hts] at I1
      go_wp2_with fail
      exact bodyPost_ret (v := .slice a N cc) (by simp [results, Tryz.f36, go_sem]) rfl (by first | exact ⟨a, ⟨cc, rfl⟩, I1.out, BW.out⟩ | exact ⟨a, cc, rfl, I1.out, BW.out⟩)
end Go.Proofs.YtmdhljleaijkbaaGreatDoor

/- Cycles of a permutation and its order, the program's; the period of a word. guards: -/
namespace Go.Proofs.YtmdhljleaijkbaaGreatDoor
open Go.RowKit

/-- a list laid at the end of a row of lists, whatever lies behind -/
theorem rows_push3 {T1 E lo hi : Nat} {w3 w4 : World} {ao ao' ao2 : Option Addr} {m c n' c' c2 : Nat} {us : List Value} {ds : List (List Int)} {zs : List Int}
    (hR : OwR (OwS T1) w3 lo hi E ao m c us ds) (hlo : lo ≤ hi) (hh : hi ≤ w3.heap.size) (hu : Own w3 hi T1 ao' n' c' (zs.map (Value.int .i64)))
    (hown : Own w4 lo E ao2 (m + 1) c2 (us ++ [.slice ao' n' c'])) (hg : w3.grownBy w4 (bk ao)) (hat : bk ao2 = bk ao ∨ ∃ g, bk ao2 = some g ∧ w3.heap.size ≤ g) :
    OwR (OwS T1) w4 lo w4.heap.size E ao2 (m + 1) c2 (us ++ [.slice ao' n' c']) (ds ++ [zs]) := by
  have s3 := hg.size
  have hub : ∀ g, bk ao' = some g → hi ≤ g ∧ g < w3.heap.size := hu.lt
  have hne : ∀ g, bk ao' = some g → bk ao ≠ some g := fun g h1 h2 => by have := hub g h1; have := hR.top g h2; omega
  have hu4 : OwS T1 w4 (.slice ao' n' c') zs := (innerS T1).loc (w := w3) ⟨ao', n', c', rfl, hu.mono (Nat.zero_le _)⟩ fun g h => by
    rw [ownBlock_slice] at h
    have := hub g h
    rw [hg.block g (by omega) (fun e => hne g h e.symm)]
  refine hR.push (innerS _) hown hg hu4 (in_slice fun g h => ⟨by have := hub g h; omega, by have := hub g h; omega⟩) (fun g h => (hown.lt g h).2) (by omega) ?_ ?_
  · intro g h
    rcases hat with h1 | ⟨g1, h1, h5⟩
    · exact .inl (h1 ▸ h)
    · refine .inr fun j u hj e => ?_
      rw [h1] at h; obtain rfl := Option.some.inj h
      have := (hR.rng j u hj _ e).2
      omega
  · intro g h
    rw [ownBlock_slice] at h
    have hh := hub g h
    refine ⟨fun e => ?_, fun j v hj e => ?_⟩
    · rcases hat with h1 | ⟨g1, h1, h5⟩
      · exact hne g h (h1 ▸ e)
      · rw [h1] at e; have := Option.some.inj e; omega
    · have := (hR.rng j v hj _ e).2; omega
/-- the state of a search for a cycle -/
structure CyS (w wi : World) (n lo H : Nat) (a6 : Option Addr) (t c6 : Nat) (c : List Int) (S : List Bool) (a : Option Addr) (m cc : Nat) (us : List Value) (cs : List (List Int)) : Prop where
  row : Own wi H 2 a6 t c6 (c.map (Value.int .i64))
  sn : Own wi w.heap.size 4 (some ⟨w.heap.size, 0, none⟩) n n (S.map Value.bool)
  all : OwR (OwS 2) wi lo H 38 a m cc us cs
  ord : w.heap.size < lo ∧ lo ≤ H ∧ H ≤ wi.heap.size
  bel : Below w.heap.size w wi
theorem CyS.seen {w wi : World} {n lo H t c6 m cc x : Nat} {a6 a : Option Addr} {c : List Int} {S : List Bool} {us : List Value} {cs : List (List Int)} (h : CyS w wi n lo H a6 t c6 c S a m cc us cs) (b : Bool) :
    CyS w (wi.setCell ⟨w.heap.size, x, none⟩ (.bool b)) n lo H a6 t c6 c (S.set x b) a m cc us cs := by
  obtain ⟨o1, o2, o3⟩ := h.ord
  have hz : (wi.setCell ⟨w.heap.size, x, none⟩ (.bool b)).heap.size = wi.heap.size := by simp [World.setCell]
  refine ⟨h.row.same fun g hg => Below.heap_setCell _ _ _ _ (by have := (h.row.lt g hg).1; simp; omega), ?_, h.all.same (innerS _) fun g h1 _ _ => Below.heap_setCell _ _ _ _ (by simp; omega), ⟨o1, o2, by omega⟩, h.bel.setCell (Nat.le_refl _) _⟩
  rw [List.map_set]
  exact (h.sn.stored x (.bool b)).1
theorem CyS.app {w wi w2 : World} {n lo H t c6 c2 m cc : Nat} {a6 a2 a : Option Addr} {c : List Int} {S : List Bool} {us : List Value} {cs : List (List Int)} {z : Int} (h : CyS w wi n lo H a6 t c6 c S a m cc us cs) (o : Own w2 H 2 a2 (t + 1) c2 (c.map (Value.int .i64) ++ [.int .i64 z])) (hg : wi.grownBy w2 (bk a6)) :
    CyS w w2 n lo H a2 (t + 1) c2 (c ++ [z]) S a m cc us cs := by
  obtain ⟨o1, o2, o3⟩ := h.ord
  have hs := hg.size
  have hb : ∀ g, g < H → w2.heap[g]? = wi.heap[g]? := fun g hlt => hg.block g (by omega) fun e => by have := (h.row.lt g e.symm).1; omega
  refine ⟨by rw [List.map_append]; exact o, h.sn.same fun g e => hb g (by simp [bk] at e; omega), h.all.same (innerS _) fun g _ h2 _ => hb g h2, ⟨o1, o2, by omega⟩, h.bel.grown hg h.bel.size fun g e => by have := (h.row.lt g e).1; omega⟩
set_option maxHeartbeats 3200000 in
theorem cyclesOf_any (ao : Option Addr) (n c : Nat) (p : List Int) (w : World) (h : Ints w ao n p) (hp : PermN n p) (hn : n ≤ 400) :
    Calls Tryz.prog 61 #[.slice ao n c] w fun e w' => ∃ a m cc cs S, e = .returned (.slice a m cc) ∧ Intss w' a m cs ∧ CI p n n S cs ∧ Below w.heap.size w w' := by
  have HI := Lib.hid h
  have HP := Lib.hid hp
  clear h hp
  go_enter Tryz.func61, Tryz.ntmps61
  go_upto_region 3 with (at_make; refine wpList_mk etB _ rfl _ _ rfl w.heap.size _ _ _ _ n rfl rfl rfl rfl (by omega) (Nat.le_refl _) ?_; intro w1 hown hgrow hsz)
  have hb1 : Below w.heap.size w w1 := (Below.refl _ _).grown hgrow (Nat.le_refl _) (by simp)
  have hl1 : w.heap.size < w1.heap.size := (hown.lt w.heap.size rfl).2
  have O1 := Lib.hid (show Own w1 w.heap.size 4 (some ⟨w.heap.size, 0, none⟩) n n ((List.replicate n false).map Value.bool) from by rw [List.map_replicate]; exact hown)
  have B1 := Lib.hid hb1
  clear hgrow hown hb1 hsz
  go_wp2_with (go_at_call 44; refine (size1_any _ _ _ _).mono ?_; rintro e w' ⟨rfl, hw⟩; subst hw)
  go_loopw [3, 13] (fun cv iv wr => ∃ (i m cc : Nat) (a : Option Addr) (us : List Value) (cs : List (List Int)) (S : List Bool), cv = .slice a m cc ∧ iv = .int .i64 i ∧ i ≤ n ∧ CI p n i S cs ∧ Own wr w.heap.size 4 (some ⟨w.heap.size, 0, none⟩) n n (S.map Value.bool) ∧ OwR (OwS 2) wr w1.heap.size wr.heap.size 38 a m cc us cs ∧ w1.heap.size ≤ wr.heap.size ∧ Below w.heap.size w wr) (fun _ iv _ => n - (intOf iv).toNat)
  case atStart => exact ⟨0, 0, 0, none, [], [], _, rfl, rfl, Nat.zero_le _, CI.start, O1.out, OwR.empty_ (Own.nil_ _ _ _) (fun g hg => by cases hg), Nat.le_refl _, B1.out⟩
  case round =>
    clear O1 B1
    obtain ⟨i, m, cc, a, us, cs, S0, rfl, rfl, hi, ci, os, or, hlo, hb⟩ := hrel
    obtain ⟨wA, rfl⟩ : ∃ x, x = wr := ⟨_, rfl⟩
    have hfew := ci.few
    have hml := or.ulen
    have hml2 := or.len
    have CIH := Lib.hid ci
    have ORH := Lib.hid or
    have BH := Lib.hid hb
    have OSH := Lib.hid os
    clear ci or hb os
    by_cases hlt : i < n
    · have hii : (i : Int) < (n : Int) := by omega
      have ST := Lib.hid (show CyS w wA n w1.heap.size wA.heap.size none 0 0 [] S0 a m cc us cs from ⟨Own.nil_ _ _ _, OSH.out, ORH.out, ⟨hl1, hlo, Nat.le_refl _⟩, BH.out⟩)
      clear ORH BH OSH
      go_wp2_with fail
      go_loopw [6, 7] (fun cv xv wi => ∃ (t c6 : Nat) (a6 : Option Addr) (c : List Int) (S : List Bool), cv = .slice a6 t c6 ∧ xv = .int .i64 (itr p t i : Nat) ∧ CJ p n i S0 t S c ∧ CyS w wi n w1.heap.size wA.heap.size a6 t c6 c S a m cc us cs) (fun cv _ _ => match cv with | .slice _ t _ => n + 1 - t | _ => 0)
      case atStart => exact ⟨0, 0, none, [], S0, rfl, rfl, CJ.start CIH.out.len, ST.out⟩
      case round =>
        clear ST
        obtain ⟨t, c6, a6, cl, S, rfl, rfl, cj, st⟩ := hrel
        obtain ⟨wi, rfl⟩ : ∃ x, x = wr := ⟨_, rfl⟩
        have htn := cj.few HP.out hlt
        have hx := itr_lt HP.out hlt t
        have hcl := cj.cl
        obtain ⟨x, hxe⟩ : ∃ x, itr p t i = x := ⟨_, rfl⟩
        have HX := Lib.hid hxe
        have ST := Lib.hid st
        have CJH := Lib.hid cj
        have hsc := own_bget st.sn hx
        have hfr := own_frozen st.sn x
        rw [hxe] at hx hsc ⊢
        have hxi : (x : Int) < (n : Int) := by omega
        clear cj st hxe
        cases hsb : bget S x with
        | false =>
          rw [hsb] at hsc
          have HSB := Lib.hid hsb
          have S2 := Lib.hid (ST.out.seen (x := x) true)
          clear hsb
          go_upto_region 11 with fail
          generalize wi.setCell ⟨w.heap.size, x, none⟩ (.bool true) = wj at *
          clear hsc hfr ST
          have hord := S2.out.ord
          go_upto_region 9 with (at_builtin; refine wpList_ap1 etI _ rfl _ _ rfl wA.heap.size a6 t c6 _ rfl S2.out.row (.int .i64 (x : Int)) rfl rfl (by omega) (by omega) ?_; intro a7 c7 w7 o7 g7 hat7)
          have S3 := Lib.hid (S2.out.app o7 g7)
          clear S2 o7 g7 hat7
          obtain ⟨b, off, rfl, hc⟩ := (HI.out.below S3.out.bel).at_ hx
          have hy := HP.out.pts.at_lt hx
          rw [hy.2] at hc
          have hnx : itr p (t + 1) i = at_ p x := by show at_ p (itr p t i) = _; rw [HX.out]
          have CN := Lib.hid (CJH.out.next HP.out hlt (by rw [HX.out]; exact HSB.out))
          clear hy
          rw [HX.out] at CN
          go_wp2_with fail
          go_roundw
          case rel => exact ⟨t + 1, c7, a7, cl ++ [(x : Int)], S.set x true, rfl, by rw [hnx], CN.out, S3.out⟩
          case measure => simp; omega
        | true =>
          rw [hsb] at hsc
          have HSB := Lib.hid (show bget S (itr p t i) = true from by rw [HX.out]; exact hsb)
          clear hsb
          by_cases ht : t = 0
          · subst ht
            have CN := Lib.hid (CJH.out.none CIH.out hlt HSB.out)
            have hgt : ¬ (0 : Int) < 0 := by omega
            clear hfr
            go_wp2_with fail
            go_roundw
            case rel => exact ⟨i + 1, m, cc, a, us, cs, S, rfl, by go_num, hlt, CN.out, ST.out.sn, ST.out.all.mono (Nat.le_refl _) ST.out.ord.2.2, Nat.le_trans hlo ST.out.ord.2.2, ST.out.bel⟩
            case measure => simp [intOf]; omega
          · have CN := Lib.hid (CJH.out.done HP.out CIH.out hlt (by omega) HSB.out)
            have hgt : (0 : Int) < (t : Int) := by omega
            have hord := ST.out.ord
            clear hfr
            go_wp2_with (at_builtin; refine wpList_ap1 etSS _ rfl _ _ rfl w1.heap.size a m cc _ rfl ST.out.all.own (.slice a6 t c6) rfl rfl (by omega) (by omega) ?_; intro ao3 c3 w3 o3 g3 hat3)
            have OR3 := Lib.hid (rows_push3 ST.out.all hord.2.1 hord.2.2 ST.out.row o3 g3 (hat3.imp id fun e => ⟨_, e, Nat.le_succ _⟩))
            have B3 := Lib.hid (ST.out.bel.grown g3 ST.out.bel.size (fun g hg => by have := (ST.out.all.own.lt g hg).1; omega))
            have S3 := Lib.hid (ST.out.sn.kept g3 (.inr fun e => by have := (ST.out.all.own.lt _ e.symm).1; simp at this; omega))
            have hz3 := g3.size
            clear o3 g3 hat3
            go_roundw
            case rel => exact ⟨i + 1, m + 1, c3, ao3, _, _, S, rfl, by go_num, hlt, CN.out, S3.out, OR3.out, by omega, B3.out⟩
            case measure => simp [intOf]; omega
    · obtain rfl : i = n := by omega
      have hii : ¬ (i : Int) < (i : Int) := by omega
      go_wp2_with fail
      exact bodyPost_ret (v := .slice a m cc) (by simp [results, Tryz.f61, go_sem]) rfl (by first | exact ⟨a, m, cc, cs, S0, rfl, ORH.out.intss, CIH.out, BH.out⟩ | exact ⟨a, m, ⟨cc, rfl⟩, cs, ORH.out.intss, ⟨S0, CIH.out⟩, BH.out⟩)
end Go.Proofs.YtmdhljleaijkbaaGreatDoor

/- Orders of permutations and periods of words, the program's. guards: -/
namespace Go.Proofs.YtmdhljleaijkbaaGreatDoor
open Go.RowKit

set_option maxHeartbeats 1600000 in
theorem gcdW_any (a b : Nat) (ha : a ≤ 1000000) (hb : b ≤ 1000000) (w : World) :
    Calls Tryz.prog 62 #[.int .i64 a, .int .i64 b] w fun e w' => e = .returned (.int .i64 (Nat.gcd a b : Nat)) ∧ Below w.heap.size w w' := by
  obtain ⟨G, hG⟩ : ∃ G, Nat.gcd a b = G := ⟨_, rfl⟩
  rw [hG]
  have HG := Lib.hid hG
  clear hG
  go_enter Tryz.func62, Tryz.ntmps62
  go_wp2_with fail
  go_loopw [0, 1] (fun xv yv wr => ∃ u v : Nat, xv = .int .i64 u ∧ yv = .int .i64 v ∧ u ≤ 1000000 ∧ v ≤ 1000000 ∧ Nat.gcd u v = G ∧ Below w.heap.size w wr) (fun _ yv _ => (intOf yv).toNat)
  case atStart => exact ⟨a, b, rfl, rfl, ha, hb, HG.out, Below.refl _ _⟩
  case round =>
    obtain ⟨u, v, rfl, rfl, hu, hv, hg, hbw⟩ := hrel
    have HGW := Lib.hid hg
    have HBW := Lib.hid hbw
    clear hg hbw
    by_cases hv0 : v = 0
    · subst hv0
      have hgu : u = G := by have := HGW.out; rwa [Nat.gcd_zero_right] at this
      subst hgu
      go_wp2_with fail
      go_ret
      exact ⟨rfl, HBW.out⟩
    · have hvz : ¬ (v : Int) = 0 := by omega
      have hlt : u % v < v := Nat.mod_lt _ (by omega)
      obtain ⟨r, hr⟩ : ∃ r, u % v = r := ⟨_, rfl⟩
      have hrm : (u : Int).tmod (v : Int) = (r : Int) := by rw [← hr]; rfl
      have hrw : IntKind.i64.wrap (r : Int) = (r : Int) := IntWalk.i64_in _ (by omega)
      have HN := Lib.hid (show Nat.gcd v r = G from by rw [← hr, ← HGW.out, Nat.gcd_comm u v, Nat.gcd_rec v u, Nat.gcd_comm])
      rw [hr] at hlt
      clear hr
      go_wp2_with fail
      go_quiet (fail)
      go_wp2_with fail
      go_roundw
      case rel => exact ⟨v, r, rfl, rfl, hv, by omega, HN.out, below_tr (below_drewN (Below.refl _ _) _) HBW.out⟩
      case measure => simp [intOf]; omega
theorem lcm_mul {o L : Nat} : o * (L / Nat.gcd o L) = Nat.lcm o L := by
  unfold Nat.lcm
  exact (Nat.mul_div_assoc o (Nat.gcd_dvd_right o L)).symm
theorem lcm_iff {o L k : Nat} : Nat.lcm o L ∣ k ↔ o ∣ k ∧ L ∣ k :=
  ⟨fun h => ⟨Nat.dvd_trans (Nat.dvd_lcm_left o L) h, Nat.dvd_trans (Nat.dvd_lcm_right o L) h⟩, fun h => Nat.lcm_dvd h.1 h.2⟩
set_option maxHeartbeats 1600000 in
theorem permOrd_any (ao : Option Addr) (n c : Nat) (p : List Int) (w : World) (h : Ints w ao n p) (hp : PermN n p) (hn : n ≤ 400) (hk : ∃ k, 0 < k ∧ k ≤ 1000000 ∧ ∀ x, x < n → itr p k x = x) :
    Calls Tryz.prog 35 #[.slice ao n c] w fun e w' => ∃ o : Nat, e = .returned (.tuple #[.int .i64 o, .int .i64 0]) ∧ Ord p n o ∧ Below w.heap.size w w' := by
  obtain ⟨K, hK0, hK1, hK⟩ := hk
  have hl := h.1
  have hperm : isPerm p = true := isPerm_ok (by omega) (fun k hk => by have := hp.pts.at_lt (x := k) (by omega); rw [this.2]; omega) (fun i j hi hj e => hp.inj i j (by omega) (by omega) (by unfold at_; rw [e]))
  have HPM := Lib.hid hperm
  have HI := Lib.hid h
  have HP := Lib.hid hp
  have HK := Lib.hid hK
  clear h hp hK hperm hl
  go_enter Tryz.func35, Tryz.ntmps35
  go_upto_region 4 with (go_at_call 60; refine (implPerm_any ao n c p w HI.out).mono ?_; rintro e w1 ⟨rfl, b1⟩; rw [HPM.out])
  have I1 := Lib.hid (HI.out.below b1)
  have B1 := Lib.hid b1
  clear b1
  go_wp2_with (go_at_call 61; refine (cyclesOf_any ao n c p w1 I1.out HP.out hn).mono ?_; rintro e w2 ⟨a, m, cc, cs, S, rfl, is2, ci, b2⟩)
  have IS := Lib.hid is2
  have CIH := Lib.hid ci
  have B2 := Lib.hid (below_tr b2 B1.out)
  have hml := is2.1
  have hfew := ci.few
  clear is2 ci b2 B1 I1
  go_loopw [4, 14] (fun ov jv wr => ∃ o j : Nat, ov = .int .i64 o ∧ jv = .int .i64 j ∧ j ≤ m ∧ 0 < o ∧ o ∣ K ∧ (∀ k, (∀ q, q < j → (lget cs q).length ∣ k) ↔ o ∣ k) ∧ Below w2.heap.size w2 wr) (fun _ jv _ => m - (intOf jv).toNat)
  case atStart => exact ⟨1, 0, rfl, rfl, Nat.zero_le _, by omega, Nat.one_dvd _, fun k => ⟨fun _ => Nat.one_dvd _, fun _ q hq => absurd hq (by omega)⟩, Below.refl _ _⟩
  case round =>
    obtain ⟨o, j, rfl, rfl, hj, ho, hoK, hiff, hbw⟩ := hrel
    have HIF := Lib.hid hiff
    have HOK := Lib.hid hoK
    have HBW := Lib.hid hbw
    have hoL : o ≤ 1000000 := Nat.le_trans (Nat.le_of_dvd hK0 hoK) hK1
    clear hiff hoK hbw
    by_cases hlt : j < m
    · have hji : (j : Int) < (m : Int) := by omega
      obtain ⟨b, off, a1, n1, c1, rfl, hc, hi1⟩ := (IS.out.below HBW.out).at_ hlt
      have hln := hi1.1
      obtain ⟨x, hx, hper⟩ := CIH.out.all _ (lget_mem (by omega : j < cs.length))
      rw [hln] at hper
      have hn0 := hper.1
      have hnK : n1 ∣ K := (hper.2 K).1 (HK.out x hx)
      have hn1 : n1 ≤ 1000000 := Nat.le_trans (Nat.le_of_dvd hK0 hnK) hK1
      obtain ⟨G, hG⟩ : ∃ G, Nat.gcd o n1 = G := ⟨_, rfl⟩
      have hG0 : 0 < G := by rw [← hG]; exact Nat.gcd_pos_of_pos_left _ ho
      obtain ⟨Q, hQ⟩ : ∃ Q, n1 / G = Q := ⟨_, rfl⟩
      have hlcm : o * Q = Nat.lcm o n1 := by rw [← hQ, ← hG]; exact lcm_mul
      have hLK : o * Q ∣ K := by rw [hlcm]; exact lcm_iff.2 ⟨HOK.out, hnK⟩
      obtain ⟨L, hL⟩ : ∃ L, o * Q = L := ⟨_, rfl⟩
      rw [hL] at hlcm hLK
      have hL0 : 0 < L := Nat.pos_of_dvd_of_pos hLK hK0
      have hL1 : L ≤ 1000000 := Nat.le_trans (Nat.le_of_dvd hK0 hLK) hK1
      have htd : (n1 : Int).tdiv (G : Int) = (Q : Int) := by rw [← hQ]; rfl
      have hGz : ¬ (G : Int) = 0 := by omega
      have hGz2 : ¬ G = 0 := by omega
      have hQ1 : Q ≤ 1000000 := by rw [← hQ]; exact Nat.le_trans (Nat.div_le_self _ _) hn1
      have hqw : IntKind.i64.wrap (Q : Int) = (Q : Int) := IntWalk.i64_in _ (by omega)
      have hmu : (o : Int) * (Q : Int) = (L : Int) := by rw [← hL]; exact (Int.natCast_mul o Q).symm
      have hmw : IntKind.i64.wrap ((o : Int) * (Q : Int)) = (L : Int) := by rw [hmu]; exact IntWalk.i64_in _ (by omega)
      have HLC := Lib.hid hlcm
      have HLK := Lib.hid hLK
      have HG := Lib.hid hG
      have hbig : ¬ (1000000000000000 : Int) < (L : Int) := by omega
      have HLN := Lib.hid hln
      clear hlcm hLK hG hQ hL hper hnK hi1 hx hmu hln
      go_wp2_with (first | (go_at_call 44; refine (size1_any _ _ _ _).mono ?_; rintro e w' ⟨rfl, hw⟩; subst hw) | (go_at_call 62; refine (gcdW_any o n1 hoL hn1 _).mono ?_; rw [HG.out]; rintro e w5 ⟨rfl, b5⟩))
      have HB5 := Lib.hid (below_tr b5 HBW.out)
      clear b5
      go_wp2_with fail
      go_roundw
      case rel =>
        refine ⟨L, j + 1, rfl, by go_num, hlt, hL0, HLK.out, fun k => ?_, HB5.out⟩
        rw [HLC.out, lcm_iff, ← HIF.out k]
        constructor
        · intro q
          exact ⟨fun q' hq' => q q' (by omega), by have := q j (by omega); rwa [HLN.out] at this⟩
        · rintro ⟨q1, q2⟩ q hq
          rcases Nat.lt_or_ge q j with z | z
          · exact q1 q z
          · obtain rfl : q = j := by omega
            rw [HLN.out]; exact q2
      case measure => simp [intOf]; omega
    · obtain rfl : j = m := by omega
      have hji : ¬ (j : Int) < (j : Int) := by omega
      have hord : Ord p n o := ord_of CIH.out ho fun k => by
        rw [← HIF.out k]
        constructor
        · intro q q' hq'; exact q _ (lget_mem (by omega))
        · intro q c' hc'
          obtain ⟨q', hq', rfl⟩ := List.getElem_of_mem hc'
          have := q q' (by omega)
          rwa [lget_lt hq'] at this
      have HO := Lib.hid hord
      have HBF := Lib.hid (below_tr HBW.out B2.out)
      clear hord
      go_wp2_with fail
      exact bodyPost_ret (v := .tuple #[.int .i64 o, .int .i64 0]) (by simp [results, Tryz.f35, go_sem]) rfl ⟨o, rfl, HO.out, HBF.out⟩
theorem foldl_doL {d : List (List Int)} {N : Nat} (hM : Man d) (hN : flg d = N) {p : List Int} (hp : ∀ x ∈ p, 0 ≤ x ∧ x < d.length) : ∀ k, k ≤ p.length → Gen d N (doL d N (p.take k))
  | 0, _ => .one
  | k + 1, hk => by
    have hx := hp p[k] (List.getElem_mem (by omega))
    rw [List.take_succ_eq_append_getElem (by omega), doL_snoc]
    exact .step (foldl_doL hM hN hp k (by omega)) (by omega)
theorem doL_gen {d : List (List Int)} {N : Nat} (hM : Man d) (hN : flg d = N) {p : List Int} (hp : ∀ x ∈ p, 0 ≤ x ∧ x < d.length) : Gen d N (doL d N p) := by
  have := foldl_doL hM hN hp p.length (Nat.le_refl _)
  rwa [List.take_of_length_le (Nat.le_refl _)] at this
theorem doL_perm {d : List (List Int)} {N : Nat} (hM : Man d) (hN : flg d = N) {p : List Int} (hp : ∀ x ∈ p, 0 ≤ x ∧ x < d.length) : PermN N (doL d N p) := by
  have h := doL_gen hM hN hp
  subst hN
  exact ⟨h.pts hM, h.inj hM⟩
set_option maxHeartbeats 1600000 in
theorem wordPeriod_any (ao lo : Option Addr) (n c m lc N : Nat) (d : List (List Int)) (p : List Int) (w : World) (hd : RdSSc w (.slice ao n c) d) (hM : Man d) (hN : flg d = N) (hp : Ints w lo m p) (hb : wdB n p) (hk : ∃ k, 0 < k ∧ k ≤ 1000000 ∧ ∀ x, x < N → itr (doL d N p) k x = x) :
    Calls Tryz.prog 16 #[.agg #[.slice ao n c], .slice lo m lc] w fun e w' => ∃ o : Nat, e = .returned (.tuple #[.int .i64 o, .int .i64 0]) ∧ Ord (doL d N p) N o ∧ Below w.heap.size w w' := by
  have hdl := hd.intss.1
  have hn5 := hM.n5
  have hN4 : N ≤ 400 := by rw [← hN]; exact hM.f4
  have b0 := below_alloc1 w (.cells #[.slice ao n c] 26)
  have km : Blk (w.alloc (.cells #[.slice ao n c] 26)) w.heap.size 26 #[.slice ao n c] := blk_at rfl
  have HI := Lib.hid (fun (w : World) (h : RdSSc w (.slice ao n c) d) => implManC h (man_few hM))
  rw [manB_yes hM] at HI
  have HD := Lib.hid (hd.below b0)
  have HPI := Lib.hid (hp.below b0)
  have HM := Lib.hid hM
  have HN := Lib.hid hN
  have HB := Lib.hid hb
  have HKM := Lib.hid km
  have HB0 := Lib.hid b0
  have HPP := Lib.hid (doL_perm hM hN (p := p) (by rw [hdl]; exact hb.2))
  have x0 := km.cell 0
  simp at x0
  have hz0 := b0.size
  clear hd hp hM hN hb km b0
  go_enter Tryz.func16, Tryz.ntmps16
  go_wp2_with fail
  generalize w.alloc (.cells #[.slice ao n c] 26) = w1 at *
  refine (HI.out _ HD.out).mono ?_
  rintro e w2 ⟨rfl, b2⟩
  have K2 := Lib.hid (HKM.out.belowS b2)
  have D2 := Lib.hid (HD.out.below b2)
  have P2 := Lib.hid (HPI.out.below b2)
  have B2 := Lib.hid (HB0.out.trans (b2.mono hz0))
  clear b2 x0 HD HPI HKM HB0
  go_wp2_with fail
  refine (isWord_any w.heap.size ao lo n c m lc p w2 K2.out (by omega) P2.out HB.out).mono ?_
  rintro e w3 ⟨rfl, b3⟩
  have K3 := Lib.hid (K2.out.belowS b3)
  have D3 := Lib.hid (D2.out.below b3)
  have P3 := Lib.hid (P2.out.below b3)
  have B3 := Lib.hid (B2.out.trans (b3.mono B2.out.size))
  clear b3 K2 D2 P2 B2
  go_wp2_with fail
  refine (does_any w.heap.size ao lo n c m lc N d p w3 K3.out D3.out HM.out HN.out P3.out HB.out).mono ?_
  rintro e w4 ⟨a4, c4, rfl, i4, b4⟩
  have I4 := Lib.hid i4
  have B4 := Lib.hid (B3.out.trans (b4.mono B3.out.size))
  clear b4 i4 K3 D3 P3 B3
  go_wp2_with fail
  refine (permOrd_any a4 N c4 (doL d N p) w4 I4.out HPP.out hN4 hk).mono ?_
  rintro e w5 ⟨o, rfl, ho, b5⟩
  have HO := Lib.hid ho
  have B5 := Lib.hid (B4.out.trans (b5.mono B4.out.size))
  clear ho b5
  go_wp2_with fail
  exact bodyPost_ret (v := .tuple #[.int .i64 o, .int .i64 0]) (by simp [results, Tryz.f16, go_sem]) rfl ⟨o, rfl, HO.out, B5.out⟩
end Go.Proofs.YtmdhljleaijkbaaGreatDoor

/- Mixes with what is covered; the periods of a word on a maniplex and on its regular cover. guards: -/
namespace Go.Proofs.YtmdhljleaijkbaaGreatDoor
open Go.RowKit

section
variable {d ss : List (List Int)} {p : List Int}
theorem Grp.doK (h : Grp d ss) (hp : ∀ x ∈ p, 0 ≤ x ∧ x < d.length) : ∀ k, k ≤ p.length → ∀ i, i < ss.length → at_ (doL (cayL d ss) ss.length (p.take k)) i < ss.length ∧ lget ss (at_ (doL (cayL d ss) ss.length (p.take k)) i) = thenL (lget ss i) (doL d (flg d) (p.take k))
  | 0, _, i, hi => by
    have e1 : at_ (doL (cayL d ss) ss.length (p.take 0)) i = i := at_unit hi
    rw [e1]
    exact ⟨hi, (pts_ext (thenL_pts (h.pts hi) (unitL_pts _)) (h.pts hi) fun x hx => by rw [at_then (h.pts hi) hx, at_unit ((h.pts hi).at_lt hx).1]).symm⟩
  | k + 1, hk, i, hi => by
    obtain ⟨h1, h2⟩ := Grp.doK h hp k (by omega) i hi
    have hx := hp p[k] (List.getElem_mem (by omega))
    have hpt : ∀ z ∈ cayL d ss, Pts ss.length z := by have := man_pts h.cay_man; rw [show (lget (cayL d ss) 0).length = ss.length from h.flg_] at this; exact this
    have hP := doL_pts hpt (p := p) (by rw [cay_len]; exact hp) k (by omega)
    have hD := doL_pts (man_pts h.man) (p := p) hp k (by omega)
    rw [List.take_succ_eq_append_getElem (by omega), doL_snoc, doL_snoc, at_then hP hi]
    obtain ⟨h3, h4⟩ := h.to_lt (g := p[k].toNat) (by omega) h1
    refine ⟨h3, ?_⟩
    have h5 : at_ (lget (cayL d ss) p[k].toNat) (at_ (doL (cayL d ss) ss.length (p.take k)) i) = bTo (cayL d ss) (at_ (doL (cayL d ss) ss.length (p.take k)) i) p[k].toNat := rfl
    rw [h5, h4, h2]
    exact (then_assoc (h.pts hi) hD (man_pts h.man _ (lget_mem (by omega)))).symm
theorem Grp.itr_at (h : Grp d ss) (hp : ∀ x ∈ p, 0 ≤ x ∧ x < d.length) {i x : Nat} (hi : i < ss.length) (hx : x < flg d) : ∀ k, itr (doL (cayL d ss) ss.length p) k i < ss.length ∧ at_ (lget ss (itr (doL (cayL d ss) ss.length p) k i)) x = itr (doL d (flg d) p) k (at_ (lget ss i) x)
  | 0 => ⟨hi, rfl⟩
  | k + 1 => by
    obtain ⟨h1, h2⟩ := Grp.itr_at h hp hi hx k
    have h3 := Grp.doK h hp p.length (Nat.le_refl _) _ h1
    rw [List.take_of_length_le (Nat.le_refl _)] at h3
    refine ⟨h3.1, ?_⟩
    show at_ (lget ss (at_ (doL (cayL d ss) ss.length p) (itr (doL (cayL d ss) ss.length p) k i))) x = at_ (doL d (flg d) p) (itr (doL d (flg d) p) k (at_ (lget ss i) x))
    rw [h3.2, at_then (h.pts h1) hx, h2]
theorem Grp.itr_iff (h : Grp d ss) (hp : ∀ x ∈ p, 0 ≤ x ∧ x < d.length) (k : Nat) : (∀ x, x < flg d → itr (doL d (flg d) p) k x = x) ↔ ∀ i, i < ss.length → itr (doL (cayL d ss) ss.length p) k i = i := by
  constructor
  · intro q i hi
    have h0 : 0 < flg d := by have := h.man.f2; unfold flg; omega
    refine h.same (h.itr_at hp hi h0 k).1 hi fun x hx => ?_
    rw [(h.itr_at hp hi hx k).2]
    exact q _ ((h.pts hi).at_lt hx).1
  · intro q x hx
    have h1 := (h.itr_at hp h.pos hx k).2
    rw [q 0 h.pos, h.first, at_unit hx] at h1
    exact h1.symm
theorem Grp.doK_perm (h : Grp d ss) (hp : ∀ x ∈ p, 0 ≤ x ∧ x < d.length) : PermN ss.length (doL (cayL d ss) ss.length p) := doL_perm h.cay_man h.flg_ (by rw [cay_len]; exact hp)
theorem Grp.some_k (h : Grp d ss) (hp : ∀ x ∈ p, 0 ≤ x ∧ x < d.length) : ∃ k, 0 < k ∧ k ≤ 1000000 ∧ (∀ x, x < flg d → itr (doL d (flg d) p) k x = x) ∧ ∀ i, i < ss.length → itr (doL (cayL d ss) ss.length p) k i = i := by
  obtain ⟨k, h1, h2, h3⟩ := itr_some (h.doK_perm hp) h.pos
  have h4 : ∀ x, x < flg d → itr (doL d (flg d) p) k x = x := fun x hx => by
    have h1 := (h.itr_at hp h.pos hx k).2
    rw [h3, h.first, at_unit hx] at h1
    exact h1.symm
  have := h.few
  exact ⟨k, h1, by omega, h4, (h.itr_iff hp k).1 h4⟩
end
set_option maxHeartbeats 1600000 in
theorem mixA_any (ao bo : Option Addr) (n c c' N K : Nat) (d e : List (List Int)) (r : List Int) (w : World) (hd : RdSSc w (.slice ao n c) d) (he : RdSSc w (.slice bo n c') e) (hM : Man d) (hE : Man e) (hl : d.length = e.length) (hN : flg d = N) (hK : flg e = K) (hr : Cov d e r) (hr0 : at_ r 0 = 0) :
    Calls Tryz.prog 17 #[.agg #[.slice ao n c], .int .i64 0, .agg #[.slice bo n c'], .int .i64 0] w fun q w' => ∃ a cc R, q = .returned (.tuple #[.agg #[.slice a n cc], .int .i64 0]) ∧ RdSSc w' (.slice a n cc) R ∧ (lget R 0).length = N ∧ Below w.heap.size w w' := by
  have b0 := below_alloc3 w (.cells #[.slice ao n c] 26) (.cells #[.slice bo n c'] 26) (.cells #[.slice none 0 0] 26)
  have S1 := Lib.hid (show MxB w (((w.alloc (.cells #[.slice ao n c] 26)).alloc (.cells #[.slice bo n c'] 26)).alloc (.cells #[.slice none 0 0] 26)) w.heap.size (w.heap.size + 1) (w.heap.size + 1 + 1) ao n c d bo c' e from ⟨((blk_at rfl).alloc _).alloc _, (blk_at (by simp)).alloc _, blk_at (by simp), hd.below b0, he.below b0, b0⟩)
  have HM := Lib.hid (fun (w : World) (h1 : RdSSc w (.slice ao n c) d) (h2 : RdSSc w (.slice bo n c') e) => mixAt_any ao bo n c c' N K d e r w h1 h2 hM hE hl hN hK hr hr0)
  have hz1 : w.heap.size + 1 + 1 < (((w.alloc (.cells #[.slice ao n c] 26)).alloc (.cells #[.slice bo n c'] 26)).alloc (.cells #[.slice none 0 0] 26)).heap.size := by simp
  have x1 := S1.out.k4.cell 0
  have y1 := S1.out.k6.cell 0
  simp at x1 y1
  clear hd he hM hE hl hN hK hr hr0 b0
  go_enter Tryz.func17, Tryz.ntmps17
  go_upto_region 1 with fail
  generalize ((w.alloc (.cells #[.slice ao n c] 26)).alloc (.cells #[.slice bo n c'] 26)).alloc (.cells #[.slice none 0 0] 26) = w1 at *
  go_wp2_with fail
  refine (HM.out w1 S1.out.r1 S1.out.r2).mono ?_
  rintro q w2 ⟨v, a, cc, R, rfl, hR, hlen, b2⟩
  have kA := below_alloc1 w2 (.cells #[.slice a n cc] 26)
  have S3 := Lib.hid ((S1.out.next b2).next kA)
  have K3 := Lib.hid (show Blk (w2.alloc (.cells #[.slice a n cc] 26)) w2.heap.size 26 #[.slice a n cc] from blk_at rfl)
  have HR := Lib.hid (hR.below kA)
  have HL := Lib.hid hlen
  have hz2 := b2.size
  clear b2 kA hR hlen S1 x1 y1 HM
  go_upto_region 2 with fail
  generalize w2.alloc (.cells #[.slice a n cc] 26) = w3 at *
  have x3 := K3.out.cell 0
  have y3 := S3.out.k8.cell 0
  have f3 := S3.out.k8.frozen 0
  simp at x3 y3
  have HR4 := Lib.hid (show RdSSc (w3.setCell ⟨w.heap.size + 1 + 1, 0, none⟩ (.slice a n cc)) (.slice a n cc) R from (HR.out.setBox (.inl (by omega)) _).rd)
  have HB := Lib.hid (show Below w.heap.size w (w3.setCell ⟨w.heap.size + 1 + 1, 0, none⟩ (.slice a n cc)) from S3.out.bel.setCell (by show w.heap.size ≤ w.heap.size + 1 + 1; omega) _)
  clear HR S3 K3
  go_wp2_with fail
  exact bodyPost_ret (v := .tuple #[.agg #[.slice a n cc], .int .i64 0]) (by simp [results, Tryz.f17, go_sem, y3]) rfl (by first | exact ⟨a, cc, R, rfl, HR4.out, HL.out, HB.out⟩ | exact ⟨a, cc, rfl, R, HR4.out, HL.out, HB.out⟩ | exact ⟨a, cc, rfl, ⟨R, HR4.out, HL.out⟩, HB.out⟩)
end Go.Proofs.YtmdhljleaijkbaaGreatDoor

/- Draws of maniplexes: l02Spoil. guards: -/
namespace Go.Proofs.YtmdhljleaijkbaaGreatDoor
open Go.RowKit

theorem row_step {P : Program} {S E : TypeId} {z : Value} {bytes : Nat} (et : ET P S E z bytes) {ops : Array Oper} {o : Oper} {a : Act} {Q : Exit → Act → World → Prop} {w0 : World} {K : Act → World → Prop} {X : Prop} (hg : o.guard = none) (s x : Operand) (ho : o.op = .call { callee := .builtin .append, args := #[s, x], argTypes := #[S, S] })
    (lo : Nat) (ao : Option Addr) (n c : Nat) (us : List Value) (hs : a.eval s = .slice ao n c) (hown : Own w0 lo E ao n c us) (u : Value) (hx : a.eval x = .slice (some ⟨w0.heap.size, 0, none⟩) 1 1) (hu : u.oneCell' = true) (hn : n + 1 ≤ 4398046511104) (hlo : lo ≤ w0.heap.size)
    (h : ∀ ao' c' w', Own w' lo E ao' (n + 1) c' (us ++ [u]) → (w0.alloc (.cells #[u] E)).grownBy w' (bk ao) → (bk ao' = bk ao ∨ ∃ g, bk ao' = some g ∧ w0.heap.size ≤ g) → K (a.put o.dst (.slice ao' (n + 1) c')) w') : if Region.wanted o (yielded ops a.tmps) = true then Oper.wp P o a (w0.alloc (.cells #[u] E)) K Q else X := by
  refine step_ap1 et hg s x ho lo ao n c us hs (hown.alloc (.cells #[u] E)) u w0.heap.size 1 hx ?_ hu hn ?_ ?_
  · exact (blk_at (w := w0) (t := E) (cs := #[u]) (k := w0.heap.size) rfl).cell 0
  · have : (w0.alloc (.cells #[u] E)).heap.size = w0.heap.size + 1 := by simp
    omega
  · intro ao' c' w' o' g' hat
    have e1 : (w0.alloc (.cells #[u] E)).heap.size = w0.heap.size + 1 := by simp
    exact h ao' c' w' o' g' (hat.imp id fun e => ⟨_, e, by omega⟩)
theorem ownB_lit (g k c : Nat) : (Value.slice (some ⟨g, 0, none⟩) k c).ownBlock = some g := by rw [ownBlock_slice]; rfl
/-- behind the draws that spoil a maniplex: its box at mb -/
structure SpS (w wx : World) (sb mb : Nat) (a : Option Addr) (n c : Nat) (d : List (List Int)) : Prop where
  box : Blk wx mb 26 #[.slice a n c]
  rd : RdLo wx (w.heap.size + 1) (.slice a n c) d
  few : FewSS d
  n6 : n ≤ 6
  res : Blk wx w.heap.size 26 #[.slice none 0 0]
  src : Src wx sb
  only : Only sb (sb + 1) w wx
/-- before them -/
structure Sp0 (w wx : World) (sb mb ga n c hi N : Nat) (us : List Value) (d : List (List Int)) : Prop where
  row : OwR (OwS 2) wx (w.heap.size + 1) hi 38 (some ⟨ga, 0, none⟩) n c us d
  box : Blk wx mb 26 #[.slice (some ⟨ga, 0, none⟩) n c]
  res : Blk wx w.heap.size 26 #[.slice none 0 0]
  src : Src wx sb
  only : Only sb (sb + 1) w wx
  sq : Sq d N
  n5 : 1 ≤ n ∧ n ≤ 5
  N4 : 1 ≤ N ∧ N ≤ 400
  at_ : w.heap.size + 1 ≤ hi ∧ hi ≤ mb ∧ mb < wx.heap.size
section
variable {w wx wy : World} {sb mb ga n c hi N : Nat} {us : List Value} {d : List (List Int)}
theorem Sp0.next (h : Sp0 w wx sb mb ga n c hi N us d) (hs : sb < w.heap.size) (s : Src wy sb) (o : Only sb (sb + 1) wx wy) : Sp0 w wy sb mb ga n c hi N us d := by
  have ha := h.at_
  exact ⟨h.row.same (innerS _) fun g h1 _ h3 => o.block g h3 (.inr (by omega)), h.box.only o (.inr (by omega)), h.res.only o (.inr (by omega)), s, h.only.trans o, h.sq, h.n5, h.N4, by have := o.size; omega⟩
theorem Sp0.below (h : Sp0 w wx sb mb ga n c hi N us d) (hs : sb < w.heap.size) (b : Below wx.heap.size wx wy) : Sp0 w wy sb mb ga n c hi N us d :=
  h.next hs (src_belowL h.src (by have := h.at_; omega) b) (only_of_below b)
theorem Sp0.same (h : Sp0 w wx sb mb ga n c hi N us d) (hs : sb < w.heap.size) : SpS w wx sb mb (some ⟨ga, 0, none⟩) n c d := by
  have hn := h.n5
  have hN := h.N4
  have hl := h.row.len
  exact ⟨h.box, h.row.rdlo, sq_few h.sq (by omega) (by omega), by omega, h.res, h.src, h.only⟩
/-- the first row -/
theorem Sp0.head (h : Sp0 w wx sb mb ga n c hi N us d) : ∃ (g0 c0 : Nat) (z0 : List Int), us[0]? = some (.slice (some ⟨g0, 0, none⟩) N c0) ∧ d[0]? = some z0 ∧ z0.length = N ∧ w.heap.size + 1 ≤ g0 ∧ g0 < hi ∧ g0 ≠ ga := by
  have hn := h.n5
  have hN := h.N4
  obtain ⟨u, z, hu, hz, ⟨a0, n0, c0, rfl, ow⟩, hin⟩ := h.row.get (j := 0) (by omega)
  have hzl : z.length = N := by
    have := (h.sq (lget d 0) (by rw [lget_lt (by have := h.row.len; omega)]; exact List.getElem_mem _)).1
    have e : lget d 0 = z := by rw [lget_lt (by have := h.row.len; omega)]; rw [List.getElem?_eq_getElem (by have := h.row.len; omega)] at hz; exact Option.some.inj hz
    rw [e] at this; exact this
  have hn0 : n0 = N := by have := ow.len; rw [List.length_map] at this; omega
  subst hn0
  obtain ⟨g0, e0, -, -, -, -, -⟩ := ow.form (by omega)
  subst e0
  have := hin g0 (ownB_lit _ _ _)
  exact ⟨g0, c0, z, hu, hz, hzl, this.1, this.2, fun e => h.row.out 0 _ g0 hu (ownB_lit _ _ _) (by rw [e]; rfl)⟩
theorem Sp0.own0 (h : Sp0 w wx sb mb ga n c hi N us d) {g0 c0 : Nat} {z0 : List Int} (hu : us[0]? = some (.slice (some ⟨g0, 0, none⟩) N c0)) (hz : d[0]? = some z0) : Own wx 0 2 (some ⟨g0, 0, none⟩) N c0 (z0.map (Value.int .i64)) ∧ wx.cell? ⟨ga, 0, none⟩ = some (.slice (some ⟨g0, 0, none⟩) N c0) := by
  obtain ⟨a', n', c', e, ow⟩ := h.row.el 0 _ _ hu hz
  injection e with e1 e2 e3
  subst e1 e2 e3
  exact ⟨ow, h.row.cell hu⟩
theorem OwR.sameC {D : Type} {Ow1 : World → Value → D → Prop} {w w' : World} {lo hi E n c : Nat} {ao : Option Addr} {us : List Value} {ds : List D} (I : Inner Ow1) (h : OwR Ow1 w lo hi E ao n c us ds) (h1 : ∀ g, bk ao = some g → w'.heap[g]? = w.heap[g]?) (h2 : ∀ (j : Nat) (u : Value) (g : Nat), us[j]? = some u → u.ownBlock = some g → w'.heap[g]? = w.heap[g]?) : OwR Ow1 w' lo hi E ao n c us ds :=
  { own := h.own.same h1, top := h.top, len := h.len, rng := h.rng, out := h.out, apart := h.apart
    el := fun j u d hu hd => I.loc (h.el j u d hu hd) fun g hg => h2 j u g hu hg }
/-- another row, drawn since -/
theorem Sp0.push (h : Sp0 w wx sb mb ga n c hi N us d) (hs : sb < w.heap.size) {am ao7 : Option Addr} {cm c7 lm : Nat} {zs : List Int} {w7 : World} (hzl : zs.length ≤ 1000) (om : Own wx lm 2 am N cm (zs.map (Value.int .i64))) (hlm : mb < lm)
    (o7 : Own w7 (w.heap.size + 1) 38 ao7 (n + 1) c7 (us ++ [.slice am N cm])) (g7 : (wx.alloc (.cells #[.slice am N cm] 38)).grownBy w7 (some ga)) (hat7 : bk ao7 = some ga ∨ ∃ g, bk ao7 = some g ∧ wx.heap.size ≤ g) :
    SpS w (w7.setCell ⟨mb, 0, none⟩ (.slice ao7 (n + 1) c7)) sb mb ao7 (n + 1) c7 (d ++ [zs]) := by
  have ha := h.at_
  have hn := h.n5
  have hN := h.N4
  have hl := h.row.len
  have hga : ga < hi := h.row.top ga rfl
  have hgl : w.heap.size + 1 ≤ ga := (h.row.own.lt ga rfl).1
  have g0 : wx.grownBy w7 (some ga) := grown_tr (World.grownBy_alloc wx (.cells #[.slice am N cm] 38) (some ga)) g7
  have hz7 := g0.size
  have hus : ∀ (j : Nat) (u : Value) (g : Nat), us[j]? = some u → u.ownBlock = some g → w.heap.size + 1 ≤ g ∧ g < hi := fun j u g hu hg => h.row.rng j u hu g hg
  have hm7 : OwS 2 w7 (.slice am N cm) zs := ⟨_, _, _, rfl, (om.same (w' := w7) fun g e => g0.block g (om.lt g e).2 (fun q => by injection q with q; have := (om.lt g e).1; omega)).mono (Nat.zero_le _)⟩
  have hR := h.row.push (innerS _) (hi' := w7.heap.size) o7 g0 hm7 (in_slice fun g e => by have := om.lt g e; omega) (fun g e => (o7.lt g e).2) (by omega) (fun g e => by
      rcases hat7 with q | ⟨g', q, hg'⟩
      · rw [q] at e; exact .inl e
      · rw [q] at e; injection e with e; exact .inr fun j u hu hg => by have := hus j u g hu hg; omega) (fun g e => by
      rw [ownBlock_slice] at e
      have hg := om.lt g e
      refine ⟨fun q => ?_, fun j u hu hq => by have := hus j u g hu hq; omega⟩
      rcases hat7 with q' | ⟨g', q', hg'⟩
      · rw [q'] at q; injection q with q; omega
      · rw [q'] at q; injection q with q; omega)
  have hR2 : OwR (OwS 2) (w7.setCell ⟨mb, 0, none⟩ (.slice ao7 (n + 1) c7)) (w.heap.size + 1) w7.heap.size 38 ao7 (n + 1) c7 (us ++ [.slice am N cm]) (d ++ [zs]) := hR.sameC (innerS _) (fun g e => Below.heap_setCell _ _ _ g (by
      show g ≠ mb
      rcases hat7 with q | ⟨g', q, hg'⟩
      · rw [q] at e; injection e with e; omega
      · rw [q] at e; injection e with e; omega)) (fun j u g hu hg => Below.heap_setCell _ _ _ g (by
      show g ≠ mb
      rw [List.getElem?_append] at hu
      split at hu
      · have := hus j u g hu hg; omega
      · rename_i hj
        have : u = .slice am N cm := by
          cases hk : j - us.length with
          | zero => rw [hk] at hu; simpa using hu.symm
          | succ k => rw [hk] at hu; simp at hu
        subst this
        rw [ownBlock_slice] at hg
        have := (om.lt g hg).1
        omega))
  have hf := (sq_few h.sq (by omega) (by omega)).2
  have kb : Blk w7 mb 26 #[.slice (some ⟨ga, 0, none⟩) n c] := (g0.block mb (by omega) (fun e => by injection e with e; omega)).trans h.box
  have kr : Blk w7 w.heap.size 26 #[.slice none 0 0] := (g0.block _ (by omega) (fun e => by injection e with e; omega)).trans h.res
  have oc := only_set w7 mb 0 (.slice ao7 (n + 1) c7)
  refine ⟨by simpa using kb.set_ 0 (.slice ao7 (n + 1) c7), hR2.rdlo, ⟨by rw [List.length_append, List.length_singleton]; omega, fun i hi => ?_⟩, by omega, kr.only oc (.inl (by omega)), src_farL (h.src.grown g0 (fun g e => by injection e with e; omega)) fun g hg => Below.heap_setCell _ _ _ g (by show g ≠ mb; omega), only_cell (only_grown h.only g0 (fun g e => by injection e with e; omega)) (by show w.heap.size ≤ mb; omega) _⟩
  rw [List.length_append, List.length_singleton] at hi
  by_cases e : i < d.length
  · have : lget (d ++ [zs]) i = lget d i := by rw [lget_lt (by simp; omega), lget_lt e, List.getElem_append_left e]
    rw [this]; exact hf i e
  · have : lget (d ++ [zs]) i = zs := by rw [lget_lt (by simp; omega), List.getElem_append_right (by omega)]; simp
    rw [this]; omega
theorem Sp0.blk7 (h : Sp0 w wx sb mb ga n c hi N us d) {o : Obj} {w7 : World} (g7 : (wx.alloc o).grownBy w7 (bk (some ⟨ga, 0, none⟩))) : Blk w7 mb 26 #[.slice (some ⟨ga, 0, none⟩) n c] := by
  have ha := h.at_
  have hga : ga < hi := h.row.top ga rfl
  have g0 : wx.grownBy w7 (some ga) := grown_tr (World.grownBy_alloc wx o (some ga)) g7
  exact (g0.block mb (by omega) (fun e => by injection e with e; omega)).trans h.box
theorem rdlo_nil {w : World} {lo c : Nat} {a : Option Addr} : RdLo w lo (.slice a 0 c) [] := fun _ _ _ => ⟨a, c, rfl, by simp, fun h => absurd h (by simp)⟩
theorem SpS.below {a : Option Addr} (h : SpS w wx sb mb a n c d) (hs : sb < wx.heap.size) (b : Below wx.heap.size wx wy) : SpS w wy sb mb a n c d :=
  ⟨h.box.belowS b, h.rd.below b, h.few, h.n6, h.res.belowS b, src_belowL h.src hs b, only_below h.only b⟩
/-- the first row has grown by one number -/
theorem Sp0.stretch (h : Sp0 w wx sb mb ga n c hi N us d) (hs : sb < w.heap.size) {g0 c0 c7 : Nat} {z0 : List Int} (hu : us[0]? = some (.slice (some ⟨g0, 0, none⟩) N c0)) (hz : d[0]? = some z0) (h1 : w.heap.size + 1 ≤ g0) (h2 : g0 < hi) {ao7 : Option Addr} {w7 : World} {x : Int}
    (o7 : Own w7 0 2 ao7 (N + 1) c7 (z0.map (Value.int .i64) ++ [.int .i64 x])) (g7 : wx.grownBy w7 (some g0)) (hat7 : bk ao7 = some g0 ∨ ∃ g, bk ao7 = some g ∧ wx.heap.size ≤ g) :
    SpS w (w7.setCell ⟨ga, 0, none⟩ (.slice ao7 (N + 1) c7)) sb mb (some ⟨ga, 0, none⟩) n c (d.set 0 (z0 ++ [x])) := by
  have ha := h.at_
  have hn := h.n5
  have hN := h.N4
  have hl := h.row.len
  have hga : ga < hi := h.row.top ga rfl
  have hgl : w.heap.size + 1 ≤ ga := (h.row.own.lt ga rfl).1
  obtain ⟨ow, -⟩ := h.own0 hu hz
  have hzl : z0.length = N := by have := ow.len; rw [List.length_map] at this; omega
  have hr := h.row.put (innerS _) hu (by rw [ownB_lit]; exact g7) (⟨_, _, _, rfl, by rw [List.map_append]; exact o7⟩ : OwS 2 w7 (.slice ao7 (N + 1) c7) (z0 ++ [x])) (.inr (by rw [ownBlock_slice, ownB_lit]; exact hat7)) (by omega) (by omega)
  have oc := only_set w7 ga 0 (.slice ao7 (N + 1) c7)
  have kb : Blk w7 mb 26 #[.slice (some ⟨ga, 0, none⟩) n c] := (g7.block mb (by omega) (fun e => by injection e with e; omega)).trans h.box
  have kr : Blk w7 w.heap.size 26 #[.slice none 0 0] := (g7.block _ (by omega) (fun e => by injection e with e; omega)).trans h.res
  refine ⟨kb.only oc (.inr (by omega)), hr.rdlo, ⟨by rw [List.length_set]; omega, fun i hi => ?_⟩, by omega, kr.only oc (.inl (by omega)), src_farL (h.src.grown g7 (fun g e => by injection e with e; omega)) fun g hg => Below.heap_setCell _ _ _ g (by show g ≠ ga; omega), only_cell (only_grown h.only g7 (fun g e => by injection e with e; omega)) (by show w.heap.size ≤ ga; omega) _⟩
  have hf := (sq_few h.sq (by omega) (by omega)).2
  rw [List.length_set] at hi
  by_cases e : i = 0
  · subst e
    rw [lget_lt (by rw [List.length_set]; exact hi)]; simp; omega
  · have : lget (d.set 0 (z0 ++ [x])) i = lget d i := by
      rw [lget_lt (by rw [List.length_set]; exact hi), lget_lt hi, List.getElem_set_ne (fun h => e h.symm)]
    rw [this]; exact hf i hi
/-- all rows but the first one -/
theorem RdSSc.tail1 {wz : World} {g n c : Nat} {d : List (List Int)} (h : RdSSc wz (.slice (some ⟨g, 0, none⟩) n c) d) (hn : 1 < n) : RdSSc wz (.slice (some ⟨g, 1, none⟩) (n - 1) (c - 1)) (d.drop 1) := by
  have hdl := h.intss.1
  obtain ⟨a, c', e, h1, h2⟩ := h
  injection e with e1 e2 e3
  subst e3
  obtain ⟨h3, b, off, e4, hb, h5⟩ := h2 (by omega)
  rw [← e1] at e4
  injection e4 with e4
  injection e4 with e5 e6
  subst e5 e6
  have hl : (d.drop 1).length = n - 1 := by simp; omega
  refine ⟨some ⟨g, 1, none⟩, c - 1, by rw [hl], by omega, fun _ => ⟨by omega, g, 1, rfl, hb, fun j hj => ?_⟩⟩
  obtain ⟨a', k, h6, h7, h8⟩ := h5 (j + 1) (by omega)
  have e : lget (d.drop 1) j = lget d (j + 1) := by rw [lget_lt hj, lget_lt (by omega)]; simp [Nat.add_comm]
  rw [e, show 1 + j = 0 + (j + 1) by omega]
  exact ⟨a', k, h6, h7, h8⟩
theorem few_drop {d : List (List Int)} (h : FewSS d) : FewSS (d.drop 1) := ⟨by simp; have := h.1; omega, fun i hi => by
  have hi2 : i + 1 < d.length := by simp at hi; omega
  have e : lget (d.drop 1) i = lget d (i + 1) := by rw [lget_lt hi, lget_lt hi2]; simp [Nat.add_comm]
  rw [e]; exact h.2 _ hi2⟩
theorem row_stepD {P : Program} {S E : TypeId} {z : Value} {bytes : Nat} (et : ET P S E z bytes) {ops : Array Oper} {o : Oper} {a : Act} {Q : Exit → Act → World → Prop} {w0 : World} {K : Act → World → Prop} {X : Prop} (hg : o.guard = none) (s x : Operand) (ho : o.op = .call { callee := .builtin .append, args := #[s, x], argTypes := #[S, S] })
    (lo : Nat) (ao : Option Addr) (n c : Nat) (us : List Value) (hs : a.eval s = .slice ao n c) (hown : Own w0 lo E ao n c us) (u : Value) (hx : a.eval x = .slice (some ⟨w0.heap.size, 0, none⟩) 1 1) (hu : u.oneCell' = true) (hn : n + 1 ≤ 4398046511104) (hlo : lo ≤ w0.heap.size)
    (h : ∀ ao' c' w', Own w' lo E ao' (n + 1) c' (us ++ [u]) → w0.grownBy w' (bk ao) → (bk ao' = bk ao ∨ ∃ g, bk ao' = some g ∧ w0.heap.size ≤ g) → K (a.put o.dst (.slice ao' (n + 1) c')) w') : if Region.wanted o (yielded ops a.tmps) = true then Oper.wp P o a (w0.alloc (.cells #[u] E)).drew K Q else X := by
  have ho' : Own (w0.alloc (.cells #[u] E)).drew lo E ao n c us := hown.alloc (.cells #[u] E)
  have e1 : (w0.alloc (.cells #[u] E)).drew.heap.size = w0.heap.size + 1 := by simp
  refine step_ap1 et hg s x ho lo ao n c us hs ho' u w0.heap.size 1 hx ?_ hu hn (by omega) ?_
  · exact (blk_at (w := w0) (t := E) (cs := #[u]) (k := w0.heap.size) rfl).cell 0
  · intro ao' c' w' o' g' hat
    have g1 : w0.grownBy (w0.alloc (.cells #[u] E)).drew (bk ao) := by
      have := World.grownBy_alloc w0 (.cells #[u] E) (bk ao)
      exact ⟨this.os, this.tape, this.output, this.size, this.block⟩
    exact h ao' c' w' o' (grown_tr g1 g') (hat.imp id fun e => ⟨_, e, by omega⟩)
theorem Sp0.gr7 (_ : Sp0 w wx sb mb ga n c hi N us d) {o : Obj} {w7 : World} {r : Option Nat} (g7 : (wx.drew.alloc o).grownBy w7 r) : wx.grownBy w7 r := by
  refine grown_tr ?_ g7
  have := World.grownBy_alloc wx.drew o r
  exact ⟨this.os, this.tape, this.output, this.size, this.block⟩
theorem Sp0.cel7 (h : Sp0 w wx sb mb ga n c hi N us d) {g0 : Nat} (hne : g0 ≠ ga) {w7 : World} (g7 : wx.grownBy w7 (some g0)) : w7.cell? ⟨ga, 0, none⟩ = wx.cell? ⟨ga, 0, none⟩ ∧ w7.frozen? ⟨ga, 0, none⟩ = false := by
  have hn := h.n5
  have hb : w7.heap[ga]? = wx.heap[ga]? := g7.block ga ((h.row.own.lt ga rfl).2) (fun e => by injection e with e; omega)
  have ow : Own w7 (w.heap.size + 1) 38 (some ⟨ga, 0, none⟩) n c us := h.row.own.same fun g e => by
    have e : ga = g := by simpa [bk] using e
    subst e; exact hb
  obtain ⟨g', e, -, -, -, -, hf⟩ := ow.form (by omega)
  injection e with e; injection e with e; subst e
  exact ⟨World.cell?_of_block hb, hf 0⟩
theorem Sp0.bl7 (h : Sp0 w wx sb mb ga n c hi N us d) {g0 : Nat} (hg : g0 < hi) {w7 : World} (g7 : wx.grownBy w7 (some g0)) : Blk w7 mb 26 #[.slice (some ⟨ga, 0, none⟩) n c] := by
  have ha := h.at_
  exact (g7.block mb (by omega) (fun e => by injection e with e; omega)).trans h.box
theorem OwR.cap_le {w : World} {lo hi g n c : Nat} {us : List Value} {ds : List (List Int)} (h : OwR (OwS 2) w lo hi 38 (some ⟨g, 0, none⟩) n c us ds) : n ≤ c := by
  rcases Nat.eq_zero_or_pos n with q | q
  · omega
  · obtain ⟨g', e, -, -, hc, -, -⟩ := h.own.form q
    omega
theorem Sp0.tailBox (h : Sp0 w wx sb mb ga n c hi N us d) {u : Value} (hn : 1 < n) : RdLo (wx.setCell ⟨mb, 0, none⟩ u) (w.heap.size + 1) (.slice (some ⟨ga, 1, none⟩) (n - 1) (c - 1)) (d.drop 1) := by
  have ha := h.at_
  have hga : ga < hi := h.row.top ga rfl
  have hR2 : OwR (OwS 2) (wx.setCell ⟨mb, 0, none⟩ u) (w.heap.size + 1) hi 38 (some ⟨ga, 0, none⟩) n c us d := h.row.same (innerS _) fun g h1 h2 _ => Below.heap_setCell _ _ _ g (by show g ≠ mb; omega)
  exact hR2.rdlo.map fun wz hz => hz.tail1 hn
/-- a number of the first row is turned -/
theorem Sp0.poke (h : Sp0 w wx sb mb ga n c hi N us d) (hs : sb < w.heap.size) {g0 c0 : Nat} {z0 : List Int} (hu : us[0]? = some (.slice (some ⟨g0, 0, none⟩) N c0)) (hz : d[0]? = some z0) (h1 : w.heap.size + 1 ≤ g0) (h2 : g0 < hi) (q : Nat) (x : Int) :
    SpS w (wx.setCell ⟨g0, q, none⟩ (.int .i64 x)) sb mb (some ⟨ga, 0, none⟩) n c (d.set 0 (z0.set q x)) := by
  have ha := h.at_
  have hn := h.n5
  have hN := h.N4
  have hl := h.row.len
  obtain ⟨ow, -⟩ := h.own0 hu hz
  obtain ⟨s1, s2⟩ := ow.stored q (.int .i64 x)
  rw [← List.map_set] at s1
  have hr := h.row.upd (innerS _) hu (by rw [ownB_lit]; exact s2) (⟨_, _, _, rfl, s1⟩ : OwS 2 _ (.slice (some ⟨g0, 0, none⟩) N c0) (z0.set q x))
  have hzl : z0.length ≤ 400 := by have := ow.len; rw [List.length_map] at this; omega
  refine ⟨(s2.block mb (by omega) (fun e => by injection e with e; omega)).trans h.box, hr.rdlo, ⟨by rw [List.length_set]; omega, fun i hi => ?_⟩, by omega, (s2.block _ (by omega) (fun e => by injection e with e; omega)).trans h.res, h.src.grown s2 (fun g e => by injection e with e; omega), only_grown h.only s2 (fun g e => by injection e with e; omega)⟩
  have hf := (sq_few h.sq (by omega) (by omega)).2
  rw [List.length_set] at hi
  by_cases e : i = 0
  · subst e
    rw [lget_lt (by rw [List.length_set]; exact hi)]; simp; omega
  · have : lget (d.set 0 (z0.set q x)) i = lget d i := by
      rw [lget_lt (by rw [List.length_set]; exact hi), lget_lt hi, List.getElem_set_ne (fun h => e h.symm)]
    rw [this]; exact hf i hi
theorem SpS.fin {a : Option Addr} (h : SpS w wx sb mb a n c d) (hs : sb < w.heap.size) : MxR w (wx.setCell ⟨w.heap.size, 0, none⟩ (.slice a n c)) sb a n c d :=
  ⟨(h.rd.setBox (.inl (Nat.lt_succ_self _)) _).mono (Nat.le_succ _), h.few, src_farL h.src fun g hg => Below.heap_setCell _ _ _ g (by show g ≠ w.heap.size; omega), only_cell h.only (Nat.le_refl _) _⟩
/-- the box holds other rows now -/
theorem Sp0.box_ (h : Sp0 w wx sb mb ga n c hi N us d) (hs : sb < w.heap.size) {a' : Option Addr} {n' c' : Nat} {d' : List (List Int)} (hf : FewSS d') (hn : n' ≤ 6) (hrb : RdLo (wx.setCell ⟨mb, 0, none⟩ (.slice a' n' c')) (w.heap.size + 1) (.slice a' n' c') d') :
    SpS w (wx.setCell ⟨mb, 0, none⟩ (.slice a' n' c')) sb mb a' n' c' d' := by
  have ha := h.at_
  have oc := only_set wx mb 0 (.slice a' n' c')
  exact ⟨by simpa using h.box.set_ 0 (.slice a' n' c'), hrb, hf, hn, h.res.only oc (.inl (by omega)), src_farL h.src fun g hg => Below.heap_setCell _ _ _ g (by show g ≠ mb; omega), only_cell h.only (by show w.heap.size ≤ mb; omega) _⟩
end
set_option maxRecDepth 100000 in
set_option maxHeartbeats 6400000 in
theorem spoil_any (sb most : Nat) (w : World) (h : Src w sb) (hsb : sb < w.heap.size) (hm8 : 8 ≤ most) (hm4 : most ≤ 400) :
    Calls Tryz.prog 68 #[.pointer (some ⟨sb, 0, none⟩), .int .i64 most] w fun e w' => ∃ a n c d, e = .returned (.agg #[.slice a n c]) ∧ MxR w w' sb a n c d ∧ n ≤ 6 := by
  have b1 := below_alloc1 w (.cells #[.slice none 0 0] 26)
  have k1 : Blk (w.alloc (.cells #[.slice none 0 0] 26)) w.heap.size 26 #[.slice none 0 0] := blk_at rfl
  have hz1 : w.heap.size + 1 = (w.alloc (.cells #[.slice none 0 0] 26)).heap.size := by simp
  have S1 := Lib.hid (src_belowL h hsb b1)
  have O1 := Lib.hid (only_of_below (sb := sb) b1)
  have K1 := Lib.hid k1
  clear b1 k1 h
  go_enter Tryz.func68, Tryz.ntmps68
  go_upto_region 1 with fail
  generalize w.alloc (.cells #[.slice none 0 0] 26) = w1 at *
  go_wp2_with fail
  refine (drawS_any sb most w1 S1.out (by omega) hm8 hm4).mono ?_
  rintro e w2 ⟨a2, n, c2, d, N, rfl, m2, hn1, hn5, hNm⟩
  obtain ⟨a', n', c', us, e, hor⟩ := id m2.ow
  have e2 : (.slice a2 n c2 : Value) = .slice a' n' c' := by
    injection e with e
    have := congrArg (fun x : Array Value => x[0]?) e
    simpa using this
  injection e2 with e3 e4 e5
  subst e3 e4 e5
  obtain ⟨ga, rfl, -, -, -, -, -⟩ := hor.own.form (by omega)
  have kA := below_alloc1 w2 (.cells #[.slice (some ⟨ga, 0, none⟩) n c2] 26)
  have z12 := m2.only.size
  have H3 := Lib.hid (show Sp0 w (w2.alloc (.cells #[.slice (some ⟨ga, 0, none⟩) n c2] 26)) sb w2.heap.size ga n c2 w2.heap.size N us d from
    ⟨(hor.below (innerS _) kA).mono (by omega) (Nat.le_refl _), blk_at rfl, (K1.out.only m2.only (.inr (by omega))).alloc _, src_belowL m2.src (by omega) kA, (O1.out.trans m2.only).trans (only_of_below kA), m2.sq, by omega, by have := m2.pos; omega, by simp; omega⟩)
  clear m2 kA K1 S1 O1 hor e
  go_upto_region 2 with fail
  generalize w2.alloc (.cells #[.slice (some ⟨ga, 0, none⟩) n c2] 26) = w3 at *
  have y3 := H3.out.box.cell 0
  simp at y3
  have hl0 : (lget d 0).length = N := H3.out.sq.leads.len 0 (by have := H3.out.row.len; omega)
  have hN14 := H3.out.N4
  go_wp2_with fail
  refine (flagsS_any (some ⟨ga, 0, none⟩) n c2 N d w3 (OwSS.rdc ⟨_, _, _, _, rfl, H3.out.row⟩).rd (by omega) hl0 (by omega)).mono ?_
  rintro e w4 ⟨rfl, b4⟩
  have H4 := Lib.hid (H3.out.below hsb b4)
  clear y3 b4 H3
  go_wp2_with fail
  refine (next_any sb _ _ H4.out.src (by omega)).mono ?_
  rintro e w5 ⟨r, rfl, -, -, s5, o5⟩
  have H5 := Lib.hid (H4.out.next hsb s5 o5)
  clear s5 o5 H4
  go_upto_block 0 with (fail)
  go_cut [] (fun wx => ∃ a n c d, SpS w wx sb w2.heap.size a n c d)
  case first =>
    obtain ⟨g0, c0, z0, hu, hz, hzl, hg1, hg2, hga⟩ := H5.out.head
    have HU := Lib.hid hu
    have HZ := Lib.hid hz
    have hat := H5.out.at_
    clear hu hz
    by_cases hr0 : r = 0
    · subst hr0
      have y5 := H5.out.box.cell 0
      have x5 := (H5.out.own0 HU.out HZ.out).2
      simp at y5
      have hn0i : 0 < n := by omega
      have H5A := H5.out.below hsb (below_alloc1 w5 (.cells #[.int .i64 (-1), .int .i64 (N : Int), .int .i64 0] 2))
      have y5A : (w5.alloc (.cells #[.int .i64 (-1), .int .i64 (N : Int), .int .i64 0] 2)).cell? ⟨w2.heap.size, 0, none⟩ = some (.slice (some ⟨ga, 0, none⟩) n c2) := H5A.box.cell 0
      have x5A := (H5A.own0 HU.out HZ.out).2
      clear H5A
      go_upto_region 5 with fail
      go_region_law (first
        | (go_simp; go_at_call 83; refine (pick_any sb _ 3 3 [-1, (N : Int), 0] _ H7.out.src IL.out (by omega) (by omega) (fun e => by simp [bk] at e; omega)).mono ?_; rintro e w8 ⟨u, -, rfl, s8, o8⟩; have H8 := Lib.hid (H7.out.next hsb s8 o8); have y8 := H8.out.box.cell 0; have x8 := (H8.out.own0 HU.out HZ.out).2; have v8 := own_int (H8.out.own0 HU.out HZ.out).1 hqN; obtain ⟨g', eg, -, -, -, -, hf8⟩ := (H8.out.own0 HU.out HZ.out).1.form (by omega); injection eg with eg; injection eg with eg; subst eg; have f8 := hf8 q; simp at y8; generalize iget [-1, (N : Int), 0] u = X at *; clear hf8 s8 o8)
        | (go_simp; go_at_call 83; refine (pick_any sb _ 3 3 [-1, (N : Int), 0] w6 H6.out.src IL6.out (by omega) (by omega) (fun e => by simp [bk] at e; omega)).mono ?_; rintro e w8 ⟨u, -, rfl, s8, o8⟩; have H8 := Lib.hid (H6.out.next hsb s8 o8); have y8 := H8.out.box.cell 0; have x8 := (H8.out.own0 HU.out HZ.out).2; have v8 := own_int (H8.out.own0 HU.out HZ.out).1 hqN; obtain ⟨g', eg, -, -, -, -, hf8⟩ := (H8.out.own0 HU.out HZ.out).1.form (by omega); injection eg with eg; injection eg with eg; subst eg; have f8 := hf8 q; simp at y8; generalize iget [-1, (N : Int), 0] u = X at *; clear hf8 s8 o8)
        | (go_simp; go_at_call 38; refine (next_any sb (N : Int) (w5.alloc (.cells #[.int .i64 (-1), .int .i64 (N : Int), .int .i64 0] 2)).drew (src_belowL H5.out.src (by omega) (below_alloc1 w5 _).drew) (by omega)).mono ?_; rintro e w6 ⟨q, rfl, -, q3, s6, o6⟩; have hqN : q < N := (by have := q3 (by omega); omega); have H6 := Lib.hid (H5.out.next hsb s6 ((only_of_below (below_alloc1 w5 _).drew).trans o6)); have y6 := H6.out.box.cell 0; have x6 := (H6.out.own0 HU.out HZ.out).2; simp at y6; have IL6 := Lib.hid (((own_rowL (w := w5) (zs := [-1, (N : Int), 0]) (us := [.int .i64 (-1), .int .i64 (N : Int), .int .i64 0]) (k := 3) rfl rfl rfl (by simp)).drewN 1).same (fun g e => o6.block g (by simp [bk] at e; subst e; simp) (.inr (by simp [bk] at e; omega)))).ints; have hqi : (q : Int) < (N : Int) := (by omega); clear q3 s6 o6)
        | (go_simp; go_at_call 38; refine (next_any sb (N : Int) w5.drew (src_belowL H5.out.src (by omega) (below_drew1 w5)) (by omega)).mono ?_; rintro e w6 ⟨q, rfl, -, q3, s6, o6⟩; have hqN : q < N := (by have := q3 (by omega); omega); have H6 := Lib.hid (H5.out.next hsb s6 ((only_of_below (below_drew1 w5)).trans o6)); have y6 := H6.out.box.cell 0; have x6 := (H6.out.own0 HU.out HZ.out).2; simp at y6; have hz6 := H6.out.at_; have kA := below_alloc1 w6 (.cells #[.int .i64 (-1), .int .i64 (N : Int), .int .i64 0] 2); have H7 := Lib.hid (H6.out.below hsb kA); have IL := Lib.hid (own_rowL (w := w6) (zs := [-1, (N : Int), 0]) (us := [.int .i64 (-1), .int .i64 (N : Int), .int .i64 0]) (k := 3) rfl rfl rfl (by simp)).ints; have y7 := H7.out.box.cell 0; have x7 := (H7.out.own0 HU.out HZ.out).2; simp at y7; have hqi : (q : Int) < (N : Int) := (by omega); clear kA q3 s6 o6))
      all_goals
        have HP := Lib.hid (H8.out.poke hsb HU.out HZ.out hg1 hg2 q X)
        go_wp2_with fail
        go_meet
      all_goals exact ⟨_, _, _, _, HP.out⟩
    · by_cases hr1 : r = 1
      · subst hr1
        have y5 := H5.out.box.cell 0
        simp at y5
        obtain ⟨A2, hA⟩ : ∃ A2 : Option Addr, some ⟨ga, 0, none⟩ = A2 := ⟨_, rfl⟩
        rw [hA] at y5
        rw [hA]
        have HAA := Lib.hid hA
        clear hA
        go_upto_region 7 with fail
        go_region_law (first
          | (go_simp; go_at_call 64; refine (matching_any sb N w5.drew (src_belowL H5.out.src (by omega) (below_drew1 w5)) (show sb < w5.heap.size by omega) (by omega) (by omega)).mono ?_; rintro e w6 ⟨am, cm, rfl, gs⟩; have H6 := Lib.hid (H5.out.next hsb gs.src ((only_of_below (below_drew1 w5)).trans gs.only)); have y6 := H6.out.box.cell 0; simp at y6; rw [HAA.out] at y6; have hz6 := H6.out.at_; have hz56 : w5.heap.size ≤ w6.heap.size := gs.only.size; obtain ⟨zs, zl, -, om⟩ := gs.gl; have OM := Lib.hid om; clear gs om)
          | (refine row_step (o := ⟨some 36, _, _, _, _, _⟩) etSS rfl (.tmp 31) (.tmp 35) rfl (w.heap.size + 1) A2 n c2 us rfl (by rw [← HAA.out]; exact H6.out.row.own) (.slice am N cm) rfl rfl (by omega) (by have := H6.out.at_; omega) ?_; intro ao7 c7 w7 o7 g7 hat7; rw [← HAA.out] at g7 hat7; have k7 := H6.out.blk7 g7; have y7 := k7.cell 0; have f7 := k7.frozen 0; simp at y7))
        all_goals
          have HP := Lib.hid (H6.out.push hsb (show zs.length ≤ 1000 by omega) OM.out (show w2.heap.size < w5.drew.heap.size from hat.2.2) o7 g7 hat7)
          clear o7 g7 hat7
          go_wp2_with fail
          go_meet
        all_goals exact ⟨_, _, _, _, HP.out⟩
      · by_cases hr2 : r = 2
        · subst hr2
          have y5 := H5.out.box.cell 0
          have f5 := H5.out.box.frozen 0
          simp at y5
          have hmb := hat.2.2
          have kA := below_alloc1 w5 (.cells #[] 38)
          have HP1 := Lib.hid ((H5.out.below hsb kA).box_ hsb (a' := some ⟨w5.heap.size, 0, none⟩) (n' := 0) (c' := 0) (d' := []) ⟨by simp, fun i hi => by simp at hi⟩ (by omega) rdlo_nil)
          have HP2 := Lib.hid ((H5.out.box_ hsb (a' := some ⟨w5.heap.size, 0, none⟩) (n' := 0) (c' := 0) (d' := []) ⟨by simp, fun i hi => by simp at hi⟩ (by omega) rdlo_nil).below (by simp [World.setCell]; omega) (below_alloc1 _ (.cells #[] 38)))
          clear kA
          go_wp2_with fail
          go_meet
          case rel => first | exact ⟨_, _, _, _, HP1.out⟩ | exact ⟨_, _, _, _, HP2.out⟩
        · by_cases hr3 : r = 3
          · subst hr3
            have y5 := H5.out.box.cell 0
            have x5 := (H5.out.own0 HU.out HZ.out).2
            simp at y5
            have hn0i : 0 < n := by omega
            have H5A := H5.out.below hsb (below_alloc1 w5 (.cells #[.int .i64 (N : Int)] 2))
            have y5A : (w5.alloc (.cells #[.int .i64 (N : Int)] 2)).cell? ⟨w2.heap.size, 0, none⟩ = some (.slice (some ⟨ga, 0, none⟩) n c2) := H5A.box.cell 0
            have x5A := (H5A.own0 HU.out HZ.out).2
            clear H5A
            have K0 := Lib.hid (show w5.drew.cell? ⟨w2.heap.size, 0, none⟩ = some (.slice (some ⟨ga, 0, none⟩) n c2) ∧ w5.drew.cell? ⟨ga, 0, none⟩ = some (.slice (some ⟨g0, 0, none⟩) N c0) from ⟨y5, x5⟩)
            have KA := Lib.hid (show (w5.drew.alloc (.cells #[.int .i64 (N : Int)] 2)).cell? ⟨w2.heap.size, 0, none⟩ = some (.slice (some ⟨ga, 0, none⟩) n c2) ∧ (w5.drew.alloc (.cells #[.int .i64 (N : Int)] 2)).cell? ⟨ga, 0, none⟩ = some (.slice (some ⟨g0, 0, none⟩) N c0) from ⟨y5A, x5A⟩)
            go_upto_region 11 with fail
            go_region_law (first
              | (refine row_step (w0 := w5.drew) (o := ⟨some 52, _, _, _, _, _⟩) etI rfl (.tmp 49) (.tmp 51) rfl 0 (some ⟨g0, 0, none⟩) N c0 (z0.map (Value.int .i64)) rfl (H5.out.own0 HU.out HZ.out).1 (.int .i64 (N : Int)) rfl rfl (by omega) (Nat.zero_le _) ?_; intro ao7 c7 w7 o7 g7 hat7; have g7 := H5.out.gr7 g7; have hat7 := hat7; have x7 := (H5.out.cel7 hga g7).1.trans x5; have f7 := (H5.out.cel7 hga g7).2; have y7 := (H5.out.bl7 hg2 g7).cell 0; simp at y7; have K7 := Lib.hid (show w7.cell? ⟨w2.heap.size, 0, none⟩ = some (.slice (some ⟨ga, 0, none⟩) n c2) ∧ w7.cell? ⟨ga, 0, none⟩ = some (.slice (some ⟨g0, 0, none⟩) N c0) from ⟨y7, x7⟩))
              | (refine row_stepD (w0 := w5) (o := ⟨some 52, _, _, _, _, _⟩) etI rfl (.tmp 49) (.tmp 51) rfl 0 (some ⟨g0, 0, none⟩) N c0 (z0.map (Value.int .i64)) rfl (H5.out.own0 HU.out HZ.out).1 (.int .i64 (N : Int)) rfl rfl (by omega) (Nat.zero_le _) ?_; intro ao7 c7 w7 o7 g7 hat7; have x7 := (H5.out.cel7 hga g7).1.trans x5; have f7 := (H5.out.cel7 hga g7).2; have y7 := (H5.out.bl7 hg2 g7).cell 0; simp at y7; have K7 := Lib.hid (show w7.cell? ⟨w2.heap.size, 0, none⟩ = some (.slice (some ⟨ga, 0, none⟩) n c2) ∧ w7.cell? ⟨ga, 0, none⟩ = some (.slice (some ⟨g0, 0, none⟩) N c0) from ⟨y7, x7⟩)))
            all_goals
              have HP := Lib.hid (H5.out.stretch hsb HU.out HZ.out hg1 hg2 o7 g7 hat7)
              clear o7 g7 hat7
              go_wp2_with fail
              go_meet
            all_goals exact ⟨_, _, _, _, HP.out⟩
          · by_cases hr4 : r = 4
            · subst hr4
              have y5 := H5.out.box.cell 0
              have f5 := H5.out.box.frozen 0
              simp at y5
              have hmb := hat.2.2
              have hnc := H5.out.row.cap_le
              have h1c : (1 : Int) ≤ (n : Int) := by omega
              have h1n : 1 ≤ n := by omega
              by_cases hn1' : n = 1
              · subst hn1'
                have HP := Lib.hid (fun a' c' => H5.out.box_ hsb (a' := a') (n' := 0) (c' := c') (d' := []) ⟨by simp, fun i hi => by simp at hi⟩ (by omega) rdlo_nil)
                by_cases hc1 : c2 = 1
                · subst hc1
                  go_wp2_with fail
                  go_meet
                  case rel => exact ⟨_, _, _, _, HP.out _ _⟩
                · have hcn : ¬ 1 = c2 := by omega
                  go_wp2_with fail
                  go_meet
                  case rel => exact ⟨_, _, _, _, HP.out _ _⟩
              · have hc1 : ¬ c2 = 1 := by omega
                have hcn : ¬ 1 = c2 := by omega
                have HP := Lib.hid (H5.out.box_ hsb (a' := some ⟨ga, 1, none⟩) (n' := n - 1) (c' := c2 - 1) (d' := d.drop 1) (few_drop (sq_few H5.out.sq (by omega) (by have := H5.out.row.len; omega))) (by omega) (H5.out.tailBox (by omega)))
                go_wp2_with fail
                go_meet
                case rel => exact ⟨_, _, _, _, HP.out⟩
            · have hr0' : ((r : Int) == 0) = false := by simp; omega
              have hr1' : ((r : Int) == 1) = false := by simp; omega
              have hr2' : ((r : Int) == 2) = false := by simp; omega
              have hr3' : ((r : Int) == 3) = false := by simp; omega
              have hr4' : ((r : Int) == 4) = false := by simp; omega
              have HP := Lib.hid (H5.out.same hsb)
              go_wp2_with fail
              go_meet
              case rel => exact ⟨_, _, _, _, HP.out⟩
  case rest =>
    obtain ⟨a, n, c, d, sp⟩ := hcut
    have SP := Lib.hid sp
    have y5 := sp.box.cell 0
    have z5 := sp.res.cell 0
    have f5 := sp.res.frozen 0
    have hn6 := sp.n6
    simp at y5 z5
    clear sp
    go_wp2_with fail
    exact bodyPost_ret (v := .agg #[.slice a n c]) (by simp [results, Tryz.f68, go_sem, z5]) rfl ⟨_, _, _, _, rfl, SP.out.fin hsb, hn6⟩
end Go.Proofs.YtmdhljleaijkbaaGreatDoor

/- Draws of maniplexes: l06Even. guards: -/
namespace Go.Proofs.YtmdhljleaijkbaaGreatDoor
open Go.RowKit

/-- before the maniplex is drawn -/
structure Ev0 (w wx : World) (sb : Nat) : Prop where
  res : Blk wx w.heap.size 26 #[.slice none 0 0]
  mb : Blk wx (w.heap.size + 1) 26 #[.slice none 0 0]
  src : Src wx sb
  only : Only sb (sb + 1) w wx
  sz : w.heap.size + 2 ≤ wx.heap.size
/-- behind -/
structure Ev1 (w wx : World) (sb : Nat) (a : Option Addr) (n c : Nat) (d : List (List Int)) (N : Nat) : Prop where
  res : Blk wx w.heap.size 26 #[.slice none 0 0]
  mb : Blk wx (w.heap.size + 1) 26 #[.slice a n c]
  rd : RdLo wx (w.heap.size + 2) (.slice a n c) d
  len : d.length = n
  sq : Sq d N
  n6 : 1 ≤ n ∧ n ≤ 6
  N4 : 1 ≤ N ∧ N ≤ 400
  src : Src wx sb
  only : Only sb (sb + 1) w wx
  sz : w.heap.size + 2 ≤ wx.heap.size
section
variable {w wx wy : World} {sb n c N : Nat} {a : Option Addr} {d : List (List Int)}
theorem Ev0.next (h : Ev0 w wx sb) (hs : sb < w.heap.size) (s : Src wy sb) (o : Only sb (sb + 1) wx wy) : Ev0 w wy sb :=
  have hz := h.sz
  ⟨h.res.only o (.inr (by omega)), h.mb.only o (.inr (by omega)), s, h.only.trans o, Nat.le_trans hz o.size⟩
theorem Ev0.below (h : Ev0 w wx sb) (hs : sb < w.heap.size) (b : Below wx.heap.size wx wy) : Ev0 w wy sb :=
  h.next hs (src_belowL h.src (by have := h.sz; omega) b) (only_of_below b)
theorem Ev0.put (h : Ev0 w wx sb) (hs : sb < w.heap.size) (hr : RdLo wx (w.heap.size + 2) (.slice a n c) d) (hl : d.length = n) (sq : Sq d N) (hn : 1 ≤ n ∧ n ≤ 6) (hN : 1 ≤ N ∧ N ≤ 400) : Ev1 w (wx.setCell ⟨w.heap.size + 1, 0, none⟩ (.slice a n c)) sb a n c d N := by
  have hz := h.sz
  have oc := only_set wx (w.heap.size + 1) 0 (.slice a n c)
  exact ⟨h.res.only oc (.inl (by omega)), by simpa using h.mb.set_ 0 (.slice a n c), hr.setBox (.inl (by omega)) _, hl, sq, hn, hN, src_farL h.src fun g hg => Below.heap_setCell _ _ _ g (by show g ≠ w.heap.size + 1; omega), only_cell h.only (by show w.heap.size ≤ w.heap.size + 1; omega) _, by simp [World.setCell]; omega⟩
theorem ev0_start {w : World} {sb : Nat} (h : Src w sb) (hs : sb < w.heap.size) : Ev0 w ((w.alloc (.cells #[.slice none 0 0] 26)).alloc (.cells #[.slice none 0 0] 26)) sb := by
  have b := below_alloc2 w (.cells #[.slice none 0 0] 26) (.cells #[.slice none 0 0] 26)
  exact ⟨(blk_at rfl).alloc _, blk_at (by simp), src_belowL h hs b, only_of_below b, by simp⟩
end
theorem edge_lit (w : World) {g : Nat} (hg : w.heap.size = g) : OwR (OwS 2) ((w.alloc (.cells #[.int .i64 1, .int .i64 0] 2)).alloc (.cells #[.slice (some ⟨g, 0, none⟩) 2 2] 38)) g (g + 2) 38 (some ⟨g + 1, 0, none⟩) 1 1 [.slice (some ⟨g, 0, none⟩) 2 2] [[1, 0]] := by
  have hL : Own (w.alloc (.cells #[.int .i64 1, .int .i64 0] 2)) g 2 (some ⟨g, 0, none⟩) 2 2 (([1, 0] : List Int).map (Value.int .i64)) := by
    have := own_rowL (w := w) (us := [.int .i64 1, .int .i64 0]) (zs := [1, 0]) (k := 2) (g := g) hg rfl rfl (by omega)
    rwa [hg] at this
  have e2 : (w.alloc (.cells #[.int .i64 1, .int .i64 0] 2)).heap.size = g + 1 := by simp [hg]
  have := OwR.lit (E := 38) (us := [.slice (some ⟨g, 0, none⟩) 2 2]) (ds := [[1, 0]]) (n := 1) (lo := g) (hi := g + 1) (w := w.alloc (.cells #[.int .i64 1, .int .i64 0] 2)) (innerS 2) (by omega) (by omega) rfl rfl (by omega) (fun j u d hu hd => by
        match j, hu, hd with
        | 0, hu, hd => simp at hu hd; subst hu hd; exact ⟨_, _, _, rfl, hL.mono (Nat.zero_le _)⟩
        | j + 1, hu, _ => simp at hu) (fun j u hu => by
        match j, hu with
        | 0, hu => simp at hu; subst hu; exact in_slice fun g hg => by simp [bk] at hg; omega
        | j + 1, hu => simp at hu) (fun i j u u' g hij hu hu' _ => by
        match i, j, hu, hu' with
        | 0, 0, _, _ => exact absurd rfl hij
        | 0, j + 1, _, hu' => simp at hu'
        | i + 1, _, hu, _ => simp at hu)
  rw [e2] at this; exact this
theorem gridZ_any {a b : Nat} (z y : Int) (hz : z = (a : Int)) (hy : y = (b : Int)) (w : World) (ha : 1 ≤ a) (ha4 : a ≤ 4) (hb : 1 ≤ b) (hb2 : b ≤ 2) :
    Calls Tryz.prog 65 #[.int .i64 z, .int .i64 y] w fun e w' => ∃ ao c r N, e = .returned (.agg #[.slice ao 3 c]) ∧ OwM 2 38 w' w.heap.size w'.heap.size (.agg #[.slice ao 3 c]) r ∧ Sq r N ∧ (1 ≤ N ∧ N ≤ 64) ∧ Below w.heap.size w w' := by
  subst hz hy
  refine (grid_any a b w ha ha4 hb hb2).mono ?_
  rintro e w' ⟨v, d, rfl, ho, hl, hs, hb'⟩
  obtain ⟨ao, n, c, rfl⟩ := ho.form
  have hn : n = 3 := by have := ho.rdcM.2; omega
  subst hn
  have h1 : 1 ≤ a * b := Nat.mul_pos ha hb
  have h2 : a * b ≤ 8 := Nat.mul_le_mul ha4 hb2
  have h3 : 8 * a * b = 8 * (a * b) := Nat.mul_assoc 8 a b
  exact ⟨ao, c, d, 8 * a * b, rfl, ho, hs, by omega, hb'⟩
theorem dualZ_any (ao : Option Addr) (n c N : Nat) (d : List (List Int)) (w : World) (hd : RdSSc w (.slice ao n c) d) (hT : Sq d N) (hn : 0 < n) (hn9 : n ≤ 100) (hN : 1 ≤ N) (hN9 : N ≤ 1000) :
    Calls Tryz.prog 69 #[.agg #[.slice ao n c]] w fun e w' => ∃ a' c' r L, e = .returned (.agg #[.slice a' n c']) ∧ OwM 2 38 w' w.heap.size w'.heap.size (.agg #[.slice a' n c']) r ∧ Sq r L ∧ (1 ≤ L ∧ L ≤ N) ∧ Below w.heap.size w w' := by
  refine (dualS_any ao n c N d w hd hT.leads hn hn9 hN hN9).mono ?_
  rintro e w' ⟨v, r, L, rfl, ho, hr, hs, h1, h2, hb⟩
  obtain ⟨a', n', c', rfl⟩ := ho.form
  have hn : n' = n := by have := ho.rdcM.2; omega
  subst hn
  exact ⟨a', c', r, L, rfl, ho, hs, ⟨h1, h2⟩, hb⟩
set_option maxRecDepth 100000 in
set_option maxHeartbeats 6400000 in
theorem even_any (sb : Nat) (w : World) (h : Src w sb) (hsb : sb < w.heap.size) :
    Calls Tryz.prog 40 #[.pointer (some ⟨sb, 0, none⟩)] w fun e w' => ∃ a n c d, e = .returned (.agg #[.slice a n c]) ∧ MxR w w' sb a n c d ∧ n ≤ 6 := by
  have HA := Lib.hid (ev0_start h hsb)
  clear h
  go_enter Tryz.func40, Tryz.ntmps40
  go_upto_region 2 with fail
  generalize (w.alloc (.cells #[.slice none 0 0] 26)).alloc (.cells #[.slice none 0 0] 26) = w1 at *
  go_wp2_with fail
  refine (next_any sb _ _ HA.out.src (by omega)).mono ?_
  rintro e w2 ⟨r, rfl, -, r2, s2, o2⟩
  have hr := r2 (by omega)
  have HA2 := Lib.hid (HA.out.next hsb s2 o2)
  clear HA r2 s2 o2
  have hz2 := HA2.out.sz
  go_upto_block 0 with (fail)
  go_cut [] (fun wx => ∃ a n c d N, Ev1 w wx sb a n c d N)
  case first =>
    by_cases hr0 : r = 0
    · subst hr0
      go_wp2_with fail
      refine (next_any sb _ _ HA2.out.src (by omega)).mono ?_
      rintro e w3 ⟨p, rfl, -, p3, s3, o3⟩
      have hp := p3 (by omega)
      have HA3 := Lib.hid (HA2.out.next hsb s3 o3)
      have hpw : IntKind.i64.wrap (1 + (p : Int)) = 1 + (p : Int) := IntWalk.i64_in _ (by omega)
      clear p3 s3 o3 HA2
      go_wp2_with fail
      refine (next_any sb _ _ HA3.out.src (by omega)).mono ?_
      rintro e w4 ⟨q, rfl, -, q3, s4, o4⟩
      have hq := q3 (by omega)
      have HA4 := Lib.hid (HA3.out.next hsb s4 o4)
      have hqw : IntKind.i64.wrap (1 + (q : Int)) = 1 + (q : Int) := IntWalk.i64_in _ (by omega)
      clear q3 s4 o4 HA3
      go_wp2_with fail
      refine (gridZ_any (a := 1 + p) (b := 1 + q) _ _ (by omega) (by omega) w4 (by omega) (by omega) (by omega) (by omega)).mono ?_
      rintro e w5 ⟨a5, c5, r5, N, rfl, o5, sq5, hN5, b5⟩
      have HA5 := Lib.hid (HA4.out.below hsb b5)
      have f5 := HA5.out.mb.frozen 0
      have y5 := HA5.out.mb.cell 0
      simp at y5
      have HP := Lib.hid (HA5.out.put hsb (o5.rdlo.mono HA4.out.sz) o5.rdcM.2 sq5 (by omega) (by omega))
      clear o5 b5 HA4
      go_wp2_with fail
      go_meet
      case rel => exact ⟨_, _, _, _, _, HP.out⟩
    · by_cases hr1 : r = 1
      · subst hr1
        go_wp2_with fail
        refine (next_any sb _ _ HA2.out.src (by omega)).mono ?_
        rintro e w3 ⟨p, rfl, -, p3, s3, o3⟩
        have hp := p3 (by omega)
        have HA3 := Lib.hid (HA2.out.next hsb s3 o3)
        have hpw : IntKind.i64.wrap (1 + (p : Int)) = 1 + (p : Int) := IntWalk.i64_in _ (by omega)
        clear p3 s3 o3 HA2
        go_wp2_with fail
        refine (polyZ_any (m := 1 + p) _ (by omega) w3 (by omega) (by omega)).mono ?_
        rintro e w4 ⟨a4, c4, r4, rfl, o4, sq4, b4⟩
        have HA4 := Lib.hid (HA3.out.below hsb b4)
        have O4 := Lib.hid o4
        clear o4 b4
        go_wp2_with fail
        refine (next_any sb _ _ HA4.out.src (by omega)).mono ?_
        rintro e w5 ⟨q, rfl, -, q3, s5, o5⟩
        have hq := q3 (by omega)
        have HA5 := Lib.hid (HA4.out.next hsb s5 o5)
        have hqw : IntKind.i64.wrap (1 + (q : Int)) = 1 + (q : Int) := IntWalk.i64_in _ (by omega)
        have O5 := Lib.hid (O4.out.only o5 (.inr (by have := HA3.out.sz; omega)))
        clear q3 s5 o5 HA3 O4 HA4
        go_wp2_with fail
        refine (polyZ_any (m := 1 + q) _ (by omega) w5 (by omega) (by omega)).mono ?_
        rintro e w6 ⟨a6, c6, r6, rfl, o6, sq6, b6⟩
        have HA6 := Lib.hid (HA5.out.below hsb b6)
        have O6 := Lib.hid o6
        have O56 := Lib.hid (O5.out.below b6)
        clear o6 b6 O5 HA5
        go_wp2_with fail
        refine (besZ_any a4 a6 2 c4 2 c6 (2 * (1 + p)) (2 * (1 + q)) r4 r6 w6 O56.out.rdcM.1 O6.out.rdcM.1 sq4 sq6 (by omega) (by omega) (by omega) (by omega) (by omega) (by omega) (by omega) (by omega)).mono ?_
        rintro e w7 ⟨a7, c7, r7, rfl, o7, sq7, b7⟩
        have HA7 := Lib.hid (HA6.out.below hsb b7)
        have f7 := HA7.out.mb.frozen 0
        have y7 := HA7.out.mb.cell 0
        simp at y7
        have hNN : 1 ≤ 2 * (1 + p) * (2 * (1 + q)) ∧ 2 * (1 + p) * (2 * (1 + q)) ≤ 400 := ⟨Nat.mul_pos (by omega) (by omega), Nat.le_trans (Nat.mul_le_mul (show 2 * (1 + p) ≤ 20 by omega) (show 2 * (1 + q) ≤ 20 by omega)) (by omega)⟩
        have HP := Lib.hid (HA7.out.put hsb (o7.rdlo.mono HA6.out.sz) o7.rdcM.2 sq7 (by omega) hNN)
        clear o7 b7 HA6
        go_wp2_with fail
        go_meet
        case rel => exact ⟨_, _, _, _, _, HP.out⟩
      · by_cases hr2 : r = 2
        · subst hr2
          go_wp2_with fail
          refine (next_any sb _ _ HA2.out.src (by omega)).mono ?_
          rintro e w3 ⟨p, rfl, -, p3, s3, o3⟩
          have hp := p3 (by omega)
          have HA3 := Lib.hid (HA2.out.next hsb s3 o3)
          have hpw : IntKind.i64.wrap (1 + (p : Int)) = 1 + (p : Int) := IntWalk.i64_in _ (by omega)
          clear p3 s3 o3 HA2
          go_wp2_with fail
          refine (polyZ_any (m := 1 + p) _ (by omega) w3 (by omega) (by omega)).mono ?_
          rintro e w4 ⟨a4, c4, r4, rfl, o4, sq4, b4⟩
          have HA4 := Lib.hid (HA3.out.below hsb b4)
          have f4 := HA4.out.mb.frozen 0
          have y4 := HA4.out.mb.cell 0
          simp at y4
          have HP := Lib.hid (HA4.out.put hsb (o4.rdlo.mono HA3.out.sz) o4.rdcM.2 sq4 (by omega) (by omega))
          clear o4 b4 HA3
          go_wp2_with fail
          go_meet
          case rel => exact ⟨_, _, _, _, _, HP.out⟩
        · by_cases hr3 : r = 3
          · subst hr3
            go_wp2_with fail
            refine (spoil_any sb 40 _ HA2.out.src (by omega) (by omega) (by omega)).mono ?_
            rintro e w3 ⟨a3, n3, c3, d3, rfl, m3, hn6⟩
            have HA3 := Lib.hid (HA2.out.next hsb m3.src m3.only)
            have f3 := HA3.out.res.frozen 0
            have z3 := HA3.out.res.cell 0
            simp at z3
            have hF : MxR w (w3.setCell ⟨w.heap.size, 0, none⟩ (.slice a3 n3 c3)) sb a3 n3 c3 d3 := ⟨(m3.rd.mono (show w.heap.size + 1 ≤ w2.heap.size by omega)).setBox (.inl (by omega)) _ |>.mono (by omega), m3.few, src_farL m3.src fun g hg => Below.heap_setCell _ _ _ g (by show g ≠ w.heap.size; omega), only_cell HA3.out.only (Nat.le_refl _) _⟩
            have HF := Lib.hid hF
            clear hF m3
            go_wp2_with fail
            exact bodyPost_ret (v := .agg #[.slice a3 n3 c3]) (by simp [results, Tryz.f40, go_sem, z3]) rfl ⟨_, _, _, _, rfl, HF.out, hn6⟩
          · have hr0' : ((r : Int) == 0) = false := by simp; omega
            have hr1' : ((r : Int) == 1) = false := by simp; omega
            have hr2' : ((r : Int) == 2) = false := by simp; omega
            have hr3' : ((r : Int) == 3) = false := by simp; omega
            go_wp2_with fail
            refine (next_any sb _ _ HA2.out.src (by omega)).mono ?_
            rintro e w3 ⟨p, rfl, -, p3, s3, o3⟩
            have hp := p3 (by omega)
            have HA3 := Lib.hid (HA2.out.next hsb s3 o3)
            have hpw : IntKind.i64.wrap (1 + (p : Int)) = 1 + (p : Int) := IntWalk.i64_in _ (by omega)
            clear p3 s3 o3 HA2
            go_wp2_with fail
            refine (polyZ_any (m := 1 + p) _ (by omega) w3 (by omega) (by omega)).mono ?_
            rintro e w4 ⟨a4, c4, r4, rfl, o4, sq4, b4⟩
            have HA4 := Lib.hid (HA3.out.below hsb b4)
            have kA := below_alloc2 w4 (.cells #[.int .i64 1, .int .i64 0] 2) (.cells #[.slice (some ⟨w4.heap.size, 0, none⟩) 2 2] 38)
            have O5 := Lib.hid (o4.below kA)
            have E5 := Lib.hid (edge_lit w4 rfl)
            have HA5 := Lib.hid (HA4.out.below hsb kA)
            clear kA o4 b4
            go_wp2_with fail
            generalize (w4.alloc (.cells #[.int .i64 1, .int .i64 0] 2)).alloc (.cells #[.slice (some ⟨w4.heap.size, 0, none⟩) 2 2] 38) = w5 at *
            refine (besZ_any a4 (some ⟨w4.heap.size + 1, 0, none⟩) 2 c4 1 1 (2 * (1 + p)) 2 r4 [[1, 0]] w5 O5.out.rdcM.1 E5.out.rdlo.rd sq4 edge_sq (by omega) (by omega) (by omega) (by omega) (by omega) (by omega) (by omega) (by omega)).mono ?_
            rintro e w6 ⟨a6, c6, r6, rfl, o6, sq6, b6⟩
            have HA6 := Lib.hid (HA5.out.below hsb b6)
            have O6 := Lib.hid o6
            clear o6 b6
            go_wp2_with fail
            refine (dualZ_any a6 3 c6 (2 * (1 + p) * 2) r6 w6 O6.out.rdcM.1 sq6 (by omega) (by omega) (by omega) (by omega)).mono ?_
            rintro e w7 ⟨a7, c7, r7, L, rfl, o7, sq7, hL, b7⟩
            have HA7 := Lib.hid (HA6.out.below hsb b7)
            have f7 := HA7.out.mb.frozen 0
            have y7 := HA7.out.mb.cell 0
            simp at y7
            have HP := Lib.hid (HA7.out.put hsb (o7.rdlo.mono HA6.out.sz) o7.rdcM.2 sq7 (by omega) (by omega))
            clear o7 b7 HA6
            go_wp2_with fail
            go_meet
            case rel => exact ⟨_, _, _, _, _, HP.out⟩
  case rest =>
    obtain ⟨a2, n, c2, d, N, hv⟩ := hcut
    have HV := Lib.hid hv
    have hN4 := hv.N4
    have hn6 := hv.n6
    have hl := hv.len
    have hz4 := hv.sz
    have hl0 : (lget d 0).length = N := hv.sq.leads.len 0 (by omega)
    have SQ := Lib.hid hv.sq
    have y4 := hv.mb.cell 0
    simp at y4
    have hrd := hv.rd
    have HRD := Lib.hid hrd.rd
    have RL4 := Lib.hid hrd
    have S4 := Lib.hid hv.src
    have O4 := Lib.hid hv.only
    have KR4 := Lib.hid hv.res
    have KM4 := Lib.hid hv.mb
    clear HA2 hv hrd
    go_upto_region 12 with fail
    go_region_law (first
      | (go_simp; go_at_call 70; refine (ren_any a2 pa n c2 N pc d zs w6 (HRD6.out) zo SQ.out.leads zl zw (by omega) (by omega) (by omega)).mono ?_; rintro e w7 ⟨v7, r7, rfl, o7, hr7, sq7, b7⟩; obtain ⟨a7, n7, c7, rfl⟩ := o7.form; have S7 := Lib.hid (src_belowL G6.out.src (by have := G6.out.only.size; omega) b7); have O7 := Lib.hid (only_below O6.out b7); have KR7 := Lib.hid (KR6.out.belowS b7); have y7 := KR7.out.cell 0; have f7 := KR7.out.frozen 0; simp at y7)
      | (go_simp; go_at_call 71; refine (draw_any sb N w5 S5.out (by omega) (by omega)).mono ?_; rintro e w6 ⟨pa, pc, rfl, g6⟩; have G6 := Lib.hid g6; have O6 := Lib.hid (O5.out.trans g6.only); have KR6 := Lib.hid (KR5.out.only g6.only (.inr (by omega))); have HRD6 := Lib.hid ((RL5.out.only g6.only (by omega)).rd); obtain ⟨zs, zl, zw, zo⟩ := g6.gl.ows; have hz56 := g6.only.size; have KM6 := Lib.hid (KM5.out.only g6.only (.inr (by omega))); have x6 := KM6.out.cell 0; simp at x6; clear g6)
      | (go_simp; go_at_call 26; refine (flagsS_any a2 n c2 N d wc.drew ((HRD.out.below (below_drew1 wc)).rd) (by omega) hl0 (by omega)).mono ?_; rintro e w5 ⟨rfl, b5⟩; have b5' : Below wc.heap.size wc w5 := below_tr b5 (below_drew1 wc); have S5 := Lib.hid (src_belowL S4.out (by omega) b5'); have O5 := Lib.hid (only_below O4.out b5'); have KR5 := Lib.hid (KR4.out.belowS b5'); have RL5 := Lib.hid (RL4.out.below b5'); have hz45 := b5'.size; have KM5 := Lib.hid (KM4.out.belowS b5'); have x5 := KM5.out.cell 0; simp at x5))
    all_goals
      have hn7 : n7 = n := by have := o7.rdcM.2; omega
      subst hn7
      have oc := only_set w7 w.heap.size 0 (.slice a7 n7 c7)
      have hF : MxR w (w7.setCell ⟨w.heap.size, 0, none⟩ (.slice a7 n7 c7)) sb a7 n7 c7 r7 := ⟨(o7.rdlo.mono (show w.heap.size + 1 ≤ w6.heap.size by omega)).setBox (.inl (by omega)) _ |>.mono (by omega), sq_few sq7 (by omega) (by omega), src_farL S7.out fun g hg => Below.heap_setCell _ _ _ g (by show g ≠ w.heap.size; omega), only_cell O7.out (Nat.le_refl _) _⟩
      have HF := Lib.hid hF
      clear hF o7 b7
      go_wp2_with fail
      exact bodyPost_ret (v := .agg #[.slice a7 n7 c7]) (by simp [results, Tryz.f40, go_sem, y7]) rfl ⟨_, _, _, _, rfl, HF.out, by omega⟩
end Go.Proofs.YtmdhljleaijkbaaGreatDoor
