/- A region that draws its order, whose operations only read and whose callees make new memory alone: one walk, in the order of the text. (The steps are printed by fill.py out of the mark CALM.) -/
import Derived.Test.YtnfkhgamnapgmaaPart1
import Derived.BigQuiet
import Derived.Test.YtnfkhgamnapgmaaPart2
import Derived.Lib.LazyBuf
import Derived.Lib.SliceRun
import Derived.Test.YtnfkhgamnapgmaaProg
namespace Go.Proofs.Ytnfkhgamnapgmaa
open Go.RowKit

section
variable {P : Program} {ops : Array Oper} {C : World → Prop} {o : Oper} {a : Act} {K : Act → Prop}
theorem quiet_val {u : Value} (h : ∀ w, C w → (execOp a.eval o).run P w = .ok (.value u) w) (hk : K (a.put o.dst u)) : o.quiet P a C K :=
  ⟨u, fun w hw => by unfold Oper.quietAt; rw [h w hw]; exact ⟨rfl, rfl⟩, hk⟩
theorem quiet_call {f : FuncId} {args : Array Value} {v : Value} (h : ∀ w, C w → (execOp a.eval o).run P w = .ok (.enter f args) w) (hc : ∀ w, C w → Calls P f args w (fun e w'' => e = .returned v ∧ C w'')) (hk : K (a.put o.dst v)) : o.quiet P a C K :=
  ⟨v, fun w hw => by unfold Oper.quietAt; rw [h w hw]; exact ⟨rfl, hc w hw⟩, hk⟩
theorem wp_region_calm {id : Nat} {Q : Exit → Act → World → Prop} {w : World} {l : List Oper} (hm : P.follows .mixedOrders = true) (hB : Region.lexB .any l.toArray = true)
    (h : wpQuiet P l.toArray (fun w' => Below w.heap.size w w') (fun a' => ∀ w', Below w.heap.size w w' → Q .normal a' w') l a) : (Code.region id l.toArray true).wp P Q a w :=
  wp_region_quiet (C := fun w' => Below w.heap.size w w') hm hB (below_drew1 w) (by simpa using h)
end

end Go.Proofs.Ytnfkhgamnapgmaa

/- slices.Sort at []int64, a few elements: it sorts a row of the call's own in place. -/
namespace Go.Proofs.Ytnfkhgamnapgmaa
open Go.RowKit

theorem nan_any (x : Int) (w : World) : Calls Try.prog 247 #[.int .i64 x] w fun e w' => e = .returned (.bool false) ∧ w' = w := by
  have hx : (x != x) = false := by simp
  go_enter Try.func247, Try.ntmps247
  go_wp2
  go_ret
  exact ⟨rfl, rfl⟩

theorem less_any (x y : Int) (w : World) : Calls Try.prog 237 #[.int .i64 x, .int .i64 y] w fun e w' => e = .returned (.bool (decide (x < y))) ∧ w' = w := by
  go_enter Try.func237, Try.ntmps237
  go_wp2_with (go_at_call 247; refine (nan_any _ _).mono ?_; rintro e w' ⟨rfl, rfl⟩)
  go_ret
  exact ⟨rfl, rfl⟩

set_option maxRecDepth 100000 in
theorem len64_0 (w : World) : Calls Try.prog 241 #[.int .u64 0] w fun e w' => (∃ r : Int, e = .returned (.int .i64 r)) ∧ w' = w := by
  go_enter Try.func241, Try.ntmps241
  go_wp2
  go_ret
  exact ⟨⟨_, rfl⟩, rfl⟩
set_option maxRecDepth 100000 in
theorem len64_1 (w : World) : Calls Try.prog 241 #[.int .u64 1] w fun e w' => (∃ r : Int, e = .returned (.int .i64 r)) ∧ w' = w := by
  go_enter Try.func241, Try.ntmps241
  go_wp2
  go_ret
  exact ⟨⟨_, rfl⟩, rfl⟩
set_option maxRecDepth 100000 in
theorem len64_2 (w : World) : Calls Try.prog 241 #[.int .u64 2] w fun e w' => (∃ r : Int, e = .returned (.int .i64 r)) ∧ w' = w := by
  go_enter Try.func241, Try.ntmps241
  go_wp2
  go_ret
  exact ⟨⟨_, rfl⟩, rfl⟩
set_option maxRecDepth 100000 in
theorem len64_3 (w : World) : Calls Try.prog 241 #[.int .u64 3] w fun e w' => (∃ r : Int, e = .returned (.int .i64 r)) ∧ w' = w := by
  go_enter Try.func241, Try.ntmps241
  go_wp2
  go_ret
  exact ⟨⟨_, rfl⟩, rfl⟩
set_option maxRecDepth 100000 in
theorem len64_4 (w : World) : Calls Try.prog 241 #[.int .u64 4] w fun e w' => (∃ r : Int, e = .returned (.int .i64 r)) ∧ w' = w := by
  go_enter Try.func241, Try.ntmps241
  go_wp2
  go_ret
  exact ⟨⟨_, rfl⟩, rfl⟩
set_option maxRecDepth 100000 in
theorem len64_5 (w : World) : Calls Try.prog 241 #[.int .u64 5] w fun e w' => (∃ r : Int, e = .returned (.int .i64 r)) ∧ w' = w := by
  go_enter Try.func241, Try.ntmps241
  go_wp2
  go_ret
  exact ⟨⟨_, rfl⟩, rfl⟩
theorem len64_any (k : Nat) (hk : k ≤ 5) (w : World) : Calls Try.prog 241 #[.int .u64 k] w fun e w' => (∃ r : Int, e = .returned (.int .i64 r)) ∧ w' = w := by
  rcases (by omega : k = 0 ∨ k = 1 ∨ k = 2 ∨ k = 3 ∨ k = 4 ∨ k = 5) with rfl | rfl | rfl | rfl | rfl | rfl
  · exact len64_0 w
  · exact len64_1 w
  · exact len64_2 w
  · exact len64_3 w
  · exact len64_4 w
  · exact len64_5 w
theorem len_any (k : Nat) (hk : k ≤ 5) (w : World) : Calls Try.prog 225 #[.int .u64 k] w fun e w' => (∃ r : Int, e = .returned (.int .i64 r)) ∧ w' = w := by
  go_enter Try.func225, Try.ntmps225
  go_wp2_with fail
  refine (len64_any k hk _).mono ?_
  rintro e w' ⟨⟨r, rfl⟩, rfl⟩
  go_wp2
  go_ret
  exact ⟨⟨_, rfl⟩, rfl⟩

/-- ascending, but for what stands at j, up to i -/
def asc (cur : List Int) (i j : Nat) : Prop := ∀ x y, x < y → y ≤ i → y ≠ j → iget cur x ≤ iget cur y
theorem swap_perm : ∀ (l : List Int) (k : Nat), k + 1 < l.length → ((l.set (k + 1) (iget l k)).set k (iget l (k + 1))).Perm l
  | [], k, h => by simp at h
  | [a], k, h => by simp at h
  | a :: b :: r, 0, _ => by
    simp only [List.set_cons_succ, List.set_cons_zero]
    exact List.Perm.swap a b r
  | a :: b :: r, k + 1, h => by
    have := swap_perm (b :: r) k (by simpa using h)
    rw [show iget (a :: b :: r) (k + 1) = iget (b :: r) k by simp [iget], show iget (a :: b :: r) (k + 1 + 1) = iget (b :: r) (k + 1) by simp [iget], List.set_cons_succ, List.set_cons_succ]
    exact this.cons a
theorem asc_stop {cur : List Int} {i j : Nat} (h : asc cur i j) (hs : j = 0 ∨ iget cur (j - 1) ≤ iget cur j) : ∀ x y, x < y → y ≤ i → iget cur x ≤ iget cur y := by
  intro x y h1 h2
  by_cases e : y = j
  · subst e
    rcases hs with h0 | h0
    · omega
    · by_cases e2 : x = y - 1
      · rw [e2]; exact h0
      · exact Int.le_trans (h x (y - 1) (by omega) (by omega) (by omega)) h0
  · exact h x y h1 h2 e
theorem asc_swap {cur : List Int} {i k : Nat} (hl : k + 1 < cur.length) (hk : k + 1 ≤ i) (h : asc cur i (k + 1)) (hlt : iget cur (k + 1) < iget cur k) : asc ((cur.set (k + 1) (iget cur k)).set k (iget cur (k + 1))) i k := by
  have e1 : iget ((cur.set (k + 1) (iget cur k)).set k (iget cur (k + 1))) k = iget cur (k + 1) := iget_set_eq (by simp; omega) _
  have e2 : iget ((cur.set (k + 1) (iget cur k)).set k (iget cur (k + 1))) (k + 1) = iget cur k := by rw [iget_set_ne (by omega), iget_set_eq hl]
  have e3 : ∀ z, z ≠ k → z ≠ k + 1 → iget ((cur.set (k + 1) (iget cur k)).set k (iget cur (k + 1))) z = iget cur z := fun z h1 h2 => by rw [iget_set_ne (fun e => h1 e.symm), iget_set_ne (fun e => h2 e.symm)]
  intro x y h1 h2 h3
  by_cases y1 : y = k + 1
  · subst y1
    rw [e2]
    by_cases x1 : x = k
    · subst x1; rw [e1]; omega
    · rw [e3 x x1 (by omega)]; exact h x k (by omega) (by omega) (by omega)
  · rw [e3 y h3 y1]
    by_cases x1 : x = k
    · subst x1; rw [e1]; exact h (x + 1) y (by omega) h2 y1
    · by_cases x2 : x = k + 1
      · subst x2; rw [e2]; exact h k y (by omega) h2 y1
      · rw [e3 x x1 x2]; exact h x y h1 h2 y1

/-- the list, in ascending order -/
def sortL (zs : List Int) : List Int := zs.mergeSort (fun a b => decide (a ≤ b))
theorem pair_of_iget {l : List Int} (h : ∀ x y, x < y → y < l.length → iget l x ≤ iget l y) : l.Pairwise (· ≤ ·) := by
  rw [List.pairwise_iff_getElem]
  intro i j hi hj hij
  have := h i j hij hj
  rwa [iget_lt hi, iget_lt hj] at this
theorem sortL_uniq {l zs : List Int} (hp : l.Perm zs) (ha : l.Pairwise (· ≤ ·)) : l = sortL zs := by
  have h1 : (sortL zs).Pairwise (· ≤ ·) := by
    have := List.pairwise_mergeSort (le := fun a b : Int => decide (a ≤ b)) (fun a b c h1 h2 => by simp at *; omega) (fun a b => by simp; omega) zs
    exact this.imp (by simp)
  exact List.Perm.eq_of_pairwise (fun a b _ _ h1 h2 => Int.le_antisymm h1 h2) ha h1 (hp.trans (List.mergeSort_perm zs _).symm)
theorem sortL_len (zs : List Int) : (sortL zs).length = zs.length := (List.mergeSort_perm zs _).length_eq
end Go.Proofs.Ytnfkhgamnapgmaa

/- slices.SortStableFunc: what its parts do, on lists. No program in sight. -/
namespace Go.Proofs.Ytnfkhgamnapgmaa
open Go.RowKit

/-- two elements change places -/
def swp (zs : List Int) (i j : Nat) : List Int := (zs.set i (iget zs j)).set j (iget zs i)
theorem swp_len (zs : List Int) (i j : Nat) : (swp zs i j).length = zs.length := by simp [swp]
theorem swp_get {zs : List Int} {i j : Nat} (hi : i < zs.length) (hj : j < zs.length) (k : Nat) :
    iget (swp zs i j) k = if k = j then iget zs i else if k = i then iget zs j else iget zs k := by
  unfold swp
  by_cases e : k = j
  · subst e; rw [if_pos rfl, iget_set_eq (by simpa using hj)]
  · rw [if_neg e, iget_set_ne (fun h => e h.symm)]
    by_cases e2 : k = i
    · subst e2; rw [if_pos rfl, iget_set_eq hi]
    · rw [if_neg e2, iget_set_ne (fun h => e2 h.symm)]
theorem swp_perm {zs : List Int} {i j : Nat} (hi : i < zs.length) (hj : j < zs.length) : (swp zs i j).Perm zs := by
  have := List.set_set_perm hi hj
  unfold swp
  rw [iget_lt hi, iget_lt hj]; exact this

/-- zs' has the elements of zs, and those of a .. b - 1 stay among themselves; the others stay where they are -/
structure Kept (zs zs' : List Int) (a b : Nat) : Prop where
  len : zs'.length = zs.length
  perm : zs'.Perm zs
  out : ∀ j, j < a ∨ b ≤ j → iget zs' j = iget zs j
  mem : ∀ j, a ≤ j → j < b → ∃ i, a ≤ i ∧ i < b ∧ iget zs' j = iget zs i
theorem Kept.refl (zs : List Int) (a b : Nat) : Kept zs zs a b := ⟨rfl, List.Perm.refl _, fun _ _ => rfl, fun j h1 h2 => ⟨j, h1, h2, rfl⟩⟩
theorem Kept.trans {x y z : List Int} {a b : Nat} (h : Kept x y a b) (h' : Kept y z a b) : Kept x z a b :=
  ⟨h'.len.trans h.len, h'.perm.trans h.perm, fun j hj => (h'.out j hj).trans (h.out j hj), fun j h1 h2 => by
    obtain ⟨i, i1, i2, i3⟩ := h'.mem j h1 h2
    obtain ⟨k, k1, k2, k3⟩ := h.mem i i1 i2
    exact ⟨k, k1, k2, i3.trans k3⟩⟩
theorem Kept.wide {x y : List Int} {a b a' b' : Nat} (h : Kept x y a b) (ha : a' ≤ a) (hb : b ≤ b') : Kept x y a' b' :=
  ⟨h.len, h.perm, fun j hj => h.out j (by omega), fun j h1 h2 => by
    by_cases e : a ≤ j ∧ j < b
    · obtain ⟨i, i1, i2, i3⟩ := h.mem j e.1 e.2
      exact ⟨i, by omega, by omega, i3⟩
    · exact ⟨j, h1, h2, h.out j (by omega)⟩⟩
theorem Kept.swp {zs : List Int} {i j a b : Nat} (hi : i < zs.length) (hj : j < zs.length) (h1 : a ≤ i) (h2 : i < b) (h3 : a ≤ j) (h4 : j < b) : Kept zs (swp zs i j) a b :=
  ⟨swp_len _ _ _, swp_perm hi hj, fun k hk => by rw [swp_get hi hj, if_neg (by omega), if_neg (by omega)], fun k k1 k2 => by
    rw [swp_get hi hj]
    by_cases e : k = j
    · rw [if_pos e]; exact ⟨i, h1, h2, rfl⟩
    · rw [if_neg e]
      by_cases e2 : k = i
      · rw [if_pos e2]; exact ⟨j, h3, h4, rfl⟩
      · rw [if_neg e2]; exact ⟨k, k1, k2, rfl⟩⟩

section
variable (key : Int → Nat) (less : Int → Int → Bool)
/-- in order, from a to b - 1 -/
def Asc (zs : List Int) (a b : Nat) : Prop := ∀ i j, a ≤ i → i < j → j < b → key (iget zs i) ≤ key (iget zs j)
/-- between the elements of a .. m - 1 and those of m .. b - 1, the comparison says what the keys say -/
def Agr (zs : List Int) (a m b : Nat) : Prop := ∀ i j, a ≤ i → i < m → m ≤ j → j < b → (less (iget zs j) (iget zs i) = true ↔ key (iget zs j) < key (iget zs i))
/-- the same between any two elements of a .. b - 1 -/
def AgrA (zs : List Int) (a b : Nat) : Prop := ∀ i j, a ≤ i → i < j → j < b → (less (iget zs j) (iget zs i) = true ↔ key (iget zs j) < key (iget zs i))
end
variable {key : Int → Nat} {less : Int → Int → Bool} {zs zs' zs1 : List Int} {a b m : Nat}

/-- what was taken out of its place a and put behind those up to i - 1 -/
structure Up (zs zs' : List Int) (a i : Nat) : Prop where
  kept : Kept zs zs' a (i + 1)
  lo : ∀ j, a ≤ j → j < i → iget zs' j = iget zs (j + 1)
  at_ : iget zs' i = iget zs a
theorem Up.refl (zs : List Int) (a : Nat) : Up zs zs a a := ⟨Kept.refl _ _ _, fun j h1 h2 => by omega, rfl⟩
theorem Up.step {k : Nat} (h : Up zs zs' a k) (ha : a ≤ k) (hk : k + 1 < zs.length) : Up zs (swp zs' k (k + 1)) a (k + 1) := by
  have hl := h.kept.len
  have g := swp_get (zs := zs') (i := k) (j := k + 1) (by omega) (by omega)
  refine ⟨(h.kept.wide (Nat.le_refl _) (by omega)).trans (Kept.swp (by omega) (by omega) ha (by omega) (by omega) (by omega)), fun j h1 h2 => ?_, ?_⟩
  · rw [g, if_neg (by omega)]
    by_cases e : j = k
    · subst e; rw [if_pos rfl]; exact h.kept.out _ (by omega)
    · rw [if_neg e]; exact h.lo j h1 (by omega)
  · rw [g, if_pos rfl]; exact h.at_
/-- what was taken out of its place b and put ahead of those from i on -/
structure Dn (zs zs' : List Int) (i b : Nat) : Prop where
  kept : Kept zs zs' i (b + 1)
  hi : ∀ j, i < j → j ≤ b → iget zs' j = iget zs (j - 1)
  at_ : iget zs' i = iget zs b
theorem Dn.refl (zs : List Int) (b : Nat) : Dn zs zs b b := ⟨Kept.refl _ _ _, fun j h1 h2 => by omega, rfl⟩
theorem Dn.step {k : Nat} (h : Dn zs zs' (k + 1) b) (hk : k + 1 ≤ b) (hb : b < zs.length) : Dn zs (swp zs' (k + 1) k) k b := by
  have hl := h.kept.len
  have g := swp_get (zs := zs') (i := k + 1) (j := k) (by omega) (by omega)
  refine ⟨(h.kept.wide (by omega) (Nat.le_refl _)).trans (Kept.swp (by omega) (by omega) (by omega) (by omega) (by omega) (by omega)), fun j h1 h2 => ?_, ?_⟩
  · rw [g, if_neg (by omega)]
    by_cases e : j = k + 1
    · subst e; rw [if_pos rfl]; exact h.kept.out _ (by omega)
    · rw [if_neg e]; exact h.hi j (by omega) h2
  · rw [g, if_pos rfl]; exact h.at_

/-- one element, put into the list behind it -/
theorem merge_up {i : Nat} (hR : Asc key zs (a + 1) b) (h1 : a + 1 ≤ i) (h2 : i ≤ b) (lo : ∀ h, a + 1 ≤ h → h < i → key (iget zs h) ≤ key (iget zs a)) (hi : ∀ h, i ≤ h → h < b → key (iget zs a) ≤ key (iget zs h))
    (hu : Up zs zs' a (i - 1)) : Kept zs zs' a b ∧ Asc key zs' a b := by
  refine ⟨hu.kept.wide (Nat.le_refl _) (by omega), fun x y hx hxy hy => ?_⟩
  have hx' : iget zs' x = if x < i - 1 then iget zs (x + 1) else if x = i - 1 then iget zs a else iget zs x := by
    split
    · exact hu.lo x hx ‹_›
    · split
      · rename_i e; rw [e]; exact hu.at_
      · exact hu.kept.out x (by omega)
  have hy' : iget zs' y = if y < i - 1 then iget zs (y + 1) else if y = i - 1 then iget zs a else iget zs y := by
    split
    · exact hu.lo y (by omega) ‹_›
    · split
      · rename_i e; rw [e]; exact hu.at_
      · exact hu.kept.out y (by omega)
  rw [hx', hy']
  split
  · split
    · exact hR _ _ (by omega) (by omega) (by omega)
    · split
      · exact lo _ (by omega) (by omega)
      · exact hR _ _ (by omega) (by omega) (by omega)
  · split
    · split
      · omega
      · split
        · omega
        · exact hi _ (by omega) hy
    · split
      · omega
      · split
        · omega
        · exact hR _ _ (by omega) (by omega) (by omega)
/-- one element, put into the list ahead of it -/
theorem merge_dn {i : Nat} (hL : Asc key zs a m) (h1 : a ≤ i) (h2 : i ≤ m) (lo : ∀ h, a ≤ h → h < i → key (iget zs h) ≤ key (iget zs m)) (hi : ∀ h, i ≤ h → h < m → key (iget zs m) ≤ key (iget zs h))
    (hd : Dn zs zs' i m) : Kept zs zs' a (m + 1) ∧ Asc key zs' a (m + 1) := by
  refine ⟨hd.kept.wide h1 (Nat.le_refl _), fun x y hx hxy hy => ?_⟩
  have hg : ∀ x, a ≤ x → x ≤ m → iget zs' x = if x < i then iget zs x else if x = i then iget zs m else iget zs (x - 1) := fun x hx hm => by
    split
    · exact hd.kept.out x (by omega)
    · split
      · rename_i e; rw [e]; exact hd.at_
      · exact hd.hi x (by omega) hm
  rw [hg x hx (by omega), hg y (by omega) (by omega)]
  split
  · split
    · exact hL _ _ (by omega) (by omega) (by omega)
    · split
      · exact lo _ (by omega) (by omega)
      · exact hL _ _ (by omega) (by omega) (by omega)
  · split
    · split
      · omega
      · split
        · omega
        · exact hi _ (by omega) (by omega)
    · split
      · omega
      · split
        · omega
        · exact hL _ _ (by omega) (by omega) (by omega)

/-- the two parts of a list are exchanged -/
structure Rot (zs zs' : List Int) (a m b : Nat) : Prop where
  kept : Kept zs zs' a b
  lo : ∀ j, a ≤ j → j < a + (b - m) → iget zs' j = iget zs (j + (m - a))
  hi : ∀ j, a + (b - m) ≤ j → j < b → iget zs' j = iget zs (j - (b - m))
/-- where to cut -/
structure Cut (key : Int → Nat) (zs : List Int) (a m b st en md : Nat) : Prop where
  sum : st + en = md + m
  s1 : a ≤ st
  s2 : st ≤ m
  e1 : m ≤ en
  e2 : en ≤ b
  mid : md = (a + b) / 2
  ad : ∀ i j, a ≤ i → i < st → en ≤ j → j < b → key (iget zs i) ≤ key (iget zs j)
  cb : ∀ i j, m ≤ i → i < en → st ≤ j → j < m → key (iget zs i) ≤ key (iget zs j)
theorem cut_of {st md : Nat} (hmd : md = (a + b) / 2) (ham : a + 2 ≤ m) (hmb : m + 2 ≤ b) (hL : Asc key zs a m) (hR : Asc key zs m b)
    (h1 : (if m > md then md + m - b else a) ≤ st) (h2 : st ≤ (if m > md then md else m))
    (lo : ∀ c, (if m > md then md + m - b else a) ≤ c → c < st → key (iget zs c) ≤ key (iget zs (md + m - 1 - c)))
    (hi : ∀ c, st ≤ c → c < (if m > md then md else m) → key (iget zs (md + m - 1 - c)) ≤ key (iget zs c)) :
    Cut key zs a m b st (md + m - st) md := by
  have hle : ∀ {x y}, (a ≤ x ∧ x ≤ y ∧ y < m) ∨ (m ≤ x ∧ x ≤ y ∧ y < b) → key (iget zs x) ≤ key (iget zs y) := fun {x y} h => by
    by_cases e : x = y
    · rw [e]; exact Nat.le_refl _
    · rcases h with h | h
      · exact hL _ _ h.1 (by omega) h.2.2
      · exact hR _ _ h.1 (by omega) h.2.2
  split at h1 <;> split at h2 <;> try omega
  · rename_i hm _
    rw [if_pos hm] at lo hi
    refine ⟨by omega, by omega, by omega, by omega, by omega, hmd, fun i j i1 i2 j1 j2 => ?_, fun i j i1 i2 j1 j2 => ?_⟩
    · have h3 := lo (st - 1) (by omega) (by omega)
      exact Nat.le_trans (hle (.inl ⟨i1, by omega, by omega⟩)) (Nat.le_trans h3 (hle (.inr ⟨by omega, by omega, by omega⟩)))
    · have h3 := hi st (by omega) (by omega)
      exact Nat.le_trans (hle (.inr ⟨i1, by omega, by omega⟩)) (Nat.le_trans h3 (hle (.inl ⟨by omega, by omega, by omega⟩)))
  · rename_i hm _
    rw [if_neg hm] at lo hi
    refine ⟨by omega, by omega, by omega, by omega, by omega, hmd, fun i j i1 i2 j1 j2 => ?_, fun i j i1 i2 j1 j2 => ?_⟩
    · have h3 := lo (st - 1) (by omega) (by omega)
      exact Nat.le_trans (hle (.inl ⟨i1, by omega, by omega⟩)) (Nat.le_trans h3 (hle (.inr ⟨by omega, by omega, by omega⟩)))
    · have h3 := hi st (by omega) (by omega)
      exact Nat.le_trans (hle (.inr ⟨i1, by omega, by omega⟩)) (Nat.le_trans h3 (hle (.inl ⟨by omega, by omega, by omega⟩)))
/-- where nothing has to be exchanged, the exchange does nothing -/
theorem Rot.none {st en : Nat} (h : ¬ (st < m ∧ m < en)) (h1 : st ≤ m) (h2 : m ≤ en) : Rot zs zs st m en :=
  ⟨Kept.refl _ _ _, fun j i1 i2 => by rw [show j + (m - st) = j by omega], fun j i1 i2 => by rw [show j - (en - m) = j by omega]⟩
/-- after the exchange: a .. st | m .. en | st .. m | en .. b -/
theorem Rot.at {st en md : Nat} (c : Cut key zs a m b st en md) (hr : Rot zs zs1 st m en) :
    ∀ j, a ≤ j → j < b → iget zs1 j = if j < st then iget zs j else if j < md then iget zs (j + (m - st)) else if j < en then iget zs (j - (en - m)) else iget zs j := fun j j1 j2 => by
  have hs := c.sum; have s2 := c.s2; have e1 := c.e1
  split
  · exact hr.kept.out j (by omega)
  · split
    · exact hr.lo j (by omega) (by omega)
    · split
      · exact hr.hi j (by omega) ‹_›
      · exact hr.kept.out j (by omega)
/-- the two halves, each of two lists in order, and all of the first ahead of all of the second -/
structure Halves (key : Int → Nat) (less : Int → Int → Bool) (zs1 : List Int) (a st md en b : Nat) : Prop where
  o1 : Asc key zs1 a st
  o2 : Asc key zs1 st md
  o3 : Asc key zs1 md en
  o4 : Asc key zs1 en b
  g1 : Agr key less zs1 a st md
  g2 : Agr key less zs1 md en b
  ac : ∀ i j, a ≤ i → i < md → md ≤ j → j < b → key (iget zs1 i) ≤ key (iget zs1 j)
theorem halves_of {st en md : Nat} (c : Cut key zs a m b st en md) (hL : Asc key zs a m) (hR : Asc key zs m b) (hg : Agr key less zs a m b) (hr : Rot zs zs1 st m en) : Halves key less zs1 a st md en b := by
  have H := Rot.at c hr
  have hs := c.sum; have s1 := c.s1; have s2 := c.s2; have e1 := c.e1; have e2 := c.e2; have hm := c.mid
  have A : ∀ j, a ≤ j → j < st → iget zs1 j = iget zs j := fun j j1 j2 => by rw [H j j1 (by omega), if_pos j2]
  have C : ∀ j, st ≤ j → j < md → iget zs1 j = iget zs (j + (m - st)) := fun j j1 j2 => by rw [H j (by omega) (by omega), if_neg (by omega), if_pos j2]
  have B : ∀ j, md ≤ j → j < en → iget zs1 j = iget zs (j - (en - m)) := fun j j1 j2 => by rw [H j (by omega) (by omega), if_neg (by omega), if_neg (by omega), if_pos j2]
  have D : ∀ j, en ≤ j → j < b → iget zs1 j = iget zs j := fun j j1 j2 => by rw [H j (by omega) j2, if_neg (by omega), if_neg (by omega), if_neg (by omega)]
  refine ⟨fun i j i1 i2 i3 => ?_, fun i j i1 i2 i3 => ?_, fun i j i1 i2 i3 => ?_, fun i j i1 i2 i3 => ?_, fun i j i1 i2 i3 i4 => ?_, fun i j i1 i2 i3 i4 => ?_, fun i j i1 i2 i3 i4 => ?_⟩
  · rw [A i i1 (by omega), A j (by omega) i3]; exact hL _ _ i1 i2 (by omega)
  · rw [C i i1 (by omega), C j (by omega) i3]; exact hR _ _ (by omega) (by omega) (by omega)
  · rw [B i i1 (by omega), B j (by omega) i3]; exact hL _ _ (by omega) (by omega) (by omega)
  · rw [D i i1 (by omega), D j (by omega) i3]; exact hR _ _ (by omega) i2 i3
  · rw [A i i1 i2, C j i3 i4]; exact hg _ _ i1 (by omega) (by omega) (by omega)
  · rw [B i i1 i2, D j i3 i4]; exact hg _ _ (by omega) (by omega) (by omega) i4
  · by_cases ei : i < st <;> by_cases ej : j < en
    · rw [A i i1 ei, B j i3 ej]; exact hL _ _ i1 (by omega) (by omega)
    · rw [A i i1 ei, D j (by omega) i4]; exact c.ad _ _ i1 ei (by omega) i4
    · rw [C i (by omega) i2, B j i3 ej]; exact c.cb _ _ (by omega) (by omega) (by omega) (by omega)
    · rw [C i (by omega) i2, D j (by omega) i4]; exact hR _ _ (by omega) (by omega) i4
/-- both halves in order: the whole is in order -/
theorem join_of {zs2 zs3 : List Int} {md : Nat} (ha : a ≤ md) (hb : md ≤ b) (k2 : Kept zs1 zs2 a md) (o2 : Asc key zs2 a md) (k3 : Kept zs2 zs3 md b) (o3 : Asc key zs3 md b)
    (ac : ∀ i j, a ≤ i → i < md → md ≤ j → j < b → key (iget zs1 i) ≤ key (iget zs1 j)) : Kept zs1 zs3 a b ∧ Asc key zs3 a b := by
  refine ⟨(k2.wide (Nat.le_refl _) hb).trans (k3.wide ha (Nat.le_refl _)), fun i j i1 i2 i3 => ?_⟩
  by_cases ei : i < md <;> by_cases ej : j < md
  · rw [k3.out i (.inl ei), k3.out j (.inl ej)]; exact o2 _ _ i1 i2 ej
  · obtain ⟨x, x1, x2, x3⟩ := k2.mem i i1 ei
    obtain ⟨y, y1, y2, y3⟩ := k3.mem j (by omega) i3
    rw [k3.out i (.inl ei), x3, y3, k2.out y (.inr y1)]
    exact ac _ _ x1 x2 y1 y2
  · omega
  · exact o3 _ _ (by omega) i2 i3
theorem Agr.keep {a' b' : Nat} (h : Agr key less zs a m b) (k : Kept zs zs' a' b') (hb : b' ≤ a ∨ b ≤ a') : Agr key less zs' a m b := fun i j i1 i2 i3 i4 => by
  rw [k.out i (by omega), k.out j (by omega)]; exact h i j i1 i2 i3 i4
theorem Asc.keep {a' b' : Nat} (h : Asc key zs a b) (k : Kept zs zs' a' b') (hb : b' ≤ a ∨ b ≤ a') : Asc key zs' a b := fun i j i1 i2 i3 => by
  rw [k.out i (by omega), k.out j (by omega)]; exact h i j i1 i2 i3
theorem Asc.short (h : b ≤ a + 1) : Asc key zs a b := fun i j i1 i2 i3 => by omega
/-- a half with an empty part is in order already -/
theorem Asc.glue {x : Nat} (h1 : Asc key zs a x) (h2 : Asc key zs x b) (h : x ≤ a ∨ b ≤ x) : Asc key zs a b := fun i j i1 i2 i3 => by
  rcases h with h | h
  · exact h2 i j (by omega) i2 i3
  · exact h1 i j i1 i2 (by omega)

/-- the row of a block, exchanged with another one as long -/
structure SwR (zs zs' : List Int) (a b n : Nat) : Prop where
  len : zs'.length = zs.length
  perm : zs'.Perm zs
  lo : ∀ j, a ≤ j → j < a + n → iget zs' j = iget zs (b + (j - a))
  hi : ∀ j, b ≤ j → j < b + n → iget zs' j = iget zs (a + (j - b))
  out : ∀ j, (j < a ∨ a + n ≤ j) → (j < b ∨ b + n ≤ j) → iget zs' j = iget zs j
theorem SwR.refl (zs : List Int) (a b : Nat) : SwR zs zs a b 0 := ⟨rfl, List.Perm.refl _, fun j h1 h2 => by omega, fun j h1 h2 => by omega, fun _ _ _ => rfl⟩
theorem SwR.step {k : Nat} (h : SwR zs zs' a b k) (hab : a + k < b) (hb : b + k < zs.length) : SwR zs (swp zs' (a + k) (b + k)) a b (k + 1) := by
  have hl := h.len
  have g := swp_get (zs := zs') (i := a + k) (j := b + k) (by omega) (by omega)
  refine ⟨(swp_len _ _ _).trans hl, (swp_perm (by omega) (by omega)).trans h.perm, fun j h1 h2 => ?_, fun j h1 h2 => ?_, fun j h1 h2 => ?_⟩
  · rw [g, if_neg (by omega)]
    by_cases e : j = a + k
    · rw [if_pos e, show b + (j - a) = b + k by omega]; exact h.out _ (by omega) (by omega)
    · rw [if_neg e]; exact h.lo j h1 (by omega)
  · rw [g]
    by_cases e : j = b + k
    · rw [if_pos e, show a + (j - b) = a + k by omega]; exact h.out _ (by omega) (by omega)
    · rw [if_neg e, if_neg (by omega)]; exact h.hi j h1 (by omega)
  · rw [g, if_neg (by omega), if_neg (by omega)]; exact h.out j (by omega) (by omega)
theorem SwR.kept {n p q : Nat} (h : SwR zs zs' a b n) (h1 : p ≤ a) (h2 : a + n ≤ q) (h3 : p ≤ b) (h4 : b + n ≤ q) : Kept zs zs' p q :=
  ⟨h.len, h.perm, fun j hj => h.out j (by omega) (by omega), fun j j1 j2 => by
    by_cases e : a ≤ j ∧ j < a + n
    · exact ⟨b + (j - a), by omega, by omega, h.lo j e.1 e.2⟩
    · by_cases e2 : b ≤ j ∧ j < b + n
      · exact ⟨a + (j - b), by omega, by omega, h.hi j e2.1 e2.2⟩
      · exact ⟨j, j1, j2, h.out j (by omega) (by omega)⟩⟩
/-- the exchange under way: what waits is i elements ahead of m, and j from m on; T is what shall stand at the end -/
structure RotB (T : Nat → Int) (cur : List Int) (m i j : Nat) : Prop where
  out : ∀ p, p < m - i ∨ m + j ≤ p → iget cur p = T p
  lo : ∀ p, m - i ≤ p → p < m - i + j → T p = iget cur (p + i)
  hi : ∀ p, m - i + j ≤ p → p < m + j → T p = iget cur (p - j)
def rotT (zs : List Int) (a m b p : Nat) : Int := if a ≤ p ∧ p < a + (b - m) then iget zs (p + (m - a)) else if a + (b - m) ≤ p ∧ p < b then iget zs (p - (b - m)) else iget zs p
theorem RotB.start (h1 : a ≤ m) (h2 : m ≤ b) : RotB (rotT zs a m b) zs m (m - a) (b - m) :=
  ⟨fun p hp => by unfold rotT; rw [if_neg (by omega), if_neg (by omega)], fun p p1 p2 => by unfold rotT; rw [if_pos (by omega)], fun p p1 p2 => by unfold rotT; rw [if_neg (by omega), if_pos (by omega)]⟩
variable {T : Nat → Int} {cur cur' : List Int} {i j : Nat}
theorem RotB.more (h : RotB T cur m i j) (hm : i ≤ m) (hij : j < i) (hs : SwR cur cur' (m - i) m j) : RotB T cur' m (i - j) j := by
  refine ⟨fun p hp => ?_, fun p p1 p2 => ?_, fun p p1 p2 => ?_⟩
  · by_cases e : m - i ≤ p ∧ p < m - i + j
    · rw [hs.lo p e.1 e.2, h.lo p e.1 e.2]; congr 1; omega
    · rw [hs.out p (by omega) (by omega)]; exact h.out p (by omega)
  · rw [h.hi p (by omega) (by omega), hs.hi _ (by omega) (by omega)]; congr 1; omega
  · rw [h.hi p (by omega) (by omega), hs.out _ (by omega) (by omega)]
theorem RotB.fewer (h : RotB T cur m i j) (hm : i ≤ m) (hij : i < j) (hs : SwR cur cur' (m - i) (m + j - i) i) : RotB T cur' m i (j - i) := by
  refine ⟨fun p hp => ?_, fun p p1 p2 => ?_, fun p p1 p2 => ?_⟩
  · by_cases e : m + j - i ≤ p ∧ p < m + j
    · rw [hs.hi p e.1 (by omega), h.hi p (by omega) (by omega)]; congr 1; omega
    · rw [hs.out p (by omega) (by omega)]; exact h.out p (by omega)
  · rw [h.lo p (by omega) (by omega), hs.out _ (by omega) (by omega)]
  · rw [h.lo p (by omega) (by omega), hs.lo _ (by omega) (by omega)]; congr 1; omega
theorem RotB.last (h : RotB T cur m i i) (hm : i ≤ m) (hs : SwR cur cur' (m - i) m i) : ∀ p, iget cur' p = T p := fun p => by
  by_cases e : m - i ≤ p ∧ p < m
  · rw [hs.lo p e.1 (by omega), h.lo p e.1 (by omega)]; congr 1; omega
  · by_cases e2 : m ≤ p ∧ p < m + i
    · rw [hs.hi p e2.1 e2.2, h.hi p (by omega) e2.2]; congr 1; omega
    · rw [hs.out p (by omega) (by omega)]; exact h.out p (by omega)
theorem Rot.ofT (k : Kept zs zs' a b) (h : ∀ p, iget zs' p = rotT zs a m b p) : Rot zs zs' a m b :=
  ⟨k, fun p p1 p2 => by rw [h]; unfold rotT; rw [if_pos ⟨p1, p2⟩], fun p p1 p2 => by rw [h]; unfold rotT; rw [if_neg (by omega), if_pos ⟨p1, p2⟩]⟩

/-- the insertion of the element at k under way: it stands at j -/
theorem ins_done {k : Nat} (hd : Dn zs zs' j k) (ha : a ≤ j) (hj : j ≤ k) (hA : Asc key zs a k) (lo : j = a ∨ key (iget zs (j - 1)) ≤ key (iget zs k)) (hi : ∀ h, j ≤ h → h < k → key (iget zs k) ≤ key (iget zs h)) :
    Kept zs zs' a (k + 1) ∧ Asc key zs' a (k + 1) :=
  merge_dn hA ha hj (fun h h1 h2 => by
    rcases lo with e | e
    · omega
    · by_cases e2 : h = j - 1
      · rw [e2]; exact e
      · exact Nat.le_trans (hA h (j - 1) h1 (by omega) (by omega)) e) hi hd
/-- the list is in order and has the same elements: it is this one -/
theorem asc_uniq {l zs : List Int} (hinj : ∀ x y, x ∈ zs → y ∈ zs → key x = key y → x = y) (hp : l.Perm zs) (ha : Asc key l 0 l.length) (zt : List Int) (hpt : zt.Perm zs) (hat : zt.Pairwise fun x y => key x ≤ key y) : l = zt := by
  have h1 : l.Pairwise fun x y => key x ≤ key y := by
    rw [List.pairwise_iff_getElem]
    intro i j hi hj hij
    have := ha i j (Nat.zero_le _) hij hj
    rwa [iget_lt hi, iget_lt hj] at this
  exact List.Perm.eq_of_pairwise (fun x y hx hy h1 h2 => hinj x y (hp.subset hx) (hpt.subset hy) (Nat.le_antisymm h1 h2)) h1 hat (hp.trans hpt.symm)
end Go.Proofs.Ytnfkhgamnapgmaa

/- The number of ones of a mask of at most five bits, and the comparison of two masks by it. -/
namespace Go.Proofs.Ytnfkhgamnapgmaa
open Go.RowKit

/-- how many of the five last bits are set -/
def pcN (k : Nat) : Nat := k % 2 + k / 2 % 2 + k / 4 % 2 + k / 8 % 2 + k / 16 % 2
theorem pcN_le (k : Nat) : pcN k ≤ 5 := by unfold pcN; omega
set_option maxRecDepth 100000 in
theorem ones_0 (w : World) : Calls Try.prog 87 #[.int .u64 0] w fun e w' => e = .returned (.int .i64 (pcN 0 : Nat)) ∧ w' = w := by
  go_enter Try.func87, Try.ntmps87
  go_wp2
  go_ret
  exact ⟨by kernel_rfl, rfl⟩
set_option maxRecDepth 100000 in
theorem ones_1 (w : World) : Calls Try.prog 87 #[.int .u64 1] w fun e w' => e = .returned (.int .i64 (pcN 1 : Nat)) ∧ w' = w := by
  go_enter Try.func87, Try.ntmps87
  go_wp2
  go_ret
  exact ⟨by kernel_rfl, rfl⟩
set_option maxRecDepth 100000 in
theorem ones_2 (w : World) : Calls Try.prog 87 #[.int .u64 2] w fun e w' => e = .returned (.int .i64 (pcN 2 : Nat)) ∧ w' = w := by
  go_enter Try.func87, Try.ntmps87
  go_wp2
  go_ret
  exact ⟨by kernel_rfl, rfl⟩
set_option maxRecDepth 100000 in
theorem ones_3 (w : World) : Calls Try.prog 87 #[.int .u64 3] w fun e w' => e = .returned (.int .i64 (pcN 3 : Nat)) ∧ w' = w := by
  go_enter Try.func87, Try.ntmps87
  go_wp2
  go_ret
  exact ⟨by kernel_rfl, rfl⟩
set_option maxRecDepth 100000 in
theorem ones_4 (w : World) : Calls Try.prog 87 #[.int .u64 4] w fun e w' => e = .returned (.int .i64 (pcN 4 : Nat)) ∧ w' = w := by
  go_enter Try.func87, Try.ntmps87
  go_wp2
  go_ret
  exact ⟨by kernel_rfl, rfl⟩
set_option maxRecDepth 100000 in
theorem ones_5 (w : World) : Calls Try.prog 87 #[.int .u64 5] w fun e w' => e = .returned (.int .i64 (pcN 5 : Nat)) ∧ w' = w := by
  go_enter Try.func87, Try.ntmps87
  go_wp2
  go_ret
  exact ⟨by kernel_rfl, rfl⟩
set_option maxRecDepth 100000 in
theorem ones_6 (w : World) : Calls Try.prog 87 #[.int .u64 6] w fun e w' => e = .returned (.int .i64 (pcN 6 : Nat)) ∧ w' = w := by
  go_enter Try.func87, Try.ntmps87
  go_wp2
  go_ret
  exact ⟨by kernel_rfl, rfl⟩
set_option maxRecDepth 100000 in
theorem ones_7 (w : World) : Calls Try.prog 87 #[.int .u64 7] w fun e w' => e = .returned (.int .i64 (pcN 7 : Nat)) ∧ w' = w := by
  go_enter Try.func87, Try.ntmps87
  go_wp2
  go_ret
  exact ⟨by kernel_rfl, rfl⟩
set_option maxRecDepth 100000 in
theorem ones_8 (w : World) : Calls Try.prog 87 #[.int .u64 8] w fun e w' => e = .returned (.int .i64 (pcN 8 : Nat)) ∧ w' = w := by
  go_enter Try.func87, Try.ntmps87
  go_wp2
  go_ret
  exact ⟨by kernel_rfl, rfl⟩
set_option maxRecDepth 100000 in
theorem ones_9 (w : World) : Calls Try.prog 87 #[.int .u64 9] w fun e w' => e = .returned (.int .i64 (pcN 9 : Nat)) ∧ w' = w := by
  go_enter Try.func87, Try.ntmps87
  go_wp2
  go_ret
  exact ⟨by kernel_rfl, rfl⟩
set_option maxRecDepth 100000 in
theorem ones_10 (w : World) : Calls Try.prog 87 #[.int .u64 10] w fun e w' => e = .returned (.int .i64 (pcN 10 : Nat)) ∧ w' = w := by
  go_enter Try.func87, Try.ntmps87
  go_wp2
  go_ret
  exact ⟨by kernel_rfl, rfl⟩
set_option maxRecDepth 100000 in
theorem ones_11 (w : World) : Calls Try.prog 87 #[.int .u64 11] w fun e w' => e = .returned (.int .i64 (pcN 11 : Nat)) ∧ w' = w := by
  go_enter Try.func87, Try.ntmps87
  go_wp2
  go_ret
  exact ⟨by kernel_rfl, rfl⟩
set_option maxRecDepth 100000 in
theorem ones_12 (w : World) : Calls Try.prog 87 #[.int .u64 12] w fun e w' => e = .returned (.int .i64 (pcN 12 : Nat)) ∧ w' = w := by
  go_enter Try.func87, Try.ntmps87
  go_wp2
  go_ret
  exact ⟨by kernel_rfl, rfl⟩
set_option maxRecDepth 100000 in
theorem ones_13 (w : World) : Calls Try.prog 87 #[.int .u64 13] w fun e w' => e = .returned (.int .i64 (pcN 13 : Nat)) ∧ w' = w := by
  go_enter Try.func87, Try.ntmps87
  go_wp2
  go_ret
  exact ⟨by kernel_rfl, rfl⟩
set_option maxRecDepth 100000 in
theorem ones_14 (w : World) : Calls Try.prog 87 #[.int .u64 14] w fun e w' => e = .returned (.int .i64 (pcN 14 : Nat)) ∧ w' = w := by
  go_enter Try.func87, Try.ntmps87
  go_wp2
  go_ret
  exact ⟨by kernel_rfl, rfl⟩
set_option maxRecDepth 100000 in
theorem ones_15 (w : World) : Calls Try.prog 87 #[.int .u64 15] w fun e w' => e = .returned (.int .i64 (pcN 15 : Nat)) ∧ w' = w := by
  go_enter Try.func87, Try.ntmps87
  go_wp2
  go_ret
  exact ⟨by kernel_rfl, rfl⟩
set_option maxRecDepth 100000 in
theorem ones_16 (w : World) : Calls Try.prog 87 #[.int .u64 16] w fun e w' => e = .returned (.int .i64 (pcN 16 : Nat)) ∧ w' = w := by
  go_enter Try.func87, Try.ntmps87
  go_wp2
  go_ret
  exact ⟨by kernel_rfl, rfl⟩
set_option maxRecDepth 100000 in
theorem ones_17 (w : World) : Calls Try.prog 87 #[.int .u64 17] w fun e w' => e = .returned (.int .i64 (pcN 17 : Nat)) ∧ w' = w := by
  go_enter Try.func87, Try.ntmps87
  go_wp2
  go_ret
  exact ⟨by kernel_rfl, rfl⟩
set_option maxRecDepth 100000 in
theorem ones_18 (w : World) : Calls Try.prog 87 #[.int .u64 18] w fun e w' => e = .returned (.int .i64 (pcN 18 : Nat)) ∧ w' = w := by
  go_enter Try.func87, Try.ntmps87
  go_wp2
  go_ret
  exact ⟨by kernel_rfl, rfl⟩
set_option maxRecDepth 100000 in
theorem ones_19 (w : World) : Calls Try.prog 87 #[.int .u64 19] w fun e w' => e = .returned (.int .i64 (pcN 19 : Nat)) ∧ w' = w := by
  go_enter Try.func87, Try.ntmps87
  go_wp2
  go_ret
  exact ⟨by kernel_rfl, rfl⟩
set_option maxRecDepth 100000 in
theorem ones_20 (w : World) : Calls Try.prog 87 #[.int .u64 20] w fun e w' => e = .returned (.int .i64 (pcN 20 : Nat)) ∧ w' = w := by
  go_enter Try.func87, Try.ntmps87
  go_wp2
  go_ret
  exact ⟨by kernel_rfl, rfl⟩
set_option maxRecDepth 100000 in
theorem ones_21 (w : World) : Calls Try.prog 87 #[.int .u64 21] w fun e w' => e = .returned (.int .i64 (pcN 21 : Nat)) ∧ w' = w := by
  go_enter Try.func87, Try.ntmps87
  go_wp2
  go_ret
  exact ⟨by kernel_rfl, rfl⟩
set_option maxRecDepth 100000 in
theorem ones_22 (w : World) : Calls Try.prog 87 #[.int .u64 22] w fun e w' => e = .returned (.int .i64 (pcN 22 : Nat)) ∧ w' = w := by
  go_enter Try.func87, Try.ntmps87
  go_wp2
  go_ret
  exact ⟨by kernel_rfl, rfl⟩
set_option maxRecDepth 100000 in
theorem ones_23 (w : World) : Calls Try.prog 87 #[.int .u64 23] w fun e w' => e = .returned (.int .i64 (pcN 23 : Nat)) ∧ w' = w := by
  go_enter Try.func87, Try.ntmps87
  go_wp2
  go_ret
  exact ⟨by kernel_rfl, rfl⟩
set_option maxRecDepth 100000 in
theorem ones_24 (w : World) : Calls Try.prog 87 #[.int .u64 24] w fun e w' => e = .returned (.int .i64 (pcN 24 : Nat)) ∧ w' = w := by
  go_enter Try.func87, Try.ntmps87
  go_wp2
  go_ret
  exact ⟨by kernel_rfl, rfl⟩
set_option maxRecDepth 100000 in
theorem ones_25 (w : World) : Calls Try.prog 87 #[.int .u64 25] w fun e w' => e = .returned (.int .i64 (pcN 25 : Nat)) ∧ w' = w := by
  go_enter Try.func87, Try.ntmps87
  go_wp2
  go_ret
  exact ⟨by kernel_rfl, rfl⟩
set_option maxRecDepth 100000 in
theorem ones_26 (w : World) : Calls Try.prog 87 #[.int .u64 26] w fun e w' => e = .returned (.int .i64 (pcN 26 : Nat)) ∧ w' = w := by
  go_enter Try.func87, Try.ntmps87
  go_wp2
  go_ret
  exact ⟨by kernel_rfl, rfl⟩
set_option maxRecDepth 100000 in
theorem ones_27 (w : World) : Calls Try.prog 87 #[.int .u64 27] w fun e w' => e = .returned (.int .i64 (pcN 27 : Nat)) ∧ w' = w := by
  go_enter Try.func87, Try.ntmps87
  go_wp2
  go_ret
  exact ⟨by kernel_rfl, rfl⟩
set_option maxRecDepth 100000 in
theorem ones_28 (w : World) : Calls Try.prog 87 #[.int .u64 28] w fun e w' => e = .returned (.int .i64 (pcN 28 : Nat)) ∧ w' = w := by
  go_enter Try.func87, Try.ntmps87
  go_wp2
  go_ret
  exact ⟨by kernel_rfl, rfl⟩
set_option maxRecDepth 100000 in
theorem ones_29 (w : World) : Calls Try.prog 87 #[.int .u64 29] w fun e w' => e = .returned (.int .i64 (pcN 29 : Nat)) ∧ w' = w := by
  go_enter Try.func87, Try.ntmps87
  go_wp2
  go_ret
  exact ⟨by kernel_rfl, rfl⟩
set_option maxRecDepth 100000 in
theorem ones_30 (w : World) : Calls Try.prog 87 #[.int .u64 30] w fun e w' => e = .returned (.int .i64 (pcN 30 : Nat)) ∧ w' = w := by
  go_enter Try.func87, Try.ntmps87
  go_wp2
  go_ret
  exact ⟨by kernel_rfl, rfl⟩
set_option maxRecDepth 100000 in
theorem ones_31 (w : World) : Calls Try.prog 87 #[.int .u64 31] w fun e w' => e = .returned (.int .i64 (pcN 31 : Nat)) ∧ w' = w := by
  go_enter Try.func87, Try.ntmps87
  go_wp2
  go_ret
  exact ⟨by kernel_rfl, rfl⟩
theorem ones_any (k : Nat) (hk : k < 32) (w : World) : Calls Try.prog 87 #[.int .u64 k] w fun e w' => e = .returned (.int .i64 (pcN k : Nat)) ∧ w' = w := by
  match k, hk with
  | 0, _ => exact ones_0 w
  | 1, _ => exact ones_1 w
  | 2, _ => exact ones_2 w
  | 3, _ => exact ones_3 w
  | 4, _ => exact ones_4 w
  | 5, _ => exact ones_5 w
  | 6, _ => exact ones_6 w
  | 7, _ => exact ones_7 w
  | 8, _ => exact ones_8 w
  | 9, _ => exact ones_9 w
  | 10, _ => exact ones_10 w
  | 11, _ => exact ones_11 w
  | 12, _ => exact ones_12 w
  | 13, _ => exact ones_13 w
  | 14, _ => exact ones_14 w
  | 15, _ => exact ones_15 w
  | 16, _ => exact ones_16 w
  | 17, _ => exact ones_17 w
  | 18, _ => exact ones_18 w
  | 19, _ => exact ones_19 w
  | 20, _ => exact ones_20 w
  | 21, _ => exact ones_21 w
  | 22, _ => exact ones_22 w
  | 23, _ => exact ones_23 w
  | 24, _ => exact ones_24 w
  | 25, _ => exact ones_25 w
  | 26, _ => exact ones_26 w
  | 27, _ => exact ones_27 w
  | 28, _ => exact ones_28 w
  | 29, _ => exact ones_29 w
  | 30, _ => exact ones_30 w
  | 31, _ => exact ones_31 w
  | k + 32, h => exact absurd h (by omega)
theorem cmp_any (x y : Nat) (hx : x < 32) (hy : y < 32) (w : World) : Calls Try.prog 136 #[.int .i64 x, .int .i64 y] w fun e w' => e = .returned (.int .i64 ((pcN x : Nat) - (pcN y : Nat))) ∧ w' = w := by
  have h1 : IntKind.u64.wrap (x : Int) = (x : Int) := by simp [IntKind.wrap, IntKind.bits, IntKind.signed]; omega
  have h2 : IntKind.u64.wrap (y : Int) = (y : Int) := by simp [IntKind.wrap, IntKind.bits, IntKind.signed]; omega
  have p1 := pcN_le x
  have p2 := pcN_le y
  have h3 : IntKind.i64.wrap ((pcN x : Nat) - (pcN y : Nat) : Int) = (pcN x : Nat) - (pcN y : Nat) := IntWalk.i64_in _ (by omega)
  go_enter Try.func136, Try.ntmps136
  go_wp2_with fail
  refine (ones_any x hx _).mono ?_
  rintro e w1 ⟨rfl, rfl⟩
  go_wp2_with fail
  refine (ones_any y hy _).mono ?_
  rintro e w1 ⟨rfl, rfl⟩
  go_wp2_with fail
  go_ret
  exact ⟨by kernel_rfl, rfl⟩
end Go.Proofs.Ytnfkhgamnapgmaa

/- slices.SortStableFunc at []int64 with the program's comparison of masks: its parts, in words. -/
namespace Go.Proofs.Ytnfkhgamnapgmaa
open Go.RowKit

/-- masks of five bits -/
def Rng (zs : List Int) : Prop := ∀ z ∈ zs, 0 ≤ z ∧ z < 32
theorem Rng.at_ {zs : List Int} (h : Rng zs) (j : Nat) : ∃ k : Nat, iget zs j = k ∧ k < 32 := by
  by_cases hj : j < zs.length
  · have h1 := h _ (iget_mem hj)
    exact ⟨(iget zs j).toNat, by omega, by omega⟩
  · exact ⟨0, by simp [iget, List.getElem?_eq_none (Nat.le_of_not_lt hj)], by omega⟩
theorem Rng.perm {zs zt : List Int} (h : Rng zs) (p : zt.Perm zs) : Rng zt := fun z hz => h z (p.subset hz)
/-- what the comparison says -/
def cmpZ (x y : Int) : Int := (pcN x.toNat : Nat) - (pcN y.toNat : Nat)
def lessZ (x y : Int) : Bool := decide (cmpZ x y < 0)
theorem cmp_at {zs : List Int} (h : Rng zs) (i j : Nat) (w : World) : Calls Try.prog 136 #[.int .i64 (iget zs i), .int .i64 (iget zs j)] w fun e w' => e = .returned (.int .i64 (cmpZ (iget zs i) (iget zs j))) ∧ w' = w := by
  obtain ⟨x, hx, hx2⟩ := h.at_ i
  obtain ⟨y, hy, hy2⟩ := h.at_ j
  have := cmp_any x y hx2 hy2 w
  rw [hx, hy]; unfold cmpZ; exact this

set_option maxHeartbeats 800000 in
theorem swapRange_any (ao : Option Addr) (n c a b k : Nat) (zs : List Int) (w : World) (base : Nat) (h : Own w base 2 ao n c (zs.map (Value.int .i64))) (hn : n ≤ 1000) (hab : a + k ≤ b) (hb : b + k ≤ n) (f : Value) :
    Calls Try.prog 229 #[.slice ao n c, .int .i64 a, .int .i64 b, .int .i64 k, f] w fun e w' => e = .returned (.tuple #[]) ∧ ∃ zt, SwR zs zt a b k ∧ Own w' base 2 ao n c (zt.map (Value.int .i64)) ∧ w.grownBy w' (bk ao) := by
  have hl : zs.length = n := by have := h.len; simpa using this
  have HL := Lib.hid hl
  clear hl
  go_enter Try.func229, Try.ntmps229
  go_wp2
  go_loopw [10] (fun i wr => ∃ (t : Nat) (cur : List Int), t ≤ k ∧ i = .int .i64 t ∧ SwR zs cur a b t ∧ Own wr base 2 ao n c (cur.map (Value.int .i64)) ∧ w.grownBy wr (bk ao)) (fun i _ => (k - intOf i).toNat)
  case atStart => exact ⟨0, zs, Nat.zero_le _, rfl, SwR.refl _ _ _, h, World.grownBy.refl _ _⟩
  case round =>
    obtain ⟨t, cur, ht, rfl, hsw, ho, hg⟩ := hrel
    have HS := Lib.hid hsw
    have HO := Lib.hid ho
    have HG := Lib.hid hg
    clear hsw ho hg
    by_cases hlt : t < k
    · obtain ⟨g, rfl, -, hgl, -, -, -⟩ := HO.out.form (by omega)
      have hin : a + t < n := by omega
      have hjn : b + t < n := by omega
      have e1 : IntKind.i64.wrap ((a : Int) + (t : Int)) = ((a + t : Nat) : Int) := by rw [IntWalk.i64_in _ (by omega)]; omega
      have e2 : IntKind.i64.wrap ((b : Int) + (t : Int)) = ((b + t : Nat) : Int) := by rw [IntWalk.i64_in _ (by omega)]; omega
      have hc1 := own_iget HO.out hin
      have hc2 := own_iget HO.out hjn
      have hf1 := HO.out.1.frozenAt (a + t)
      have hf2 := HO.out.1.frozenAt (b + t)
      have ho1 : Own wr.drew base 2 (some ⟨g, 0, none⟩) n c (cur.map (Value.int .i64)) := HO.out
      obtain ⟨s1, t1⟩ := ho1.stored (a + t) (.int .i64 (iget cur (b + t)))
      obtain ⟨s2, t2⟩ := s1.stored (b + t) (.int .i64 (iget cur (a + t)))
      have S2 := Lib.hid s2
      have T1 := Lib.hid t1
      have T2 := Lib.hid t2
      clear s1 t1 s2 t2 ho1
      go_wp2_with fail
      go_region
      go_wp2
      go_roundw
      case rel =>
        refine ⟨t + 1, swp cur (a + t) (b + t), by omega, by go_num, HS.out.step (by omega) (by have := HS.out.len; have := HL.out; omega), ?_, ?_⟩
        · unfold swp; rw [List.map_set, List.map_set]; exact S2.out
        · exact grown_tr HG.out (grown_tr (⟨rfl, rfl, rfl, Nat.le_refl _, fun _ _ _ => rfl⟩ : wr.grownBy wr.drew _) (grown_tr T1.out T2.out))
      case measure => simp [intOf]; omega
    · obtain rfl : t = k := by omega
      go_wp2
      go_end0
      exact ⟨rfl, cur, HS.out, HO.out, HG.out⟩

theorem sub_w {x y : Nat} (h : y ≤ x) (hx : x ≤ 1000000) : IntKind.i64.wrap ((x : Int) - (y : Int)) = ((x - y : Nat) : Int) := by rw [IntWalk.i64_in _ (by omega)]; omega
theorem add_w {x y : Nat} (hx : x ≤ 1000000) (hy : y ≤ 1000000) : IntKind.i64.wrap ((x : Int) + (y : Int)) = ((x + y : Nat) : Int) := by rw [IntWalk.i64_in _ (by omega)]; omega

set_option maxHeartbeats 800000 in
theorem rotate_any (ao : Option Addr) (n c a m b : Nat) (zs : List Int) (w : World) (base : Nat) (h : Own w base 2 ao n c (zs.map (Value.int .i64))) (hn : n ≤ 1000) (ham : a < m) (hmb : m < b) (hb : b ≤ n) (f : Value) :
    Calls Try.prog 221 #[.slice ao n c, .int .i64 a, .int .i64 m, .int .i64 b, f] w fun e w' => e = .returned (.tuple #[]) ∧ ∃ zt, Rot zs zt a m b ∧ Own w' base 2 ao n c (zt.map (Value.int .i64)) ∧ w.grownBy w' (bk ao) := by
  have hl : zs.length = n := by have := h.len; simpa using this
  have HL := Lib.hid hl
  clear hl
  have e1 : ((m : Int) - (a : Int)) = ((m - a : Nat) : Int) := by omega
  have e2 : ((b : Int) - (m : Int)) = ((b - m : Nat) : Int) := by omega
  go_enter Try.func221, Try.ntmps221
  go_wp2
  go_loopw [10, 11] (fun i j wr => ∃ (x y : Nat) (cur : List Int), 1 ≤ x ∧ x ≤ m - a ∧ 1 ≤ y ∧ y ≤ b - m ∧ i = .int .i64 x ∧ j = .int .i64 y ∧ Kept zs cur a b ∧ RotB (rotT zs a m b) cur m x y ∧ Own wr base 2 ao n c (cur.map (Value.int .i64)) ∧ w.grownBy wr (bk ao)) (fun i j _ => (intOf i + intOf j).toNat)
  case atStart => exact ⟨m - a, b - m, zs, by omega, Nat.le_refl _, by omega, Nat.le_refl _, rfl, rfl, Kept.refl _ _ _, RotB.start (by omega) (by omega), h, World.grownBy.refl _ _⟩
  case round =>
    clear e1 e2
    obtain ⟨x, y, cur, hx1, hx, hy1, hy, rfl, rfl, hk, hr, ho, hg⟩ := hrel
    have HK := Lib.hid hk
    have HR := Lib.hid hr
    have HO := Lib.hid ho
    have HG := Lib.hid hg
    clear hk hr ho hg
    have e1 : ((m : Int) - (x : Int)) = ((m - x : Nat) : Int) := by omega
    by_cases hxy : x = y
    · subst hxy
      go_wp2_with fail
      refine (swapRange_any ao n c (m - x) m x cur _ base HO.out hn (by omega) (by omega) f).mono ?_
      rintro e w1 ⟨rfl, zt, hs, ho, hg⟩
      go_wp2
      go_end0
      have hs' := HR.out.last (by omega) hs
      exact ⟨rfl, zt, Rot.ofT (HK.out.trans (hs.kept (by omega) (by omega) (by omega) (by omega))) hs', ho, grown_tr HG.out hg⟩
    · have hxy' : ¬ ((x : Int) = (y : Int)) := by omega
      by_cases hgt : y < x
      · have e2 : ((x : Int) - (y : Int)) = ((x - y : Nat) : Int) := by omega
        go_wp2_with fail
        refine (swapRange_any ao n c (m - x) m y cur _ base HO.out hn (by omega) (by omega) f).mono ?_
        rintro e w1 ⟨rfl, zt, hs, ho, hg⟩
        go_wp2
        go_roundw
        case rel => exact ⟨x - y, y, zt, by omega, by omega, hy1, hy, by go_num, rfl, HK.out.trans (hs.kept (by omega) (by omega) (by omega) (by omega)), HR.out.more (by omega) hgt hs, ho, grown_tr HG.out hg⟩
        case measure => simp [intOf]; omega
      · have e2 : ((y : Int) - (x : Int)) = ((y - x : Nat) : Int) := by omega
        have e3 : ((m : Int) + (y : Int)) - (x : Int) = ((m + y - x : Nat) : Int) := by omega
        go_wp2_with fail
        refine (swapRange_any ao n c (m - x) (m + y - x) x cur _ base HO.out hn (by omega) (by omega) f).mono ?_
        rintro e w1 ⟨rfl, zt, hs, ho, hg⟩
        go_wp2
        go_roundw
        case rel => exact ⟨x, y - x, zt, hx1, hx, by omega, by omega, rfl, by go_num, HK.out.trans (hs.kept (by omega) (by omega) (by omega) (by omega)), HR.out.fewer (by omega) (by omega) hs, ho, grown_tr HG.out hg⟩
        case measure => simp [intOf]; omega
end Go.Proofs.Ytnfkhgamnapgmaa

/- slices.SortStableFunc at []int64 with the program's comparison of masks: the insertion sort of a part, in words. -/
namespace Go.Proofs.Ytnfkhgamnapgmaa
open Go.RowKit

abbrev cmpF : Value := .func (.func 136) #[] #[]
set_option maxHeartbeats 1600000 in
theorem insertF_any (key : Int → Nat) (ao : Option Addr) (n c a b : Nat) (zs : List Int) (w : World) (base : Nat) (h : Own w base 2 ao n c (zs.map (Value.int .i64))) (hn : n ≤ 1000) (hab : a ≤ b) (hb : b ≤ n) (hr : Rng zs) (hag : AgrA key lessZ zs a b) :
    Calls Try.prog 203 #[.slice ao n c, .int .i64 a, .int .i64 b, cmpF] w fun e w' => e = .returned (.tuple #[]) ∧ ∃ zt, (Kept zs zt a b ∧ Asc key zt a b) ∧ Own w' base 2 ao n c (zt.map (Value.int .i64)) ∧ w.grownBy w' (bk ao) := by
  have hl : zs.length = n := by have := h.len; simpa using this
  have HL := Lib.hid hl
  have HRG := Lib.hid hr
  have HAG := Lib.hid hag
  clear hl hr hag
  have e0 : IntKind.i64.wrap ((a : Int) + 1) = ((a + 1 : Nat) : Int) := by rw [IntWalk.i64_in _ (by omega)]; omega
  go_enter Try.func203, Try.ntmps203
  go_wp2
  go_loopw [8] (fun i wr => ∃ (k : Nat) (cur : List Int), a + 1 ≤ k ∧ (cur = zs ∧ k = a + 1 ∨ k ≤ b) ∧ i = .int .i64 k ∧ Kept zs cur a k ∧ Asc key cur a k ∧ Own wr base 2 ao n c (cur.map (Value.int .i64)) ∧ w.grownBy wr (bk ao)) (fun i _ => (n - intOf i).toNat)
  case atStart => exact ⟨a + 1, zs, Nat.le_refl _, .inl ⟨rfl, rfl⟩, by go_num, Kept.refl _ _ _, Asc.short (Nat.le_refl _), h, World.grownBy.refl _ _⟩
  case round =>
    obtain ⟨k, cur0, hk1, hk, rfl, hkp, hca, ho, hg⟩ := hrel
    have HK := Lib.hid hkp
    have HA := Lib.hid hca
    have HO0 := Lib.hid ho
    have HG0 := Lib.hid hg
    have HKK := Lib.hid hk
    clear hkp hca ho hg hk e0
    by_cases hlt : k < b
    · go_wp2_with fail
      go_loopw [9] (fun i wr => ∃ (j : Nat) (cur : List Int), a ≤ j ∧ j ≤ k ∧ i = .int .i64 j ∧ Dn cur0 cur j k ∧ (∀ h, j ≤ h → h < k → key (iget cur0 k) ≤ key (iget cur0 h)) ∧ Own wr base 2 ao n c (cur.map (Value.int .i64)) ∧ w.grownBy wr (bk ao)) (fun i _ => (intOf i).toNat)
      case atStart => exact ⟨k, cur0, by omega, Nat.le_refl _, rfl, Dn.refl _ _, fun h h1 h2 => by omega, HO0.out, HG0.out⟩
      case round =>
        clear HO0 HG0
        obtain ⟨j, cur, hj1, hj, rfl, hd, hhi, ho, hg⟩ := hrel
        have HD := Lib.hid hd
        have HHI := Lib.hid hhi
        have HO := Lib.hid ho
        have HG := Lib.hid hg
        clear hd hhi ho hg
        have H0 : cur0.length = n := HK.out.len.trans HL.out
        have HC : cur.length = n := HD.out.kept.len.trans H0
        have HC := Lib.hid HC
        have H0 := Lib.hid H0
        have hr : Rng cur := (HRG.out.perm HK.out.perm).perm HD.out.kept.perm
        have HR := Lib.hid hr
        clear hr
        by_cases hj0 : a < j
        · obtain ⟨i, hij⟩ : ∃ i, j = i + 1 := ⟨j - 1, by omega⟩
          obtain ⟨g, rfl, -, hgl, -, -, -⟩ := HO.out.form (by omega)
          have hjn : j < n := by omega
          have hin : i < n := by omega
          have hc1 := own_iget HO.out hjn
          have hc2 := own_iget HO.out hin
          have hS : ∀ w', Below wr.heap.size wr w' → (w'.cell? ⟨g, j, none⟩ = some (.int .i64 (iget cur j)) ∧ w'.cell? ⟨g, i, none⟩ = some (.int .i64 (iget cur i))) := fun w' hb => ⟨(hb.cell (p := ⟨g, j, none⟩) (World.block_lt_of_cell? wr _ hc1)).trans hc1, (hb.cell (p := ⟨g, i, none⟩) (World.block_lt_of_cell? wr _ hc2)).trans hc2⟩
          have HS := Lib.hid hS
          clear hS
          have e1 : ((j : Int) - 1) = (i : Int) := by omega
          have e2 : IntKind.i64.wrap (i : Int) = (i : Int) := IntWalk.i64_in _ (by omega)
          have hkey : (lessZ (iget cur j) (iget cur i) = true ↔ key (iget cur0 k) < key (iget cur0 i)) := by
            rw [HD.out.at_, HD.out.kept.out i (by omega)]
            obtain ⟨y, y1, y2, y3⟩ := HK.out.mem i (by omega) (by omega)
            rw [HK.out.out k (by omega), y3]
            exact HAG.out y k y1 y2 hlt
          have HKEY := Lib.hid hkey
          have HIJ := Lib.hid hij
          obtain ⟨cz, hcz⟩ : ∃ cz, cmpZ (iget cur j) (iget cur i) = cz := ⟨_, rfl⟩
          have hlz : lessZ (iget cur j) (iget cur i) = decide (cz < 0) := by unfold lessZ; rw [hcz]
          have HCZ := Lib.hid hcz
          have HLZ := Lib.hid hlz
          clear hij hkey hcz hlz
          by_cases hlt2 : cz < 0
          · clear hc1 hc2
            go_wp2_with fail
            (refine wp_region_calm (by kernel_rfl) (by kernel_rfl) ?_; (repeat (first | go_big_quiet_skip | (go_big_quiet_want; first | (go_big_quiet_op; go_big_quiet_on) | (apply quiet_val; (· (intro _ hw; have f1 := (HS.out _ hw).1; have f0 := (HS.out _ hw).2; go_simp; exact rfl)); go_simp; go_big_quiet_on) | (apply quiet_call; (· (intro _ _; go_simp; exact ⟨rfl, rfl⟩)); (· (intro _ hw; go_at_call 136; refine (cmp_at HR.out j i _).mono ?_; rintro e w2 ⟨rfl, rfl⟩; rw [HCZ.out]; exact ⟨rfl, hw⟩)); go_simp; go_big_quiet_on)))); refine wpQuiet_nil ?_; intro wq bq)
            have b3 := bq
            clear bq
            have ho := HO.out.below b3
            have hg3 := grown_tr HG.out (grown_of_below b3 (bk (some ⟨g, 0, none⟩)))
            have HG3 := Lib.hid hg3
            have hc1 := own_iget ho hjn
            have hc2 := own_iget ho hin
            have hf1 := ho.1.frozenAt j
            have hf2 := ho.1.frozenAt i
            have ho1 : Own wq.drew base 2 (some ⟨g, 0, none⟩) n c (cur.map (Value.int .i64)) := ho
            obtain ⟨s1, t1⟩ := ho1.stored j (.int .i64 (iget cur i))
            obtain ⟨s2, t2⟩ := s1.stored i (.int .i64 (iget cur j))
            have S2 := Lib.hid s2
            have T1 := Lib.hid t1
            have T2 := Lib.hid t2
            clear s1 t1 s2 t2 ho1 ho hg3 b3
            go_wp2_with fail
            go_region
            go_wp2
            go_roundw
            case rel =>
              obtain rfl := HIJ.out
              have hky := HKEY.out.1 (by rw [HLZ.out]; exact decide_eq_true hlt2)
              refine ⟨i, swp cur (i + 1) i, by omega, by omega, by go_num, HD.out.step (by omega) (by have := H0.out; omega), fun h h1 h2 => ?_, ?_, ?_⟩
              · by_cases e : h = i
                · rw [e]; omega
                · exact HHI.out h (by omega) h2
              · unfold swp; rw [List.map_set, List.map_set]; exact S2.out
              · exact grown_tr HG3.out (grown_tr (⟨rfl, rfl, rfl, Nat.le_refl _, fun _ _ _ => rfl⟩ : wq.grownBy wq.drew _) (grown_tr T1.out T2.out))
            case measure => have := HIJ.out; simp [intOf]; omega
          · clear hc1 hc2
            go_wp2_with fail
            (refine wp_region_calm (by kernel_rfl) (by kernel_rfl) ?_; (repeat (first | go_big_quiet_skip | (go_big_quiet_want; first | (go_big_quiet_op; go_big_quiet_on) | (apply quiet_val; (· (intro _ hw; have f1 := (HS.out _ hw).1; have f0 := (HS.out _ hw).2; go_simp; exact rfl)); go_simp; go_big_quiet_on) | (apply quiet_call; (· (intro _ _; go_simp; exact ⟨rfl, rfl⟩)); (· (intro _ hw; go_at_call 136; refine (cmp_at HR.out j i _).mono ?_; rintro e w2 ⟨rfl, rfl⟩; rw [HCZ.out]; exact ⟨rfl, hw⟩)); go_simp; go_big_quiet_on)))); refine wpQuiet_nil ?_; intro wq bq)
            go_wp2_with fail
            go_roundw
            case rel =>
              obtain rfl := HIJ.out
              have hky : ¬ key (iget cur0 k) < key (iget cur0 i) := fun e => by
                have := HKEY.out.2 e
                rw [HLZ.out] at this
                have := of_decide_eq_true this; omega
              obtain ⟨d1, d2⟩ := ins_done HD.out hj1 hj HA.out (.inr (by rw [show i + 1 - 1 = i by omega]; omega)) HHI.out
              exact ⟨k + 1, cur, by omega, .inr (by omega), by go_num, (HK.out.wide (Nat.le_refl _) (by omega)).trans d1, d2, HO.out.below bq, grown_tr HG.out (grown_of_below bq _)⟩
            case measure => simp [intOf]; omega
        · obtain rfl : j = a := by omega
          go_wp2_with fail
          (refine wp_region_calm (by kernel_rfl) (by kernel_rfl) ?_; (repeat (first | go_big_quiet_skip | (go_big_quiet_want; first | (go_big_quiet_op; go_big_quiet_on) | (apply quiet_val; (· (intro _ hw; skip; go_simp; exact rfl)); go_simp; go_big_quiet_on) | (apply quiet_call; (· (intro _ _; go_simp; exact ⟨rfl, rfl⟩)); (· (intro _ hw; fail)); go_simp; go_big_quiet_on)))); refine wpQuiet_nil ?_; intro wq bq)
          go_wp2_with fail
          go_roundw
          case rel =>
            obtain ⟨d1, d2⟩ := ins_done HD.out hj1 hj HA.out (.inl rfl) HHI.out
            exact ⟨k + 1, cur, by omega, .inr (by omega), by go_num, (HK.out.wide (Nat.le_refl _) (by omega)).trans d1, d2, HO.out.below bq, grown_tr HG.out (grown_of_below bq _)⟩
          case measure => simp [intOf]; omega
    · go_wp2
      go_end0
      rcases HKK.out with ⟨rfl, e⟩ | e
      · exact ⟨rfl, cur0, ⟨Kept.refl _ _ _, Asc.short (by omega)⟩, HO0.out, HG0.out⟩
      · obtain rfl : k = b := by omega
        exact ⟨rfl, cur0, ⟨HK.out, HA.out⟩, HO0.out, HG0.out⟩
end Go.Proofs.Ytnfkhgamnapgmaa

/- slices.symMergeCmpFunc at []int64 with the program's comparison of masks: two lists in order become one, in words. (gen_stbm.py) -/
namespace Go.Proofs.Ytnfkhgamnapgmaa
open Go.RowKit

abbrev Merged (key : Int → Nat) (zs : List Int) (a b : Nat) (ao : Option Addr) (n c base : Nat) (w w' : World) : Prop :=
  ∃ zt, (Kept zs zt a b ∧ Asc key zt a b) ∧ Own w' base 2 ao n c (zt.map (Value.int .i64)) ∧ w.grownBy w' (bk ao)
set_option maxRecDepth 100000 in
set_option maxHeartbeats 3200000 in
theorem symL_any (key : Int → Nat) (g n c a b : Nat) (zs : List Int) (w : World) (base : Nat) (h : Own w base 2 (some ⟨g, 0, none⟩) n c (zs.map (Value.int .i64))) (hn : n ≤ 1000) (hmb : a + 1 < b) (hb : b ≤ n) (hr : Rng zs)
    (hB : Asc key zs (a + 1) b) (hag : Agr key lessZ zs a (a + 1) b) :
    Calls Try.prog 204 #[.slice (some ⟨g, 0, none⟩) n c, .int .i64 a, .int .i64 (a + 1 : Nat), .int .i64 b, cmpF] w fun e w' => e = .returned (.tuple #[]) ∧ Merged key zs a b (some ⟨g, 0, none⟩) n c base w w' := by
  have hl : zs.length = n := by have := h.len; simpa using this
  have HL := Lib.hid hl
  have HR := Lib.hid hr
  have HB := Lib.hid hB
  have HAG := Lib.hid hag
  clear hl hr hB hag
  have HB' := HB
  obtain ⟨m, hm⟩ : ∃ m, a + 1 = m := ⟨_, rfl⟩
  rw [hm]
  have e0 : (m : Int) - (a : Int) = 1 := by omega
  go_enter Try.func204, Try.ntmps204
  go_wp2_with fail
  go_loopw [10, 11] (fun x y wr => ∃ (i j : Nat), m ≤ i ∧ i ≤ j ∧ j ≤ b ∧ x = .int .i64 i ∧ y = .int .i64 j ∧ (∀ h, m ≤ h → h < i → key (iget zs h) ≤ key (iget zs a)) ∧ (∀ h, j ≤ h → h < b → key (iget zs a) ≤ key (iget zs h)) ∧ Own wr base 2 (some ⟨g, 0, none⟩) n c (zs.map (Value.int .i64)) ∧ w.grownBy wr (some g)) (fun x y _ => (intOf y - intOf x).toNat)
  case atStart => exact ⟨m, b, Nat.le_refl _, by omega, Nat.le_refl _, rfl, rfl, fun h h1 h2 => by omega, fun h h1 h2 => by omega, h, World.grownBy.refl _ _⟩
  case round =>
    obtain ⟨i, j, hi, hij, hj, rfl, rfl, hlo, hhi, ho, hg⟩ := hrel
    have HLO := Lib.hid hlo
    have HHI := Lib.hid hhi
    have HO := Lib.hid ho
    have HG := Lib.hid hg
    clear hlo hhi ho hg e0
    by_cases hlt : i < j
    · obtain ⟨h, hh⟩ : ∃ h, (i + j) / 2 = h := ⟨_, rfl⟩
      have hh1 : i ≤ h := by omega
      have hh2 : h < j := by omega
      have e1 : ((i : Int) + (j : Int)) / 2 = (h : Int) := by omega
      clear hh
      have hxn : h < n := by omega
      have hyn : a < n := by omega
      have hc1 := own_iget HO.out hxn
      have hc2 := own_iget HO.out hyn
      have hS : ∀ w', Below wr.heap.size wr w' → (w'.cell? ⟨g, h, none⟩ = some (.int .i64 (iget zs (h))) ∧ w'.cell? ⟨g, a, none⟩ = some (.int .i64 (iget zs (a)))) := fun w' hb => ⟨(hb.cell (p := ⟨g, h, none⟩) (World.block_lt_of_cell? wr _ hc1)).trans hc1, (hb.cell (p := ⟨g, a, none⟩) (World.block_lt_of_cell? wr _ hc2)).trans hc2⟩
      have HS := Lib.hid hS
      clear hS hc1 hc2
      obtain ⟨cz, hcz⟩ : ∃ cz, cmpZ (iget zs (h)) (iget zs (a)) = cz := ⟨_, rfl⟩
      have hlz : lessZ (iget zs (h)) (iget zs (a)) = decide (cz < 0) := by unfold lessZ; rw [hcz]
      have HCZ := Lib.hid hcz
      have HLZ := Lib.hid hlz
      clear hcz hlz
      have hk : (lessZ (iget zs h) (iget zs a) = true ↔ key (iget zs h) < key (iget zs a)) := HAG.out a h (Nat.le_refl _) (by omega) (by omega) (by omega)
      rw [HLZ.out, decide_eq_true_iff] at hk
      have HK := Lib.hid hk
      clear hk
      by_cases hlt2 : cz < 0
      · go_wp2_with fail
        (refine wp_region_calm (by kernel_rfl) (by kernel_rfl) ?_; (repeat (first | go_big_quiet_skip | (go_big_quiet_want; first | (go_big_quiet_op; go_big_quiet_on) | (apply quiet_val; (· (intro _ hw; have f1 := (HS.out _ hw).1; have f0 := (HS.out _ hw).2; go_simp; exact rfl)); go_simp; go_big_quiet_on) | (apply quiet_call; (· (intro _ _; go_simp; exact ⟨rfl, rfl⟩)); (· (intro _ hw; go_at_call 136; refine (cmp_at HR.out h a _).mono ?_; rintro e w2 ⟨rfl, rfl⟩; rw [HCZ.out]; exact ⟨rfl, hw⟩)); go_simp; go_big_quiet_on)))); refine wpQuiet_nil ?_; intro wq bq)
        go_wp2_with fail
        go_roundw
        case rel =>
          have hk := HK.out.1 hlt2
          refine ⟨h + 1, j, by omega, by omega, hj, by go_num, rfl, fun t t1 t2 => ?_, HHI.out, HO.out.below bq, grown_tr HG.out (grown_of_below bq _)⟩
          by_cases e : t = h
          · rw [e]; omega
          · exact Nat.le_trans (HB.out t h (by omega) (by omega) (by omega)) (Nat.le_of_lt hk)
        case measure => simp [intOf]; omega
      · go_wp2_with fail
        (refine wp_region_calm (by kernel_rfl) (by kernel_rfl) ?_; (repeat (first | go_big_quiet_skip | (go_big_quiet_want; first | (go_big_quiet_op; go_big_quiet_on) | (apply quiet_val; (· (intro _ hw; have f1 := (HS.out _ hw).1; have f0 := (HS.out _ hw).2; go_simp; exact rfl)); go_simp; go_big_quiet_on) | (apply quiet_call; (· (intro _ _; go_simp; exact ⟨rfl, rfl⟩)); (· (intro _ hw; go_at_call 136; refine (cmp_at HR.out h a _).mono ?_; rintro e w2 ⟨rfl, rfl⟩; rw [HCZ.out]; exact ⟨rfl, hw⟩)); go_simp; go_big_quiet_on)))); refine wpQuiet_nil ?_; intro wq bq)
        go_wp2_with fail
        go_roundw
        case rel =>
          have hk : key (iget zs a) ≤ key (iget zs h) := Nat.le_of_not_lt fun e => absurd (HK.out.2 e) (by omega)
          refine ⟨i, h, hi, by omega, by omega, rfl, rfl, HLO.out, fun t t1 t2 => ?_, HO.out.below bq, grown_tr HG.out (grown_of_below bq _)⟩
          by_cases e : t = h
          · rw [e]; exact hk
          · exact Nat.le_trans hk (HB.out h t (by omega) (by omega) (by omega))
        case measure => simp [intOf]; omega
    · obtain rfl : i = j := by omega
      obtain ⟨q, hq⟩ : ∃ q, i = q + 1 := ⟨i - 1, by omega⟩
      have e2 : (i : Int) - 1 = (q : Int) := by omega
      have haq : a ≤ q := by omega
      have hqn : q < n := by omega
      have HQ := Lib.hid hq
      clear hq
      have HO0 := HO
      have HG0 := HG
      clear HO HG
      go_wp2_with fail
      go_loopw [13] (fun x wr' => ∃ (k : Nat) (cur : List Int), a ≤ k ∧ k ≤ q ∧ x = .int .i64 k ∧ Up zs cur a k ∧ Own wr' base 2 (some ⟨g, 0, none⟩) n c (cur.map (Value.int .i64)) ∧ w.grownBy wr' (some g)) (fun x _ => (n - intOf x).toNat)
      case atStart => exact ⟨a, zs, Nat.le_refl _, haq, rfl, Up.refl _ _, HO0.out, HG0.out⟩
      case round =>
        clear HO0 HG0
        rename_i wr
        obtain ⟨k, cur, hk1, hk2, rfl, hu, ho, hg⟩ := hrel
        have HU := Lib.hid hu
        have HO := Lib.hid ho
        have HG := Lib.hid hg
        clear hu ho hg
        by_cases hlt2 : k < q
        · obtain ⟨k1, hkk⟩ : ∃ k1, k + 1 = k1 := ⟨_, rfl⟩
          have e3 : (k : Int) + 1 = (k1 : Int) := by omega
          have e4 : k1 < n := by omega
          have HKK := Lib.hid hkk
          clear hkk
          have ho1 : Own wr.drew base 2 (some ⟨g, 0, none⟩) n c (cur.map (Value.int .i64)) := HO.out
          obtain ⟨s1, t1⟩ := ho1.stored (k) (.int .i64 (iget cur (k1)))
          obtain ⟨s2, t2⟩ := s1.stored (k1) (.int .i64 (iget cur (k)))
          have hin : k < n := by omega
          have hjn : k1 < n := by first | assumption | omega
          have hc1 := own_iget HO.out hin
          have hc2 := own_iget HO.out hjn
          have hf1 := HO.out.1.frozenAt (k)
          have hf2 := HO.out.1.frozenAt (k1)
          have S2 := Lib.hid s2
          have T1 := Lib.hid t1
          have T2 := Lib.hid t2
          clear s1 t1 s2 t2 ho1
          go_wp2_with fail
          go_region
          go_wp2
          go_roundw
          case rel =>
            obtain rfl := HKK.out
            refine ⟨k + 1, swp cur k (k + 1), by omega, by omega, by go_num, HU.out.step hk1 (by have := HL.out; omega), ?_, ?_⟩
            · unfold swp; rw [List.map_set, List.map_set]; exact S2.out
            · exact grown_tr HG.out (grown_tr (⟨rfl, rfl, rfl, Nat.le_refl _, fun _ _ _ => rfl⟩ : wr.grownBy wr.drew _) (grown_tr T1.out T2.out))
          case measure => simp [intOf]; omega
        · obtain rfl : k = q := by omega
          go_wp2_with fail
          refine bodyPost_ret (results_none rfl _ _ _) rfl ?_
          have hqq := HQ.out
          have hm := merge_up (i := i) HB'.out (by omega) hj (fun h h1 h2 => HLO.out h (by omega) h2) HHI.out (by rw [show i - 1 = k by omega]; exact HU.out)
          exact ⟨rfl, cur, hm, HO.out, HG.out⟩
end Go.Proofs.Ytnfkhgamnapgmaa

/- slices.symMergeCmpFunc at []int64: a part and one element behind it, in words. (gen_stbm.py) -/
namespace Go.Proofs.Ytnfkhgamnapgmaa
open Go.RowKit

set_option maxRecDepth 100000 in
set_option maxHeartbeats 3200000 in
theorem symR_any (key : Int → Nat) (g n c a m : Nat) (zs : List Int) (w : World) (base : Nat) (h : Own w base 2 (some ⟨g, 0, none⟩) n c (zs.map (Value.int .i64))) (hn : n ≤ 1000) (ham : a + 1 < m) (hb : m < n) (hr : Rng zs)
    (hA : Asc key zs a m) (hag : Agr key lessZ zs a m (m + 1)) :
    Calls Try.prog 204 #[.slice (some ⟨g, 0, none⟩) n c, .int .i64 a, .int .i64 m, .int .i64 (m + 1 : Nat), cmpF] w fun e w' => e = .returned (.tuple #[]) ∧ Merged key zs a (m + 1) (some ⟨g, 0, none⟩) n c base w w' := by
  have hl : zs.length = n := by have := h.len; simpa using this
  have HL := Lib.hid hl
  have HR := Lib.hid hr
  have HA := Lib.hid hA
  have HAG := Lib.hid hag
  clear hl hr hA hag
  obtain ⟨b, hmb⟩ : ∃ b, m + 1 = b := ⟨_, rfl⟩
  rw [hmb]
  have e0 : ((m : Int) - (a : Int) == 1) = false := by rw [beq_eq_false_iff_ne]; omega
  have e1 : (b : Int) - (m : Int) = 1 := by omega
  have HMB := Lib.hid hmb
  clear hmb
  go_enter Try.func204, Try.ntmps204
  go_wp2_with fail
  go_loopw [14, 15] (fun x y wr => ∃ (i j : Nat), a ≤ i ∧ i ≤ j ∧ j ≤ m ∧ x = .int .i64 i ∧ y = .int .i64 j ∧ (∀ h, a ≤ h → h < i → key (iget zs h) ≤ key (iget zs m)) ∧ (∀ h, j ≤ h → h < m → key (iget zs m) ≤ key (iget zs h)) ∧ Own wr base 2 (some ⟨g, 0, none⟩) n c (zs.map (Value.int .i64)) ∧ w.grownBy wr (some g)) (fun x y _ => (intOf y - intOf x).toNat)
  case atStart => exact ⟨a, m, Nat.le_refl _, by omega, Nat.le_refl _, rfl, rfl, fun h h1 h2 => by omega, fun h h1 h2 => by omega, h, World.grownBy.refl _ _⟩
  case round =>
    obtain ⟨i, j, hi, hij, hj, rfl, rfl, hlo, hhi, ho, hg⟩ := hrel
    have HLO := Lib.hid hlo
    have HHI := Lib.hid hhi
    have HO := Lib.hid ho
    have HG := Lib.hid hg
    clear hlo hhi ho hg e0 e1
    by_cases hlt : i < j
    · obtain ⟨h, hh⟩ : ∃ h, (i + j) / 2 = h := ⟨_, rfl⟩
      have hh1 : i ≤ h := by omega
      have hh2 : h < j := by omega
      have e1 : ((i : Int) + (j : Int)) / 2 = (h : Int) := by omega
      clear hh
      have hxn : m < n := by omega
      have hyn : h < n := by omega
      have hc1 := own_iget HO.out hxn
      have hc2 := own_iget HO.out hyn
      have hS : ∀ w', Below wr.heap.size wr w' → (w'.cell? ⟨g, m, none⟩ = some (.int .i64 (iget zs (m))) ∧ w'.cell? ⟨g, h, none⟩ = some (.int .i64 (iget zs (h)))) := fun w' hb => ⟨(hb.cell (p := ⟨g, m, none⟩) (World.block_lt_of_cell? wr _ hc1)).trans hc1, (hb.cell (p := ⟨g, h, none⟩) (World.block_lt_of_cell? wr _ hc2)).trans hc2⟩
      have HS := Lib.hid hS
      clear hS hc1 hc2
      obtain ⟨cz, hcz⟩ : ∃ cz, cmpZ (iget zs (m)) (iget zs (h)) = cz := ⟨_, rfl⟩
      have hlz : lessZ (iget zs (m)) (iget zs (h)) = decide (cz < 0) := by unfold lessZ; rw [hcz]
      have HCZ := Lib.hid hcz
      have HLZ := Lib.hid hlz
      clear hcz hlz
      have hk : (lessZ (iget zs m) (iget zs h) = true ↔ key (iget zs m) < key (iget zs h)) := HAG.out h m (by omega) (by omega) (Nat.le_refl _) (by omega)
      rw [HLZ.out, decide_eq_true_iff] at hk
      have HK := Lib.hid hk
      clear hk
      by_cases hlt2 : cz < 0
      · have hd : decide (cz < 0) = true := decide_eq_true hlt2
        go_wp2_with fail
        (refine wp_region_calm (by kernel_rfl) (by kernel_rfl) ?_; (repeat (first | go_big_quiet_skip | (go_big_quiet_want; first | (go_big_quiet_op; go_big_quiet_on) | (apply quiet_val; (· (intro _ hw; have f1 := (HS.out _ hw).1; have f0 := (HS.out _ hw).2; go_simp; exact rfl)); go_simp; go_big_quiet_on) | (apply quiet_call; (· (intro _ _; go_simp; exact ⟨rfl, rfl⟩)); (· (intro _ hw; go_at_call 136; refine (cmp_at HR.out m h _).mono ?_; rintro e w2 ⟨rfl, rfl⟩; rw [HCZ.out]; exact ⟨rfl, hw⟩)); go_simp; go_big_quiet_on)))); refine wpQuiet_nil ?_; intro wq bq)
        go_wp2_with fail
        go_roundw
        case rel =>
          have hk := HK.out.1 hlt2
          refine ⟨i, h, hi, by omega, by omega, rfl, rfl, HLO.out, fun t t1 t2 => ?_, HO.out.below bq, grown_tr HG.out (grown_of_below bq _)⟩
          by_cases e : t = h
          · rw [e]; omega
          · exact Nat.le_trans (Nat.le_of_lt hk) (HA.out h t (by omega) (by omega) (by omega))
        case measure => simp [intOf]; omega
      · have hd : decide (cz < 0) = false := decide_eq_false hlt2
        go_wp2_with fail
        (refine wp_region_calm (by kernel_rfl) (by kernel_rfl) ?_; (repeat (first | go_big_quiet_skip | (go_big_quiet_want; first | (go_big_quiet_op; go_big_quiet_on) | (apply quiet_val; (· (intro _ hw; have f1 := (HS.out _ hw).1; have f0 := (HS.out _ hw).2; go_simp; exact rfl)); go_simp; go_big_quiet_on) | (apply quiet_call; (· (intro _ _; go_simp; exact ⟨rfl, rfl⟩)); (· (intro _ hw; go_at_call 136; refine (cmp_at HR.out m h _).mono ?_; rintro e w2 ⟨rfl, rfl⟩; rw [HCZ.out]; exact ⟨rfl, hw⟩)); go_simp; go_big_quiet_on)))); refine wpQuiet_nil ?_; intro wq bq)
        go_wp2_with fail
        go_roundw
        case rel =>
          have hk : key (iget zs h) ≤ key (iget zs m) := Nat.le_of_not_lt fun e => absurd (HK.out.2 e) (by omega)
          refine ⟨h + 1, j, by omega, by omega, hj, by go_num, rfl, fun t t1 t2 => ?_, HHI.out, HO.out.below bq, grown_tr HG.out (grown_of_below bq _)⟩
          by_cases e : t = h
          · rw [e]; exact hk
          · exact Nat.le_trans (HA.out t h (by omega) (by omega) (by omega)) hk
        case measure => simp [intOf]; omega
    · obtain rfl : i = j := by omega
      have HO0 := HO
      have HG0 := HG
      clear HO HG
      go_wp2_with fail
      go_loopw [17] (fun x wr' => ∃ (k : Nat) (cur : List Int), i ≤ k ∧ k ≤ m ∧ x = .int .i64 k ∧ Dn zs cur k m ∧ Own wr' base 2 (some ⟨g, 0, none⟩) n c (cur.map (Value.int .i64)) ∧ w.grownBy wr' (some g)) (fun x _ => (intOf x).toNat)
      case atStart => exact ⟨m, zs, hj, Nat.le_refl _, rfl, Dn.refl _ _, HO0.out, HG0.out⟩
      case round =>
        clear HO0 HG0
        rename_i wr
        obtain ⟨k, cur, hk1, hk2, rfl, hu, ho, hg⟩ := hrel
        have HU := Lib.hid hu
        have HO := Lib.hid ho
        have HG := Lib.hid hg
        clear hu ho hg
        by_cases hlt2 : i < k
        · obtain ⟨k1, hkk⟩ : ∃ k1, k = k1 + 1 := ⟨k - 1, by omega⟩
          have e3 : (k : Int) - 1 = (k1 : Int) := by omega
          have e4 : k1 < n := by omega
          have HKK := Lib.hid hkk
          clear hkk
          have ho1 : Own wr.drew base 2 (some ⟨g, 0, none⟩) n c (cur.map (Value.int .i64)) := HO.out
          obtain ⟨s1, t1⟩ := ho1.stored (k) (.int .i64 (iget cur (k1)))
          obtain ⟨s2, t2⟩ := s1.stored (k1) (.int .i64 (iget cur (k)))
          have hin : k < n := by omega
          have hjn : k1 < n := by first | assumption | omega
          have hc1 := own_iget HO.out hin
          have hc2 := own_iget HO.out hjn
          have hf1 := HO.out.1.frozenAt (k)
          have hf2 := HO.out.1.frozenAt (k1)
          have S2 := Lib.hid s2
          have T1 := Lib.hid t1
          have T2 := Lib.hid t2
          clear s1 t1 s2 t2 ho1
          go_wp2_with fail
          go_region
          go_wp2
          go_roundw
          case rel =>
            obtain rfl := HKK.out
            refine ⟨k1, swp cur (k1 + 1) k1, by omega, by omega, by go_num, HU.out.step hk2 (by have := HL.out; omega), ?_, ?_⟩
            · unfold swp; rw [List.map_set, List.map_set]; exact S2.out
            · exact grown_tr HG.out (grown_tr (⟨rfl, rfl, rfl, Nat.le_refl _, fun _ _ _ => rfl⟩ : wr.grownBy wr.drew _) (grown_tr T1.out T2.out))
          case measure => have := HKK.out; simp [intOf]; omega
        · obtain rfl : k = i := by omega
          go_wp2_with fail
          refine bodyPost_ret (results_none rfl _ _ _) rfl ?_
          have hm := merge_dn HA.out hi hj HLO.out HHI.out HU.out
          rw [HMB.out] at hm
          exact ⟨rfl, cur, hm, HO.out, HG.out⟩
end Go.Proofs.Ytnfkhgamnapgmaa

/- A memory of names: make of integers; small steps. No program in sight. -/
namespace Go.Proofs.Ytnfkhgamnapgmaa
open Go.RowKit

section
variable {P : Program} {nt : Nat} {S S1 : St} {w0 w : World} {ω0 : Beg} {ω : Own?} {η : Env} {a : Act} {Q : Exit → Act → World → Prop}
variable {t : Nat} {ty : TypeId} {ps : String} {af : Array Edge} {gd : Option (Nat × Bool)} {x y : Operand} {av : AV}
theorem ivals_rep (n : Nat) (z : Int) : ivals (List.replicate n z) = List.replicate n (I6 z) := by simp [ivals]
/-- make of integers -/
theorem stp_makeI {T E n : Nat} {l c : Operand} {kl kc : IntKind} {L C : Int} (ht : Nat.blt t nt = true) (hT : elZ P T E 1 = true) (hz : (P.info? E).bind (·.zero) = some (I6 0)) (hl : S.op l = some (vv (.int kl L))) (hc : S.op c = some (vv (.int kc C)))
    (hL : L = (n : Int)) (hC : C = (n : Int)) (hn : n ≤ 2199023255552) : Stp P nt ⟨some t, .makeSlice T l c, ty, ps, af, gd⟩ S ((S.new t ⟨true, E, 1, .vals (ivals (List.replicate n 0))⟩).put t (o1 (.sl t 0 n))) := by
  rw [ivals_rep]
  exact stp_make (ts := #[]) ht hT hz hl hc hL hC hn rfl
end
end Go.Proofs.Ytnfkhgamnapgmaa

/- Walks in names: shifts, bits, conversions between integers, three results. -/
namespace Go.Proofs.Ytnfkhgamnapgmaa
open Go.RowKit

theorem bits_and_i64 (a b : Nat) (ha : a < 1000000) (hb : b < 1000000) : bits .and .i64 (a : Int) (b : Int) = ((a &&& b : Nat) : Int) := by
  have hx : a &&& b < 2 ^ 20 := Nat.and_lt_two_pow _ (by omega)
  have h1 : (BitVec.ofInt 64 (a : Int)).toNat = a := by
    rw [BitVec.ofInt_natCast, BitVec.toNat_ofNat]; exact Nat.mod_eq_of_lt (by omega)
  have h2 : (BitVec.ofInt 64 (b : Int)).toNat = b := by
    rw [BitVec.ofInt_natCast, BitVec.toNat_ofNat]; exact Nat.mod_eq_of_lt (by omega)
  show IntKind.i64.wrap ((BitVec.ofInt 64 (a : Int) &&& BitVec.ofInt 64 (b : Int)).toNat : Int) = _
  rw [BitVec.toNat_and, h1, h2, IntKind.wrap_i64]
  omega
section
variable {P : Program} {nt : Nat} {S : St} {t : Nat} {ty : TypeId} {ps : String} {af : Array Edge} {gd : Option (Nat × Bool)} {x y : Operand}
theorem stp_andN {xt yt : TypeId} {a b : Nat} (ht : Nat.blt t nt = true) (hx : S.op x = some (vv (I6 (a : Int)))) (hy : S.op y = some (vv (I6 (b : Int)))) (ha : a < 1000000) (hb : b < 1000000) :
    Stp P nt ⟨some t, .binOp .and xt x y yt, ty, ps, af, gd⟩ S (S.put t (vv (I6 ((a &&& b : Nat) : Int)))) :=
  Stp.pure rfl ht fun _ _ η _ s w hs => by
    refine ⟨I6 ((a &&& b : Nat) : Int), ?_, rfl⟩
    have hb' := bits_and_i64 a b ha hb
    have e : Op.intBits .and .i64 (a : Int) (b : Int) = pure (I6 ((a &&& b : Nat) : Int)) := by rw [← hb']; rfl
    simp [execOp, hs.opV hx, hs.opV hy, eqGuard, binOp, e]
theorem stp_shrN {xt yt : TypeId} {kk : IntKind} {a g : Nat} (ht : Nat.blt t nt = true) (hx : S.op x = some (vv (I6 (a : Int)))) (hy : S.op y = some (vv (.int kk (g : Int)))) (hg : g ≤ 64) :
    Stp P nt ⟨some t, .binOp .shr xt x y yt, ty, ps, af, gd⟩ S (S.put t (vv (I6 ((a / 2 ^ g : Nat) : Int)))) :=
  Stp.pure rfl ht fun _ _ η _ s w hs => by
    refine ⟨I6 ((a / 2 ^ g : Nat) : Int), ?_, rfl⟩
    have e : Op.shift .shr .i64 (a : Int) kk (g : Int) = pure (I6 ((a / 2 ^ g : Nat) : Int)) := by
      rw [shift_shr_i64 (x := (a : Int)) (y := (g : Int)) (yk := kk) (Int.natCast_nonneg g) (by omega), Int.toNat_natCast]
      simp
    simp [execOp, hs.opV hx, hs.opV hy, eqGuard, binOp, e]
theorem stp_shl1 {xt yt : TypeId} {kk : IntKind} {g : Nat} (ht : Nat.blt t nt = true) (hx : S.op x = some (vv (I6 1))) (hy : S.op y = some (vv (.int kk (g : Int)))) (hg : g ≤ 5) :
    Stp P nt ⟨some t, .binOp .shl xt x y yt, ty, ps, af, gd⟩ S (S.put t (vv (I6 ((2 ^ g : Nat) : Int)))) :=
  Stp.pure rfl ht fun _ _ η _ s w hs => by
    refine ⟨I6 ((2 ^ g : Nat) : Int), ?_, rfl⟩
    have e : ∀ g : Nat, g ≤ 5 → Op.shift .shl .i64 1 kk (g : Int) = pure (I6 ((2 ^ g : Nat) : Int)) := fun g hg => by
      rw [shift_shl_i64 (x := 1) (y := (g : Int)) (yk := kk) (Int.natCast_nonneg g) (by omega), Int.toNat_natCast]
      match g, hg with
      | 0, _ => rfl
      | 1, _ => rfl
      | 2, _ => rfl
      | 3, _ => rfl
      | 4, _ => rfl
      | 5, _ => rfl
    have e := e g hg
    have hw : IntKind.i64.wrap (2 ^ g) = 2 ^ g := by
      match g, hg with
      | 0, _ => rfl
      | 1, _ => rfl
      | 2, _ => rfl
      | 3, _ => rfl
      | 4, _ => rfl
      | 5, _ => rfl
    simp [execOp, hs.opV hx, hs.opV hy, eqGuard, binOp, e, hw]
theorem stp_convN {src dst : TypeId} {kk k2 : IntKind} {m : Int} (ht : Nat.blt t nt = true) (hx : S.op x = some (vv (.int kk m))) (hs1 : (P.underlying src).isSome = true) (hd : P.underlying dst = some (.int k2)) (hw : k2.wrap m = m) :
    Stp P nt ⟨some t, .convert src dst x, ty, ps, af, gd⟩ S (S.put t (vv (.int k2 m))) :=
  Stp.pure rfl ht fun _ _ η _ s w hs => by
    refine ⟨.int k2 m, ?_, rfl⟩
    obtain ⟨d, hd'⟩ := Option.isSome_iff_exists.mp hs1
    simp [execOp, hs.opV hx, convert, run_underlying hd', run_underlying hd, Conv.intToInt, hw]
end
section
variable {P : Program} {w0 : World} {ω0 : Beg} {nt : Nat} {S : St}
theorem run_results3 {w : World} {fn : Func} {tmps : Array Value} {r r' r'' : ResultVar} {v v' v'' : Value} (h : fn.results = #[r, r', r'']) (h1 : (resSem tmps r).run P w = .ok v w) (h2 : (resSem tmps r').run P w = .ok v' w) (h3 : (resSem tmps r'').run P w = .ok v'' w) : (results fn tmps).run P w = .ok (.tuple #[v, v', v'']) w := by
  rw [results_eq, h]; simp [h1, h2, h3]
theorem fin_ret3 {fn : Func} {e : Exit} {r r' r'' : ResultVar} {b b' b'' : A2} {outs : List (Nm × Ch)} {back : List (Nat × AV)} (he : e = .ret ∨ e = .normal) (hf : fn.results = #[r, r', r'']) (hr : ResB P S r b) (hr' : ResB P S r' b') (hr'' : ResB P S r'' b'') (hc : allCh S outs) (hb : allPh S back) :
    Fin w0 ω0 nt S e (bodyPost P fn (Left w0 ω0.own ω0.ph outs (.tup [b, b', b'']) back)) := by
  refine ⟨fun a w ⟨η, ω, hs⟩ => ?_⟩
  obtain ⟨u, h1, h2⟩ := hs.res hr
  obtain ⟨u', h1', h2'⟩ := hs.res hr'
  obtain ⟨u'', h1'', h2''⟩ := hs.res hr''
  have hd : Den η (.tup [b, b', b'']) (.tuple #[u, u', u'']) := ⟨_, rfl, rfl, fun j c hj => by
    match j, hj with
    | 0, hj => simp at hj; subst hj; exact ⟨u, by simp, h2⟩
    | 1, hj => simp at hj; subst hj; exact ⟨u', by simp, h2'⟩
    | 2, hj => simp at hj; subst hj; exact ⟨u'', by simp, h2''⟩⟩
  have : a.defers = [] ∧ ∃ v, (results fn a.tmps).run P w = .ok v w ∧ Left w0 ω0.own ω0.ph outs (.tup [b, b', b'']) back (.returned v) w := ⟨hs.dfr, _, run_results3 hf h1 h1' h1'', hs.left hc hb hd⟩
  rcases he with rfl | rfl <;> exact this
end
end Go.Proofs.Ytnfkhgamnapgmaa

/- Lists of points and of marks; lists that lead points. No program in sight. -/
namespace Go.Proofs.Ytnfkhgamnapgmaa

/-- where a word leads a point -/
def leadL (qs : List (List Int)) (c : Int) (w : List Int) : Int := w.foldl (fun c g => iget (lget qs g.toNat) c.toNat) c
/-- each list holds m points, each leads within them -/
structure Leads (qs : List (List Int)) (m : Nat) : Prop where
  len : ∀ k, k < qs.length → (lget qs k).length = m
  within : ∀ k, k < qs.length → ∀ x, x < m → 0 ≤ iget (lget qs k) x ∧ iget (lget qs k) x < m
theorem Leads.lead {qs : List (List Int)} {m : Nat} (h : Leads qs m) {c : Int} (hc : 0 ≤ c ∧ c < m) {w : List Int} (hw : ∀ z ∈ w, 0 ≤ z ∧ z < qs.length) : 0 ≤ leadL qs c w ∧ leadL qs c w < m := by
  induction w generalizing c with
  | nil => exact hc
  | cons g r ih =>
    have h1 := hw g (List.mem_cons_self ..)
    have h2 := h.within g.toNat (by omega) c.toNat (by omega)
    exact ih h2 fun z hz => hw z (List.mem_cons_of_mem _ hz)

def bat (bs : List Bool) (k : Nat) : Bool := bs.getD k false
def bcnt (bs : List Bool) : Nat := (bs.filter fun b => b).length
theorem bcnt_le (bs : List Bool) : bcnt bs ≤ bs.length := List.length_filter_le _ _
def bTo (T : List (List Int)) (c g : Nat) : Nat := (iget (lget T g) c).toNat
end Go.Proofs.Ytnfkhgamnapgmaa

/- Cosets that some generators lead to, and the first fault of intersections, on lists. No program in sight. -/
namespace Go.Proofs.Ytnfkhgamnapgmaa

/-- whether a mask holds a generator -/
def mBit (mask g : Nat) : Bool := mask / 2 ^ g % 2 == 1
/-- which are met, the queue -/
abbrev MSt := List Bool × List Int
def mStep (T : List (List Int)) (mask c : Nat) (s : MSt) (g : Nat) : MSt := if mBit mask g = true ∧ bat s.1 (bTo T c g) = false then (s.1.set (bTo T c g) true, s.2 ++ [(bTo T c g : Int)]) else s
def mRow (T : List (List Int)) (mask ng c : Nat) (s : MSt) : MSt := (List.range ng).foldl (mStep T mask c) s
def mLoop (T : List (List Int)) (mask ng : Nat) : Nat → Nat → MSt → MSt
  | 0, _, s => s
  | f + 1, i, s => if i < s.2.length then mLoop T mask ng f (i + 1) (mRow T mask ng (iget s.2 i).toNat s) else s
def mStart (n : Nat) : MSt := ((List.replicate n false).set 0 true, [0])
def mem (T : List (List Int)) (ng n mask : Nat) : MSt := mLoop T mask ng (n + 1) 0 (mStart n)
structure MOK (n : Nat) (s : MSt) : Prop where
  l : s.1.length = n
  q : ∀ k, k < s.2.length → ∃ d : Nat, iget s.2 k = (d : Int) ∧ d < n ∧ bat s.1 d = true
  cnt : bcnt s.1 = s.2.length
  cov : ∀ d, d < n → bat s.1 d = true → ∃ k, k < s.2.length ∧ iget s.2 k = (d : Int)
theorem MOK.le {n : Nat} {s : MSt} (h : MOK n s) : s.2.length ≤ n := by
  have := bcnt_le s.1; rw [h.cnt, h.l] at this; exact this
structure MGrow (s s' : MSt) : Prop where
  len : s.2.length ≤ s'.2.length
  pre : ∀ k, k < s.2.length → iget s'.2 k = iget s.2 k
  met : ∀ d, bat s.1 d = true → bat s'.1 d = true
theorem MGrow.refl (s : MSt) : MGrow s s := ⟨Nat.le_refl _, fun _ _ => rfl, fun _ h => h⟩
theorem MGrow.trans {a b c : MSt} (h : MGrow a b) (k : MGrow b c) : MGrow a c :=
  ⟨Nat.le_trans h.len k.len, fun i hi => (k.pre i (Nat.lt_of_lt_of_le hi h.len)).trans (h.pre i hi), fun d hd => k.met d (h.met d hd)⟩
section
variable {T : List (List Int)} {ng n mask : Nat}
end
end Go.Proofs.Ytnfkhgamnapgmaa

/- Walks in names: bits of masks. No program in sight. -/
namespace Go.Proofs.Ytnfkhgamnapgmaa
open Go.RowKit

theorem mBit_of (mask g : Nat) : ((((mask / 2 ^ g) &&& 1 : Nat) : Int) == 1) = mBit mask g := by
  unfold mBit
  rw [Nat.and_one_is_mod]
  rcases Nat.mod_two_eq_zero_or_one (mask / 2 ^ g) with h | h <;> rw [h] <;> rfl
theorem stp_bit {P : Program} {nt : Nat} {S : St} {t : Nat} {ty : TypeId} {ps : String} {af : Array Edge} {gd : Option (Nat × Bool)} {x : Operand} {xt yt : TypeId} {mask g : Nat} (ht : Nat.blt t nt = true) (hx : S.op x = some (vv (I6 ((mask / 2 ^ g : Nat) : Int)))) (hm : mask < 1000000) :
    Stp P nt ⟨some t, .binOp .and xt x (.const (I6 1)) yt, ty, ps, af, gd⟩ S (S.put t (vv (I6 (((mask / 2 ^ g) &&& 1 : Nat) : Int)))) :=
  stp_andN ht hx rfl (Nat.lt_of_le_of_lt (Nat.div_le_self _ _) hm) (by decide)
theorem stp_eqBit {P : Program} {nt : Nat} {S : St} {t : Nat} {ty : TypeId} {ps : String} {af : Array Edge} {gd : Option (Nat × Bool)} {x : Operand} {xt yt : TypeId} {mask g : Nat} (ht : Nat.blt t nt = true) (hx : S.op x = some (vv (I6 (((mask / 2 ^ g) &&& 1 : Nat) : Int)))) :
    Stp P nt ⟨some t, .binOp .eql xt x (.const (I6 1)) yt, ty, ps, af, gd⟩ S (S.put t (vv (.bool (mBit mask g)))) := by
  rw [← mBit_of]
  exact stp_bin ht hx rfl rfl
theorem stp_eqBit0 {P : Program} {nt : Nat} {S : St} {t : Nat} {ty : TypeId} {ps : String} {af : Array Edge} {gd : Option (Nat × Bool)} {x : Operand} {xt yt : TypeId} {mask g : Nat} (ht : Nat.blt t nt = true) (hx : S.op x = some (vv (I6 (((mask / 2 ^ g) &&& 1 : Nat) : Int)))) :
    Stp P nt ⟨some t, .binOp .eql xt x (.const (I6 0)) yt, ty, ps, af, gd⟩ S (S.put t (vv (.bool (!mBit mask g)))) := by
  have h : (!mBit mask g) = ((((mask / 2 ^ g) &&& 1 : Nat) : Int) == 0) := by
    unfold mBit
    rw [Nat.and_one_is_mod]
    rcases Nat.mod_two_eq_zero_or_one (mask / 2 ^ g) with h | h <;> rw [h] <;> rfl
  rw [h]
  exact stp_bin ht hx rfl rfl
theorem bits_or_i64 (a b : Nat) (ha : a < 1000000) (hb : b < 1000000) : bits .or .i64 (a : Int) (b : Int) = ((a ||| b : Nat) : Int) := by
  have hx : a ||| b < 2 ^ 20 := Nat.or_lt_two_pow (by omega) (by omega)
  have h1 : (BitVec.ofInt 64 (a : Int)).toNat = a := by
    rw [BitVec.ofInt_natCast, BitVec.toNat_ofNat]; exact Nat.mod_eq_of_lt (by omega)
  have h2 : (BitVec.ofInt 64 (b : Int)).toNat = b := by
    rw [BitVec.ofInt_natCast, BitVec.toNat_ofNat]; exact Nat.mod_eq_of_lt (by omega)
  show IntKind.i64.wrap ((BitVec.ofInt 64 (a : Int) ||| BitVec.ofInt 64 (b : Int)).toNat : Int) = _
  rw [BitVec.toNat_or, h1, h2, IntKind.wrap_i64]
  omega
section
variable {P : Program} {nt : Nat} {S S' S2 : St} {t : Nat} {ty : TypeId} {ps : String} {af : Array Edge} {gd : Option (Nat × Bool)} {x y : Operand} {o : Oper}
theorem stp_orN {xt yt : TypeId} {a b : Nat} (ht : Nat.blt t nt = true) (hx : S.op x = some (vv (I6 (a : Int)))) (hy : S.op y = some (vv (I6 (b : Int)))) (ha : a < 1000000) (hb : b < 1000000) :
    Stp P nt ⟨some t, .binOp .or xt x y yt, ty, ps, af, gd⟩ S (S.put t (vv (I6 ((a ||| b : Nat) : Int)))) :=
  Stp.pure rfl ht fun _ _ η _ s w hs => by
    refine ⟨I6 ((a ||| b : Nat) : Int), ?_, rfl⟩
    have hb' := bits_or_i64 a b ha hb
    have e : Op.intBits .or .i64 (a : Int) (b : Int) = pure (I6 ((a ||| b : Nat) : Int)) := by rw [← hb']; rfl
    simp [execOp, hs.opV hx, hs.opV hy, eqGuard, binOp, e]
theorem stp_shl2 {xt yt : TypeId} {kk : IntKind} {g : Nat} (ht : Nat.blt t nt = true) (hx : S.op x = some (vv (I6 2))) (hy : S.op y = some (vv (.int kk (g : Int)))) (hg : g ≤ 5) :
    Stp P nt ⟨some t, .binOp .shl xt x y yt, ty, ps, af, gd⟩ S (S.put t (vv (I6 ((2 ^ (g + 1) : Nat) : Int)))) :=
  Stp.pure rfl ht fun _ _ η _ s w hs => by
    refine ⟨I6 ((2 ^ (g + 1) : Nat) : Int), ?_, rfl⟩
    have e : ∀ g : Nat, g ≤ 5 → Op.shift .shl .i64 2 kk (g : Int) = pure (I6 ((2 ^ (g + 1) : Nat) : Int)) := fun g hg => by
      rw [shift_shl_i64 (x := 2) (y := (g : Int)) (yk := kk) (Int.natCast_nonneg g) (by omega), Int.toNat_natCast]
      match g, hg with
      | 0, _ => rfl
      | 1, _ => rfl
      | 2, _ => rfl
      | 3, _ => rfl
      | 4, _ => rfl
      | 5, _ => rfl
    have e := e g hg
    have hw : IntKind.i64.wrap (2 * 2 ^ g) = 2 ^ (g + 1) := by
      match g, hg with
      | 0, _ => rfl
      | 1, _ => rfl
      | 2, _ => rfl
      | 3, _ => rfl
      | 4, _ => rfl
      | 5, _ => rfl
    simp [execOp, hs.opV hx, hs.opV hy, eqGuard, binOp, e, hw]
/-- a step behind a loss of knowledge -/
theorem Stp.pre (h : Wk S S') (k : Stp P nt o S' S2) : Stp P nt o S S2 :=
  ⟨fun w0 ω0 a w Q hs => k.go w0 ω0 a w Q (h.go _ _ _ _ _ hs)⟩
end
end Go.Proofs.Ytnfkhgamnapgmaa

/- A memory of names: a region that draws, with several operations free to come at any time. No program in sight. -/
namespace Go.Proofs.Ytnfkhgamnapgmaa
open Go.RowKit

section
variable {P : Program} {nt : Nat} {S S1 : St} {w0 w : World} {ω0 : Beg} {ω : Own?} {η : Env} {a : Act} {Q : Exit → Act → World → Prop}

def AllSubs : List Nat → (List Nat → Prop) → Prop
  | [], p => p []
  | f :: r, p => AllSubs r p ∧ AllSubs r (fun ks => p (f :: ks))
theorem AllSubs.filter {q : Nat → Bool} : ∀ {fs : List Nat} {p : List Nat → Prop}, AllSubs fs p → p (fs.filter q)
  | [], p, h => h
  | f :: r, p, h => by
    rw [List.filter_cons]
    split
    · exact AllSubs.filter (p := fun ks => p (f :: ks)) h.2
    · exact AllSubs.filter (p := p) h.1
theorem AllSubs.map {p p' : List Nat → Prop} (h : ∀ ks, p ks → p' ks) : ∀ {fs : List Nat}, AllSubs fs p → AllSubs fs p'
  | [], k => h _ k
  | _ :: _, k => ⟨AllSubs.map h k.1, AllSubs.map (fun ks => h _) k.2⟩
theorem missing_apps {sk : List Nat} {L : Array Bool} {nA : Nat} : ∀ {ks : List Nat}, ks.Nodup → (∀ f ∈ ks, f < nA ∧ memN sk f = false ∧ L.getD f false = false) → missing sk L nA = missing (ks ++ sk) L nA + ks.length
  | [], _, _ => rfl
  | f :: r, hn, h => by
    have h1 := missing_apps (sk := sk) (L := L) (nA := nA) (ks := r) (List.nodup_cons.1 hn).2 fun g hg => h g (by simp [hg])
    have h2 := h f (by simp)
    have h3 : memN (r ++ sk) f = false := by
      cases hb : memN (r ++ sk) f with
      | false => rfl
      | true =>
        exfalso
        rcases List.mem_append.1 (memN_iff.1 hb) with h4 | h4
        · exact (List.nodup_cons.1 hn).1 h4
        · rw [memN_iff.2 h4] at h2; exact absurd h2.2.1 (by simp)
    have := missing_le_cons (sk := r ++ sk) (L := L) f h2.2.2 h3 nA h2.1
    rw [h1, this, List.cons_append, List.length_cons]; omega

def clsLB (ops : Array Oper) (nA : Nat) (sk : List Nat) (fs : List Nat) (cls : List (List Nat)) : Bool :=
  Nat.ble nA ops.size && (List.range ops.size).all fun i => match ops[i]? with
    | some o => (Nat.ble nA i || memN sk i || o.after.all fun e => !Region.binds .any e || (Nat.blt e.on i && !memN sk e.on)) && ((cls.getD i []).all fun j => o.after.any fun e => Region.binds .any e && (Nat.beq j e.on || memN (cls.getD e.on []) j)) &&
        ((Nat.blt i nA && !memN sk i) || (List.range nA).all fun j => memN fs j || memN sk j || memN (cls.getD i []) j) && (Nat.ble nA i || (cls.getD i []).all fun j => Nat.blt j i)
    | none => true
structure ClsLOK (ops : Array Oper) (nA : Nat) (sk : List Nat) (fs : List Nat) (cls : List (List Nat)) : Prop where
  size : nA ≤ ops.size
  less : ∀ i o, ops[i]? = some o → i < nA → memN sk i = false → ∀ e ∈ o.after, Region.binds .any e = true → e.on < i ∧ memN sk e.on = false
  dep : ∀ i o, ops[i]? = some o → ∀ j ∈ cls.getD i [], ∃ e ∈ o.after, Region.binds .any e = true ∧ (j = e.on ∨ j ∈ cls.getD e.on [])
  late : ∀ i o, ops[i]? = some o → (nA ≤ i ∨ memN sk i = true) → ∀ j, j < nA → memN sk j = false → memN fs j = false → j ∈ cls.getD i []
  lt : ∀ i o, ops[i]? = some o → i < nA → ∀ j ∈ cls.getD i [], j < i
theorem clsLB_spec {ops : Array Oper} {nA : Nat} {sk : List Nat} {fs : List Nat} {cls : List (List Nat)} (h : clsLB ops nA sk fs cls = true) : ClsLOK ops nA sk fs cls := by
  unfold clsLB at h
  simp only [Bool.and_eq_true, Nat.ble_eq] at h
  obtain ⟨h0, h⟩ := h
  have key : ∀ i o, ops[i]? = some o → _ := fun i o ho => by
    have hi : i < ops.size := (Array.getElem?_eq_some_iff.1 ho).1
    have h1 := List.all_eq_true.1 h i (List.mem_range.2 hi)
    simp only [ho, Bool.and_eq_true, Bool.or_eq_true] at h1
    exact h1
  refine ⟨h0, fun i o ho hi hsk e he hb => ?_, fun i o ho j hj => ?_, fun i o ho hi j hj hsk hf => ?_, fun i o ho hi j hj => ?_⟩
  · rcases (key i o ho).1.1.1 with (h1 | h1) | h1
    · have := Nat.le_of_ble_eq_true h1; omega
    · rw [hsk] at h1; cases h1
    · have := Array.all_eq_true_iff_forall_mem.1 h1 e he
      simp [hb] at this; exact this
  · have := List.all_eq_true.1 (key i o ho).1.1.2 j hj
    obtain ⟨e, he, h2⟩ := Array.any_eq_true'.1 this
    simp only [Bool.and_eq_true, Bool.or_eq_true] at h2
    exact ⟨e, he, h2.1, h2.2.imp (fun h => beq_true h) (fun h => memN_iff.1 h)⟩
  · rcases (key i o ho).1.2 with h1 | h1
    · exfalso
      have h2 : i < nA := by simpa using h1.1
      have h3 : memN sk i = false := by simpa using h1.2
      rcases hi with h4 | h4
      · omega
      · rw [h3] at h4; cases h4
    · have h2 := List.all_eq_true.1 h1 j (List.mem_range.2 hj)
      simp only [Bool.or_eq_true, hsk, hf, Bool.false_eq_true, false_or] at h2
      exact memN_iff.1 h2
  · rcases (key i o ho).2 with h1 | h1
    · have := Nat.le_of_ble_eq_true h1; omega
    · exact (by have := List.all_eq_true.1 h1 j hj; simpa using this)

theorem draw_mainL {l : List Oper} {nA : Nat} {sk : List Nat} {cls : List (List Nat)} {ds nms : List Nat} {adds done : List Add} {fs : List Nat} (hfn : fs.Nodup) (hfs : ∀ f ∈ fs, f < nA ∧ memN sk f = false) (hcl : ClsLOK l.toArray nA sk fs cls) (hdr : Draw P nt (S.clear ds nms) cls sk (l.take nA) [] done) (hdn : done.reverse = adds) (ok : AddsOK adds cls ds nms)
    (hk : AllSubs fs fun ks => Rest P w0 ω0 nt l.toArray Q (l.length - missing (ks ++ sk) #[] nA) (doneL nA (ks ++ sk) l.length) ((S.clear ds nms).part (fun j => !memN (ks ++ sk) j) adds)) :
    ∀ (d : Nat) (L : Array Bool) (a : Act) (w : World), missing sk L nA = d → L.size = l.length → (∀ j, L.getD j false = true → j < nA ∧ memN sk j = false) → (∀ i, L.getD i false = true → ∀ j ∈ cls.getD i [], L.getD j false = true) →
      Sat w0 ω0 nt ((S.clear ds nms).part (fun j => L.getD j false) adds) a w → wpAny P .any l.toArray Q (l.length - missing sk #[] nA + d) L a w := by
  have hsz : nA ≤ l.length := by have := hcl.size; simpa using this
  obtain ⟨⟨r, hr, hrl⟩, hob⟩ := hdr.spec
  rw [hdn] at hr hob
  have hal : adds.length = nA := by rw [hr]; simp [hrl]; omega
  have hfull : ∀ (L : Array Bool) (i : Nat), i ∈ Region.ready .any l.toArray L → (∀ i, L.getD i false = true → ∀ j ∈ cls.getD i [], L.getD j false = true) → (∃ o, l.toArray[i]? = some o ∧ L.getD i true = false) ∧ ∀ j ∈ cls.getD i [], L.getD j false = true := by
    intro L i hi hclosed
    obtain ⟨h0, o, ho, he⟩ := mem_ready.1 hi
    refine ⟨⟨o, ho, h0⟩, fun j hj => ?_⟩
    obtain ⟨e, hem, hb, hje⟩ := hcl.dep i o ho j hj
    have h1 := he e hem hb
    rcases hje with rfl | hje
    · exact h1
    · exact hclosed e.on h1 j hje
  have stop : ∀ (L : Array Bool) (a : Act) (w : World), L.size = l.length → (∀ j, L.getD j false = true → j < nA ∧ memN sk j = false) → missing (fs ++ sk) L nA = 0 → Sat w0 ω0 nt ((S.clear ds nms).part (fun j => L.getD j false) adds) a w → wpAny P .any l.toArray Q (l.length - missing sk #[] nA + missing sk L nA) L a w := by
    intro L a w hs hsub h0 hsat
    have hall := missing_zero h0
    obtain ⟨ks, hks⟩ : ∃ ks, fs.filter (fun f => !L.getD f false) = ks := ⟨_, rfl⟩
    have hkn : ks.Nodup := by rw [← hks]; exact hfn.filter _
    have hkm : ∀ f, f ∈ ks ↔ f ∈ fs ∧ L.getD f false = false := fun f => by rw [← hks]; simp
    have hk1 : ∀ f ∈ ks, f < nA ∧ memN sk f = false ∧ L.getD f false = false := fun f hf => ⟨(hfs f ((hkm f).1 hf).1).1, (hfs f ((hkm f).1 hf).1).2, ((hkm f).1 hf).2⟩
    have hdone : ∀ j, j < nA → memN (ks ++ sk) j = false → L.getD j false = true := fun j hj hsk => by
      cases hb : L.getD j false with
      | true => rfl
      | false =>
        exfalso
        have h1 : memN (fs ++ sk) j = true := by
          cases h2 : memN (fs ++ sk) j with
          | true => rfl
          | false => rw [hall j hj h2] at hb; cases hb
        rcases List.mem_append.1 (memN_iff.1 h1) with h3 | h3
        · have : j ∈ ks ++ sk := List.mem_append.2 (.inl ((hkm j).2 ⟨h3, hb⟩))
          rw [memN_iff.2 this] at hsk; cases hsk
        · have : j ∈ ks ++ sk := List.mem_append.2 (.inr h3)
          rw [memN_iff.2 this] at hsk; cases hsk
    have hL : L = doneL nA (ks ++ sk) l.length := by
      apply Array.ext
      · simp [hs, doneL]
      · intro j h1 h2
        have h3 : L[j]? = some L[j] := Array.getElem?_eq_getElem h1
        have h4 := doneL_at (nA := nA) (sk := ks ++ sk) (n := l.length) (j := j) (by omega)
        rw [Array.getElem?_eq_getElem h2] at h4
        rw [Option.some.inj h4]
        cases hb : L[j] with
        | true =>
          have hb' : L.getD j false = true := by simp [h1, hb]
          have := hsub j hb'
          have hnk : memN (ks ++ sk) j = false := by
            cases h5 : memN (ks ++ sk) j with
            | false => rfl
            | true =>
              exfalso
              rcases List.mem_append.1 (memN_iff.1 h5) with h6 | h6
              · rw [((hkm j).1 h6).2] at hb'; cases hb'
              · rw [memN_iff.2 h6] at this; exact absurd this.2 (by simp)
          simp [this.1, hnk]
        | false =>
          by_cases hj : j < nA
          · cases hsk : memN (ks ++ sk) j with
            | true => simp
            | false =>
              have := hdone j hj hsk
              simp [h1, hb] at this
          · simp [hj]
    have hm1 := missing_apps (L := L) hkn hk1
    have hm2 := missing_apps (sk := sk) (L := #[]) (nA := nA) hkn fun f hf => ⟨(hk1 f hf).1, (hk1 f hf).2.1, rfl⟩
    have hm0 : missing (ks ++ sk) L nA = 0 := missing_full hdone
    have hmn := missing_le (sk := sk) (L := #[]) nA
    have e : l.length - missing (ks ++ sk) #[] nA = l.length - missing sk #[] nA + missing sk L nA := by omega
    rw [← e]
    have hkk := AllSubs.filter (q := fun f => !L.getD f false) hk
    rw [hks] at hkk
    refine hkk.go a w ((St.le.wk (part_le (ℓ1 := fun j => !memN (ks ++ sk) j) (ℓ2 := fun j => L.getD j false) ok (fun _ _ h => h) fun j A hj hsk => ?_) fun _ _ h => h).go _ _ _ a w hsat) |> fun h => by rw [← hL] at h; exact h
    have hjl : j < adds.length := (List.getElem?_eq_some_iff.1 hj).1
    exact hdone j (by omega) (by simpa using hsk)
  intro d
  induction d with
  | zero =>
    intro L a w hm hs hsub hclosed hsat
    have h0 : missing (fs ++ sk) L nA = 0 := missing_full fun j hj hsk => missing_zero hm j hj (by
      cases h5 : memN sk j with
      | false => rfl
      | true => rw [memN_iff.2 (List.mem_append.2 (.inr (memN_iff.1 h5)))] at hsk; cases hsk)
    have := stop L a w hs hsub h0 hsat
    rw [hm] at this; exact this
  | succ d ih =>
    intro L a w hm hs hsub hclosed hsat
    by_cases h0 : missing (fs ++ sk) L nA = 0
    · have := stop L a w hs hsub h0 hsat
      rw [hm] at this; exact this
    refine ⟨fun hnil => ?_, fun i hi => ?_⟩
    · exfalso
      obtain ⟨j, hj, hjs', hjf, hlo⟩ := missing_least (k := nA) (by omega : missing sk L nA ≠ 0)
      have hjl : j < l.length := by omega
      have hjs : j < L.size := by omega
      have : j ∈ Region.ready .any l.toArray L := by
        refine mem_ready.2 ⟨?_, l[j], by simp [hjl], fun e he hb => ?_⟩
        · simp [hjs] at hjf ⊢
          exact hjf
        · have h5 := hcl.less j l[j] (by simp [hjl]) hj hjs' e he hb
          exact hlo e.on h5.1 h5.2
      rw [hnil] at this; cases this
    · obtain ⟨⟨o, ho, hi0⟩, hdep⟩ := hfull L i hi hclosed
      have hil : i < l.length := by have := (Array.getElem?_eq_some_iff.1 ho).1; simpa using this
      have his : i < L.size := by omega
      have hif : L.getD i false = false := by simp [his] at hi0 ⊢; exact hi0
      have hnl : ¬ (nA ≤ i ∨ memN sk i = true) := fun h => by
        refine h0 (missing_full (sk := fs ++ sk) (L := L) (k := nA) fun j hj hsk => ?_)
        have h5 : memN fs j = false ∧ memN sk j = false := by
          constructor
          · cases h6 : memN fs j with
            | false => rfl
            | true => rw [memN_iff.2 (List.mem_append.2 (.inl (memN_iff.1 h6)))] at hsk; cases hsk
          · cases h6 : memN sk j with
            | false => rfl
            | true => rw [memN_iff.2 (List.mem_append.2 (.inr (memN_iff.1 h6)))] at hsk; cases hsk
        exact hdep j (hcl.late i o ho h j hj h5.2 h5.1)
      have hiA : i < nA := by
        rcases Nat.lt_or_ge i nA with h | h
        · exact h
        · exact absurd (.inl h) hnl
      have hisk : memN sk i = false := by
        cases hsk : memN sk i with
        | false => rfl
        | true => exact absurd (.inr hsk) hnl
      have hot : (l.take nA)[i]? = some o := by rw [List.getElem?_take, if_pos hiA]; simpa using ho
      obtain ⟨A, hA, hg, hstp⟩ := hob i o hot (by simpa using hisk)
      simp only [List.length_nil, Nat.zero_add] at hA hstp
      have hle : ((S.clear ds nms).partR (memN (cls.getD i [])) (adds.take i).reverse).le ((S.clear ds nms).part (fun j => L.getD j false) adds) := partR_le ok (fun j B hj => by
          rw [List.reverse_reverse] at hj
          rw [List.getElem?_take] at hj; split at hj
          · exact hj
          · cases hj) fun j B _ hj => hdep j (memN_iff.1 hj)
      have hst := (hstp _ hle).go w0 ω0 a w Q hsat
      unfold wpOp
      simp only [ho]
      rw [if_pos (by simp [Region.wanted, hg])]
      refine .inl (Oper.wp_mono (fun a' w' hsat' => ?_) hst)
      have hsat2 := (wk_add ok hA hif fun j hj hm' => by have := hclosed j hj i hm'; rw [hif] at this; cases this).go _ _ _ a' w' hsat'
      have hnew : ∀ j, (L.setIfInBounds i true).getD j false = (Nat.beq j i || L.getD j false) := fun j => by
        by_cases e : j = i
        · subst e; simp [his]
        · rw [getD_set_ne false (fun e' => e e'.symm), beq_ne e, Bool.false_or]
      refine ih (L.setIfInBounds i true) a' w' ?_ (by simp [hs]) (fun j hj => ?_) (fun j hj k hk' => ?_) ?_
      · have := missing_set his hif hisk nA hiA; omega
      · rw [hnew] at hj
        by_cases e : j = i
        · rw [e]; exact ⟨hiA, hisk⟩
        · rw [beq_ne e, Bool.false_or] at hj; exact hsub j hj
      · rw [hnew] at hj ⊢
        by_cases e : j = i
        · subst e; rw [hdep k hk']; simp
        · rw [beq_ne e, Bool.false_or] at hj; rw [hclosed j hj k hk']; simp
      · have : (fun j => (L.setIfInBounds i true).getD j false) = fun j => (Nat.beq j i || L.getD j false) := funext hnew
        rw [this]; exact hsat2

theorem goes_drawL {id : Nat} {l : List Oper} (nA : Nat) (sk : List Nat) (fs : List Nat) (cls : List (List Nat)) (ds nms : List Nat) {done : List Add} (hm : P.follows .mixedOrders = true) (hcl : clsLB l.toArray nA sk fs cls = true) (hf' : (nodupB fs && fs.all fun f => Nat.blt f nA && !memN sk f) = true) (hdr : Draw P nt (S.clear ds nms) cls sk (l.take nA) [] done) (ok : addsB done.reverse cls ds nms = true)
    (hk : AllSubs fs fun ks => Rest P w0 ω0 nt l.toArray Q (l.length - missing (ks ++ sk) #[] nA) (doneL nA (ks ++ sk) l.length) ((S.clear ds nms).partR (fun j => !memN (ks ++ sk) j) done)) : Goes P w0 ω0 nt S (.region id l.toArray true) Q := by
  have hc := clsLB_spec hcl
  have hsz : nA ≤ l.length := by have := hc.size; simpa using this
  have hk' := AllSubs.map (p' := fun ks => Rest P w0 ω0 nt l.toArray Q (l.length - missing (ks ++ sk) #[] nA) (doneL nA (ks ++ sk) l.length) ((S.clear ds nms).part (fun j => !memN (ks ++ sk) j) done.reverse)) (fun ks hk =>
    ⟨fun a w hs => hk.go a w ((St.le.wk (partR_le (addsB_spec ok) (fun _ _ h => h) fun _ _ _ h => h) fun _ _ h => h).go _ _ _ a w hs)⟩) hk
  have hfn : fs.Nodup := by simp only [Bool.and_eq_true] at hf'; exact nodupB_spec hf'.1
  have hfs : ∀ f ∈ fs, f < nA ∧ memN sk f = false := fun f hf => by
    simp only [Bool.and_eq_true] at hf'
    have := List.all_eq_true.1 hf'.2 f hf
    simpa using this
  have hle : ∀ k, missing sk #[] k ≤ k := fun k => by
    induction k with
    | zero => exact Nat.le_refl _
    | succ k ih => simp only [missing]; split <;> omega
  refine ⟨fun a w hs => wp_region_any hm ?_⟩
  have hfin := draw_mainL hfn hfs hc hdr rfl (addsB_spec ok) hk' (missing sk #[] nA) (Array.replicate l.length false) a { w with drawn := w.drawn + 1 } ?_ (by simp) (fun j hj => ?_) (fun i hi => ?_) ?_
  · have := hle nA
    rw [show l.length - missing sk #[] nA + missing sk #[] nA = l.length by omega] at hfin
    simpa using hfin
  · have : ∀ k, k ≤ l.length → missing sk (Array.replicate l.length false) k = missing sk #[] k := fun k => by
      induction k with
      | zero => intro _; rfl
      | succ k ih =>
        intro hk
        simp only [missing]
        rw [ih (by omega)]
        have : (Array.replicate l.length false).getD k false = false := by simp [show k < l.length by omega]
        rw [this]; rfl
    exact this nA hsz
  · exfalso
    by_cases h : j < l.length
    · simp [h] at hj
    · simp [h] at hj
  · exfalso
    by_cases h : i < l.length
    · simp [h] at hi
    · simp [h] at hi
  · have h1 := (wk_clear S ds nms).go _ _ _ a _ (sat_drew hs)
    have hf : ∀ j, (Array.replicate l.length false).getD j false = false := fun j => by
      by_cases h : j < l.length <;> simp [h]
    refine (Wk.less (S := S.clear ds nms) (S' := (S.clear ds nms).part (fun j => (Array.replicate l.length false).getD j false) done.reverse) (fun t av h => ?_) (fun x c h => ?_) fun _ _ h => h).go _ _ _ a _ h1
    · have h : (match lkT (fun j => (Array.replicate l.length false).getD j false) 0 done.reverse t with | some av => some av | none => (S.clear ds nms).sl t) = some av := h
      split at h
      · rename_i av' h2
        obtain ⟨j, A, _, h3, _⟩ := lkT_some h2
        rw [hf] at h3; cases h3
      · exact h
    · have h : (match lkN (fun j => (Array.replicate l.length false).getD j false) 0 done.reverse x with | some c => some c | none => (S.clear ds nms).ch x) = some c := h
      split at h
      · rename_i av' h2
        obtain ⟨j, A, _, h3, _⟩ := lkN_some h2
        rw [hf] at h3; cases h3
      · exact h


end
end Go.Proofs.Ytnfkhgamnapgmaa

/- A memory of names: calls that make one vector; rows taken out and laid back; slices of rows; literals of rows and of arrays. No program in sight. -/
namespace Go.Proofs.Ytnfkhgamnapgmaa
open Go.RowKit

section
variable {P : Program} {nt : Nat} {S S1 S2 : St} {w0 w : World} {ω0 : Beg} {ω : Own?} {η : Env} {a : Act} {Q : Exit → Act → World → Prop} {ops : Array Oper} {rest : List Oper}
variable {t : Nat} {ty : TypeId} {ps : String} {af : Array Edge} {gd : Option (Nat × Bool)} {x y : Operand} {av : AV} {o : Oper}

theorem nbeq_comm (x y : Nat) : Nat.beq x y = Nat.beq y x := by
  cases h : Nat.beq x y with
  | true => rw [beq_true h]; simp
  | false =>
    cases h2 : Nat.beq y x with
    | false => rfl
    | true => rw [beq_true h2] at h; simp at h
theorem inL_one (x y : Nm) (c : Ch) : inL [(x, c)] y = Nat.beq x y := by
  unfold inL; simp only [lk]
  rw [nbeq_comm x y]
  cases Nat.beq y x <;> rfl
theorem bad_one (x : Nm) (c : Ch) (a : A1) : a.bad (inL [(x, c)]) (memB []) = a.has x := by
  cases a with
  | val v => rfl
  | any => rfl
  | sl y _ _ => exact inL_one x y c
  | ptr y _ => show (inL [(x, c)] y && !memB [] y) = _; rw [inL_one]; simp [memB, A1.has]
  | esl y _ _ _ => exact inL_one x y c
  | eptr y _ _ => exact inL_one x y c
  | clo f xs => show xs.any (fun p => inL [(x, c)] p.1 && !memB [] p.1) = xs.any fun p => Nat.beq x p.1; congr 1; funext p; rw [inL_one]; simp [memB]
theorem bad_one2 (x : Nm) (c : Ch) (a : A2) : a.bad (inL [(x, c)]) (memB []) = a.has x := by
  cases a with
  | one a => exact bad_one x c a
  | agg l => show l.any _ = l.any _; congr 1; funext a; exact bad_one x c a
theorem bad_one3 (x : Nm) (c : Ch) (a : AV) : a.bad (inL [(x, c)]) (memB []) = a.has x := by
  cases a with
  | s a => exact bad_one2 x c a
  | tup l => show l.any _ = l.any _; congr 1; funext a; exact bad_one2 x c a
theorem clean_one (x : Nm) (c d : Ch) : d.clean (inL [(x, c)]) (memB []) = d.forget x := by
  obtain ⟨ow, E, k, d⟩ := d
  unfold Ch.clean Ch.forget Dat.clean Dat.forget
  cases d with
  | flat l =>
    have : (l.map fun a => bif a.bad (inL [(x, c)]) (memB []) then A1.any else a) = l.map (A1.forget x) := List.map_congr_left fun a _ => by rw [bad_one]; rfl
    simp only [this]
  | vals vs => rfl
  | rows F vss hs => rfl
  | mix cs => rfl
/-- a call that reads and makes one chunk -/
theorem wk_after1 {ins : List (Nm × Ch)} {t : Nat} {res : AV} {x : Nm} {c : Ch} (hro : (ins.all fun p => !p.2.own) = true) : Wk ((S.after ins [(x, c)] []).putO (some t) res) ((S.new x c).put t res) := by
  have hc : ∀ x, consB ins x = false := fun x => by
    unfold consB
    cases h : lk x ins with
    | none => rfl
    | some c => have := List.all_eq_true.1 hro _ (lk_mem h); simpa using this
  refine Wk.less (fun t' av h => ?_) (fun y d h => ?_) fun t' av h => ?_
  · rw [sl_put] at h
    show ((S.after ins [(x, c)] []).put t res).sl t' = some av
    rw [sl_put]
    by_cases e : t' = t
    · rw [if_pos e] at h ⊢; exact h
    · rw [if_neg e] at h ⊢
      obtain ⟨h1, h2⟩ := sl_new h
      show ((S.sl t').bind fun av => bif av.bad (inL [(x, c)]) (memB []) then none else some av) = some av
      rw [h1, Option.bind_some, bad_one3, h2]; rfl
  · have h' : (S.new x c).ch y = some d := h
    clear h
    rw [ch_new] at h'
    show (match lk y [(x, c)] with | some c => some c | none => bif consB ins y then none else (S.ch y).map (Ch.clean (inL [(x, c)]) (memB []))) = some d
    simp only [lk]
    by_cases e : y = x
    · rw [if_pos e] at h'; subst e; simpa using h'
    · rw [if_neg e] at h'
      rw [beq_ne e, cond_false, hc, cond_false]
      have : Ch.clean (inL [(x, c)]) (memB []) = Ch.forget x := funext fun d => clean_one x c d
      rw [this]; exact h'
  · have h : (S.new x c).ph t' = some av := h
    obtain ⟨h1, h2⟩ := ph_new h
    show ((S.ph t').bind fun av => bif av.bad (inL [(x, c)]) (memB []) then none else some av) = some av
    rw [h1, Option.bind_some, bad_one3, h2]; rfl
theorem stp_callN {f : FuncId} {xs : Array Operand} {ts : Array TypeId} {ins : List (Nm × Ch)} {args args' : List AV} {res : AV} {back : List (Nat × AV)} {x : Nm} {c : Ch}
    (hfc : FC P f ins args [(x, c)] res back) (hf : goFnB P f = true) (ht : Nat.blt t nt = true) (hx' : opL S xs.toList = some args') (hto : allTo args' args) (hin : allIn S ins) (hro : (ins.all fun p => !p.2.own) = true) (hnr : (res.names.all (inL [(x, c)])) = true) (hno : ([(x, c)].all fun p => p.2.own && p.2.names.all (inL [(x, c)])) = true) :
    Stp P nt ⟨some t, .call { callee := .value (.func f), args := xs, argTypes := ts }, ty, ps, af, gd⟩ S ((S.new x c).put t res) :=
  (stp_call (kp := []) hfc hf (by simp [ht]) hx' hto hin trivial hnr hno).wk (wk_after1 hro)

/-- a contract in words of a function that hands back integers of its own, as a contract in names -/
theorem vecO_of {x : Nm × Option Nat} {w' : World} {lo E n c : Nat} {ao : Option Addr} {xs : List Value} (h : Own w' lo E ao n c xs) {ω' : Own?} (ho : ∀ g, bk ao = some g → ω' g = some x) : VecO ω' w' x ⟨ao, c, 1⟩ E xs.length fun j u => xs[j]? = some u := by
  have hl := h.len
  rcases h.1.2 with ⟨h2, h3⟩ | ⟨g, cap, cur, hv, hg, hh, h4, h5, h6, h7⟩
  · injection h2 with e1 e2 e3
    subst e1 e3
    exact .inl ⟨rfl, rfl, by omega⟩
  · injection hv with e1 e2 e3
    subst e1 e3
    refine .inr ⟨g, 0, cur, rfl, ho g rfl, hh, ⟨rfl, h6⟩, by show xs.length ≤ c * 1; omega, h5, fun j hj => ?_⟩
    have h8 : xs[j]? = some xs[j] := List.getElem?_eq_getElem hj
    refine ⟨xs[j], ?_, h8⟩
    have h9 : (cur.toList.take (n * 1))[j]? = some xs[j] := by rw [h7]; exact h8
    rw [List.getElem?_take] at h9
    split at h9
    · rw [Nat.zero_add]; simpa using h9
    · cases h9
theorem fc_of_own {f : FuncId} {ins : List (Nm × Ch)} {args : List AV} {x E : Nat} {zs : List Int} (h : ∀ w η ω us, Mem η ω w (fun x => lk x ins) → DenL η args us → Calls P f us.toArray w fun e w' => ∃ ao c, e = .returned (.slice ao zs.length c) ∧ Own w' w.heap.size E ao zs.length c (ivals zs) ∧ Below w.heap.size w w') :
    FC P f ins args [(x, ⟨true, E, 1, .vals (ivals zs)⟩)] (o1 (.sl x 0 zs.length)) [] := by
  intro w η ω us hm hd
  refine (h w η ω us hm hd).mono ?_
  rintro e w' ⟨ao, c, rfl, ho, hb⟩
  refine ⟨_, { h := fun y => if y = x then some ⟨ao, c, 1⟩ else none, r := η.r }, fun b => if bk ao = some b then some (x, none) else ω b, rfl, ⟨⟨_, _, rfl⟩, fun hd' he => ?_⟩, ⟨fun y d hy => ?_, fun y hy => ?_⟩, ⟨hb.os, hb.tape, hb.output, hb.size, fun b hlt hn => ⟨hb.block b hlt, ?_⟩⟩, fun t av ht => (nomatch ht)⟩
  · simp only [if_true, Option.some.injEq] at he
    subst he
    exact ⟨_, rfl, fun _ => rfl, fun h0 => absurd h0 (by omega)⟩
  · have hy : lk y [(x, (⟨true, E, 1, .vals (ivals zs)⟩ : Ch))] = some d := hy
    simp only [lk] at hy
    cases hb' : Nat.beq y x with
    | false => rw [hb'] at hy; simp at hy
    | true =>
      rw [hb'] at hy; simp at hy; subst hy
      obtain rfl := beq_true hb'
      exact ⟨⟨ao, c, 1⟩, if_pos rfl, rfl, vecO_of ho fun g hg => if_pos hg⟩
  · have hy : lk y [(x, (⟨true, E, 1, .vals (ivals zs)⟩ : Ch))] = none := hy
    have : y ≠ x := fun e => by subst e; simp [lk] at hy
    exact if_neg this
  · show (if bk ao = some b then some (x, none) else ω b) = none
    rw [if_neg fun e => by have := (ho.lt b e).1; omega]; exact hn

/-- a row is taken out of the rows: it is a vector of its own, and its place is a hole -/
theorem wk_takeRow {n i z m : Nat} {E F s : Nat} {vss : List (List Value)} {vs : List Value} (hc : S.ch n = some ⟨true, E, 1, .rows F vss []⟩) (hs0 : S.sl s = some (o1 (.esl n i 0 m))) (hi : vss[i]? = some vs) (hm : vs.length = m) (hzn : Nat.beq z n = false) :
    Wk S ((((S.cutE n).set n ⟨true, E, 1, .rows F vss [i]⟩).new z ⟨true, F, 1, .vals vs⟩).put s (o1 (.sl z 0 m))) := by
  have hne : z ≠ n := fun e => by rw [e] at hzn; simp at hzn
  subst hm
  refine ⟨fun w0 ω0 nt a w ⟨η, ω, h⟩ => ?_⟩
  obtain ⟨u, hu, hdu⟩ := h.slots s _ hs0
  have hdu : Den1 η (.esl n i 0 vs.length) u := hdu
  obtain ⟨hd, e1, e2, e3⟩ := h.chunk hc
  have e3 : VecO ω w (n, none) hd E vss.length (cellsOK η ω w true n (.rows F vss [])) := e3
  obtain ⟨ao, rfl, q1, _⟩ := hdu.2 hd e1
  have hil : i < vss.length := (List.getElem?_eq_some_iff.1 hi).1
  obtain ⟨b0, o0, u0, _, _, g3⟩ := Vec.get (own := true) e3 hil
  obtain ⟨r1, r2, r3⟩ := g3.2 (by simp) vs hi
  have r3 : VecO ω w (n, some i) (η.r n i) F vs.length fun j u => vs[j]? = some u := r3
  let ω' : Own? := fun b => if ω b = some (n, some i) then some (z, none) else ω b
  have calm : Calm (S.rm n) ω w ω' w := ⟨rfl, rfl, rfl, Nat.le_refl _, fun b _ hl => ⟨rfl, by
    have h1 : ω b ≠ some (n, some i) := by
      rcases hl with h0 | ⟨y, j, c, h0, h1⟩
      · rw [h0]; simp
      · rw [h0]; intro e; simp at e; rw [e.1, ch_rm, if_pos rfl] at h1; cases h1
    exact if_neg h1⟩⟩
  have key : ChIs { η with r := fun y j => if y = n then η.r n j else η.r y j } ω' w n hd ⟨true, E, 1, .rows F vss [i]⟩ := by
    refine ⟨e2, ?_⟩
    rcases e3 with h0 | ⟨b, o, cs, f1, f2, f3, f4, f5, f6, f7⟩
    · exact .inl h0
    · refine .inr ⟨b, o, cs, f1, (if_neg (by rw [f2]; simp)).trans f2, f3, f4, f5, f6, fun j hj => ?_⟩
      obtain ⟨u', hu', hk⟩ := f7 j hj
      refine ⟨u', hu', hk.1, fun hj' vs' hvs' => ?_⟩
      obtain ⟨m1, m2, m3⟩ := hk.2 (by simp) vs' hvs'
      simp only [if_true]
      refine ⟨m1, m2, VecO.same (fun b2 _ ho => ⟨rfl, ?_⟩) (fun _ _ h => h) m3⟩
      show (if ω b2 = some (n, some i) then some (z, none) else ω b2) = _
      rw [if_neg (by rw [ho]; simp; simpa using hj')]; exact ho
  have h1 := h.rewrite (n := n) (r := η.r n) e1 calm key
  have h2 := h1.lay (x := z) (c := ⟨true, F, 1, .vals vs⟩) (hd := η.r n i) (r := fun _ => ⟨none, 0, 1⟩) (Calm.refl _ _ _) ⟨r2, by
    show VecO ω' w (z, none) (η.r n i) F vs.length _
    rcases r3 with h0 | ⟨b, o, cs, f1, f2, f3, f4, f5, f6, f7⟩
    · exact .inl h0
    · exact .inr ⟨b, o, cs, f1, if_pos f2, f3, f4, f5, f6, f7⟩⟩
  refine ⟨_, ω', { h2 with slots := fun t' av ht' => ?_ }⟩
  rw [sl_put] at ht'
  by_cases e : t' = s
  · subst e
    rw [if_pos rfl] at ht'
    obtain rfl := Option.some.inj ht'
    refine ⟨_, hu, ⟨_, _, rfl⟩, fun hd' he => ?_⟩
    simp [Env.new] at he
    subst he
    exact ⟨_, rfl, fun _ => q1 rfl, fun h0 => absurd h0 (by omega)⟩
  · rw [if_neg e] at ht'
    exact h2.slots t' av ht'

end
end Go.Proofs.Ytnfkhgamnapgmaa

/- A memory of names: a call that turns one vector of the caller's in place; quotients and remainders. No program in sight. -/
namespace Go.Proofs.Ytnfkhgamnapgmaa
open Go.RowKit

section
variable {P : Program} {nt : Nat} {S S' S2 : St} {t : Nat} {ty : TypeId} {ps : String} {af : Array Edge} {gd : Option (Nat × Bool)} {x y : Operand} {o : Oper}
theorem stp_turn {f : FuncId} {ts : Array TypeId} {n : Nm} {E len : Nat} {zs zs' : List Int} (ht : Nat.blt t nt = true) (hf : goFnB P f = true) (hx : S.op x = some (o1 (.sl n 0 len))) (hc : S.ch n = some ⟨true, E, 1, .vals (ivals zs)⟩) (hl : zs.length = len) (hl' : zs'.length = len) (hlen : len ≤ 4398046511104)
    (h : ∀ ao c (w : World), Own w 0 E ao len c (ivals zs) → Calls P f #[.slice ao len c] w fun e w' => e = .returned (.tuple #[]) ∧ Own w' 0 E ao len c (ivals zs') ∧ w.grownBy w' (bk ao)) :
    Stp P nt ⟨some t, .call { callee := .value (.func f), args := #[x], argTypes := ts }, ty, ps, af, gd⟩ S ((S.set n ⟨true, E, 1, .vals (ivals zs')⟩).put t (.tup [])) := by
  refine ⟨fun w0 ω0 a w Q ⟨η, ω, hs⟩ => ?_⟩
  obtain ⟨hd, e1, e2, e3⟩ := hs.chunk hc
  have e2 : hd.k = 1 := e2
  have e3 : VecO ω w (n, none) hd E (ivals zs).length (cellsOK η ω w true n (.vals (ivals zs))) := e3
  have hu : Den1 η (.sl n 0 len) (a.eval x) := hs.opv hx
  obtain ⟨ao, hev, q1, _⟩ := hu.2 hd e1
  have q1 := q1 rfl
  subst q1
  rw [Nat.sub_zero] at hev
  have hown := VecO.own (lo := 0) (xs := ivals zs) e2 e3 (fun b hb => absurd hb (by omega)) (by rw [ivals_len]; omega) rfl (fun j u hj ⟨b, o, f1, f2⟩ => by
    obtain ⟨b', o', u', g1, g2, g3⟩ := Vec.get (own := true) e3 hj
    rw [f1] at g1; injection g1 with g1; injection g1 with g1 g1'; subst g1 g1'
    rw [f2] at g2
    obtain rfl := Option.some.inj g2
    exact g3)
  rw [ivals_len, hl] at hown
  have hrun : (execOp a.eval ⟨some t, .call { callee := .value (.func f), args := #[x], argTypes := ts }, ty, ps, af, gd⟩).run P w = .ok (.enter f #[.slice hd.ao len hd.c]) w := by
    simp only [execOp]
    have hfe : a.eval (.func f) = .func (Fn.func f) #[] #[] := rfl
    simp [execOp, resolve, hfe, hev, Deferred.ofValue, invoke, goFnB_run hf]
  unfold Oper.wp
  rw [hrun, Oper.upon_enter]
  refine (h _ _ _ hown.1).mono ?_
  rintro e w' ⟨rfl, ho, hg⟩
  have hsz := hg.size
  have hw := hs.write (x := n) (c' := ⟨true, E, 1, .vals (ivals zs')⟩) (ω' := ω) (w' := w') e1 ⟨hg.os, hg.tape, hg.output, hsz, fun b hb hlv => ⟨hg.block b hb fun e => ?_, rfl⟩⟩ ⟨e2, ?_⟩
  · exact ⟨η, ω, hw.putV (by simpa using ht) ⟨#[], rfl, rfl, fun j b hj => by simp at hj⟩⟩
  · have h1 := (hown.2 b e.symm).2
    rcases hlv with h0 | ⟨y, i, c, h0, h2⟩
    · rw [h1] at h0; cases h0
    · rw [h1] at h0; simp at h0; rw [← h0.1, ch_rm, if_pos rfl] at h2; cases h2
  · have hv := vecO_of (ω' := ω) ho (x := (n, none)) fun g hg' => (hown.2 g hg').2
    have : hd = ⟨hd.ao, hd.c, 1⟩ := by rw [← e2]
    rw [this]
    exact hv
theorem stp_quoN {xt yt : TypeId} {a b : Nat} (ht : Nat.blt t nt = true) (hx : S.op x = some (vv (I6 (a : Int)))) (hy : S.op y = some (vv (I6 (b : Int)))) (hb : 0 < b) (ha : a < 1000000000000) :
    Stp P nt ⟨some t, .binOp .quo xt x y yt, ty, ps, af, gd⟩ S (S.put t (vv (I6 ((a / b : Nat) : Int)))) :=
  Stp.pure rfl ht fun _ _ η _ s w hs => by
    refine ⟨I6 ((a / b : Nat) : Int), ?_, rfl⟩
    have hle := Nat.div_le_self a b
    have e : Op.intDiv .quo .i64 (a : Int) (b : Int) = pure (I6 ((a / b : Nat) : Int)) := by
      have h1 : (a : Int).tdiv (b : Int) = ((a / b : Nat) : Int) := rfl
      have h2 : ∀ q : Nat, q ≤ a → IntKind.i64.wrap (q : Int) = (q : Int) := fun q hq => IntWalk.i64_in _ (by omega)
      have h3 : ¬ (b : Int) = 0 := by omega
      unfold Op.intDiv
      rw [if_neg h3]
      show pure (Value.int .i64 (IntKind.i64.wrap ((a : Int).tdiv (b : Int)))) = _
      rw [h1, h2 _ hle]
    simp [execOp, hs.opV hx, hs.opV hy, eqGuard, binOp, e]
theorem stp_remN {xt yt : TypeId} {a b : Nat} (ht : Nat.blt t nt = true) (hx : S.op x = some (vv (I6 (a : Int)))) (hy : S.op y = some (vv (I6 (b : Int)))) (hb : 0 < b) (ha : a < 1000000000000) :
    Stp P nt ⟨some t, .binOp .rem xt x y yt, ty, ps, af, gd⟩ S (S.put t (vv (I6 ((a % b : Nat) : Int)))) :=
  Stp.pure rfl ht fun _ _ η _ s w hs => by
    refine ⟨I6 ((a % b : Nat) : Int), ?_, rfl⟩
    have hle := Nat.mod_le a b
    have e : Op.intDiv .rem .i64 (a : Int) (b : Int) = pure (I6 ((a % b : Nat) : Int)) := by
      have h1 : (a : Int).tmod (b : Int) = ((a % b : Nat) : Int) := rfl
      have h3 : ¬ (b : Int) = 0 := by omega
      unfold Op.intDiv
      rw [if_neg h3]
      show pure (Value.int .i64 ((a : Int).tmod (b : Int))) = _
      rw [h1]
    simp [execOp, hs.opV hx, hs.opV hy, eqGuard, binOp, e]
/-- a slice held against nil -/
theorem stp_nilYes {xt yt : TypeId} {op : BinOp} {b : Bool} (ht : Nat.blt t nt = true) (hT : sliceB P xt = true) (hx : S.op x = some (vv (.slice none 0 0))) (hop : (op = .eql ∧ b = true) ∨ (op = .neq ∧ b = false)) :
    Stp P nt ⟨some t, .binOp op xt x (.const (.slice none 0 0)) yt, ty, ps, af, gd⟩ S (S.put t (vv (.bool b))) :=
  Stp.pure rfl ht fun _ _ η _ s w hs => by
    obtain ⟨e, he⟩ := sliceB_spec hT
    have hc : s.eval (.const (.slice none 0 0)) = .slice none 0 0 := rfl
    refine ⟨.bool b, ?_, rfl⟩
    rcases hop with ⟨rfl, rfl⟩ | ⟨rfl, rfl⟩
    · simp [execOp, hs.opV hx, hc, eqGuard, Lib.run_eql_slice_nil w xt e none 0 0 0 0 he]
    · simp [execOp, hs.opV hx, hc, eqGuard, Go.run_neq_slice_nil w xt e none 0 0 he]
theorem stp_nilNo {xt yt : TypeId} {op : BinOp} {b : Bool} {n : Nm} {len : Nat} {c : Ch} (ht : Nat.blt t nt = true) (hT : sliceB P xt = true) (hx : S.op x = some (o1 (.sl n 0 len))) (hc : S.ch n = some c) (hl : 0 < c.d.len) (hop : (op = .eql ∧ b = false) ∨ (op = .neq ∧ b = true)) :
    Stp P nt ⟨some t, .binOp op xt x (.const (.slice none 0 0)) yt, ty, ps, af, gd⟩ S (S.put t (vv (.bool b))) :=
  Stp.pure rfl ht fun _ _ η _ s w hs => by
    obtain ⟨e, he⟩ := sliceB_spec hT
    have hcc : s.eval (.const (.slice none 0 0)) = .slice none 0 0 := rfl
    obtain ⟨hd, h1, h2, h3⟩ := hs.chunk hc
    have hd1 : Den1 η (.sl n 0 len) (s.eval x) := hs.opv hx
    obtain ⟨ao, e1, e2, _⟩ := hd1.2 hd h1
    obtain ⟨b', o', u, f1, _, _⟩ := h3.get hl
    have hao : ao = some ⟨b', o', none⟩ := by rw [e2 rfl, f1]
    subst hao
    refine ⟨.bool b, ?_, rfl⟩
    rcases hop with ⟨rfl, rfl⟩ | ⟨rfl, rfl⟩
    · simp [execOp, e1, hcc, eqGuard, Lib.run_eql_slice_nil w xt e _ _ _ 0 0 he]
    · simp [execOp, e1, hcc, eqGuard, Go.run_neq_slice_nil w xt e _ _ _ he]
end
end Go.Proofs.Ytnfkhgamnapgmaa

/- A memory of names: mixed vectors: structs with slices in them, and rows of structs. No program in sight. -/
namespace Go.Proofs.Ytnfkhgamnapgmaa
open Go.RowKit

section
variable {P : Program} {nt : Nat} {S S1 S2 : St} {w0 w : World} {ω0 : Beg} {ω : Own?} {η : Env} {a : Act} {Q : Exit → Act → World → Prop} {ops : Array Oper} {rest : List Oper}
variable {t : Nat} {ty : TypeId} {ps : String} {af : Array Edge} {gd : Option (Nat × Bool)} {x y : Operand} {av : AV} {o : Oper}

theorem stp_loadM {T : TypeId} {n : Nm} {i : Nat} {c : Ch} {cs : List Cel} {v : Value} (ht : Nat.blt t nt = true) (hT : oneB P T = true) (hx : S.op x = some (o1 (.ptr n i))) (hc : S.ch n = some c) (hd : c.d = .mix cs) (hv : cs[i]? = some (.v v)) :
    Stp P nt ⟨some t, .load T x, ty, ps, af, gd⟩ S (S.put t (vv v)) := stp_load ht hT hx hc (by rw [hd]; simp only [Dat.at_, hv])
theorem stp_loadMR {T : TypeId} {n : Nm} {i F k m : Nat} {c : Ch} {cs : List Cel} {vs : List Value} (ht : Nat.blt t nt = true) (hT : oneB P T = true) (hx : S.op x = some (o1 (.ptr n i))) (hc : S.ch n = some c) (hd : c.d = .mix cs) (hv : cs[i]? = some (.r F k m vs)) :
    Stp P nt ⟨some t, .load T x, ty, ps, af, gd⟩ S (S.put t (o1 (.esl n i 0 m))) := stp_load ht hT hx hc (by rw [hd]; simp only [Dat.at_, hv])
/-- what cells of a chunk read xs0, one after the other -/
theorem stp_loadAggD {T : TypeId} {n : Nm} {i k : Nat} {c : Ch} {l : List A1} (ht : Nat.blt t nt = true) (hx : S.op x = some (o1 (.ptr n i))) (hc : S.ch n = some c) (hl : l.length = k) (hk0 : Nat.blt 0 k = true) (hT : aggB P T k = true)
    (ha : ∀ (j : Nat) (b : A1), l[j]? = some b → c.d.at_ n (i + j) = some b) : Stp P nt ⟨some t, .load T x, ty, ps, af, gd⟩ S (S.put t (.s (.agg l))) :=
  Stp.pure rfl ht fun _ _ η ω a w hs => by
    obtain ⟨h, e1, e2, e3⟩ := hs.chunk hc
    have hp : Den1 η (.ptr n i) (a.eval x) := hs.opv hx
    obtain ⟨b, o, g1, g2⟩ := hp.2 h e1
    have key : ∀ j (hj : j < k), ∃ u, w.cell? ⟨b, o + i + j, none⟩ = some u ∧ ∀ b1, l[j]? = some b1 → Den1 η b1 u := fun j hj => by
      have hlj : l[j]? = some l[j] := List.getElem?_eq_getElem (by omega)
      obtain ⟨b', o', u, f1, f2, f3⟩ := e3.get (j := i + j) (Dat.at_lt (ha j _ hlj))
      rw [g1] at f1; injection f1 with f1; injection f1 with f1 f1'; subst f1 f1'
      exact ⟨u, by rw [Nat.add_assoc]; exact f2, fun b1 hb1 => den_at f3 (ha j b1 hb1)⟩
    refine ⟨.agg ((List.range k).map fun j => (w.cell? ⟨b, o + i + j, none⟩).getD undef).toArray, ?_, ⟨_, rfl, by simp; omega, fun j b1 hb1 => ?_⟩⟩
    · have := run_loadAgg (P := P) (w := w) hT (b := b) (o := o + i) (us := (List.range k).map fun j => (w.cell? ⟨b, o + i + j, none⟩).getD undef) (by simp) fun j u hu => by
        rw [List.getElem?_map, Option.map_eq_some_iff] at hu
        obtain ⟨j', hj', rfl⟩ := hu
        have hjk : j < k := by have := (List.getElem?_eq_some_iff.1 hj').1; simpa using this
        rw [List.getElem?_range hjk] at hj'
        obtain rfl := Option.some.inj hj'
        obtain ⟨u, hu, _⟩ := key j hjk
        rw [hu]; rfl
      simp [execOp, g2, Instr.loadAt, Instr.sureAddr, this]
    · have hjk : j < k := by rw [← hl]; exact (List.getElem?_eq_some_iff.1 hb1).1
      obtain ⟨u, hu, hdu⟩ := key j hjk
      exact ⟨u, by simp [hjk, hu], hdu b1 hb1⟩

theorem stp_storeM {T : TypeId} {n : Nm} {i : Nat} {c : Ch} {cs : List Cel} {v v0 : Value} (hx : S.op x = some (o1 (.ptr n i))) (hy : S.op y = some (vv v)) (hc : S.ch n = some c) (hown : c.own = true) (hd : c.d = .mix cs) (hi : cs[i]? = some (.v v0)) (hT : sizeB P T 1 = true) (h1 : v.oneCell' = true) :
    Stp P nt ⟨none, .store T x y, ty, ps, af, gd⟩ S (S.set n { c with d := .mix (cs.set i (.v v)) }) :=
  have hil : i < cs.length := (List.getElem?_eq_some_iff.1 hi).1
  Stp.unit rfl fun w0 ω0 η ω a w hs => by
    have hb : a.eval y = v := hs.opV hy
    obtain ⟨w', k1, k2⟩ := hs.store1 (P := P) (T := T) (v := v) (d' := .mix (cs.set i (.v v))) (hs.opv hx) hc hown (by rw [hd]; exact hil) hT h1 (by rw [hd]; simp [Dat.len])
      (fun w' j u hj hk => by rw [hd] at hk; exact ⟨hk.1, fun c hc' => by rw [List.getElem?_set_ne (fun e => hj e.symm)] at hc'; exact hk.2 c hc'⟩)
      (fun w' => ⟨h1, fun c hc' => by rw [List.getElem?_set_self hil] at hc'; obtain rfl := Option.some.inj hc'; exact rfl⟩)
    exact ⟨w', by simp [execOp, hb, k1], _, _, k2⟩

/-- plain cells, of which a nil slice may be taken for an empty row -/
def celNew : Cel → Value → Prop
  | .v y, u => u = y
  | .r _ _ m vs, u => m = 0 ∧ vs = [] ∧ u = .slice none 0 0
  | .any, _ => True
def celK : Cel → Nat
  | .r _ k _ _ => k
  | _ => 1
theorem celNew.ok {own : Bool} {n : Nm} {j : Nat} {c : Cel} {u : Value} (hr : η.r n j = ⟨none, 0, celK c⟩) (h : celNew c u) : celOK η ω w true n j c u := by
  cases c with
  | v y => exact h
  | any => trivial
  | r F k m vs =>
    obtain ⟨rfl, rfl, rfl⟩ := h
    refine ⟨by simp, by rw [hr], by rw [hr]; rfl, ?_⟩
    rw [hr]
    exact .inl ⟨rfl, rfl, rfl⟩
/-- append of plain cells to a mixed vector -/
theorem stp_appendMx {T E k n len m : Nat} {cs cn : List Cel} {news : List Value} {b : A1} (ht : Nat.blt t nt = true) (hT : elZ P T E k = true) (hk0 : Nat.blt 0 k = true) (hx : S.op x = some (o1 (.sl n 0 len))) (hc : S.ch n = some ⟨true, E, k, .mix cs⟩) (hl : cs.length = len * k)
    (hy : S.op y = some (o1 b)) (hr : Reads S b m k news) (hm : 0 < m) (h1 : ∀ v ∈ news, v.oneCell' = true) (hcn : cn.length = news.length) (hcel : ∀ (j : Nat) c u, cn[j]? = some c → news[j]? = some u → celNew c u) (hb : len + m ≤ 2199023255552) :
    Stp P nt ⟨some t, .call { callee := .builtin .append, args := #[x, y], argTypes := #[T, T] }, ty, ps, af, gd⟩ S ((S.new n ⟨true, E, k, .mix (cs ++ cn)⟩).put t (o1 (.sl n 0 (len + m)))) :=
  Stp.of _ fun w0 ω0 η ω a w hs => by
    have hk0' : 0 < k := by simpa using hk0
    obtain ⟨hd, e1, e2, e3⟩ := hs.chunk hc
    have e3 : VecO ω w (n, none) hd E cs.length (cellsOK η ω w true n (.mix cs)) := e3
    have hu : Den1 η (.sl n 0 len) (a.eval x) := hs.opv hx
    obtain ⟨ad, cp, r1, r2⟩ := hr.go hs (hs.opv hy)
    have hnl := hr.len
    have hn0 : 0 < news.length := by rw [hnl]; exact Nat.mul_pos hm hk0'
    obtain ⟨bb, o, r3, _⟩ := r2 0 _ (List.getElem?_eq_getElem hn0)
    subst r3
    obtain ⟨h', w', k1, k2⟩ := run_appendO (P := P) (ty := ty) (c := cp) hT hk0' e2 e3 (hu.2 hd e1) rfl (by rw [Nat.zero_add]; exact hl.symm) hm hnl (a := ⟨bb, o, none⟩) (fun j v hj => by
      obtain ⟨b2, o2, h2, h3⟩ := r2 j v hj
      simp only [Option.some.injEq, Addr.mk.injEq, and_true] at h2
      obtain ⟨rfl, rfl⟩ := h2
      rw [Addr.add_lit]; exact h3) h1 hb
    refine ⟨.slice h'.ao (len + m) h'.c, w', by simp [execOp, resolve, invoke, builtin, r1, k1], ?_⟩
    have hlen : (cs ++ cn).length = len * k + news.length := by rw [List.length_append, hl, hcn]
    let r' : Nat → Hd := fun j => if j < cs.length then η.r n j else ⟨none, 0, celK (cn.getD (j - cs.length) .any)⟩
    have hS : (S.rm n).ch n = none := by simp [ch_rm]
    have := hs.renew (n := n) (c := ⟨true, E, k, .mix (cs ++ cn)⟩) (hd := h') (r := r') (calm_grown hS k2) ⟨k2.k_, by
      obtain ⟨b', o', cs', v1, v2, v3, v4, v5, v6, v7, v8⟩ := k2.vec
      refine .inr ⟨b', o', cs', v1, v2, v3, by rw [k2.k_]; exact v4, by rw [k2.k_]; show (cs ++ cn).length ≤ _; rw [hlen]; exact v5, v6, fun j hj => ?_⟩
      have hj : j < (cs ++ cn).length := hj
      rw [hlen] at hj
      by_cases hlt : j < len * k
      · obtain ⟨u, q1, q2⟩ := v7 j hlt
        rw [Nat.zero_mul, Nat.zero_add] at q2
        refine ⟨u, q1, q2.1, fun c hc => ?_⟩
        rw [List.getElem?_append_left (by omega)] at hc
        have hv : ∀ (F : TypeId) (vs : List Value), VecO ω w (n, some j) (η.r n j) F vs.length (fun i u => vs[i]? = some u) → VecO (Own?.new ω w.heap.size (n, none)) w' (n, some j) (η.r n j) F vs.length (fun i u => vs[i]? = some u) := fun F vs f3 =>
          VecO.same (fun b hb ho => ⟨k2.other b hb (by rw [ho]; simp), by simp [Own?.new, Nat.ne_of_lt hb, ho]⟩) (fun _ _ h => h) f3
        exact celOK.move (own := true) (own' := true) (by simp [Env.new, r', hl, hlt]) (fun F k m vs _ f3 => hv F vs f3) (q2.2 c hc)
      · have hj2 : j - len * k < news.length := by omega
        have hnj : news[j - len * k]? = some news[j - len * k] := List.getElem?_eq_getElem hj2
        refine ⟨news[j - len * k], ?_, h1 _ (List.getElem_mem hj2), fun c hc => ?_⟩
        · have := v8 (j - len * k) _ hnj
          rw [show o' + len * k + (j - len * k) = o' + j by omega] at this; exact this
        · rw [List.getElem?_append_right (by omega), hl] at hc
          refine celNew.ok (own := true) ?_ (hcel _ _ _ hc hnj)
          simp only [Env.new, if_true, r', hl, if_neg hlt, List.getD, hc, Option.getD_some]⟩
    exact ⟨_, _, this.putV (by simpa using ht) den_new⟩

/-- a row is taken out of a mixed vector: it is a vector of its own, and nothing is known of its cell -/
theorem wk_takeMx {n i z k kk m : Nat} {E F s : Nat} {cs : List Cel} {vs : List Value} (hc : S.ch n = some ⟨true, E, kk, .mix cs⟩) (hs0 : S.sl s = some (o1 (.esl n i 0 m))) (hi : cs[i]? = some (.r F k m vs)) (hzn : Nat.beq z n = false) :
    Wk S ((((S.cutE n).set n ⟨true, E, kk, .mix (cs.set i .any)⟩).new z ⟨true, F, k, .vals vs⟩).put s (o1 (.sl z 0 m))) := by
  have hne : z ≠ n := fun e => by rw [e] at hzn; simp at hzn
  refine ⟨fun w0 ω0 nt a w ⟨η, ω, h⟩ => ?_⟩
  obtain ⟨u, hu, hdu⟩ := h.slots s _ hs0
  have hdu : Den1 η (.esl n i 0 m) u := hdu
  obtain ⟨hd, e1, e2, e3⟩ := h.chunk hc
  have e3 : VecO ω w (n, none) hd E cs.length (cellsOK η ω w true n (.mix cs)) := e3
  obtain ⟨ao, rfl, q1, _⟩ := hdu.2 hd e1
  have hil : i < cs.length := (List.getElem?_eq_some_iff.1 hi).1
  obtain ⟨b0, o0, u0, _, _, g3⟩ := Vec.get (own := true) e3 hil
  obtain ⟨r0, r1, r2, r3⟩ := g3.2 _ hi
  have r3 : VecO ω w (n, some i) (η.r n i) F vs.length fun j u => vs[j]? = some u := r3
  let ω' : Own? := fun b => if ω b = some (n, some i) then some (z, none) else ω b
  have calm : Calm (S.rm n) ω w ω' w := ⟨rfl, rfl, rfl, Nat.le_refl _, fun b _ hl => ⟨rfl, by
    have h1 : ω b ≠ some (n, some i) := by
      rcases hl with h0 | ⟨y, j, c, h0, h1⟩
      · rw [h0]; simp
      · rw [h0]; intro e; simp at e; rw [e.1, ch_rm, if_pos rfl] at h1; cases h1
    exact if_neg h1⟩⟩
  have key : ChIs { η with r := fun y j => if y = n then η.r n j else η.r y j } ω' w n hd ⟨true, E, kk, .mix (cs.set i .any)⟩ := by
    refine ⟨e2, ?_⟩
    rcases e3 with h0 | ⟨b, o, xs0, f1, f2, f3, f4, f5, f6, f7⟩
    · exact .inl (by simpa [Dat.len] using h0)
    · refine .inr ⟨b, o, xs0, f1, (if_neg (by rw [f2]; simp)).trans f2, f3, f4, by simpa [Dat.len] using f5, f6, fun j hj => ?_⟩
      have hj : j < cs.length := by simpa [Dat.len] using hj
      obtain ⟨u', hu', hk⟩ := f7 j hj
      refine ⟨u', hu', hk.1, fun c hc' => ?_⟩
      by_cases e : j = i
      · subst e; rw [List.getElem?_set_self hil] at hc'; obtain rfl := Option.some.inj hc'; trivial
      · rw [List.getElem?_set_ne (fun e' => e e'.symm)] at hc'
        have hv : ∀ (F : TypeId) (vs : List Value), VecO ω w (n, some j) (η.r n j) F vs.length (fun i u => vs[i]? = some u) → VecO ω' w (n, some j) (η.r n j) F vs.length (fun i u => vs[i]? = some u) := fun F vs f3 =>
          VecO.same (fun b2 _ ho => ⟨rfl, by show (if ω b2 = some (n, some i) then some (z, none) else ω b2) = _; rw [if_neg (by rw [ho]; simpa using e)]; exact ho⟩) (fun _ _ h => h) f3
        exact celOK.move (own := true) (own' := true) (if_pos rfl) (fun F k m vs _ f3 => hv F vs f3) (hk.2 c hc')
  have h1 := h.rewrite (n := n) (r := η.r n) e1 calm key
  have h2 := h1.lay (x := z) (c := ⟨true, F, k, .vals vs⟩) (hd := η.r n i) (r := fun _ => ⟨none, 0, 1⟩) (Calm.refl _ _ _) ⟨r2, by
    show VecO ω' w (z, none) (η.r n i) F vs.length _
    rcases r3 with h0 | ⟨b, o, xs0, f1, f2, f3, f4, f5, f6, f7⟩
    · exact .inl h0
    · exact .inr ⟨b, o, xs0, f1, if_pos f2, f3, f4, f5, f6, f7⟩⟩
  refine ⟨_, ω', { h2 with slots := fun t' av ht' => ?_ }⟩
  rw [sl_put] at ht'
  by_cases e : t' = s
  · subst e
    rw [if_pos rfl] at ht'
    obtain rfl := Option.some.inj ht'
    refine ⟨_, hu, ⟨_, _, rfl⟩, fun hd' he => ?_⟩
    simp [Env.new] at he
    subst he
    exact ⟨_, rfl, fun _ => q1 rfl, fun h0 => absurd h0 (by omega)⟩
  · rw [if_neg e] at ht'
    exact h2.slots t' av ht'

/-- a vector of the call's own is laid into cell i of a mixed vector -/
theorem stp_storeMx {T E F n i z k kk m : Nat} {cs : List Cel} {vs : List Value} (hx : S.op x = some (o1 (.ptr n i))) (hc : S.ch n = some ⟨true, E, kk, .mix cs⟩) (hy : S.op y = some (o1 (.sl z 0 m))) (hz : S.ch z = some ⟨true, F, k, .vals vs⟩)
    (hm : vs.length = m * k) (hzn : Nat.beq z n = false) (hi : i < cs.length) (hT : sizeB P T 1 = true) : Stp P nt ⟨none, .store T x y, ty, ps, af, gd⟩ S (((S.rm z).cutE n).set n ⟨true, E, kk, .mix (cs.set i (.r F k m vs))⟩) :=
  Stp.unit rfl fun w0 ω0 η ω a w hs => by
    have hne : z ≠ n := fun e => by rw [e] at hzn; simp at hzn
    have hp : Den1 η (.ptr n i) (a.eval x) := hs.opv hx
    have hv : Den1 η (.sl z 0 m) (a.eval y) := hs.opv hy
    obtain ⟨h, e1, e2, e3⟩ := hs.chunk hc
    obtain ⟨hz', z1, z2, z3⟩ := hs.chunk hz
    have z2 : hz'.k = k := z2
    have z3 : VecO ω w (z, none) hz' F vs.length (cellsOK η ω w true z (.vals vs)) := z3
    obtain ⟨az, hav, q1, _⟩ := hv.2 hz' z1
    obtain ⟨b, o, g1, g2⟩ := hp.2 h e1
    have e3 : VecO ω w (n, none) h E cs.length (cellsOK η ω w true n (.mix cs)) := e3
    rcases e3 with ⟨_, _, h0⟩ | ⟨b', o', xs0, f1, f2, f3, f4, f5, f6, f7⟩
    · omega
    rw [g1] at f1; injection f1 with f1; injection f1 with f1 f1'; subst f1 f1'
    obtain ⟨u, hu, _⟩ := f7 i hi
    have hcell : w.cell? ⟨b, o + i, none⟩ = some u := by rw [cell_of_row w b (o + i) xs0 E (0, 0) f3]; exact hu
    have hsz : o + i < xs0.size := by
      rcases Nat.lt_or_ge (o + i) xs0.size with hlt | hge
      · exact hlt
      · rw [Array.getElem?_eq_none hge] at hu; cases hu
    have hS : ((S.rm z).rm n).ch n = none := by simp [ch_rm]
    have hSz : ((S.rm z).rm n).ch z = none := by simp [ch_rm, hne]
    have hsame := same_setCell (w := w) f2 ⟨b, o + i, none⟩ rfl (.slice az m (hz'.c - 0))
    have calm : Calm ((S.rm z).rm n) ω w (Own?.give ω z n i) (w.setCell ⟨b, o + i, none⟩ (.slice az m (hz'.c - 0))) := ⟨rfl, rfl, rfl, hsame.1, fun b2 hb2 hl => by
      have h1 : ω b2 ≠ some (n, none) ∧ ω b2 ≠ some (z, none) := by
        rcases hl with h0 | ⟨y, j, c, h0, h1⟩
        · rw [h0]; simp
        · rw [h0]
          refine ⟨fun e => ?_, fun e => ?_⟩
          · simp at e; rw [e.1, hS] at h1; cases h1
          · simp at e; rw [e.1, hSz] at h1; cases h1
      exact ⟨(hsame.2 b2 hb2 h1.1).1, if_neg h1.2⟩⟩
    have key : ChIs { η.drop z with r := fun y j => if y = n then (if j = i then hz' else η.r n j) else η.r y j } (Own?.give ω z n i) (w.setCell ⟨b, o + i, none⟩ (.slice az m (hz'.c - 0))) n h ⟨true, E, kk, .mix (cs.set i (.r F k m vs))⟩ := by
      refine ⟨e2, ?_⟩
      have hbz : ω b ≠ some (z, none) := by rw [f2]; simp; exact fun e => hne e.symm
      refine .inr ⟨b, o, _, g1, (if_neg hbz).trans f2, heap_set f3 _, by simpa using f4, by show (cs.set i _).length ≤ _; rw [List.length_set]; exact f5, f6, fun j hj => ?_⟩
      have hj : j < cs.length := by simpa [Dat.len] using hj
      by_cases e : j = i
      · subst e
        refine ⟨.slice az m (hz'.c - 0), by simp [hsz], rfl, fun c hc' => ?_⟩
        rw [List.getElem?_set_self hi] at hc'
        obtain rfl := Option.some.inj hc'
        unfold celOK
        simp only [if_true]
        refine ⟨hm, by rw [q1 rfl]; rfl, z2, VecO.give z3 fun b2 hb2 ho => ⟨(hsame.2 b2 hb2 (by rw [ho]; simp; exact fun e => absurd e hne)).1, if_pos ho⟩⟩
      · obtain ⟨u', hu', hk⟩ := f7 j hj
        refine ⟨u', by rw [Array.getElem?_setIfInBounds_ne (by omega)]; exact hu', hk.1, fun c hc' => ?_⟩
        rw [List.getElem?_set_ne (fun e' => e e'.symm)] at hc'
        have hv : ∀ (F : TypeId) (vs : List Value), VecO ω w (n, some j) (η.r n j) F vs.length (fun i u => vs[i]? = some u) → VecO (Own?.give ω z n i) (w.setCell ⟨b, o + i, none⟩ (.slice az m (hz'.c - 0))) (n, some j) (η.r n j) F vs.length (fun i u => vs[i]? = some u) := fun F vs r3 =>
          VecO.same (fun b2 hb2 ho => ⟨(hsame.2 b2 hb2 (by rw [ho]; simp)).1, by unfold Own?.give; rw [if_neg (by rw [ho]; simp)]; exact ho⟩) (fun _ _ h => h) r3
        exact celOK.move (own := true) (own' := true) (by simp only [if_true, if_neg e]) (fun F k m vs _ f3 => hv F vs f3) (hk.2 c hc')
    have hfin := (hs.drop z).rewrite (n := n) (r := fun j => if j = i then hz' else η.r n j) (hd := h) (by show (if n = z then none else η.h n) = some h; rw [if_neg (fun e => hne e.symm)]; exact e1) calm key
    have hst := run_store1 (P := P) hT hcell (frozen_of f3) (v := .slice az m (hz'.c - 0)) rfl
    simp only [Nat.sub_zero] at hst hfin
    refine ⟨_, by simp [execOp, hav, g2, hst], _, _, hfin⟩

/-- an index into a row of a mixed vector -/
theorem stp_ixM {T : TypeId} {n : Nm} {i0 len j k m : Nat} {c : Ch} {F : TypeId} {cs : List Cel} {vs : List Value} {ki : IntKind} {i : Int} (ht : Nat.blt t nt = true) (hx : S.op x = some (o1 (.esl n i0 0 len))) (hy : S.op y = some (vv (.int ki i))) (hc : S.ch n = some c) (hd : c.d = .mix cs) (hT : elemB P T k = true)
    (hi0 : cs[i0]? = some (.r F k m vs)) (hk0 : 0 < k) (hi : i = (j : Int)) (hj : j < len) (hl : len ≤ m) : Stp P nt ⟨some t, .indexAddr T x y, ty, ps, af, gd⟩ S (S.put t (o1 (.eptr n i0 (j * k)))) :=
  Stp.pure rfl ht fun _ _ η ω a w hs => by
    obtain ⟨hd', h1, h2, h3⟩ := hs.chunk hc
    have hd1 : Den1 η (.esl n i0 0 len) (a.eval x) := hs.opv hx
    obtain ⟨ao, e1, e2, e3⟩ := hd1.2 hd' h1
    rw [hd] at h3
    obtain ⟨_, _, _, _, _, k3⟩ := h3.get (j := i0) (List.getElem?_eq_some_iff.1 hi0).1
    obtain ⟨q0, _, q2, q3⟩ := k3.2 _ hi0
    have hm0 : 0 < vs.length := by rw [q0]; exact Nat.mul_pos (by omega) hk0
    obtain ⟨b', o', u, f1, f2, f3⟩ := q3.get hm0
    have hao : ao = some ⟨b', o', none⟩ := by rw [e2 rfl, f1]
    subst hao
    refine ⟨.pointer (some ⟨b', o' + j * k, none⟩), by simp only [execOp, e1, hs.opV hy]; simp [run_indexAddr hT hj hi], ⟨_, rfl⟩, fun hd' he => ?_⟩
    rw [h1] at he; obtain rfl := Option.some.inj he
    exact ⟨b', o', f1, rfl⟩
/-- cells of a row of a mixed vector -/
theorem stp_loadEM {T : TypeId} {n : Nm} {i j k m : Nat} {c : Ch} {F : TypeId} {cs : List Cel} {vs : List Value} {v : Value} (ht : Nat.blt t nt = true) (hT : oneB P T = true) (hx : S.op x = some (o1 (.eptr n i j))) (hc : S.ch n = some c)
    (hd : c.d = .mix cs) (hi : cs[i]? = some (.r F k m vs)) (hj : vs[j]? = some v) : Stp P nt ⟨some t, .load T x, ty, ps, af, gd⟩ S (S.put t (vv v)) :=
  Stp.pure rfl ht fun _ _ η ω a w hs => by
    obtain ⟨hq, h1, _, h3⟩ := hs.chunk hc
    have hd1 : Den1 η (.eptr n i j) (a.eval x) := hs.opv hx
    obtain ⟨bb, o, e1, e2⟩ := hd1.2 hq h1
    rw [hd] at h3
    obtain ⟨_, _, _, _, _, f3⟩ := h3.get (j := i) (List.getElem?_eq_some_iff.1 hi).1
    obtain ⟨_, _, _, g3⟩ := f3.2 _ hi
    obtain ⟨b'', o'', u', k1, k2, k3⟩ := g3.get (j := j) (List.getElem?_eq_some_iff.1 hj).1
    rw [e1] at k1; injection k1 with k1; injection k1 with k1 k1'; subst k1 k1'
    rw [hj] at k3
    obtain rfl := Option.some.inj k3
    exact ⟨v, by simp [execOp, e2, run_load1 hT k2], rfl⟩
/-- an index into a vector of elements of k cells -/
theorem stp_ixT {T : TypeId} {n : Nm} {len j k K : Nat} {c : Ch} {ki : IntKind} {i : Int} (ht : Nat.blt t nt = true) (hx : S.op x = some (o1 (.sl n 0 len))) (hy : S.op y = some (vv (.int ki i))) (hc : S.ch n = some c) (hk : c.k = k) (hT : elemB P T k = true)
    (hi : i = (j : Int)) (hj : j < len) (hl : len * k ≤ c.d.len) (hk0 : 0 < k) (hK : j * k = K) : Stp P nt ⟨some t, .indexAddr T x y, ty, ps, af, gd⟩ S (S.put t (o1 (.ptr n K))) := by
  have := stp_indexAddr (P := P) (nt := nt) (t := t) (ty := ty) (ps := ps) (af := af) (gd := gd) ht hx hy hc hk hT hi hj (by rw [Nat.zero_add]; exact hl) hk0
  rwa [Nat.zero_add, hK] at this
/-- a struct of which one plain field is told -/
theorem stp_build1V {T : TypeId} {x0 : Operand} {v0 : Value} {vs : List Value} (ht : Nat.blt t nt = true) (hx0 : S.op x0 = some (vv v0)) (hb : P.built T [(0, v0)] = some vs.toArray) :
    Stp P nt ⟨some t, .build T #[(0, x0)], ty, ps, af, gd⟩ S (S.put t (.s (.agg (vs.map .val)))) :=
  Stp.of _ fun w0 ω0 η ω a w hs => by
    refine ⟨.agg vs.toArray, w, ?_, η, ω, hs.putV (by simpa using ht) (⟨_, rfl, by simp, fun j b hb => ?_⟩ : Den2 η (.agg (vs.map .val)) _)⟩
    · simp only [execOp]
      simp [hs.opV hx0, run_build w T #[(0, v0)] _ hb]
    · rw [List.getElem?_map, Option.map_eq_some_iff] at hb
      obtain ⟨v, hv, rfl⟩ := hb
      exact ⟨v, by simpa using hv, rfl⟩
/-- a literal of one struct of two plain cells -/
theorem stp_lit2V {T E : Nat} {x0 : Operand} {v0 v1 : Value} (ht : Nat.blt t nt = true) (hT : elZ P T E 2 = true) (hx : S.op x0 = some (.s (.agg [.val v0, .val v1]))) :
    Stp P nt ⟨some t, .buildSlice T 1 #[(0, x0)], ty, ps, af, gd⟩ S ((S.new t ⟨true, E, 2, .vals [v0, v1]⟩).put t (o1 (.sl t 0 1))) :=
  Stp.of _ fun w0 ω0 η ω a w hs => by
    obtain ⟨i, z, k1, k2, k3, k4, k5, k6⟩ := elZ_spec hT
    obtain ⟨us, hu, hul, hua⟩ : Den2 η (.agg [.val v0, .val v1]) (a.eval x0) := hs.opv hx
    obtain ⟨u0, g0, d0⟩ := hua 0 _ rfl
    obtain ⟨u1, g1, d1⟩ := hua 1 _ rfl
    have d0 : u0 = v0 := d0
    have d1 : u1 = v1 := d1
    subst d0 d1
    obtain rfl : us = #[u0, u1] := by
      have : us.size = 2 := hul
      match us with
      | ⟨[p, q]⟩ => simp at g0 g1; rw [g0, g1]
    refine ⟨.slice (some ⟨w.heap.size, 0, none⟩) 1 1, w.alloc (.cells #[u0, u1] E), ?_, ?_⟩
    · have hc : (Value.agg #[u0, u1]).cells = #[u0, u1] := rfl
      simp [execOp, Instr.buildSlice, run_underlying k1, sizeOf, typeInfo, k2, k3, zeroValue, k5, Instr.fill, newRow, hu, hc, range2]
    · have hal := hs.alloc (x := t) (c := ⟨true, E, 2, .vals [u0, u1]⟩) (cs := #[u0, u1]) (r := fun _ => ⟨none, 0, 1⟩) (n := 1) rfl (by simp) (by simp [Dat.len]) (by simp [maxLen]) fun j hj => by
        have hj : j < 2 := hj
        match j, hj with
        | 0, _ => exact ⟨_, by simp, rfl⟩
        | 1, _ => exact ⟨_, by simp, rfl⟩
      exact ⟨_, _, hal.putV (by simpa using ht) den_newsl⟩
theorem range3 (f : Nat → Value) : Array.map f (Array.range 3) = #[f 0, f 1, f 2] := by apply Array.ext'; simp [Array.toList_range, List.range_succ]
theorem range4 (f : Nat → Value) : Array.map f (Array.range 4) = #[f 0, f 1, f 2, f 3] := by apply Array.ext'; simp [Array.toList_range, List.range_succ]
theorem stp_lit3I {T E : Nat} {x0 x1 x2 : Operand} {z0 z1 z2 : Int} (ht : Nat.blt t nt = true) (hT : elZ P T E 1 = true) (hx0 : S.op x0 = some (vv (I6 z0))) (hx1 : S.op x1 = some (vv (I6 z1))) (hx2 : S.op x2 = some (vv (I6 z2))) :
    Stp P nt ⟨some t, .buildSlice T 3 #[(0, x0), (1, x1), (2, x2)], ty, ps, af, gd⟩ S ((S.new t ⟨true, E, 1, .vals (ivals [z0, z1, z2])⟩).put t (o1 (.sl t 0 3))) :=
  Stp.of _ fun w0 ω0 η ω a w hs => by
    obtain ⟨i, z, k1, k2, k3, k4, k5, k6⟩ := elZ_spec hT
    have h0 := hs.opV hx0
    have h1 := hs.opV hx1
    have h2 := hs.opV hx2
    refine ⟨.slice (some ⟨w.heap.size, 0, none⟩) 3 3, w.alloc (.cells #[I6 z0, I6 z1, I6 z2] E), ?_, ?_⟩
    · simp [execOp, Instr.buildSlice, run_underlying k1, sizeOf, typeInfo, k2, k3, zeroValue, k5, Instr.fill, newRow, h0, h1, h2, Value.cells, range3]
    · have hal := hs.alloc (x := t) (c := ⟨true, E, 1, .vals (ivals [z0, z1, z2])⟩) (cs := #[I6 z0, I6 z1, I6 z2]) (r := fun _ => ⟨none, 0, 1⟩) (n := 3) rfl (by simp) (by simp [Dat.len, ivals]) (by simp [maxLen]) fun j hj => by
        match j, hj with
        | 0, _ => exact ⟨I6 z0, by simp, rfl⟩
        | 1, _ => exact ⟨I6 z1, by simp, rfl⟩
        | 2, _ => exact ⟨I6 z2, by simp, rfl⟩
        | j + 3, hj => exact absurd hj (by simp [Dat.len, ivals])
      exact ⟨_, _, hal.putV (by simpa using ht) den_newsl⟩
theorem stp_lit4I {T E : Nat} {x0 x1 x2 x3 : Operand} {z0 z1 z2 z3 : Int} (ht : Nat.blt t nt = true) (hT : elZ P T E 1 = true) (hx0 : S.op x0 = some (vv (I6 z0))) (hx1 : S.op x1 = some (vv (I6 z1))) (hx2 : S.op x2 = some (vv (I6 z2))) (hx3 : S.op x3 = some (vv (I6 z3))) :
    Stp P nt ⟨some t, .buildSlice T 4 #[(0, x0), (1, x1), (2, x2), (3, x3)], ty, ps, af, gd⟩ S ((S.new t ⟨true, E, 1, .vals (ivals [z0, z1, z2, z3])⟩).put t (o1 (.sl t 0 4))) :=
  Stp.of _ fun w0 ω0 η ω a w hs => by
    obtain ⟨i, z, k1, k2, k3, k4, k5, k6⟩ := elZ_spec hT
    have h0 := hs.opV hx0
    have h1 := hs.opV hx1
    have h2 := hs.opV hx2
    have h3 := hs.opV hx3
    refine ⟨.slice (some ⟨w.heap.size, 0, none⟩) 4 4, w.alloc (.cells #[I6 z0, I6 z1, I6 z2, I6 z3] E), ?_, ?_⟩
    · simp [execOp, Instr.buildSlice, run_underlying k1, sizeOf, typeInfo, k2, k3, zeroValue, k5, Instr.fill, newRow, h0, h1, h2, h3, Value.cells, range4]
    · have hal := hs.alloc (x := t) (c := ⟨true, E, 1, .vals (ivals [z0, z1, z2, z3])⟩) (cs := #[I6 z0, I6 z1, I6 z2, I6 z3]) (r := fun _ => ⟨none, 0, 1⟩) (n := 4) rfl (by simp) (by simp [Dat.len, ivals]) (by simp [maxLen]) fun j hj => by
        match j, hj with
        | 0, _ => exact ⟨I6 z0, by simp, rfl⟩
        | 1, _ => exact ⟨I6 z1, by simp, rfl⟩
        | 2, _ => exact ⟨I6 z2, by simp, rfl⟩
        | 3, _ => exact ⟨I6 z3, by simp, rfl⟩
        | j + 4, hj => exact absurd hj (by simp [Dat.len, ivals])
      exact ⟨_, _, hal.putV (by simpa using ht) den_newsl⟩
end
end Go.Proofs.Ytnfkhgamnapgmaa

/- A memory of names: a region that draws its order and holds guards, walked once. No program in sight. -/
namespace Go.Proofs.Ytnfkhgamnapgmaa
open Go.RowKit

section
variable {P : Program} {nt : Nat} {w0 w : World} {ω0 : Beg} {S S1 : St} {Q : Exit → Act → World → Prop} {a : Act}
/-- an operation, run or passed over, as its guard says -/
inductive GSt (P : Program) (nt : Nat) (ops : Array Oper) (o : Oper) (S1 : St) (A : Add) : Prop where
  | run (hg : o.guard = none) (h : Stp P nt o S1 (S1.add A))
  | yes {j d : Nat} {want : Bool} (hg : o.guard = some (j, want)) (hj : (ops[j]?).bind (·.dst) = some d) (hb : S1.sl d = some (vv (.bool want))) (h : Stp P nt o S1 (S1.add A))
  | no {j d : Nat} {want : Bool} (hg : o.guard = some (j, want)) (hj : (ops[j]?).bind (·.dst) = some d) (hb : S1.sl d = some (vv (.bool (!want)))) (ht : o.dst = some A.t) (hn : Nat.blt A.t nt = true) (ha : A.av = vv undef) (hx : A.news = none)
/-- the operations, one behind the other in the text's order: each may look at what it depends on alone -/
inductive DrawG (P : Program) (nt : Nat) (ops0 : Array Oper) (S : St) (cls : List (List Nat)) (sk : List Nat) : List Oper → List Add → List Add → Prop where
  | nil {done : List Add} : DrawG P nt ops0 S cls sk [] done done
  | skip {o : Oper} {rest : List Oper} {done all : List Add} (A : Add) (hs : memN sk done.length = true) (k : DrawG P nt ops0 S cls sk rest (A :: done) all) : DrawG P nt ops0 S cls sk (o :: rest) done all
  | cons {o : Oper} {rest : List Oper} {done all : List Add} (A : Add)
      (h : ∀ S1, (S.partR (memN (cls.getD done.length [])) done).le S1 → GSt P nt ops0 o S1 A) (k : DrawG P nt ops0 S cls sk rest (A :: done) all) : DrawG P nt ops0 S cls sk (o :: rest) done all
theorem DrawG.spec {ops0 : Array Oper} {cls : List (List Nat)} {sk : List Nat} {ops : List Oper} {done all : List Add} (h : DrawG P nt ops0 S cls sk ops done all) : (∃ r, all.reverse = done.reverse ++ r ∧ r.length = ops.length) ∧ ∀ (i : Nat) (o : Oper), ops[i]? = some o → memN sk (done.length + i) = false →
    ∃ A, all.reverse[done.length + i]? = some A ∧ ∀ S1, (S.partR (memN (cls.getD (done.length + i) [])) (all.reverse.take (done.length + i)).reverse).le S1 → GSt P nt ops0 o S1 A := by
  induction h with
  | nil => exact ⟨⟨[], by simp⟩, fun i o h => by simp at h⟩
  | @skip o rest done all A hs k ih =>
    obtain ⟨⟨r, hr, hl⟩, h2⟩ := ih
    refine ⟨⟨A :: r, by rw [hr]; simp, by simp [hl]⟩, fun i o' hi hsk => ?_⟩
    cases i with
    | zero => rw [Nat.add_zero, hs] at hsk; cases hsk
    | succ i =>
      have e : (A :: done).length + i = done.length + (i + 1) := by simp; omega
      rw [← e] at hsk ⊢
      exact h2 i o' (by simpa using hi) hsk
  | @cons o rest done all A h k ih =>
    obtain ⟨⟨r, hr, hl⟩, h2⟩ := ih
    refine ⟨⟨A :: r, by rw [hr]; simp, by simp [hl]⟩, fun i o' hi hsk => ?_⟩
    cases i with
    | zero =>
      simp at hi; subst hi
      refine ⟨A, by rw [hr]; simp, fun S1 hS => h S1 ?_⟩
      have : (all.reverse.take (done.length + 0)).reverse = done := by rw [hr]; simp
      rw [this] at hS
      exact hS
    | succ i =>
      have e : (A :: done).length + i = done.length + (i + 1) := by simp; omega
      rw [← e] at hsk ⊢
      exact h2 i o' (by simpa using hi) hsk

theorem drawG_main {l : List Oper} {nA : Nat} {sk : List Nat} {cls : List (List Nat)} {ds nms : List Nat} {adds done : List Add} (hcl : ClsOK l.toArray nA sk cls) (hdr : DrawG P nt l.toArray (S.clear ds nms) cls sk (l.take nA) [] done) (hdn : done.reverse = adds) (ok : AddsOK adds cls ds nms)
    (hk : Rest P w0 ω0 nt l.toArray Q (l.length - missing sk #[] nA) (doneL nA sk l.length) ((S.clear ds nms).part (fun j => !memN sk j) adds)) :
    ∀ (d : Nat) (L : Array Bool) (a : Act) (w : World), missing sk L nA = d → L.size = l.length → (∀ j, L.getD j false = true → j < nA ∧ memN sk j = false) → (∀ i, L.getD i false = true → ∀ j ∈ cls.getD i [], L.getD j false = true) →
      Sat w0 ω0 nt ((S.clear ds nms).part (fun j => L.getD j false) adds) a w → wpAny P .any l.toArray Q (l.length - missing sk #[] nA + d) L a w := by
  have hsz : nA ≤ l.length := by have := hcl.size; simpa using this
  obtain ⟨⟨r, hr, hrl⟩, hob⟩ := hdr.spec
  rw [hdn] at hr hob
  have hal : adds.length = nA := by rw [hr]; simp [hrl]; omega
  have hfull : ∀ (L : Array Bool) (i : Nat), i ∈ Region.ready .any l.toArray L → (∀ i, L.getD i false = true → ∀ j ∈ cls.getD i [], L.getD j false = true) → (∃ o, l.toArray[i]? = some o ∧ L.getD i true = false) ∧ ∀ j ∈ cls.getD i [], L.getD j false = true := by
    intro L i hi hclosed
    obtain ⟨h0, o, ho, he⟩ := mem_ready.1 hi
    refine ⟨⟨o, ho, h0⟩, fun j hj => ?_⟩
    obtain ⟨e, hem, hb, hje⟩ := hcl.dep i o ho j hj
    have h1 := he e hem hb
    rcases hje with rfl | hje
    · exact h1
    · exact hclosed e.on h1 j hje
  intro d
  induction d with
  | zero =>
    intro L a w hm hs hsub hclosed hsat
    have hall := missing_zero hm
    have hL : L = doneL nA sk l.length := by
      apply Array.ext
      · simp [hs, doneL]
      · intro j h1 h2
        have h3 : L[j]? = some L[j] := Array.getElem?_eq_getElem h1
        have h4 := doneL_at (nA := nA) (sk := sk) (n := l.length) (j := j) (by omega)
        rw [Array.getElem?_eq_getElem h2] at h4
        rw [Option.some.inj h4]
        cases hb : L[j] with
        | true =>
          have := hsub j (by simp [h1, hb])
          simp [this.1, this.2]
        | false =>
          by_cases hj : j < nA
          · cases hsk : memN sk j with
            | true => simp
            | false =>
              have := hall j hj hsk
              simp [h1, hb] at this
          · simp [hj]
    refine hk.go a w ((St.le.wk (part_le (ℓ1 := fun j => !memN sk j) (ℓ2 := fun j => L.getD j false) ok (fun _ _ h => h) fun j A hj hsk => ?_) fun _ _ h => h).go _ _ _ a w hsat) |> fun h => by rw [← hL] at h; exact h
    have hjl : j < adds.length := (List.getElem?_eq_some_iff.1 hj).1
    exact hall j (by omega) (by simpa using hsk)
  | succ d ih =>
    intro L a w hm hs hsub hclosed hsat
    refine ⟨fun hnil => ?_, fun i hi => ?_⟩
    · exfalso
      obtain ⟨j, hj, hjs', hjf, hlo⟩ := missing_least (k := nA) (by omega : missing sk L nA ≠ 0)
      have hjl : j < l.length := by omega
      have hjs : j < L.size := by omega
      have : j ∈ Region.ready .any l.toArray L := by
        refine mem_ready.2 ⟨?_, l[j], by simp [hjl], fun e he hb => ?_⟩
        · simp [hjs] at hjf ⊢
          exact hjf
        · have h5 := hcl.less j l[j] (by simp [hjl]) hj hjs' e he hb
          exact hlo e.on h5.1 h5.2
      rw [hnil] at this; cases this
    · obtain ⟨⟨o, ho, hi0⟩, hdep⟩ := hfull L i hi hclosed
      have hil : i < l.length := by have := (Array.getElem?_eq_some_iff.1 ho).1; simpa using this
      have his : i < L.size := by omega
      have hif : L.getD i false = false := by simp [his] at hi0 ⊢; exact hi0
      have hnl : ¬ (nA ≤ i ∨ memN sk i = true) := fun h => by
        have := missing_full (sk := sk) (L := L) (k := nA) fun j hj hsk => hdep j (hcl.late i o ho h j hj hsk)
        omega
      have hiA : i < nA := by
        rcases Nat.lt_or_ge i nA with h | h
        · exact h
        · exact absurd (.inl h) hnl
      have hisk : memN sk i = false := by
        cases hsk : memN sk i with
        | false => rfl
        | true => exact absurd (.inr hsk) hnl
      have hot : (l.take nA)[i]? = some o := by rw [List.getElem?_take, if_pos hiA]; simpa using ho
      obtain ⟨A, hA, hstp⟩ := hob i o hot (by simpa using hisk)
      simp only [List.length_nil, Nat.zero_add] at hA hstp
      have hle : ((S.clear ds nms).partR (memN (cls.getD i [])) (adds.take i).reverse).le ((S.clear ds nms).part (fun j => L.getD j false) adds) := partR_le ok (fun j B hj => by
          rw [List.reverse_reverse] at hj
          rw [List.getElem?_take] at hj; split at hj
          · exact hj
          · cases hj) fun j B _ hj => hdep j (memN_iff.1 hj)
      have cont : ∀ a' w', Sat w0 ω0 nt (((S.clear ds nms).part (fun j => L.getD j false) adds).add A) a' w' → wpAny P .any l.toArray Q (l.length - missing sk #[] nA + d) (L.setIfInBounds i true) a' w' := fun a' w' hsat' => by
        have hsat2 := (wk_add ok hA hif fun j hj hm' => by have := hclosed j hj i hm'; rw [hif] at this; cases this).go _ _ _ a' w' hsat'
        have hnew : ∀ j, (L.setIfInBounds i true).getD j false = (Nat.beq j i || L.getD j false) := fun j => by
          by_cases e : j = i
          · subst e; simp [his]
          · rw [getD_set_ne false (fun e' => e e'.symm), beq_ne e, Bool.false_or]
        refine ih (L.setIfInBounds i true) a' w' ?_ (by simp [hs]) (fun j hj => ?_) (fun j hj k hk' => ?_) ?_
        · have := missing_set his hif hisk nA hiA; omega
        · rw [hnew] at hj
          by_cases e : j = i
          · rw [e]; exact ⟨hiA, hisk⟩
          · rw [beq_ne e, Bool.false_or] at hj; exact hsub j hj
        · rw [hnew] at hj ⊢
          by_cases e : j = i
          · subst e; rw [hdep k hk']; simp
          · rw [beq_ne e, Bool.false_or] at hj; rw [hclosed j hj k hk']; simp
        · have : (fun j => (L.setIfInBounds i true).getD j false) = fun j => (Nat.beq j i || L.getD j false) := funext hnew
          rw [this]; exact hsat2
      have hy : ∀ {j dd : Nat} {b : Bool}, (l.toArray[j]?).bind (·.dst) = some dd → ((S.clear ds nms).part (fun j => L.getD j false) adds).sl dd = some (vv (.bool b)) → yielded l.toArray a.tmps j = some b := fun {j dd b} hj hb => by
        obtain ⟨η, ω, hs⟩ := hsat
        obtain ⟨u, k1, k2⟩ := hs.slots dd _ hb
        have k2 : u = .bool b := k2
        subst k2
        unfold yielded
        cases hoj : l.toArray[j]? with
        | none => rw [hoj] at hj; cases hj
        | some oj =>
          rw [hoj] at hj
          simp only [Option.bind_some] at hj
          simp [hj, k1]
      unfold wpOp
      simp only [ho]
      cases hstp _ hle with
      | run hg h =>
        rw [if_pos (by simp [Region.wanted, hg])]
        exact .inl (Oper.wp_mono (fun a' w' hsat' => cont a' w' hsat') (h.go w0 ω0 a w Q hsat))
      | yes hg hj hb h =>
        rw [if_pos (by simp [Region.wanted, hg, hy hj hb])]
        exact .inl (Oper.wp_mono (fun a' w' hsat' => cont a' w' hsat') (h.go w0 ω0 a w Q hsat))
      | @no j dd want hg hj hb ht hn ha hx =>
        rw [if_neg (by simp [Region.wanted, hg, hy hj hb])]
        refine cont _ _ ?_
        obtain ⟨η, ω, hs⟩ := hsat
        refine ⟨η, ω, ?_⟩
        have e : ((S.clear ds nms).part (fun j => L.getD j false) adds).add A = ((S.clear ds nms).part (fun j => L.getD j false) adds).put A.t (vv undef) := by unfold St.add; rw [hx, ha]; rfl
        rw [e, ht]
        exact hs.putV (by simpa using hn) rfl

theorem goes_drawG {id : Nat} {l : List Oper} (nA : Nat) (sk : List Nat) (cls : List (List Nat)) (ds nms : List Nat) {done : List Add} (hm : P.follows .mixedOrders = true) (hcl : clsB l.toArray nA sk cls = true) (hdr : DrawG P nt l.toArray (S.clear ds nms) cls sk (l.take nA) [] done) (ok : addsB done.reverse cls ds nms = true)
    (hk : Rest P w0 ω0 nt l.toArray Q (l.length - missing sk #[] nA) (doneL nA sk l.length) ((S.clear ds nms).partR (fun j => !memN sk j) done)) : Goes P w0 ω0 nt S (.region id l.toArray true) Q := by
  have hc := clsB_spec hcl
  have hsz : nA ≤ l.length := by have := hc.size; simpa using this
  have hk' : Rest P w0 ω0 nt l.toArray Q (l.length - missing sk #[] nA) (doneL nA sk l.length) ((S.clear ds nms).part (fun j => !memN sk j) done.reverse) :=
    ⟨fun a w hs => hk.go a w ((St.le.wk (partR_le (addsB_spec ok) (fun _ _ h => h) fun _ _ _ h => h) fun _ _ h => h).go _ _ _ a w hs)⟩
  have hle : ∀ k, missing sk #[] k ≤ k := fun k => by
    induction k with
    | zero => exact Nat.le_refl _
    | succ k ih => simp only [missing]; split <;> omega
  refine ⟨fun a w hs => wp_region_any hm ?_⟩
  have hfin := drawG_main hc hdr rfl (addsB_spec ok) hk' (missing sk #[] nA) (Array.replicate l.length false) a { w with drawn := w.drawn + 1 } ?_ (by simp) (fun j hj => ?_) (fun i hi => ?_) ?_
  · have := hle nA
    rw [show l.length - missing sk #[] nA + missing sk #[] nA = l.length by omega] at hfin
    simpa using hfin
  · have : ∀ k, k ≤ l.length → missing sk (Array.replicate l.length false) k = missing sk #[] k := fun k => by
      induction k with
      | zero => intro _; rfl
      | succ k ih =>
        intro hk
        simp only [missing]
        rw [ih (by omega)]
        have : (Array.replicate l.length false).getD k false = false := by simp [show k < l.length by omega]
        rw [this]; rfl
    exact this nA hsz
  · exfalso
    by_cases h : j < l.length
    · simp [h] at hj
    · simp [h] at hj
  · exfalso
    by_cases h : i < l.length
    · simp [h] at hi
    · simp [h] at hi
  · have h1 := (wk_clear S ds nms).go _ _ _ a _ (sat_drew hs)
    have hf : ∀ j, (Array.replicate l.length false).getD j false = false := fun j => by
      by_cases h : j < l.length <;> simp [h]
    refine (Wk.less (S := S.clear ds nms) (S' := (S.clear ds nms).part (fun j => (Array.replicate l.length false).getD j false) done.reverse) (fun t av h => ?_) (fun x c h => ?_) fun _ _ h => h).go _ _ _ a _ h1
    · have h : (match lkT (fun j => (Array.replicate l.length false).getD j false) 0 done.reverse t with | some av => some av | none => (S.clear ds nms).sl t) = some av := h
      split at h
      · rename_i av' h2
        obtain ⟨j, A, _, h3, _⟩ := lkT_some h2
        rw [hf] at h3; cases h3
      · exact h
    · have h : (match lkN (fun j => (Array.replicate l.length false).getD j false) 0 done.reverse x with | some c => some c | none => (S.clear ds nms).ch x) = some c := h
      split at h
      · rename_i av' h2
        obtain ⟨j, A, _, h3, _⟩ := lkN_some h2
        rw [hf] at h3; cases h3
      · exact h

end
section
variable {P : Program} {nt : Nat} {S : St} {cls : List (List Nat)} {sk : List Nat} {o : Oper} {rest : List Oper} {done all : List Add} {ops0 : Array Oper} {t : Nat} {ty : TypeId} {ps : String} {af : Array Edge} {gd : Option (Nat × Bool)} {x y : Operand}
theorem drawG_put {t : Nat} {av : AV} (hg : o.guard = none) (h : ∀ S1, (S.partR (memN (cls.getD done.length [])) done).le S1 → Stp P nt o S1 (S1.put t av)) (k : DrawG P nt ops0 S cls sk rest (⟨t, av, none⟩ :: done) all) : DrawG P nt ops0 S cls sk (o :: rest) done all := .cons ⟨t, av, none⟩ (fun S1 hS => .run hg (h S1 hS)) k
theorem drawG_yes {t j d : Nat} {want : Bool} {av : AV} (hg : o.guard = some (j, want)) (hj : (ops0[j]?).bind (·.dst) = some d) (hb : (S.partR (memN (cls.getD done.length [])) done).sl d = some (vv (.bool want))) (h : ∀ S1, (S.partR (memN (cls.getD done.length [])) done).le S1 → Stp P nt o S1 (S1.put t av)) (k : DrawG P nt ops0 S cls sk rest (⟨t, av, none⟩ :: done) all) : DrawG P nt ops0 S cls sk (o :: rest) done all := .cons ⟨t, av, none⟩ (fun S1 hS => .yes hg hj (hS.sl _ _ hb) (h S1 hS)) k
theorem drawG_no {t j d : Nat} {want : Bool} (hg : o.guard = some (j, want)) (hj : (ops0[j]?).bind (·.dst) = some d) (hb : (S.partR (memN (cls.getD done.length [])) done).sl d = some (vv (.bool (!want)))) (ht : o.dst = some t) (hn : Nat.blt t nt = true) (k : DrawG P nt ops0 S cls sk rest (⟨t, vv undef, none⟩ :: done) all) : DrawG P nt ops0 S cls sk (o :: rest) done all := .cons ⟨t, vv undef, none⟩ (fun S1 hS => .no hg hj (hS.sl _ _ hb) ht hn rfl rfl) k
end
end Go.Proofs.Ytnfkhgamnapgmaa

/- Chunks of the everyday kinds. -/
namespace Go.Proofs.Ytnfkhgamnapgmaa
open Go.RowKit

abbrev leRo (less : List Int) : Ch := ⟨false, 2, 1, .vals (ivals less)⟩
abbrev leOw (less : List Int) : Ch := ⟨true, 2, 1, .vals (ivals less)⟩
abbrev rowsRo (wss : List (List Int)) : Ch := ⟨false, 22, 1, .rows 2 (irows wss) []⟩
abbrev wRo (W : List Int) : Ch := ⟨false, 2, 1, .vals (ivals W)⟩
section
variable {P : Program} {nt : Nat} {S : St} {t : Nat} {ty : TypeId} {ps : String} {af : Array Edge} {gd : Option (Nat × Bool)} {x y : Operand}
end
end Go.Proofs.Ytnfkhgamnapgmaa

/- A memory of names: rows as words; vectors cut short. No program in sight. -/
namespace Go.Proofs.Ytnfkhgamnapgmaa
open Go.RowKit

section
variable {η : Env} {ω : Own?} {w : World} {ins : List (Nm × Ch)}
theorem rdRow {x i : Nat} {own : Bool} {E F : Nat} {zss : List (List Int)} {v : Value} (hm : Mem η ω w (fun x => lk x ins)) (hx : lk x ins = some ⟨own, E, 1, .rows F (irows zss) []⟩) (hi : i < zss.length) (hv : Den1 η (.esl x i 0 (lget zss i).length) v) (hn : (lget zss i).length ≤ 17592186044416) :
    ∃ ao c, v = .slice ao (lget zss i).length c ∧ Ints w ao (lget zss i).length (lget zss i) := by
  obtain ⟨h, h1, h2, h3⟩ := hm.1 x _ hx
  obtain ⟨ao, rfl, h4, _⟩ := hv.2 h h1
  have h3 : Vec own ω w (x, none) h E (irows zss).length (cellsOK η ω w own x (.rows F (irows zss) [])) := h3
  obtain ⟨b', o', u', g1, g2, g3, g4⟩ := h3.get (j := i) (by rw [irows_len]; exact hi)
  obtain ⟨k1, k2, k3⟩ := g4 (by simp) (ivals (lget zss i)) (irows_get hi)
  rw [h4 rfl]
  refine ⟨_, _, rfl, rfl, hn, fun h0 => ?_⟩
  obtain ⟨b2, o2, u2, m1, _, _⟩ := k3.get (j := 0) (by rw [ivals_len]; exact h0)
  refine ⟨b2, o2, m1, fun j hj => ?_⟩
  obtain ⟨b3, o3, u3, n1, n2, n3⟩ := k3.get (j := j) (by rw [ivals_len]; exact hj)
  rw [m1] at n1; injection n1 with n1; injection n1 with n1 n1'; subst n1 n1'
  rw [ivals_get hj] at n3
  rw [n2, ← n3]
/-- the labels of a component: a row of a mixed vector -/
theorem rdRowM {x i m : Nat} {own : Bool} {E kk F : Nat} {cs : List Cel} {zs : List Int} {v : Value} (hm : Mem η ω w (fun x => lk x ins)) (hx : lk x ins = some ⟨own, E, kk, .mix cs⟩) (hi : cs[i]? = some (.r F 1 m (ivals zs))) (hv : Den1 η (.esl x i 0 m) v) (hn : zs.length ≤ 17592186044416) :
    ∃ ao c, v = .slice ao zs.length c ∧ Ints w ao zs.length zs := by
  obtain ⟨h, h1, h2, h3⟩ := hm.1 x _ hx
  obtain ⟨ao, rfl, h4, _⟩ := hv.2 h h1
  have h3 : Vec own ω w (x, none) h E cs.length (cellsOK η ω w own x (.mix cs)) := h3
  obtain ⟨b', o', u', g1, g2, g3, g4⟩ := h3.get (j := i) (List.getElem?_eq_some_iff.1 hi).1
  obtain ⟨k0, k1, k2, k3⟩ := g4 _ hi
  have hm' : m = zs.length := by rw [ivals_len, Nat.mul_one] at k0; exact k0.symm
  subst hm'
  rw [h4 rfl]
  refine ⟨_, _, rfl, rfl, hn, fun h0 => ?_⟩
  obtain ⟨b2, o2, u2, m1, _, _⟩ := k3.get (j := 0) (by rw [ivals_len]; exact h0)
  refine ⟨b2, o2, m1, fun j hj => ?_⟩
  obtain ⟨b3, o3, u3, n1, n2, n3⟩ := k3.get (j := j) (by rw [ivals_len]; exact hj)
  rw [m1] at n1; injection n1 with n1; injection n1 with n1 n1'; subst n1 n1'
  rw [ivals_get hj] at n3
  rw [n2, ← n3]
end
section
variable {P : Program} {nt : Nat} {S : St} {t : Nat} {ty : TypeId} {ps : String} {af : Array Edge} {gd : Option (Nat × Bool)} {x y : Operand}
end
end Go.Proofs.Ytnfkhgamnapgmaa

/- A memory of names: a vector takes another name; an append of nothing. No program in sight. -/
namespace Go.Proofs.Ytnfkhgamnapgmaa
open Go.RowKit

section
variable {P : Program} {nt : Nat} {S : St} {t : Nat} {ty : TypeId} {ps : String} {af : Array Edge} {gd : Option (Nat × Bool)} {x y : Operand}
theorem wk_ren {x y : Nm} {s E k m : Nat} {vs : List Value} (hc : S.ch x = some ⟨true, E, k, .vals vs⟩) (hs0 : S.sl s = some (o1 (.sl x 0 m))) :
    Wk S (((S.rm x).new y ⟨true, E, k, .vals vs⟩).put s (o1 (.sl y 0 m))) := by
  refine ⟨fun w0 ω0 nt a w ⟨η, ω, h⟩ => ?_⟩
  obtain ⟨u, hu, hdu⟩ := h.slots s _ hs0
  have hdu : Den1 η (.sl x 0 m) u := hdu
  obtain ⟨hd, e1, e2, e3⟩ := h.chunk hc
  have e3 : VecO ω w (x, none) hd E vs.length (cellsOK η ω w true x (.vals vs)) := e3
  obtain ⟨ao, rfl, q1, _⟩ := hdu.2 hd e1
  let ω' : Own? := fun b => if ω b = some (x, none) then some (y, none) else ω b
  have calm : Calm (S.rm x) ω w ω' w := ⟨rfl, rfl, rfl, Nat.le_refl _, fun b _ hl => ⟨rfl, by
    have h1 : ω b ≠ some (x, none) := by
      rcases hl with h0 | ⟨y, j, c, h0, h1⟩
      · rw [h0]; simp
      · rw [h0]; intro e; simp at e; rw [e.1, ch_rm, if_pos rfl] at h1; cases h1
    exact if_neg h1⟩⟩
  have h2 := (h.drop x).lay (x := y) (c := ⟨true, E, k, .vals vs⟩) (hd := hd) (r := fun _ => ⟨none, 0, 1⟩) calm ⟨e2, by
    show VecO ω' w (y, none) hd E vs.length _
    rcases e3 with h0 | ⟨b, o, cs, f1, f2, f3, f4, f5, f6, f7⟩
    · exact .inl h0
    · exact .inr ⟨b, o, cs, f1, if_pos f2, f3, f4, f5, f6, f7⟩⟩
  refine ⟨_, ω', { h2 with slots := fun t' av ht' => ?_ }⟩
  rw [sl_put] at ht'
  by_cases e : t' = s
  · subst e
    rw [if_pos rfl] at ht'
    obtain rfl := Option.some.inj ht'
    refine ⟨_, hu, ⟨_, _, rfl⟩, fun hd' he => ?_⟩
    simp [Env.new] at he
    subst he
    exact ⟨_, rfl, fun _ => q1 rfl, fun h0 => absurd h0 (by omega)⟩
  · rw [if_neg e] at ht'
    exact h2.slots t' av ht'
/-- an append of nothing -/
theorem stp_app0 {T E n q off len : Nat} {c : Ch} {zs : List Int} (ht : Nat.blt t nt = true) (hT : elZ P T E 1 = true) (hx : S.op x = some (o1 (.sl n 0 len))) (hc : S.ch n = some c) (hce : c = ⟨true, E, 1, .vals (ivals zs)⟩) (hl : zs.length = len) (hy : S.op y = some (o1 (.sl q off 0))) :
    Stp P nt ⟨some t, .call { callee := .builtin .append, args := #[x, y], argTypes := #[T, T] }, ty, ps, af, gd⟩ S (S.put t (o1 (.sl n 0 len))) :=
  Stp.pure rfl ht fun w0 ω0 η ω a w hs => by
    subst hce hl
    obtain ⟨hd, e1, e2, e3⟩ := hs.chunk hc
    have e2 : hd.k = 1 := e2
    have e3 : VecO ω w (n, none) hd E (ivals zs).length (cellsOK η ω w true n (.vals (ivals zs))) := e3
    have hu : Den1 η (.sl n 0 zs.length) (a.eval x) := hs.opv hx
    obtain ⟨ao, hev, _, _⟩ := hu.2 hd e1
    rw [Nat.sub_zero] at hev
    have hroom : zs.length ≤ hd.c := by
      rcases e3 with ⟨_, _, h3⟩ | ⟨b, o, cs, f1, f2, f3, f4, f5, f6, f7⟩
      · rw [ivals_len] at h3; omega
      · rw [ivals_len, e2] at f5; omega
    obtain ⟨⟨ay, cy, hey⟩, _⟩ : Den1 η (.sl q off 0) (a.eval y) := hs.opv hy
    obtain ⟨i, z, g1, g2, g3, g4, g5, g6⟩ := elZ_spec hT
    refine ⟨.slice ao zs.length hd.c, ?_, by rw [← hev]; exact hu⟩
    cases ay <;> cases ao <;> simp [execOp, resolve, invoke, builtin, hev, hey, Builtin.append_, run_underlying g1, sizeOf, typeInfo, g2, Builtin.lenOf, hroom, Builtin.firstCells, loadCells, loadCellsFrom, storeCells]
end
end Go.Proofs.Ytnfkhgamnapgmaa
