/- Words that lead points through permutations: l11Lead, applied, then, isIdentity, arePermutations. -/
import Derived.Test.Ytdkmihnpobobiaa11IsB
import Derived.Test.YtdkmihnpobobiaaPerm
import Derived.Test.YtdkmihnpobobiaaLawI
namespace Go.Proofs.Ytdkmihnpobobiaa
open Go.RowKit

theorem permGo_within {n : Nat} {zs : List Int} : ∀ {seen : List Bool}, permGo n seen zs = true → ∀ z ∈ zs, 0 ≤ z ∧ z < n := by
  induction zs with
  | nil => intro seen _ z hz; cases hz
  | cons a r ih =>
    intro seen h z hz
    simp only [permGo, Bool.and_eq_true] at h
    rcases List.mem_cons.1 hz with rfl | hz
    · have := inB_true.1 h.1.1; omega
    · exact ih h.2 z hz
theorem isPerm_within {zs : List Int} (h : isPerm zs = true) {k : Nat} (hk : k < zs.length) : 0 ≤ iget zs k ∧ iget zs k < zs.length := by
  unfold isPerm at h
  exact permGo_within ((Bool.and_eq_true _ _ ▸ h).2) _ (iget_mem hk)
theorem isPerm_few {zs : List Int} (h : isPerm zs = true) : zs.length ≤ 400 := by
  unfold isPerm at h
  rw [Bool.and_eq_true] at h; exact of_decide_eq_true h.1

/-- where a word leads a point -/
def leadL (qs : List (List Int)) (c : Int) (w : List Int) : Int := w.foldl (fun c g => iget (lget qs g.toNat) c.toNat) c
theorem leadL_nil (qs : List (List Int)) (c : Int) : leadL qs c [] = c := rfl
theorem leadL_snoc (qs : List (List Int)) (c : Int) (w : List Int) (g : Int) : leadL qs c (w ++ [g]) = iget (lget qs g.toNat) (leadL qs c w).toNat := by simp [leadL, List.foldl_append]

/-- each list holds m points, each leads within them -/
structure Leads (qs : List (List Int)) (m : Nat) : Prop where
  len : ∀ k, k < qs.length → (lget qs k).length = m
  within : ∀ k, k < qs.length → ∀ x, x < m → 0 ≤ iget (lget qs k) x ∧ iget (lget qs k) x < m
theorem Leads.lead {qs : List (List Int)} {m : Nat} (h : Leads qs m) {c : Int} (hc : 0 ≤ c ∧ c < m) {w : List Int} (hw : ∀ z ∈ w, 0 ≤ z ∧ z < qs.length) : 0 ≤ leadL qs c w ∧ leadL qs c w < m := by
  induction w generalizing c with
  | nil => exact hc
  | cons g r ih =>
    have h1 := hw g (List.mem_cons_self ..)
    have h2 := h.within g.toNat (by omega) c.toNat (by omega)
    exact ih h2 fun z hz => hw z (List.mem_cons_of_mem _ hz)

set_option maxHeartbeats 800000 in
theorem specLead_any (ao : Option Addr) (n c : Nat) (qs : List (List Int)) (bo : Option Addr) (n' c' : Nat) (ws : List Int) (x m : Nat) (w : World) (h : Intss w ao n qs) (h' : Ints w bo n' ws) (hx : x < m) (hq : Leads qs m) (hw : ∀ z ∈ ws, 0 ≤ z ∧ z < qs.length) :
    Calls Try.prog 71 #[.slice ao n c, .int .i64 x, .slice bo n' c'] w fun e w' => e = .returned (.int .i64 (leadL qs x ws)) ∧ w = w' := by
  have HL := Lib.hid h'.1
  have HN := Lib.hid h.1
  have hn' := h'.2.1
  have HQ := Lib.hid hq
  have HW := Lib.hid hw
  clear hq hw
  go_enter Try.func71, Try.ntmps71
  go_wp2
  go_loop [7, 1] (fun i v => ∃ (k : Nat), k ≤ n' ∧ i = .int .i64 k ∧ v = .int .i64 (leadL qs x (ws.take k))) (fun i _ => n' - (intOf i).toNat)
  case atStart => exact ⟨0, Nat.zero_le _, rfl, rfl⟩
  case round =>
    obtain ⟨k, hk, rfl, rfl⟩ := hrel
    by_cases hlt : k < n'
    · have h1 := HW.out (iget ws k) (iget_mem (by rw [HL.out]; exact hlt))
      obtain ⟨g, hg⟩ := Int.eq_ofNat_of_zero_le h1.1
      rw [hg] at h1
      have hgn : g < n := by have := HN.out; omega
      have h2 := HQ.out.lead (c := (x : Int)) (by omega) (w := ws.take k) (fun z hz => HW.out z (List.mem_of_mem_take hz))
      obtain ⟨y, hy⟩ := Int.eq_ofNat_of_zero_le h2.1
      rw [hy] at h2
      have hym : y < m := by omega
      have hlen := HQ.out.len g (by rw [HN.out]; exact hgn)
      obtain ⟨b, off, rfl, hc⟩ := h'.at_ hlt
      obtain ⟨b2, off2, a3, n3, c3, rfl, hc2, h3⟩ := h.at_ hgn
      obtain rfl : m = n3 := by rw [← hlen]; exact h3.1
      obtain ⟨b4, off4, rfl, hc4⟩ := h3.at_ hym
      rw [hg] at hc
      have HV : Hid (leadL qs x (ws.take (k + 1)) = iget (lget qs g) y) := Lib.hid (by rw [take_iget (by rw [HL.out]; exact hlt), leadL_snoc, hg, hy]; rfl)
      rw [hy]
      clear h1 h2 hg hy h3 hlen h h'
      go_wp2
      go_roundw
      case rel => exact ⟨k + 1, by omega, by go_num, by rw [HV.out]⟩
      case measure => simp [intOf]; omega
    · obtain rfl : k = n' := by omega
      rw [List.take_of_length_le (Nat.le_of_eq HL.out)]
      go_wp2
      go_ret
      exact ⟨rfl, rfl⟩

set_option maxHeartbeats 800000 in
theorem applied_any (ao : Option Addr) (n c : Nat) (qs : List (List Int)) (bo : Option Addr) (n' c' : Nat) (ws : List Int) (x m : Nat) (w : World) (h : Intss w ao n qs) (h' : Ints w bo n' ws) (hx : x < m) (hq : Leads qs m) (hw : ∀ z ∈ ws, 0 ≤ z ∧ z < qs.length) :
    Calls Try.prog 134 #[.slice ao n c, .slice bo n' c', .int .i64 x] w fun e w' => e = .returned (.int .i64 (leadL qs x ws)) ∧ w = w' := by
  have HL := Lib.hid h'.1
  have HN := Lib.hid h.1
  have hn' := h'.2.1
  have HQ := Lib.hid hq
  have HW := Lib.hid hw
  clear hq hw
  go_enter Try.func134, Try.ntmps134
  go_wp2
  go_loop [11, 2] (fun i v => ∃ (k : Nat), k ≤ n' ∧ i = .int .i64 k ∧ v = .int .i64 (leadL qs x (ws.take k))) (fun i _ => n' - (intOf i).toNat)
  case atStart => exact ⟨0, Nat.zero_le _, rfl, rfl⟩
  case round =>
    obtain ⟨k, hk, rfl, rfl⟩ := hrel
    by_cases hlt : k < n'
    · have h1 := HW.out (iget ws k) (iget_mem (by rw [HL.out]; exact hlt))
      obtain ⟨g, hg⟩ := Int.eq_ofNat_of_zero_le h1.1
      rw [hg] at h1
      have hgn : g < n := by have := HN.out; omega
      have h2 := HQ.out.lead (c := (x : Int)) (by omega) (w := ws.take k) (fun z hz => HW.out z (List.mem_of_mem_take hz))
      obtain ⟨y, hy⟩ := Int.eq_ofNat_of_zero_le h2.1
      rw [hy] at h2
      have hym : y < m := by omega
      have hlen := HQ.out.len g (by rw [HN.out]; exact hgn)
      obtain ⟨b, off, rfl, hc⟩ := h'.at_ hlt
      obtain ⟨b2, off2, a3, n3, c3, rfl, hc2, h3⟩ := h.at_ hgn
      obtain rfl : m = n3 := by rw [← hlen]; exact h3.1
      obtain ⟨b4, off4, rfl, hc4⟩ := h3.at_ hym
      rw [hg] at hc
      have HV : Hid (leadL qs x (ws.take (k + 1)) = iget (lget qs g) y) := Lib.hid (by rw [take_iget (by rw [HL.out]; exact hlt), leadL_snoc, hg, hy]; rfl)
      rw [hy]
      clear h1 h2 hg hy h3 hlen h h'
      go_wp2
      go_roundw
      case rel => exact ⟨k + 1, by omega, by go_num, by rw [HV.out]⟩
      case measure => simp [intOf]; omega
    · obtain rfl : k = n' := by omega
      rw [List.take_of_length_le (Nat.le_of_eq HL.out)]
      go_wp2
      go_ret
      exact ⟨rfl, rfl⟩

/-- whether each number stands at its own place -/
def isIden (zs : List Int) : Bool := (List.range zs.length).all fun i => iget zs i == (i : Int)
theorem isIden_true {zs : List Int} : isIden zs = true ↔ ∀ i, i < zs.length → iget zs i = i := by
  unfold isIden; rw [List.all_eq_true]
  exact ⟨fun h i hi => by have := h i (List.mem_range.2 hi); simpa using this, fun h i hi => by have := h i (List.mem_range.1 hi); simpa using this⟩
theorem isIden_false {zs : List Int} {i : Nat} (hi : i < zs.length) (h : iget zs i ≠ i) : isIden zs = false := by
  cases hh : isIden zs with
  | false => rfl
  | true => exact absurd (isIden_true.1 hh i hi) h

set_option maxHeartbeats 400000 in
theorem isIdentity_any (ao : Option Addr) (n c : Nat) (zs : List Int) (w : World) (h : Ints w ao n zs) :
    Calls Try.prog 132 #[.slice ao n c] w fun e w' => e = .returned (.bool (isIden zs)) ∧ w = w' := by
  have HL := Lib.hid h.1
  have hn := h.2.1
  go_enter Try.func132, Try.ntmps132
  go_wp2
  go_loop [7] (fun i => ∃ k : Nat, k ≤ n ∧ i = .int .i64 k ∧ ∀ j, j < k → iget zs j = j) (fun i => n - (intOf i).toNat)
  case atStart => exact ⟨0, Nat.zero_le _, rfl, fun j hj => absurd hj (by omega)⟩
  case round =>
    obtain ⟨k, hk, rfl, hinv⟩ := hrel
    have HI := Lib.hid hinv
    clear hinv
    by_cases hlt : k < n
    · obtain ⟨b, off, rfl, hc⟩ := h.at_ hlt
      by_cases he : iget zs k = k
      · rw [he] at hc
        go_wp2
        go_roundw
        case rel => exact ⟨k + 1, by omega, by go_num, fun j hj => by rcases Nat.lt_succ_iff_lt_or_eq.1 hj with h1 | rfl; exact HI.out j h1; exact he⟩
        case measure => simp [intOf]; omega
      · have hne : (iget zs k != (k : Int)) = true := by simpa using he
        go_wp2
        go_ret
        exact ⟨ret_bool (isIden_false (by rw [HL.out]; exact hlt) he).symm, rfl⟩
    · obtain rfl : k = n := by omega
      go_wp2
      go_ret
      exact ⟨ret_bool (isIden_true.2 (by rw [HL.out]; exact HI.out)).symm, rfl⟩

/-- first p, then q -/
def thenL (p q : List Int) : List Int := p.map fun x => iget q x.toNat
theorem length_thenL (p q : List Int) : (thenL p q).length = p.length := by simp [thenL]
theorem iget_thenL {p q : List Int} {k : Nat} (h : k < p.length) : iget (thenL p q) k = iget q (iget p k).toNat := by
  rw [iget_lt (by rw [length_thenL]; exact h), iget_lt h]; simp [thenL]

set_option maxRecDepth 100000 in
set_option maxHeartbeats 800000 in
theorem then_any (ao : Option Addr) (n c : Nat) (ps : List Int) (bo : Option Addr) (n' c' : Nat) (qs : List Int) (w : World) (h : Ints w ao n ps) (h' : Ints w bo n' qs) (hn : n ≤ 1048576) (hp : ∀ k, k < n → 0 ≤ iget ps k ∧ iget ps k < n') :
    Calls Try.prog 133 #[.slice ao n c, .slice bo n' c'] w fun e w' => ∃ ao' c', e = .returned (.slice ao' n c') ∧ Own w' w.heap.size 2 ao' n c' ((thenL ps qs).map (Value.int .i64)) ∧ Below w.heap.size w w' := by
  have HL := Lib.hid h.1
  have hn' := h'.2.1
  have HP := Lib.hid hp
  clear hp
  go_enter Try.func133, Try.ntmps133
  go_wp2_with (at_make; refine wpList_mk etI _ rfl _ _ rfl w.heap.size _ _ _ _ n rfl rfl rfl rfl (by omega) (Nat.le_refl _) ?_; intro w1 hown hgrow hsz)
  have hb1 : Below w.heap.size w w1 := (Below.refl _ _).grown hgrow (Nat.le_refl _) (by simp)
  clear hgrow hsz
  go_loopw [13] (fun i wr => ∃ k : Nat, k ≤ n ∧ i = .int .i64 k ∧ Own wr w.heap.size 2 (some ⟨w.heap.size, 0, none⟩) n n (((thenL ps qs).take k ++ List.replicate (n - k) 0).map (Value.int .i64)) ∧ Below w.heap.size w wr) (fun i _ => n - (intOf i).toNat)
  case atStart => exact ⟨0, Nat.zero_le _, rfl, by simpa using hown, hb1⟩
  case round =>
    obtain ⟨k, hk, rfl, ho, hb⟩ := hrel
    clear hown hb1
    by_cases hlt : k < n
    · have h1 := HP.out k hlt
      obtain ⟨y, hy⟩ := Int.eq_ofNat_of_zero_le h1.1
      rw [hy] at h1
      have hyn : y < n' := by omega
      obtain ⟨b, off, rfl, hc⟩ := (h.below hb).at_ hlt
      obtain ⟨b2, off2, rfl, hc2⟩ := (h'.below hb).at_ hyn
      have HV : Hid (iget (thenL ps qs) k = iget qs y) := Lib.hid (by rw [iget_thenL (by rw [HL.out]; exact hlt), hy]; rfl)
      rw [hy] at hc
      have S := ho.stored k (.int .i64 (iget qs y))
      obtain ⟨gc, egc, -, -, -, hcell, hfrz⟩ := ho.form (by omega)
      injection egc with egc; injection egc with egc; subst egc
      have hz := hcell k hlt
      have hf := hfrz k
      rw [List.getElem?_map, List.getElem?_append_right (by simp; omega)] at hz
      have hlk : (List.take k (thenL ps qs)).length = k := by rw [List.length_take, length_thenL, HL.out]; omega
      rw [hlk, Nat.sub_self, List.getElem?_replicate, if_pos (by omega)] at hz
      simp only [Option.map_some] at hz
      have hset : ((thenL ps qs).take k ++ List.replicate (n - k) 0).set k (iget qs y) = (thenL ps qs).take (k + 1) ++ List.replicate (n - (k + 1)) 0 := by
        rw [set_padL hlk hlt, take_iget (by rw [length_thenL, HL.out]; exact hlt), HV.out]
      have hS : Own (wr.setCell ⟨w.heap.size, k, none⟩ (.int .i64 (iget qs y))) w.heap.size 2 (some ⟨w.heap.size, 0, none⟩) n n (((thenL ps qs).take (k + 1) ++ List.replicate (n - (k + 1)) 0).map (Value.int .i64)) := by
        rw [← hset, List.map_set]; exact S.1
      have HS := Lib.hid hS
      have HB := Lib.hid (hb.setCell (p := ⟨w.heap.size, k, none⟩) (Nat.le_refl _) (.int .i64 (iget qs y)))
      clear S hS hset hcell hfrz ho hb h1 hy h h' hlk
      go_wp2
      go_roundw
      case rel => exact ⟨k + 1, by omega, by go_num, HS.out, HB.out⟩
      case measure => simp [intOf]; omega
    · obtain rfl : k = n := by omega
      rw [Nat.sub_self, List.replicate_zero, List.append_nil, List.take_of_length_le (Nat.le_of_eq (by rw [length_thenL, HL.out]))] at ho
      go_wp2
      go_ret
      exact ⟨_, _, rfl, ho, hb⟩

set_option maxHeartbeats 400000 in
theorem arePerm_any (ao : Option Addr) (n c : Nat) (ps : List Int) (bo : Option Addr) (n' c' : Nat) (qs : List Int) (w : World) (h : Ints w ao n ps) (h' : Ints w bo n' qs) :
    Calls Try.prog 76 #[.slice ao n c, .slice bo n' c'] w fun e w' => e = .returned (.bool (isPerm ps && isPerm qs && decide (ps.length = qs.length))) ∧ Below w.heap.size w w' := by
  have HL := Lib.hid h.1
  have HL' := Lib.hid h'.1
  cases hp : isPerm ps with
  | false =>
    have HP := Lib.hid hp
    clear hp
    go_enter Try.func76, Try.ntmps76
    go_wp2_with (go_at_call 131; refine (implPerm_any _ _ _ ps _ h).mono ?_; rintro e w1 ⟨rfl, hb⟩; rw [HP.out])
    go_ret
    exact ⟨rfl, hb⟩
  | true =>
    have HP := Lib.hid hp
    clear hp
    go_enter Try.func76, Try.ntmps76
    go_wp2_with fail
    refine (implPerm_any _ _ _ ps _ h).mono ?_
    rintro e w1 ⟨rfl, hb⟩
    rw [HP.out]
    have h2 := h'.below hb
    cases hq : isPerm qs with
    | false =>
      have HQ := Lib.hid hq
      clear hq
      go_wp2_with fail
      refine (implPerm_any _ _ _ qs _ h2).mono ?_
      rintro e w2 ⟨rfl, hb2⟩
      rw [HQ.out]
      go_wp2
      go_ret
      exact ⟨ret_bool (by rw [HQ.out]; rfl), below_tr hb2 hb⟩
    | true =>
      have HQ := Lib.hid hq
      clear hq
      go_wp2_with fail
      refine (implPerm_any _ _ _ qs _ h2).mono ?_
      rintro e w2 ⟨rfl, hb2⟩
      rw [HQ.out]
      have he : ((n : Int) == (n' : Int)) = decide (ps.length = qs.length) := by rw [HL.out, HL'.out]; by_cases e : n = n' <;> simp [e]; omega
      have HE := Lib.hid he
      clear he
      go_wp2
      go_ret
      exact ⟨ret_bool (by rw [HE.out, HQ.out]; simp), below_tr hb2 hb⟩
end Go.Proofs.Ytdkmihnpobobiaa
