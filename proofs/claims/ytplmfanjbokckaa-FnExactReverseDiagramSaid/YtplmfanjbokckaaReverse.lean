/- slices.Reverse at []int64: it turns a row of the call's own round, in place. -/
import Derived.Test.Ytplmfanjbokckaa12Rev
namespace Go.Proofs.Ytplmfanjbokckaa
open Go.RowKit

theorem own_iget {w : World} {base E : Nat} {g n c : Nat} {zs : List Int} (h : Own w base E (some ⟨g, 0, none⟩) n c (zs.map (Value.int .i64))) {k : Nat} (hk : k < n) : w.cell? ⟨g, k, none⟩ = some (.int .i64 (iget zs k)) := by
  obtain ⟨g', hg, _, _, _, hc, _⟩ := h.form (by omega)
  obtain rfl : g = g' := by injection hg with hg; injection hg
  have hl : zs.length = n := by have := h.len; simpa using this
  rw [hc k hk, List.getElem?_map, List.getElem?_eq_getElem (by omega), iget_lt (by omega)]; rfl
theorem iget_set_eq {zs : List Int} {k : Nat} (h : k < zs.length) (x : Int) : iget (zs.set k x) k = x := by rw [iget_lt (by simpa using h)]; simp
theorem iget_set_ne {zs : List Int} {k j : Nat} (h : k ≠ j) (x : Int) : iget (zs.set k x) j = iget zs j := by simp [iget, h]

set_option maxHeartbeats 800000 in
theorem reverse_any (ao : Option Addr) (n c : Nat) (zs : List Int) (w : World) (base : Nat) (h : Own w base 2 ao n c (zs.map (Value.int .i64))) :
    Calls Try.prog 34 #[.slice ao n c] w fun e w' => e = .returned (.tuple #[]) ∧ Own w' base 2 ao n c ((turned zs).map (Value.int .i64)) ∧ w.grownBy w' (bk ao) := by
  have hn := h.2
  have hl : zs.length = n := by have := h.len; simpa using this
  have HL := Lib.hid hl
  clear hl
  go_enter Try.func34, Try.ntmps34
  go_wp2
  go_loopw [2, 3] (fun i j wr => ∃ (k : Nat) (cur : List Int), k ≤ n ∧ i = .int .i64 k ∧ j = .int .i64 ((n : Int) - 1 - k) ∧ cur.length = n ∧ (∀ x, x < n → iget cur x = if x < k ∨ n < x + 1 + k then iget zs (n - 1 - x) else iget zs x) ∧ Own wr base 2 ao n c (cur.map (Value.int .i64)) ∧ w.grownBy wr (bk ao)) (fun i _ _ => n - (intOf i).toNat)
  case atStart => exact ⟨0, zs, by omega, rfl, by simp, HL.out, fun x hx => by rw [if_neg (by omega)], h, World.grownBy.refl _ _⟩
  case round =>
    obtain ⟨k, cur, hk, rfl, rfl, hcl, hcur, ho, hg⟩ := hrel
    have HC := Lib.hid hcl
    have HU := Lib.hid hcur
    clear hcl hcur
    by_cases hlt : k + k + 1 < n
    · obtain ⟨j, hj⟩ : ∃ j : Nat, j + k + 1 = n := ⟨n - 1 - k, by omega⟩
      have HJ := Lib.hid hj
      have ej : (n : Int) - 1 - k = j := by omega
      have hjn : j < n := by omega
      have hkn : k < n := by omega
      have hkj : k < j := by omega
      rw [ej]
      clear hj ej
      obtain ⟨g, rfl, -, hgl, -, -, -⟩ := ho.form (by omega)
      have hc1 := own_iget ho hjn
      have hc2 := own_iget ho hkn
      have hf1 := ho.1.frozenAt j
      have hf2 := ho.1.frozenAt k
      have ho1 : Own wr.drew base 2 (some ⟨g, 0, none⟩) n c (cur.map (Value.int .i64)) := ho
      obtain ⟨s1, t1⟩ := ho1.stored k (.int .i64 (iget cur j))
      obtain ⟨s2, t2⟩ := s1.stored j (.int .i64 (iget cur k))
      have S2 := Lib.hid s2
      have T1 := Lib.hid t1
      have T2 := Lib.hid t2
      clear s1 t1 s2 t2 ho1 ho
      go_wp2
      go_region
      go_wp2
      go_roundw
      case rel =>
        refine ⟨k + 1, (cur.set k (iget cur j)).set j (iget cur k), by omega, by go_num, ?_, by simp [HC.out], ?_, by rw [List.map_set, List.map_set]; exact S2.out, grown_tr hg (grown_tr (⟨rfl, rfl, rfl, Nat.le_refl _, fun _ _ _ => rfl⟩ : wr.grownBy wr.drew _) (grown_tr T1.out T2.out))⟩
        · congr 1; have := HJ.out; omega
        · intro x hx
          have hcl := HC.out
          have hjn' := HJ.out
          by_cases h1 : x = j
          · subst h1
            rw [iget_set_eq (by simp; omega), if_pos (by omega), HU.out k (by omega), if_neg (by omega)]
            congr 1; omega
          · rw [iget_set_ne (fun e => h1 e.symm)]
            by_cases h2 : x = k
            · subst h2
              rw [iget_set_eq (by omega), if_pos (by omega), HU.out j (by omega), if_neg (by omega)]
              congr 1; omega
            · rw [iget_set_ne (fun e => h2 e.symm), HU.out x hx]
              by_cases h3 : x < k ∨ n < x + 1 + k
              · rw [if_pos h3, if_pos (by omega)]
              · rw [if_neg h3, if_neg (by omega)]
      case measure => simp [intOf]; omega
    · have hle : (n : Int) - 1 - k ≤ k := by omega
      go_wp2
      go_end0
      refine ⟨rfl, ?_, hg⟩
      have hcl := HC.out
      have hzl := HL.out
      have e : cur = turned zs := by
        apply iget_ext (by unfold turned; simp; omega)
        intro x hx
        have hr : iget (turned zs) x = iget zs (n - 1 - x) := by
          rw [iget_lt (by unfold turned; simp; omega), iget_lt (by omega)]
          unfold turned
          rw [List.getElem_reverse]
          congr 1; omega
        rw [hr, HU.out x (by omega)]
        by_cases h3 : x < k ∨ n < x + 1 + k
        · rw [if_pos h3]
        · rw [if_neg h3]; congr 1; omega
      rw [← e]; exact ho
end Go.Proofs.Ytplmfanjbokckaa
