/- The laws' helpers on []int64 in the words of Nest. -/
import Derived.Test.YtdkmihnpobobiaaLawI
namespace Go.Proofs.Ytdkmihnpobobiaa
open Go.RowKit

theorem law_toS {v : Value} {zs : List Int} (w : World) (h : RdS w v zs) (hn : zs.length ≤ 1048576) :
    Calls Try.prog 15 #[v] w fun e w' => ∃ v', e = .returned v' ∧ OwnS 2 w' w.heap.size w'.heap.size v' zs ∧ Below w.heap.size w w' := by
  obtain ⟨ao, n, c, rfl, hi⟩ := h
  have hl := hi.1
  refine (toInts_any ao n c zs w hi (by omega)).mono ?_
  rintro e w' ⟨a', c', rfl, ho, hb⟩
  exact ⟨_, rfl, OwnS.of ho, hb⟩
theorem law_eqS {v v' : Value} {zs : List Int} (w : World) (h : RdS w v zs) (h' : RdS w v' zs) :
    Calls Try.prog 18 #[v, v'] w fun e w' => e = .returned (.bool true) ∧ Below w.heap.size w w' := by
  obtain ⟨ao, n, c, rfl, hi⟩ := h
  obtain ⟨ao', n', c', rfl, hi'⟩ := h'
  refine (eqInts_any ao ao' n n' c c' zs zs w hi hi').mono ?_
  rintro e w' ⟨rfl, hq⟩
  exact ⟨ret_bool (by simp), below_of_quiet hq⟩
theorem law_markS {v : Value} {zs : List Int} {lo hi : Nat} (k : Int) (w : World) (h : OwnS 2 w lo hi v zs) (hk0 : 0 ≤ k) (hk1 : k ≤ 1125899906842624) :
    Calls Try.prog 19 #[v, .int .i64 k] w fun e w' => e = .returned (.int .i64 (k + zs.length)) ∧ OwnS 2 w' lo hi v (marks k zs.length) ∧ Only lo hi w w' := by
  obtain ⟨⟨ao, n, c, rfl, ho⟩, hin⟩ := h
  have hl : zs.length = n := by have := ho.len; simpa using this
  refine (markInts_any ao n c zs k w 0 ho hk0 hk1).mono ?_
  rintro e w' ⟨rfl, ho', hg, _⟩
  exact ⟨ret_int (by rw [hl]), ⟨⟨ao, n, c, rfl, by rw [hl]; exact ho'⟩, hin⟩, Only.of_grown hg (fun g hg => hin g (by rw [ownBlock_slice]; exact hg))⟩
theorem law_heldS {v : Value} {n : Nat} (k : Int) (w : World) (h : RdS w v (marks k n)) (hk0 : 0 ≤ k) (hk1 : k ≤ 1125899906842624) :
    Calls Try.prog 56 #[v, .int .i64 k] w fun e w' => e = .returned (.int .i64 (k + n)) ∧ Below w.heap.size w w' := by
  obtain ⟨ao, n', c, rfl, hi⟩ := h
  obtain rfl : n = n' := by have := hi.1; rwa [length_marks] at this
  refine (heldInts_any ao n c k w hi hk0 hk1).mono ?_
  rintro e w' ⟨rfl, rfl⟩
  exact ⟨rfl, Below.refl _ _⟩
end Go.Proofs.Ytdkmihnpobobiaa
