/- ReverseDiagram: the reference's l12Turned, slices.Clone and slices.Reverse at []int64. -/
import Derived.Test.Ytplmfanjbokckaa12Is
import Derived.Test.YtplmfanjbokckaaLawI
import Derived.RegionTactic
namespace Go.Proofs.Ytplmfanjbokckaa
open Go.RowKit

/-- a list the other way round; closed to simp -/
def turned (zs : List Int) : List Int := zs.reverse
theorem turned_drop {zs : List Int} {k : Nat} (h : k < zs.length) : turned (zs.drop k) = turned (zs.drop (k + 1)) ++ [iget zs k] := by
  unfold turned; rw [List.drop_eq_getElem_cons h, ← iget_lt h, List.reverse_cons]

set_option maxHeartbeats 400000 in
theorem spec12Turned_any (ao : Option Addr) (n c : Nat) (zs : List Int) (w : World) (h : Ints w ao n zs) (hn : n ≤ 1048576) :
    Calls Try.prog 32 #[.slice ao n c] w fun e w' => ∃ ao' c', e = .returned (.slice ao' n c') ∧ Own w' w.heap.size 2 ao' n c' ((turned zs).map (Value.int .i64)) ∧ Below w.heap.size w w' := by
  have hl := h.1
  have HL := Lib.hid hl
  clear hl
  go_enter Try.func32, Try.ntmps32
  go_wp2
  go_loopw [3, 4] (fun v i wr => ∃ (k a' : Nat) (ao' : Option Addr) (c' : Nat), k ≤ n ∧ i = .int .i64 ((k : Int) - 1) ∧ v = .slice ao' a' c' ∧ a' + k = n ∧ Own wr w.heap.size 2 ao' a' c' ((turned (zs.drop k)).map (Value.int .i64)) ∧ Below w.heap.size w wr) (fun _ i _ => (intOf i + 1).toNat)
  case atStart => exact ⟨n, 0, _, _, Nat.le_refl _, rfl, rfl, by omega, by rw [List.drop_of_length_le (Nat.le_of_eq HL.out)]; exact Own.empty_ w _ (Nat.le_refl _), (Below.refl _ _).alloc (Nat.le_refl _) _⟩
  case round =>
    obtain ⟨k, a', ao', c', hk, rfl, rfl, hak, ho, hb⟩ := hrel
    have HAK := Lib.hid hak
    clear hak
    by_cases hlt : 0 < k
    · obtain ⟨j, rfl⟩ : ∃ j, k = j + 1 := ⟨k - 1, by omega⟩
      have hj : j < n := by omega
      have ha' : a' ≤ 1048576 := by have := HAK.out; omega
      obtain ⟨b, off, rfl, hc⟩ := (h.below hb).at_ hj
      have HT : Hid (turned (zs.drop j) = turned (zs.drop (j + 1)) ++ [iget zs j]) := turned_drop (by rw [HL.out]; exact hj)
      have hbs := hb.size
      have ej : ((j + 1 : Nat) : Int) - 1 = j := by omega
      rw [ej]
      clear ej
      go_wp2_with (at_builtin; refine wpList_ap1 etI _ rfl _ _ rfl w.heap.size ao' a' c' _ rfl ho (.int .i64 (iget zs j)) rfl rfl (by omega) hbs ?_; intro ao2 c2 w2 ho2 hg2 hblk)
      have hol := ho.lt
      clear ho hc h
      go_wp2
      go_roundw
      case rel =>
        refine ⟨j, a' + 1, ao2, c2, by omega, rfl, rfl, by have := HAK.out; omega, ?_, hb.grown hg2 hbs (fun g hg => (hol g hg).1)⟩
        rw [HT.out, List.map_append]; exact ho2
      case measure => simp [intOf]
    · obtain rfl : k = 0 := by omega
      obtain rfl : a' = n := by have := HAK.out; omega
      go_wp2
      go_ret
      exact ⟨_, _, rfl, by simpa using ho, hb⟩

set_option maxHeartbeats 400000 in
theorem clone_any (ao : Option Addr) (n c : Nat) (zs : List Int) (w : World) (h : Ints w ao n zs) (hn : n ≤ 1048576) :
    Calls Try.prog 33 #[.slice ao n c] w fun e w' => ∃ ao' c', e = .returned (.slice ao' n c') ∧ Own w' w.heap.size 2 ao' n c' (zs.map (Value.int .i64)) ∧ Below w.heap.size w w' := by
  have he := fun (w : World) => Lib.run_eql_slice_nil (P := Try.prog) w 22 2 ao n c 0 0 Try.underlying22
  cases ao with
  | none =>
    obtain ⟨rfl, rfl⟩ := h.of_none
    go_enter Try.func33, Try.ntmps33
    go_wp2
    go_ret
    exact ⟨_, _, rfl, Own.nil_ _ _ _, Below.refl _ _⟩
  | some ad =>
    have h2 : Ints (w.alloc (.cells #[] 2)) (some ad) n zs := h.below ((Below.refl _ _).alloc (Nat.le_refl _) _)
    have H2 := Lib.hid h2
    clear h2
    go_enter Try.func33, Try.ntmps33
    go_wp2_with (at_builtin; refine wpList_apN etI _ rfl _ _ rfl w.heap.size _ 0 0 [] rfl (Own.empty_ w _ (Nat.le_refl _)) (some ad) n c zs rfl H2.out (by omega) (by simp) ?_; intro ao2 c2 w2 ho2 hg2 hblk)
    go_ret
    refine ⟨_, _, rfl, by simpa using ho2, ((Below.refl _ _).alloc (Nat.le_refl _) _).grown hg2 (by simp) (fun g hg => ?_)⟩
    simp [bk] at hg; omega
end Go.Proofs.Ytplmfanjbokckaa
