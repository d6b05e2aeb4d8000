/- The presentation of a diagram: what both call. -/
import Derived.Test.YtdkmihnpobobiaaRepeat
import Derived.Test.Ytdkmihnpobobiaa12Is
namespace Go.Proofs.Ytdkmihnpobobiaa
open Go.RowKit

theorem repL_succ {α : Type} (zs : List α) (j : Nat) : repL zs (j + 1) = repL zs j ++ zs := by rw [repL_add, repL_one]

theorem wrap64_idN {i : Nat} (h : i ≤ 1048576) : wrap64 (i : Int) = i := by unfold wrap64; omega

theorem meas_down {i : Nat} {z : Int} (h : z = (i : Int)) : (intOf (.int .i64 z)).toNat < (intOf (.int .i64 ((i + 1 : Nat) : Int))).toNat := by subst h; simp [intOf]

set_option maxHeartbeats 400000 in
theorem specPower_any (ao : Option Addr) (n c k : Nat) (zs : List Int) (w : World) (h : Ints w ao n zs) (hk : k ≤ 1048576) (hnk : n * k ≤ 1048576) :
    Calls Try.prog 116 #[.slice ao n c, .int .i64 k] w fun e w' => ∃ ao' c', e = .returned (.slice ao' (n * k) c') ∧ Own w' w.heap.size 2 ao' (n * k) c' ((repL zs k).map (Value.int .i64)) ∧ Below w.heap.size w w' := by
  go_enter Try.func116, Try.ntmps116
  go_wp2
  go_loopw [1, 5] (fun i v wr => ∃ (j a' : Nat) (ao' : Option Addr) (c' : Nat), j ≤ k ∧ i = .int .i64 ((k - j : Nat) : Int) ∧ v = .slice ao' a' c' ∧ a' = n * j ∧ Own wr w.heap.size 2 ao' a' c' ((repL zs j).map (Value.int .i64)) ∧ Below w.heap.size w wr) (fun i _ _ => (intOf i).toNat)
  case atStart => exact ⟨0, 0, _, _, Nat.zero_le _, rfl, rfl, by simp, Own.empty_ w _ (Nat.le_refl _), (Below.refl _ _).alloc (Nat.le_refl _) _⟩
  case round =>
    obtain ⟨j, a', ao', c', hj, rfl, rfl, ha, ho, hb⟩ := hrel
    have HA := Lib.hid ha
    clear ha
    by_cases hlt : j < k
    · have hm : n * (j + 1) ≤ n * k := Nat.mul_le_mul_left _ hlt
      have hm2 : n * (j + 1) = n * j + n := Nat.mul_succ _ _
      have hi := h.below hb
      have hsz : a' + n ≤ 4398046511104 := by have := HA.out; omega
      have hbs := hb.size
      have HE := Lib.hid (show a' + n = n * (j + 1) by have := HA.out; omega)
      obtain ⟨i, hi2⟩ : ∃ i : Nat, k - j = i + 1 := ⟨k - j - 1, by omega⟩
      have HI := Lib.hid (show k - (j + 1) = i by omega)
      have hj1 : j + 1 ≤ k := hlt
      have HW := Lib.hid (wrap64_idN (i := i) (by omega))
      rw [hi2]
      clear hm hm2 hi2 h hnk hj hlt
      go_wp2_with (at_builtin; refine wpList_apN etI _ rfl _ _ rfl w.heap.size _ _ _ _ rfl ho ao n c zs rfl hi hsz hbs ?_; intro ao2 c2 w2 ho2 hg2 hblk)
      have hol := ho.lt
      clear ho hi
      go_wp2
      go_roundw
      case rel =>
        refine ⟨j + 1, _, ao2, c2, hj1, by rw [HI.out, HW.out], rfl, HE.out, ?_, hb.grown hg2 hbs (fun g hg => (hol g hg).1)⟩
        rw [repL_succ, List.map_append]; exact ho2
      case measure => exact meas_down HW.out
    · obtain rfl : j = k := by omega
      rw [Nat.sub_self]
      go_wp2
      go_ret
      rw [← HA.out]
      exact ⟨_, _, rfl, ho, hb⟩
end Go.Proofs.Ytdkmihnpobobiaa
