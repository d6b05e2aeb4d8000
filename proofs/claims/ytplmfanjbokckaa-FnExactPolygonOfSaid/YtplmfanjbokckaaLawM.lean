/- The laws' helpers on maniplexes: comparison and marks. -/
import Derived.Test.YtplmfanjbokckaaLawSS
namespace Go.Proofs.Ytplmfanjbokckaa
open Go.RowKit

set_option maxHeartbeats 400000 in
theorem law_eqM {v v' : Value} {d : List (List Int)} (w : World) (h : RdM w v d) (h' : RdM w v' d) :
    Calls Try.prog 20 #[v, v'] w fun e w' => e = .returned (.bool true) ∧ Below w.heap.size w w' := by
  obtain ⟨ao, n, c, rfl, hi⟩ := h
  obtain ⟨ao', n', c', rfl, hi'⟩ := h'
  go_enter Try.func20, Try.ntmps20
  go_wp2_with fail
  have hb : Below w.heap.size w ((w.alloc (.cells #[.slice ao n c] 31)).alloc (.cells #[.slice ao' n' c'] 31)) := ((Below.refl _ _).alloc (Nat.le_refl _) _).alloc (by simp) _
  refine (law_eqSS _ ⟨_, _, _, rfl, hi.below hb⟩ ⟨_, _, _, rfl, hi'.below hb⟩).mono ?_
  rintro e w1 ⟨rfl, b1⟩
  go_wp2
  go_ret
  exact ⟨rfl, hb.trans (b1.mono hb.size)⟩

set_option maxHeartbeats 400000 in
theorem law_markM {v : Value} {d : List (List Int)} {lo hi : Nat} (k0 : Int) (w : World) (h : OwM 2 22 w lo hi v d) (hk0 : 0 ≤ k0) (hk1 : k0 + lenSS d ≤ 1125899906842624) :
    Calls Try.prog 21 #[v, .int .i64 k0] w fun e w' => e = .returned (.int .i64 (k0 + lenSS d)) ∧ OwM 2 22 w' lo hi v (marksSS k0 d) ∧ Only lo hi w w' := by
  obtain ⟨ao, n, c, us, rfl, ho⟩ := h
  go_enter Try.func21, Try.ntmps21
  go_wp2_with fail
  have hb : Below w.heap.size w (w.alloc (.cells #[.slice ao n c] 31)) := (Below.refl _ _).alloc (Nat.le_refl _) _
  refine (law_markSS k0 _ ⟨ao, n, c, us, rfl, ho.below (innerS _) hb⟩ hk0 hk1).mono ?_
  rintro e w1 ⟨rfl, ⟨a2, n2, c2, us2, e2, o2⟩, q1⟩
  injection e2 with e3 e4 e5
  subst e3 e4 e5
  go_wp2
  go_ret
  refine ⟨rfl, ⟨_, _, _, us2, rfl, o2⟩, ⟨q1.os.trans hb.os, q1.tape.trans hb.tape, q1.output.trans hb.output, Nat.le_trans hb.size q1.size, fun g hg hd => (q1.block g (Nat.lt_of_lt_of_le hg hb.size) hd).trans (hb.block g hg)⟩⟩

set_option maxHeartbeats 400000 in
theorem law_heldM {v : Value} {d : List (List Int)} (k0 : Int) (w : World) (h : RdM w v (marksSS k0 d)) (hk0 : 0 ≤ k0) (hk1 : k0 + lenSS d ≤ 1125899906842624) :
    Calls Try.prog 22 #[v, .int .i64 k0] w fun e w' => e = .returned (.int .i64 (k0 + lenSS d)) ∧ Below w.heap.size w w' := by
  obtain ⟨ao, n, c, rfl, hi⟩ := h
  go_enter Try.func22, Try.ntmps22
  go_wp2_with fail
  have hb : Below w.heap.size w (w.alloc (.cells #[.slice ao n c] 31)) := (Below.refl _ _).alloc (Nat.le_refl _) _
  refine (law_heldSS k0 _ ⟨_, _, _, rfl, hi.below hb⟩ hk0 hk1).mono ?_
  rintro e w1 ⟨rfl, b1⟩
  have h2 : 0 ≤ k0 + (lenSS d : Int) := by omega
  go_wp2
  go_ret
  exact ⟨rfl, hb.trans (b1.mono hb.size)⟩
end Go.Proofs.Ytplmfanjbokckaa
