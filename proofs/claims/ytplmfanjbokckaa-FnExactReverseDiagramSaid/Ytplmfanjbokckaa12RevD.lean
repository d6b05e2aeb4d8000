/- ReverseDiagram, the program's and the reference's. -/
import Derived.Test.YtplmfanjbokckaaReverse
namespace Go.Proofs.Ytplmfanjbokckaa
open Go.RowKit

def revR (zs : List Int) : List Int := if isDiag zs = true then turned zs else []
def revC (zs : List Int) : Int := if isDiag zs = true then 0 else 1

set_option maxHeartbeats 400000 in
theorem specReverse_any (ao : Option Addr) (n c : Nat) (zs : List Int) (w : World) (h : Ints w ao n zs) (hn : n ≤ 1048576) :
    Calls Try.prog 14 #[.slice ao n c] w fun e w' => ∃ ao' n' c', e = .returned (.tuple #[.slice ao' n' c', .int .i64 (revC zs)]) ∧ Own w' w.heap.size 2 ao' n' c' ((revR zs).map (Value.int .i64)) ∧ Below w.heap.size w w' := by
  cases hd : isDiag zs with
  | true =>
    have hR : revR zs = turned zs := by simp [revR, hd]
    have hC : revC zs = 0 := by simp [revC, hd]
    have HD := Lib.hid hd
    rw [hR, hC]
    clear hd hR hC
    go_enter Try.func14, Try.ntmps14
    go_wp2_with (go_at_call 28; refine (spec12Is_any _ _ _ zs _ h).mono ?_; rintro e w' ⟨rfl, rfl⟩; rw [HD.out])
    refine (spec12Turned_any _ _ _ zs _ h hn).mono ?_
    rintro e w1 ⟨ao', c', rfl, ho, hb⟩
    go_wp2
    go_ret2
    exact ⟨_, _, _, rfl, ho, hb⟩
  | false =>
    have hR : revR zs = [] := by simp [revR, hd]
    have hC : revC zs = 1 := by simp [revC, hd]
    have HD := Lib.hid hd
    rw [hR, hC]
    clear hd hR hC
    go_enter Try.func14, Try.ntmps14
    go_wp2_with (go_at_call 28; refine (spec12Is_any _ _ _ zs _ h).mono ?_; rintro e w' ⟨rfl, rfl⟩; rw [HD.out])
    go_ret2
    exact ⟨_, _, _, rfl, Own.nil_ _ _ _, Below.refl _ _⟩

set_option maxHeartbeats 400000 in
theorem implReverse_any (ao : Option Addr) (n c : Nat) (zs : List Int) (w : World) (h : Ints w ao n zs) (hn : n ≤ 1048576) :
    Calls Try.prog 15 #[.slice ao n c] w fun e w' => ∃ ao' n' c', e = .returned (.tuple #[.slice ao' n' c', .int .i64 (revC zs)]) ∧ Own w' w.heap.size 2 ao' n' c' ((revR zs).map (Value.int .i64)) ∧ Below w.heap.size w w' := by
  cases hd : isDiag zs with
  | true =>
    have hR : revR zs = turned zs := by simp [revR, hd]
    have hC : revC zs = 0 := by simp [revC, hd]
    have HD := Lib.hid hd
    rw [hR, hC]
    clear hd hR hC
    go_enter Try.func15, Try.ntmps15
    go_wp2_with fail
    refine (isDiagramImpl_any _ _ _ zs _ h).mono ?_
    rintro e w1 ⟨rfl, b1⟩
    rw [HD.out]
    go_wp2_with fail
    refine (clone_any _ _ _ zs _ (h.below b1) hn).mono ?_
    rintro e w2 ⟨ao', c', rfl, ho, b2⟩
    go_wp2_with fail
    have hlt := ho.lt
    refine (reverse_any _ _ _ zs _ w1.heap.size ho).mono ?_
    rintro e w3 ⟨rfl, ho3, hg⟩
    go_wp2
    go_ret2
    exact ⟨_, _, _, rfl, ho3.mono b1.size, (b1.trans (b2.mono b1.size)).grown hg (b1.trans (b2.mono b1.size)).size (fun g hg' => Nat.le_trans b1.size (hlt g hg').1)⟩
  | false =>
    have hR : revR zs = [] := by simp [revR, hd]
    have hC : revC zs = 1 := by simp [revC, hd]
    have HD := Lib.hid hd
    rw [hR, hC]
    clear hd hR hC
    go_enter Try.func15, Try.ntmps15
    go_wp2_with fail
    refine (isDiagramImpl_any _ _ _ zs _ h).mono ?_
    rintro e w1 ⟨rfl, b1⟩
    rw [HD.out]
    go_wp2
    go_ret2
    exact ⟨_, _, _, rfl, Own.nil_ _ _ _, b1⟩

theorem api_specReverse {v : Value} {zs : List Int} (w : World) (h : RdS w v zs) (hn : zs.length ≤ 1048576) :
    Calls Try.prog 14 #[v] w fun e w' => ∃ v', e = .returned (.tuple #[v', .int .i64 (revC zs)]) ∧ OwnS 2 w' w.heap.size w'.heap.size v' (revR zs) ∧ Below w.heap.size w w' := by
  obtain ⟨ao, n, c, rfl, hi⟩ := h
  refine (specReverse_any ao n c zs w hi (by rw [← hi.1]; exact hn)).mono ?_
  rintro e w' ⟨a', n', c', rfl, ho, hb⟩
  exact ⟨_, rfl, OwnS.of ho, hb⟩
theorem api_implReverse {v : Value} {zs : List Int} (w : World) (h : RdS w v zs) (hn : zs.length ≤ 1048576) :
    Calls Try.prog 15 #[v] w fun e w' => ∃ v', e = .returned (.tuple #[v', .int .i64 (revC zs)]) ∧ OwnS 2 w' w.heap.size w'.heap.size v' (revR zs) ∧ Below w.heap.size w w' := by
  obtain ⟨ao, n, c, rfl, hi⟩ := h
  refine (implReverse_any ao n c zs w hi (by rw [← hi.1]; exact hn)).mono ?_
  rintro e w' ⟨a', n', c', rfl, ho, hb⟩
  exact ⟨_, rfl, OwnS.of ho, hb⟩
end Go.Proofs.Ytplmfanjbokckaa
