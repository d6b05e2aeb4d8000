/- The laws' helpers on presentations: the copy, the size, the comparison. -/
import Derived.Test.YtdkmihnpobobiaaLawSS
namespace Go.Proofs.Ytdkmihnpobobiaa
open Go.RowKit

set_option maxHeartbeats 400000 in
theorem law_toP {v : Value} {d : PresD} (w : World) (h : RdP w v d) (hn : d.2.length + lenSS d.2 ≤ 1048576) :
    Calls Try.prog 30 #[v] w fun e w' => ∃ v', e = .returned v' ∧ OwP 2 22 w' w.heap.size w'.heap.size v' d ∧ Below w.heap.size w w' := by
  obtain ⟨ao, n, c, rfl, hi⟩ := h
  go_enter Try.func30, Try.ntmps30
  go_wp2_with fail
  have hb := below_alloc3 w (.cells #[.int .i64 d.1, .slice ao n c] 41) (.cells #[.int .i64 0, .slice none 0 0] 25) (.cells #[.int .i64 d.1, .slice none 0 0] 25)
  have k0 : Blk (((w.alloc (.cells #[.int .i64 d.1, .slice ao n c] 41)).alloc (.cells #[.int .i64 0, .slice none 0 0] 25)).alloc (.cells #[.int .i64 d.1, .slice none 0 0] 25)) (w.heap.size + 1) 25 #[.int .i64 0, .slice none 0 0] := (blk_at (by simp)).alloc _
  have k1 : Blk (((w.alloc (.cells #[.int .i64 d.1, .slice ao n c] 41)).alloc (.cells #[.int .i64 0, .slice none 0 0] 25)).alloc (.cells #[.int .i64 d.1, .slice none 0 0] 25)) (w.heap.size + 1 + 1) 25 #[.int .i64 d.1, .slice none 0 0] := blk_at (by simp)
  have hz : (((w.alloc (.cells #[.int .i64 d.1, .slice ao n c] 41)).alloc (.cells #[.int .i64 0, .slice none 0 0] 25)).alloc (.cells #[.int .i64 d.1, .slice none 0 0] 25)).heap.size = w.heap.size + 1 + 1 + 1 := by simp
  refine (law_toSS _ ⟨ao, n, c, rfl, hi.below hb⟩ hn).mono ?_
  generalize (((w.alloc (.cells #[.int .i64 d.1, .slice ao n c] 41)).alloc (.cells #[.int .i64 0, .slice none 0 0] 25)).alloc (.cells #[.int .i64 d.1, .slice none 0 0] 25)) = W at *
  rintro e w1 ⟨u1, rfl, ⟨a2, n2, c2, us, rfl, o1⟩, b1⟩
  have k2 := k0.belowS b1
  have k3 := k1.belowS b1
  have c0 := k2.cell 0
  have c1 := k2.cell 1
  have c3 := k3.cell 0
  have c4 := k3.cell 1
  have f0 := k2.frozen 0
  have f1 := k2.frozen 1
  have f3 := k3.frozen 1
  have hs1 := b1.size
  have HZ := Lib.hid hz
  clear hz
  simp at c0 c1 c3 c4
  go_wp2
  have kf := (((k2.far (p := ⟨w.heap.size + 1 + 1, 1, none⟩) (by simp) (.slice a2 n2 c2)).set_ 0 (.int .i64 d.1)).set_ 1 (.slice a2 n2 c2))
  have bf : Below W.heap.size w1 w1 := Below.refl _ _
  have of := (o1.below (innerS _) (Below.refl _ _)).same (innerS _) (w' := ((w1.setCell ⟨w.heap.size + 1 + 1, 1, none⟩ (.slice a2 n2 c2)).setCell ⟨w.heap.size + 1, 0, none⟩ (.int .i64 d.1)).setCell ⟨w.heap.size + 1, 1, none⟩ (.slice a2 n2 c2))
    (fun g h1 _ _ => by have := HZ.out; rw [Below.heap_setCell _ _ _ _ (by simp; omega), Below.heap_setCell _ _ _ _ (by simp; omega), Below.heap_setCell _ _ _ _ (by simp; omega)])
  have bb : Below w.heap.size w (((w1.setCell ⟨w.heap.size + 1 + 1, 1, none⟩ (.slice a2 n2 c2)).setCell ⟨w.heap.size + 1, 0, none⟩ (.int .i64 d.1)).setCell ⟨w.heap.size + 1, 1, none⟩ (.slice a2 n2 c2)) :=
    (((hb.trans (b1.mono hb.size)).setCell (p := ⟨w.heap.size + 1 + 1, 1, none⟩) (by simp; omega) _).setCell (p := ⟨w.heap.size + 1, 0, none⟩) (by simp) _).setCell (p := ⟨w.heap.size + 1, 1, none⟩) (by simp) _
  have hzf : w1.heap.size = (((w1.setCell ⟨w.heap.size + 1 + 1, 1, none⟩ (.slice a2 n2 c2)).setCell ⟨w.heap.size + 1, 0, none⟩ (.int .i64 d.1)).setCell ⟨w.heap.size + 1, 1, none⟩ (.slice a2 n2 c2)).heap.size := by simp [World.setCell]
  generalize (((w1.setCell ⟨w.heap.size + 1 + 1, 1, none⟩ (.slice a2 n2 c2)).setCell ⟨w.heap.size + 1, 0, none⟩ (.int .i64 d.1)).setCell ⟨w.heap.size + 1, 1, none⟩ (.slice a2 n2 c2)) = wf at *
  have e0 := kf.cell 0
  have e1 := kf.cell 1
  simp at e0 e1
  refine bodyPost_ret (v := .agg #[.int .i64 d.1, .slice a2 n2 c2]) (by simp [results, Try.f30, go_sem, e0, e1]) rfl ⟨_, rfl, ⟨a2, n2, c2, us, rfl, ?_⟩, bb⟩
  exact of.mono hb.size (by omega)

set_option maxHeartbeats 400000 in
theorem law_szP {v : Value} {d : PresD} (left : Int) (w : World) (h : RdP w v d) (h0 : 0 ≤ left) (h1 : left ≤ 1048576) :
    Calls Try.prog 27 #[v, .int .i64 left] w fun e w' => e = .returned (.int .i64 (budget left d.2)) ∧ Below w.heap.size w w' := by
  obtain ⟨ao, n, c, rfl, hi⟩ := h
  have hb := below_alloc1 w (.cells #[.int .i64 d.1, .slice ao n c] 41)
  by_cases hx : budget left d.2 < 0
  · go_enter Try.func27, Try.ntmps27
    go_wp2_with fail
    refine (law_szSS left _ ⟨ao, n, c, rfl, hi.below hb⟩ h0 h1).mono ?_
    rintro e w1 ⟨rfl, rfl⟩
    go_wp2
    go_ret
    exact ⟨ret_int (by unfold budget at hx ⊢; split at hx; omega; rw [if_neg (by omega)]), hb⟩
  · go_enter Try.func27, Try.ntmps27
    go_wp2_with fail
    refine (law_szSS left _ ⟨ao, n, c, rfl, hi.below hb⟩ h0 h1).mono ?_
    rintro e w1 ⟨rfl, rfl⟩
    go_wp2
    go_ret
    exact ⟨rfl, hb⟩

set_option maxHeartbeats 400000 in
theorem law_eqP {v v' : Value} {d : PresD} (w : World) (h : RdP w v d) (h' : RdP w v' d) :
    Calls Try.prog 17 #[v, v'] w fun e w' => e = .returned (.bool true) ∧ Below w.heap.size w w' := by
  obtain ⟨ao, n, c, rfl, hi⟩ := h
  obtain ⟨ao', n', c', rfl, hi'⟩ := h'
  have hl' : (d.1 != d.1) = false := by simp
  have hb := below_alloc2 w (.cells #[.int .i64 d.1, .slice ao n c] 25) (.cells #[.int .i64 d.1, .slice ao' n' c'] 25)
  go_enter Try.func17, Try.ntmps17
  go_wp2_with fail
  refine (law_eqSS _ ⟨_, _, _, rfl, hi.below hb⟩ ⟨_, _, _, rfl, hi'.below hb⟩).mono ?_
  rintro e w1 ⟨rfl, b1⟩
  go_wp2
  go_ret
  exact ⟨rfl, hb.trans (b1.mono hb.size)⟩
theorem law_usP {v : Value} {d : PresD} (left : Int) (w : World) (h : RdP w v d) (h0 : 0 ≤ left) (h1 : left ≤ 1048576) :
    Calls Try.prog 27 #[v, .int .i64 left] w fun e w' => e = .returned (.int .i64 (budget1 left (d.2.length + lenSS d.2))) ∧ Below w.heap.size w w' := by
  refine (law_szP left w h h0 h1).mono ?_
  rintro e w' ⟨rfl, hb⟩
  exact ⟨ret_int (budget_is _ _), hb⟩
end Go.Proofs.Ytdkmihnpobobiaa
