/- CoxeterPresentation, both. -/
import Derived.Test.Ytdkmihnpobobiaa12CoxC
namespace Go.Proofs.Ytdkmihnpobobiaa
open Go.RowKit

theorem isDiag_in {zs : List Int} (h : isDiag zs = true) : zs.length < 5 ∧ ∀ j, j < zs.length → 0 ≤ iget zs j ∧ iget zs j ≤ 32 := by
  unfold isDiag at h
  simp only [Bool.and_eq_true, List.all_eq_true, decide_eq_true_eq] at h
  refine ⟨h.2, fun j hj => ?_⟩
  have h1 := h.1 (iget zs j) (by rw [iget_lt hj]; exact List.getElem_mem hj)
  unfold isLabel at h1
  rcases Bool.or_eq_true _ _ ▸ h1 with h2 | h2
  · have : iget zs j = 0 := by simpa using h2
    omega
  · have := inB_true.1 h2
    omega

theorem lenSS_append (a b : List (List Int)) : lenSS (a ++ b) = lenSS a + lenSS b := by simp [lenSS]
theorem coxOne_size {zs : List Int} (hz : ∀ j, j < zs.length → 0 ≤ iget zs j ∧ iget zs j ≤ 32) (i j : Nat) (hj : j < zs.length + 1) : lenSS (coxOne zs i j) ≤ 64 := by
  unfold coxOne
  split
  · have h1 : (coxLab zs i j).toNat ≤ 32 := by
      unfold coxLab; split
      · have := hz i (by omega); omega
      · omega
    simp [lenSS, length_repL]; omega
  · simp [lenSS]
theorem coxRow_size {zs : List Int} (hz : ∀ j, j < zs.length → 0 ≤ iget zs j ∧ iget zs j ≤ 32) (i d : Nat) (hi : i + 1 + d ≤ zs.length + 1) : lenSS (coxRow zs i d) ≤ 64 * d := by
  induction d with
  | zero => simp [coxRow, lenSS]
  | succ d ih =>
    have h1 := coxOne_size hz i (i + 1 + d) (by omega)
    have h2 := ih (by omega)
    rw [coxRow, lenSS_append]; omega
theorem coxUp_size {zs : List Int} (hz : ∀ j, j < zs.length → 0 ≤ iget zs j ∧ iget zs j ≤ 32) (k : Nat) (hk : k ≤ zs.length + 1) : lenSS (coxUp zs (zs.length + 1) k) ≤ 64 * (zs.length + 1) * k := by
  induction k with
  | zero => simp [coxUp, lenSS]
  | succ k ih =>
    have h1 := coxRow_size hz k (zs.length + 1 - (k + 1)) (by omega)
    have h2 := ih (by omega)
    rw [coxUp, lenSS_append, Nat.mul_succ]; omega

theorem specIsB_any (ao : Option Addr) (n c : Nat) (zs : List Int) (w : World) (h : Ints w ao n zs) :
    Calls Try.prog 59 #[.slice ao n c] w fun e w' => e = .returned (.bool (isDiag zs)) ∧ Below w.heap.size w w' :=
  (spec12Is_any ao n c zs w h).mono (by rintro e w' ⟨rfl, rfl⟩; exact ⟨rfl, Below.refl _ _⟩)

def coxR (zs : List Int) : PresD := if isDiag zs = true then coxPres zs else (0, [])
def coxC (zs : List Int) : Int := if isDiag zs = true then 0 else 1
theorem coxR_small (zs : List Int) : (coxR zs).2.length + lenSS (coxR zs).2 ≤ 4000 := by
  unfold coxR
  split
  · rename_i h
    obtain ⟨h1, h2⟩ := isDiag_in h
    have h3 := coxUp_size h2 (zs.length + 1) (Nat.le_refl _)
    have h4 := coxUp_len zs (zs.length + 1) (zs.length + 1)
    have h5 : 64 * (zs.length + 1) * (zs.length + 1) ≤ 64 * 5 * 5 := Nat.mul_le_mul (by omega) (by omega)
    have h6 : (zs.length + 1) * (zs.length + 1) ≤ 5 * 5 := Nat.mul_le_mul (by omega) (by omega)
    unfold coxPres
    show (coxUp zs (zs.length + 1) (zs.length + 1)).length + lenSS (coxUp zs (zs.length + 1) (zs.length + 1)) ≤ 4000
    omega
  · simp [lenSS]

set_option maxHeartbeats 400000 in
theorem api_specCox (ao : Option Addr) (n c : Nat) (zs : List Int) (w : World) (h : Ints w ao n zs) :
    Calls Try.prog 14 #[.slice ao n c] w fun e w' => ∃ v, e = .returned (.tuple #[v, .int .i64 (coxC zs)]) ∧ OwP 2 22 w' w.heap.size w'.heap.size v (coxR zs) ∧ Below w.heap.size w w' := by
  have hb := below_alloc1 w (.cells #[.int .i64 0, .slice none 0 0] 25)
  have kb : Blk (w.alloc (.cells #[.int .i64 0, .slice none 0 0] 25)) w.heap.size 25 #[.int .i64 0, .slice none 0 0] := blk_at rfl
  have hi := h.below hb
  cases hp : isDiag zs with
  | true =>
    obtain ⟨hd1, hd2⟩ := isDiag_in hp
    rw [h.1] at hd1 hd2
    have hR : coxR zs = coxPres zs := by unfold coxR; rw [if_pos hp]
    have hC : coxC zs = 0 := by unfold coxC; rw [if_pos hp]
    have HX := Lib.hid hp
    rw [hR, hC]
    clear hp hR hC
    go_enter Try.func14, Try.ntmps14
    go_wp2_with fail
    refine (specIsB_any ao n c zs _ hi).mono ?_
    rintro e w1 ⟨rfl, b1⟩
    rw [HX.out]
    have k0 := kb.belowS b1
    have B1 := below_tr b1 hb
    have hi1 := hi.below b1
    have HZ := Lib.hid hb.size
    clear kb hb b1 hi h
    go_wp2_with fail
    refine (specCox_any ao n c zs _ hi1 hd2 hd1).mono ?_
    rintro e w2 ⟨v1, rfl, ⟨a1, n1, c1, us, rfl, o1⟩, b1⟩
    have k1 := k0.belowS b1
    have c0 : w2.cell? ⟨w.heap.size, 0, none⟩ = some (.int .i64 0) := k1.cell 0
    have c1' : w2.cell? ⟨w.heap.size, 1, none⟩ = some (.slice none 0 0) := k1.cell 1
    have f0 := k1.frozen 0
    have f1 := k1.frozen 1
    go_wp2
    have hlt := k0.lt
    have k2 := (k1.set_ 0 (.int .i64 (coxPres zs).1)).set_ 1 (.slice a1 n1 c1)
    have z2 : w2.heap.size = ((w2.setCell ⟨w.heap.size, 0, none⟩ (.int .i64 (coxPres zs).1)).setCell ⟨w.heap.size, 1, none⟩ (.slice a1 n1 c1)).heap.size := by simp [World.setCell]
    have o2 := o1.same (innerS _) (w' := (w2.setCell ⟨w.heap.size, 0, none⟩ (.int .i64 (coxPres zs).1)).setCell ⟨w.heap.size, 1, none⟩ (.slice a1 n1 c1)) (fun g h1 _ _ => by rw [Below.heap_setCell _ _ _ _ (by simp at h1 ⊢; omega), Below.heap_setCell _ _ _ _ (by simp at h1 ⊢; omega)])
    have b2 := ((below_tr b1 B1).setCell (p := ⟨w.heap.size, 0, none⟩) (Nat.le_refl _) (.int .i64 (coxPres zs).1)).setCell (p := ⟨w.heap.size, 1, none⟩) (Nat.le_refl _) (.slice a1 n1 c1)
    generalize (w2.setCell ⟨w.heap.size, 0, none⟩ (.int .i64 (coxPres zs).1)).setCell ⟨w.heap.size, 1, none⟩ (.slice a1 n1 c1) = w3 at *
    have e0 := k2.cell 0
    have e1 := k2.cell 1
    simp at e0 e1
    exact bodyPost_ret (v := .tuple #[.agg #[.int .i64 (coxPres zs).1, .slice a1 n1 c1], .int .i64 0]) (by simp [results, Try.f14, go_sem, e0, e1]) rfl ⟨_, rfl, ⟨_, _, _, us, rfl, o2.mono (by omega) (by omega)⟩, b2⟩
  | false =>
    have hR : coxR zs = (0, []) := by unfold coxR; rw [if_neg (by simp [hp])]
    have hC : coxC zs = 1 := by unfold coxC; rw [if_neg (by simp [hp])]
    have HX := Lib.hid hp
    rw [hR, hC]
    clear hp hR hC
    go_enter Try.func14, Try.ntmps14
    go_wp2_with fail
    refine (specIsB_any ao n c zs _ hi).mono ?_
    rintro e w1 ⟨rfl, b1⟩
    rw [HX.out]
    have k0 := kb.belowS b1
    have B1 := below_tr b1 hb
    have c0 : w1.cell? ⟨w.heap.size, 0, none⟩ = some (.int .i64 0) := k0.cell 0
    have c1' : w1.cell? ⟨w.heap.size, 1, none⟩ = some (.slice none 0 0) := k0.cell 1
    have f0 := k0.frozen 0
    have f1 := k0.frozen 1
    clear kb hb b1 hi h
    go_wp2
    have k2 := (k0.set_ 0 (.int .i64 0)).set_ 1 (.slice none 0 0)
    have b2 := (B1.setCell (p := ⟨w.heap.size, 0, none⟩) (Nat.le_refl _) (.int .i64 0)).setCell (p := ⟨w.heap.size, 1, none⟩) (Nat.le_refl _) (.slice none 0 0)
    generalize (w1.setCell ⟨w.heap.size, 0, none⟩ (.int .i64 0)).setCell ⟨w.heap.size, 1, none⟩ (.slice none 0 0) = w3 at *
    have e0 := k2.cell 0
    have e1 := k2.cell 1
    simp at e0 e1
    exact bodyPost_ret (v := .tuple #[.agg #[.int .i64 0, .slice none 0 0], .int .i64 1]) (by simp [results, Try.f14, go_sem, e0, e1]) rfl ⟨_, rfl, ⟨_, _, _, [], rfl, OwR.empty_ (Own.nil_ _ _ _) (by simp [bk])⟩, b2⟩

set_option maxHeartbeats 400000 in
theorem api_implCox (ao : Option Addr) (n c : Nat) (zs : List Int) (w : World) (h : Ints w ao n zs) :
    Calls Try.prog 16 #[.slice ao n c] w fun e w' => ∃ v, e = .returned (.tuple #[v, .int .i64 (coxC zs)]) ∧ OwP 2 22 w' w.heap.size w'.heap.size v (coxR zs) ∧ Below w.heap.size w w' := by
  have hb := below_alloc1 w (.cells #[.int .i64 0, .slice none 0 0] 25)
  have kb : Blk (w.alloc (.cells #[.int .i64 0, .slice none 0 0] 25)) w.heap.size 25 #[.int .i64 0, .slice none 0 0] := blk_at rfl
  have hi := h.below hb
  cases hp : isDiag zs with
  | true =>
    obtain ⟨hd1, hd2⟩ := isDiag_in hp
    rw [h.1] at hd1 hd2
    have hR : coxR zs = coxPres zs := by unfold coxR; rw [if_pos hp]
    have hC : coxC zs = 0 := by unfold coxC; rw [if_pos hp]
    have HX := Lib.hid hp
    rw [hR, hC]
    clear hp hR hC
    go_enter Try.func16, Try.ntmps16
    go_wp2_with fail
    refine (isDiagramImpl_any ao n c zs _ hi).mono ?_
    rintro e w1 ⟨rfl, b1⟩
    rw [HX.out]
    have k0 := kb.belowS b1
    have B1 := below_tr b1 hb
    have hi1 := hi.below b1
    have HZ := Lib.hid hb.size
    clear kb hb b1 hi h
    go_wp2_with fail
    refine (implCox_any ao n c zs _ hi1 hd2 hd1).mono ?_
    rintro e w2 ⟨v1, rfl, ⟨a1, n1, c1, us, rfl, o1⟩, b1⟩
    have k1 := k0.belowS b1
    have c0 : w2.cell? ⟨w.heap.size, 0, none⟩ = some (.int .i64 0) := k1.cell 0
    have c1' : w2.cell? ⟨w.heap.size, 1, none⟩ = some (.slice none 0 0) := k1.cell 1
    have f0 := k1.frozen 0
    have f1 := k1.frozen 1
    go_wp2
    have hlt := k0.lt
    have k2 := (k1.set_ 0 (.int .i64 (coxPres zs).1)).set_ 1 (.slice a1 n1 c1)
    have z2 : w2.heap.size = ((w2.setCell ⟨w.heap.size, 0, none⟩ (.int .i64 (coxPres zs).1)).setCell ⟨w.heap.size, 1, none⟩ (.slice a1 n1 c1)).heap.size := by simp [World.setCell]
    have o2 := o1.same (innerS _) (w' := (w2.setCell ⟨w.heap.size, 0, none⟩ (.int .i64 (coxPres zs).1)).setCell ⟨w.heap.size, 1, none⟩ (.slice a1 n1 c1)) (fun g h1 _ _ => by rw [Below.heap_setCell _ _ _ _ (by simp at h1 ⊢; omega), Below.heap_setCell _ _ _ _ (by simp at h1 ⊢; omega)])
    have b2 := ((below_tr b1 B1).setCell (p := ⟨w.heap.size, 0, none⟩) (Nat.le_refl _) (.int .i64 (coxPres zs).1)).setCell (p := ⟨w.heap.size, 1, none⟩) (Nat.le_refl _) (.slice a1 n1 c1)
    generalize (w2.setCell ⟨w.heap.size, 0, none⟩ (.int .i64 (coxPres zs).1)).setCell ⟨w.heap.size, 1, none⟩ (.slice a1 n1 c1) = w3 at *
    have e0 := k2.cell 0
    have e1 := k2.cell 1
    simp at e0 e1
    exact bodyPost_ret (v := .tuple #[.agg #[.int .i64 (coxPres zs).1, .slice a1 n1 c1], .int .i64 0]) (by simp [results, Try.f16, go_sem, e0, e1]) rfl ⟨_, rfl, ⟨_, _, _, us, rfl, o2.mono (by omega) (by omega)⟩, b2⟩
  | false =>
    have hR : coxR zs = (0, []) := by unfold coxR; rw [if_neg (by simp [hp])]
    have hC : coxC zs = 1 := by unfold coxC; rw [if_neg (by simp [hp])]
    have HX := Lib.hid hp
    rw [hR, hC]
    clear hp hR hC
    go_enter Try.func16, Try.ntmps16
    go_wp2_with fail
    refine (isDiagramImpl_any ao n c zs _ hi).mono ?_
    rintro e w1 ⟨rfl, b1⟩
    rw [HX.out]
    have k0 := kb.belowS b1
    have B1 := below_tr b1 hb
    have c0 : w1.cell? ⟨w.heap.size, 0, none⟩ = some (.int .i64 0) := k0.cell 0
    have c1' : w1.cell? ⟨w.heap.size, 1, none⟩ = some (.slice none 0 0) := k0.cell 1
    have f0 := k0.frozen 0
    have f1 := k0.frozen 1
    clear kb hb b1 hi h
    go_wp2
    have k2 := (k0.set_ 0 (.int .i64 0)).set_ 1 (.slice none 0 0)
    have b2 := (B1.setCell (p := ⟨w.heap.size, 0, none⟩) (Nat.le_refl _) (.int .i64 0)).setCell (p := ⟨w.heap.size, 1, none⟩) (Nat.le_refl _) (.slice none 0 0)
    generalize (w1.setCell ⟨w.heap.size, 0, none⟩ (.int .i64 0)).setCell ⟨w.heap.size, 1, none⟩ (.slice none 0 0) = w3 at *
    have e0 := k2.cell 0
    have e1 := k2.cell 1
    simp at e0 e1
    exact bodyPost_ret (v := .tuple #[.agg #[.int .i64 0, .slice none 0 0], .int .i64 1]) (by simp [results, Try.f16, go_sem, e0, e1]) rfl ⟨_, rfl, ⟨_, _, _, [], rfl, OwR.empty_ (Own.nil_ _ _ _) (by simp [bk])⟩, b2⟩

theorem api_specCoxeter {v : Value} {zs : List Int} (w : World) (h : RdS w v zs) :
    Calls Try.prog 14 #[v] w fun e w' => ∃ v, e = .returned (.tuple #[v, .int .i64 (coxC zs)]) ∧ OwP 2 22 w' w.heap.size w'.heap.size v (coxR zs) ∧ Below w.heap.size w w' := by
  obtain ⟨ao, n, c, rfl, hi⟩ := h
  exact api_specCox ao n c zs w hi
theorem api_implCoxeter {v : Value} {zs : List Int} (w : World) (h : RdS w v zs) :
    Calls Try.prog 16 #[v] w fun e w' => ∃ v, e = .returned (.tuple #[v, .int .i64 (coxC zs)]) ∧ OwP 2 22 w' w.heap.size w'.heap.size v (coxR zs) ∧ Below w.heap.size w w' := by
  obtain ⟨ao, n, c, rfl, hi⟩ := h
  exact api_implCox ao n c zs w hi
end Go.Proofs.Ytdkmihnpobobiaa
