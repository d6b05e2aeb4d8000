/- PolygonOf: the flags of a polygon, by the reference and by the program. -/
import Derived.Test.YtplmfanjbokckaaLawSS
import Derived.Test.YtplmfanjbokckaaFind
import Derived.RegionTactic
import Derived.Deep.DeepCutAuto
namespace Go.Proofs.Ytplmfanjbokckaa
open Go.RowKit

/-- the two moves of a polygon with n flags -/
def polyA (f : Nat) : Int := if f % 2 = 0 then (f : Int) + 1 else (f : Int) - 1
def polyB (n f : Nat) : Int := if f % 2 = 0 then ((f : Int) + n - 1) % n else ((f : Int) + 1) % n
def polyL (g : Nat → Int) (n : Nat) : List Int := (List.range n).map g
theorem polyL_succ (g : Nat → Int) (n : Nat) : polyL g (n + 1) = polyL g n ++ [g n] := by simp [polyL, List.range_succ]
theorem length_polyL (g : Nat → Int) (n : Nat) : (polyL g n).length = n := by simp [polyL]

set_option maxHeartbeats 800000 in
theorem specPolygon_any (m : Nat) (w : World) (h1 : 1 ≤ m) (h2 : m ≤ 200) :
    Calls Try.prog 36 #[.int .i64 m] w fun e w' => ∃ v, e = .returned v ∧ OwM 2 22 w' w.heap.size w'.heap.size v [polyL polyA (2 * m), polyL (polyB (2 * m)) (2 * m)] ∧ Below w.heap.size w w' := by
  have hmk := run_mk etI .i64 .i64 (2 * (m : Int)) (2 * m) (by omega) (by omega)
  have HMK := Lib.hid hmk
  clear hmk
  go_enter Try.func36, Try.ntmps36
  go_upto_region 2 with fail
  go_cut [4, 5] (fun s4 s5 wx => ∃ g1 g2 : Nat, s4 = .slice (some ⟨g1, 0, none⟩) (2 * m) (2 * m) ∧ s5 = .slice (some ⟨g2, 0, none⟩) (2 * m) (2 * m) ∧ g1 ≠ g2 ∧ Own wx (w.heap.size + 1) 2 (some ⟨g1, 0, none⟩) (2 * m) (2 * m) (List.replicate (2 * m) (.int .i64 0)) ∧ Own wx (w.heap.size + 1) 2 (some ⟨g2, 0, none⟩) (2 * m) (2 * m) (List.replicate (2 * m) (.int .i64 0)) ∧ Blk wx w.heap.size 31 #[.slice none 0 0] ∧ Below w.heap.size w wx)
  case first =>
    have hmk := HMK.out
    go_region
    all_goals go_wp2_with fail
    all_goals go_meet
    · have o1 := own_made etI (w := w.alloc (.cells #[.slice none 0 0] 31)) (base := w.heap.size + 1) (n := 2 * m) (g := w.heap.size + 1) (by simp) (by omega) (by simp)
      have o2 := own_made etI (w := (w.alloc (.cells #[.slice none 0 0] 31)).alloc (.cells (madeCells #[.int .i64 0] (2 * m)) 2)) (base := w.heap.size + 1) (n := 2 * m) (g := w.heap.size + 1 + 1) (by simp) (by omega) (by simp)
      exact ⟨_, _, rfl, rfl, by omega, o1.alloc _, o2, ((blk_at rfl).alloc _).alloc _, (below_alloc3 w _ _ _).drew⟩
    · have o1 := own_made etI (w := w.alloc (.cells #[.slice none 0 0] 31)) (base := w.heap.size + 1) (n := 2 * m) (g := w.heap.size + 1) (by simp) (by omega) (by simp)
      have o2 := own_made etI (w := (w.alloc (.cells #[.slice none 0 0] 31)).alloc (.cells (madeCells #[.int .i64 0] (2 * m)) 2)) (base := w.heap.size + 1) (n := 2 * m) (g := w.heap.size + 1 + 1) (by simp) (by omega) (by simp)
      exact ⟨_, _, rfl, rfl, by omega, o2, o1.alloc _, ((blk_at rfl).alloc _).alloc _, (below_alloc3 w _ _ _).drew⟩
  case rest =>
    obtain ⟨g1, g2, rfl, rfl, hne, o1, o2, kb, hb⟩ := hcut
    clear HMK
    go_wp2
    go_loopw [6] (fun i wr => ∃ k : Nat, k ≤ 2 * m ∧ i = .int .i64 k ∧ Own wr (w.heap.size + 1) 2 (some ⟨g1, 0, none⟩) (2 * m) (2 * m) ((polyL polyA k ++ List.replicate (2 * m - k) 0).map (Value.int .i64)) ∧ Own wr (w.heap.size + 1) 2 (some ⟨g2, 0, none⟩) (2 * m) (2 * m) ((polyL (polyB (2 * m)) k ++ List.replicate (2 * m - k) 0).map (Value.int .i64)) ∧ Blk wr w.heap.size 31 #[.slice none 0 0] ∧ Below w.heap.size w wr) (fun i _ => 2 * m - (intOf i).toNat)
    case atStart => exact ⟨0, by omega, rfl, by simpa [polyL] using o1, by simpa [polyL] using o2, kb, hb⟩
    case round =>
      obtain ⟨k, hk, rfl, p1, p2, kb', hb'⟩ := hrel
      clear o1 o2 kb hb
      have hg1 := (p1.lt g1 rfl)
      have hg2 := (p2.lt g2 rfl)
      by_cases hlt : k < 2 * m
      · have hc1 : wr.cell? ⟨g1, k, none⟩ = some (.int .i64 0) := by
          obtain ⟨g', e, -, -, -, hc, -⟩ := p1.form (by omega)
          injection e with e; injection e with e; subst e
          rw [hc k hlt]; exact get_pad (length_polyL _ _) hlt
        have hc2 : wr.cell? ⟨g2, k, none⟩ = some (.int .i64 0) := by
          obtain ⟨g', e, -, -, -, hc, -⟩ := p2.form (by omega)
          injection e with e; injection e with e; subst e
          rw [hc k hlt]; exact get_pad (length_polyL _ _) hlt
        have hf1 := p1.1.frozenAt k
        have hf2 := p2.1.frozenAt k
        have st : ∀ x y : Int, x = polyA k → y = polyB (2 * m) k → (∃ wn, wn = (wr.setCell ⟨g1, k, none⟩ (.int .i64 x)).setCell ⟨g2, k, none⟩ (.int .i64 y) ∧ Own wn (w.heap.size + 1) 2 (some ⟨g1, 0, none⟩) (2 * m) (2 * m) ((polyL polyA (k + 1) ++ List.replicate (2 * m - (k + 1)) 0).map (Value.int .i64)) ∧ Own wn (w.heap.size + 1) 2 (some ⟨g2, 0, none⟩) (2 * m) (2 * m) ((polyL (polyB (2 * m)) (k + 1) ++ List.replicate (2 * m - (k + 1)) 0).map (Value.int .i64)) ∧ Blk wn w.heap.size 31 #[.slice none 0 0] ∧ Below w.heap.size w wn) := by
          rintro x y rfl rfl
          obtain ⟨s1, t1⟩ := p1.stored k (.int .i64 (polyA k))
          have p2' := p2.kept t1 (.inr (by simp [bk]; omega))
          obtain ⟨s2, t2⟩ := p2'.stored k (.int .i64 (polyB (2 * m) k))
          have s1' := s1.kept t2 (.inr (by simp [bk]; omega))
          rw [← List.map_set, set_pad (length_polyL _ _) hlt, ← polyL_succ] at s1' s2
          exact ⟨_, rfl, s1', s2, (kb'.far (by simp; omega) _).far (by simp; omega) _, (hb'.setCell (by simp; omega) _).setCell (by simp; omega) _⟩
        have ST := Lib.hid st
        clear st p1 p2 kb' hb'
        by_cases hev : k % 2 = 0
        · have e1 : ((k : Int) % 2 == 0) = true := by simp; omega
          have hA : (k : Int) + 1 = polyA k := by unfold polyA; rw [if_pos hev]
          have hB : ((k : Int) + 2 * m - 1) % (2 * m) = polyB (2 * m) k := by unfold polyB; rw [if_pos hev]; congr 1 <;> omega
          obtain ⟨wn, hwn, q1, q2, q3, q4⟩ := ST.out _ _ hA hB
          have HW := Lib.hid hwn
          have hdv : 0 ≤ (k : Int) + 2 * m - 1 := by omega
          clear ST hA hB hwn hev
          go_wp2
          go_roundw
          case rel => exact ⟨k + 1, by omega, by go_num, by rw [← HW.out]; exact q1, by rw [← HW.out]; exact q2, by rw [← HW.out]; exact q3, by rw [← HW.out]; exact q4⟩
          case measure => simp [intOf]; omega
        · have e1 : ((k : Int) % 2 == 0) = false := by simp; omega
          have hA : (k : Int) - 1 = polyA k := by unfold polyA; rw [if_neg hev]
          have hB : ((k : Int) + 1) % (2 * m) = polyB (2 * m) k := by unfold polyB; rw [if_neg hev]; congr 1
          obtain ⟨wn, hwn, q1, q2, q3, q4⟩ := ST.out _ _ hA hB
          have HW := Lib.hid hwn
          have hk1 : 1 ≤ k := by omega
          clear ST hA hB hwn hev
          go_wp2
          go_roundw
          case rel => exact ⟨k + 1, by omega, by go_num, by rw [← HW.out]; exact q1, by rw [← HW.out]; exact q2, by rw [← HW.out]; exact q3, by rw [← HW.out]; exact q4⟩
          case measure => simp [intOf]; omega
      · obtain rfl : k = 2 * m := by omega
        rw [Nat.sub_self, List.replicate_zero, List.append_nil] at p1 p2
        have c0 : wr.cell? ⟨w.heap.size, 0, none⟩ = some (.slice none 0 0) := kb'.cell 0
        have f0 := kb'.frozen 0
        have l0 := kb'.lt
        have hbs := hb'.size
        have hset : ∀ g, w.heap.size + 1 ≤ g → (wr.setCell ⟨w.heap.size, 0, none⟩ (.slice (some ⟨wr.heap.size, 0, none⟩) 2 2)).heap[g]? = wr.heap[g]? := fun g hg => Below.heap_setCell _ _ _ _ (by simp; omega)
        have q1 : Own (wr.setCell ⟨w.heap.size, 0, none⟩ (.slice (some ⟨wr.heap.size, 0, none⟩) 2 2)) _ _ _ _ _ _ := p1.same fun g hg => hset g (p1.lt g hg).1
        have q2 : Own (wr.setCell ⟨w.heap.size, 0, none⟩ (.slice (some ⟨wr.heap.size, 0, none⟩) 2 2)) _ _ _ _ _ _ := p2.same fun g hg => hset g (p2.lt g hg).1
        have q3 : Blk (wr.setCell ⟨w.heap.size, 0, none⟩ (.slice (some ⟨wr.heap.size, 0, none⟩) 2 2)) w.heap.size 31 #[.slice (some ⟨wr.heap.size, 0, none⟩) 2 2] := kb'.set_ 0 _
        have q4 : Below w.heap.size w (wr.setCell ⟨w.heap.size, 0, none⟩ (.slice (some ⟨wr.heap.size, 0, none⟩) 2 2)) := hb'.setCell (Nat.le_refl _) _
        have q5 : (wr.setCell ⟨w.heap.size, 0, none⟩ (.slice (some ⟨wr.heap.size, 0, none⟩) 2 2)).heap.size = wr.heap.size := by simp [World.setCell]
        have Q1 := Lib.hid q1
        have Q2 := Lib.hid q2
        have Q5 := Lib.hid q5
        clear q1 q2 q5 hset p1 p2
        go_wp2
        generalize wr.setCell ⟨w.heap.size, 0, none⟩ (.slice (some ⟨wr.heap.size, 0, none⟩) 2 2) = ws at *
        have hz := Q5.out
        have w1 := OwR.lit2 (E := 22) (lo := w.heap.size + 1) (hi := ws.heap.size) (d0 := polyL polyA (2 * m)) (d1 := polyL (polyB (2 * m)) (2 * m)) (innerS 2) (by omega) (Nat.le_refl _) ⟨_, _, _, rfl, Q1.out.mono (Nat.zero_le _)⟩ ⟨_, _, _, rfl, Q2.out.mono (Nat.zero_le _)⟩ (in_slice Q1.out.lt) (in_slice Q2.out.lt) (by intro g hg; rw [ownBlock_slice] at hg ⊢; simp [bk] at hg ⊢; omega)
        have kf := q3.alloc (.cells #[.slice (some ⟨g1, 0, none⟩) (2 * m) (2 * m), .slice (some ⟨g2, 0, none⟩) (2 * m) (2 * m)] 22)
        have bf := q4.alloc q4.size (.cells #[.slice (some ⟨g1, 0, none⟩) (2 * m) (2 * m), .slice (some ⟨g2, 0, none⟩) (2 * m) (2 * m)] 22)
        have zf : ws.heap.size + 1 = (ws.alloc (.cells #[.slice (some ⟨g1, 0, none⟩) (2 * m) (2 * m), .slice (some ⟨g2, 0, none⟩) (2 * m) (2 * m)] 22)).heap.size := by simp
        rw [hz] at w1
        generalize ws.alloc (.cells #[.slice (some ⟨g1, 0, none⟩) (2 * m) (2 * m), .slice (some ⟨g2, 0, none⟩) (2 * m) (2 * m)] 22) = wf at *
        have e0 : wf.cell? ⟨w.heap.size, 0, none⟩ = some (.slice (some ⟨wr.heap.size, 0, none⟩) 2 2) := kf.cell 0
        refine bodyPost_ret (v := .agg #[.slice (some ⟨wr.heap.size, 0, none⟩) 2 2]) (by simp [results, Try.f36, go_sem, e0]) rfl ⟨_, rfl, ⟨_, _, _, _, rfl, w1.mono (by omega) (by omega)⟩, bf⟩
end Go.Proofs.Ytplmfanjbokckaa
