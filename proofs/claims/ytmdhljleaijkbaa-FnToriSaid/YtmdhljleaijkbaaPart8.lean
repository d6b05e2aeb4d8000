/- Laws' helpers: likeRows5, like5, flags5. -/
import Derived.Test.YtmdhljleaijkbaaPart7
import Derived.Test.YtmdhljleaijkbaaPart5
import Derived.Test.YtmdhljleaijkbaaPart4
import Derived.Test.YtmdhljleaijkbaaPart1
import Derived.Test.YtmdhljleaijkbaaPart6
namespace Go.Proofs.Ytmdhljleaijkbaa
open Go.RowKit

set_option maxHeartbeats 1600000 in
theorem likeRows5_any {v v' : Value} {zss : List (List Int)} (w : World) (h : RdSS w v zss) (h' : RdSS w v' zss) :
    Calls Try.prog 18 #[v, v'] w fun e w' => e = .returned (.bool true) ∧ Below w.heap.size w w' := by
  obtain ⟨ao, n, c, rfl, hi⟩ := h
  obtain ⟨ao', n', c', rfl, hi'⟩ := h'
  obtain rfl : n = n' := by rw [← hi.1, ← hi'.1]
  have hbd := hi.2.1
  have hl' : ((n : Int) != (n:Int)) = false := by simp
  go_enter Try.func18, Try.ntmps18
  go_wp2
  go_loopw [5] (fun i wr => ∃ k : Nat, k ≤ n ∧ i = .int .i64 k ∧ Below w.heap.size w wr) (fun i _ => n - (intOf i).toNat)
  case atStart => exact ⟨0, Nat.zero_le _, rfl, Below.refl _ _⟩
  case round =>
    obtain ⟨k, hk, rfl, hb⟩ := hrel
    by_cases hlt : k < n
    · obtain ⟨b1, o1, a1, n1, c1, rfl, hc1, hin1⟩ := (hi.below hb).at_ hlt
      obtain ⟨b2, o2, a2, n2, c2, rfl, hc2, hin2⟩ := (hi'.below hb).at_ hlt
      obtain rfl : n1 = n2 := by rw [← hin1.1, ← hin2.1]
      have HH := Lib.hid hi
      have HH' := Lib.hid hi'
      clear hi hi'
      go_wp2_with fail
      go_quiet ((go_at_call 17; exact Calls.quiet_of (likeInts_any a1 a2 n1 c1 c2 (lget zss k) _ (hin1.drewN _) (hin2.drewN _))))
      go_wp2
      go_roundw
      case rel => exact ⟨k + 1, by omega, by go_num, below_drewN hb _⟩
      case measure => first | (simp [intOf]; done) | (simp [intOf]; omega)
    · obtain rfl : k = n := by omega
      go_wp2
      go_ret
      exact ⟨rfl, hb⟩
theorem like5_any {a a' : Option Addr} {n n' c c' : Nat} {zss : List (List Int)} (w : World) (h : RdSS w (.slice a n c) zss) (h' : RdSS w (.slice a' n' c') zss) :
    Calls Try.prog 9 #[.agg #[.slice a n c], .agg #[.slice a' n' c']] w fun e w' => e = .returned (.bool true) ∧ Below w.heap.size w w' := by
  have b2 := below_alloc2 w (.cells #[.slice a n c] 28) (.cells #[.slice a' n' c'] 28)
  have x1 := ((blk_at rfl : Blk (w.alloc (.cells #[.slice a n c] 28)) w.heap.size 28 #[.slice a n c]).alloc (.cells #[.slice a' n' c'] 28)).cell 0
  have H1 := Lib.hid (h.below b2)
  have H2 := Lib.hid (h'.below b2)
  clear h h'
  go_enter Try.func9, Try.ntmps9
  go_wp2_with (go_at_call 18; refine (likeRows5_any _ H1.out H2.out).mono ?_; rintro e w3 ⟨rfl, b3⟩)
  go_ret
  exact ⟨rfl, b2.trans (b3.mono b2.size)⟩
end Go.Proofs.Ytmdhljleaijkbaa

/- least5 of the laws: two maniplexes of one least form. -/
namespace Go.Proofs.Ytmdhljleaijkbaa
open Go.RowKit

set_option maxRecDepth 100000 in
set_option maxHeartbeats 3200000 in
theorem least5_any {a b : Option Addr} {n n' c c' : Nat} {d e : List (List Int)} (w : World) (hd : RdSSc w (.slice a n c) d) (he : RdSSc w (.slice b n' c') e) (hM : Man d) (hM' : Man e) (hl : lfR d = lfR e) :
    Calls Try.prog 19 #[.agg #[.slice a n c], .agg #[.slice b n' c']] w fun r w' => r = .returned (.bool true) ∧ Below w.heap.size w w' := by
  have b0 := below_alloc2 w (.cells #[.slice a n c] 28) (.cells #[.slice b n' c'] 28)
  have ka : Blk ((w.alloc (.cells #[.slice a n c] 28)).alloc (.cells #[.slice b n' c'] 28)) w.heap.size 28 #[.slice a n c] := (blk_at rfl).alloc _
  have kb : Blk ((w.alloc (.cells #[.slice a n c] 28)).alloc (.cells #[.slice b n' c'] 28)) (w.heap.size + 1) 28 #[.slice b n' c'] := blk_at (by simp)
  have HD := Lib.hid (hd.below b0)
  have HE := Lib.hid (he.below b0)
  have hz1 := b0.size
  have hL1 := Lib.hid (fun (w : World) (h : RdSSc w (.slice a n c) d) => api_implLf a n c d w h (man_few hM))
  have hL2 := Lib.hid (fun (w : World) (h : RdSSc w (.slice b n' c') e) => api_implLf b n' c' e w h (man_few hM'))
  have i1 : irC d = 0 := by unfold irC; rw [manB_yes hM]; rfl
  have i2 : irC e = 0 := by unfold irC; rw [manB_yes hM']; rfl
  rw [i1] at hL1
  rw [i2, ← hl] at hL2
  clear hd he i1 i2 hM hM' hl
  generalize lfR d = R at *
  go_enter Try.func19, Try.ntmps19
  go_upto_region 1 with fail
  generalize (w.alloc (.cells #[.slice a n c] 28)).alloc (.cells #[.slice b n' c'] 28) = w1 at *
  have B1 := Lib.hid b0
  have x0 := ka.cell 0
  simp at x0
  have KB := Lib.hid kb
  clear b0 kb
  go_wp2_with fail
  refine (hL1.out w1 HD.out).mono ?_
  rintro r w2 ⟨v2, rfl, o2, b2⟩
  obtain ⟨a2, n2, c2, rfl⟩ := o2.form
  have z2 := b2.size
  have kA := below_alloc1 w2 (.cells #[.slice a2 n2 c2] 28)
  have B3 := Lib.hid ((B1.out.trans (b2.mono hz1)).trans (kA.mono (by omega)))
  have O3 := Lib.hid (o2.below kA)
  have HE3 := Lib.hid ((HE.out.below b2).below kA)
  have k3 : Blk (w2.alloc (.cells #[.slice a2 n2 c2] 28)) w2.heap.size 28 #[.slice a2 n2 c2] := blk_at rfl
  have kb3 := (KB.out.belowS b2).belowS kA
  clear HD HE B1 KB ka x0 o2 b2 kA hL1
  go_upto_region 2 with fail
  generalize w2.alloc (.cells #[.slice a2 n2 c2] 28) = w3 at *
  have z3 := k3.lt
  have y0 := kb3.cell 0
  simp at y0
  have K3 := Lib.hid k3
  clear k3
  go_wp2_with fail
  refine (hL2.out w3 HE3.out).mono ?_
  rintro r w4 ⟨v4, rfl, o4, b4⟩
  obtain ⟨a4, n4, c4, rfl⟩ := o4.form
  have z4 := b4.size
  have kA := below_alloc1 w4 (.cells #[.slice a4 n4 c4] 28)
  have B5 := Lib.hid ((B3.out.trans (b4.mono (by omega))).trans (kA.mono (by omega)))
  have O5 := Lib.hid ((O3.out.below b4).below kA)
  have P5 := Lib.hid (o4.below kA)
  have k5 : Blk (w4.alloc (.cells #[.slice a4 n4 c4] 28)) w4.heap.size 28 #[.slice a4 n4 c4] := blk_at rfl
  have k3' := (K3.out.belowS b4).belowS kA
  clear B3 O3 HE3 kb3 y0 K3 o4 b4 kA hL2
  go_upto_region 3 with fail
  generalize w4.alloc (.cells #[.slice a4 n4 c4] 28) = w5 at *
  have x5 := k5.cell 0
  have y5 := k3'.cell 0
  simp at x5 y5
  have hR1 := O5.out.rdcM
  have hR2 := P5.out.rdcM
  go_wp2_with fail
  refine (like5_any w5 hR1.1.rd hR2.1.rd).mono ?_
  rintro r w6 ⟨rfl, b6⟩
  have B6 := Lib.hid (B5.out.trans (b6.mono B5.out.size))
  clear b6 hR1 hR2
  go_wp2_with fail
  go_ret
  exact ⟨rfl, B6.out⟩
end Go.Proofs.Ytmdhljleaijkbaa

/- The laws' helpers on words and codes: times9, big. -/
namespace Go.Proofs.Ytmdhljleaijkbaa
open Go.RowKit

theorem big_any (ao : Option Addr) (n c : Nat) (w : World) : Calls Try.prog 5 #[.slice ao n c] w fun e w' => e = .returned (.bool (decide (4096 < n))) ∧ w' = w := by
  by_cases h : 4096 < n
  · have e0 : decide ((4096 : Int) < n) = true := by simp; omega
    go_enter Try.func5, Try.ntmps5
    go_wp2
    go_ret
    exact ⟨by simp [h], rfl⟩
  · have e0 : decide ((4096 : Int) < n) = false := by simp; omega
    go_enter Try.func5, Try.ntmps5
    go_wp2
    go_ret
    exact ⟨by simp [h], rfl⟩
end Go.Proofs.Ytmdhljleaijkbaa

/- The walk of FnTori: true, whatever the draws. -/
namespace Go.Proofs.Ytmdhljleaijkbaa
open Go.RowKit

theorem kinds44 (w : World) {g0 g1 g2 : Nat} (h0 : w.heap.size = g0) (h1 : w.heap.size + 1 = g1) (h2 : w.heap.size + 1 + 1 = g2) :
    RdSS (((w.alloc (.cells #[.int .i64 4] 2)).alloc (.cells #[.int .i64 4] 2)).alloc (.cells #[.slice (some ⟨g0, 0, none⟩) 1 1, .slice (some ⟨g1, 0, none⟩) 1 1] 32)) (.slice (some ⟨g2, 0, none⟩) 2 2) [[4], [4]] := by
  have i0 := ((own_rowL (w := w) (zs := [4]) (us := [.int .i64 4]) (k := 1) h0 rfl rfl (by omega)).ints.below (below_alloc1 _ (.cells #[.int .i64 4] 2))).below (below_alloc1 _ (.cells #[.slice (some ⟨g0, 0, none⟩) 1 1, .slice (some ⟨g1, 0, none⟩) 1 1] 32))
  have i1 := (own_rowL (w := w.alloc (.cells #[.int .i64 4] 2)) (zs := [4]) (us := [.int .i64 4]) (k := 1) (g := g1) (by simp; omega) rfl rfl (by omega)).ints.below (below_alloc1 _ (.cells #[.slice (some ⟨g0, 0, none⟩) 1 1, .slice (some ⟨g1, 0, none⟩) 1 1] 32))
  have kb : Blk (((w.alloc (.cells #[.int .i64 4] 2)).alloc (.cells #[.int .i64 4] 2)).alloc (.cells #[.slice (some ⟨g0, 0, none⟩) 1 1, .slice (some ⟨g1, 0, none⟩) 1 1] 32)) g2 32 #[.slice (some ⟨g0, 0, none⟩) 1 1, .slice (some ⟨g1, 0, none⟩) 1 1] := blk_at (by simp; omega)
  refine ⟨_, _, _, rfl, rfl, by omega, fun _ => ⟨g2, 0, rfl, fun j hj => ?_⟩⟩
  have hc := kb.cell j
  match j, hj with
  | 0, _ => exact ⟨_, by rw [hc]; rfl, _, _, _, rfl, i0⟩
  | 1, _ => exact ⟨_, by rw [hc]; rfl, _, _, _, rfl, i1⟩
/-- a torus map of few squares -/
theorem tor_small {b c : Int} (h : torusC b c = 0) : ∃ x y : Nat, b = (x : Int) ∧ c = (y : Int) ∧ x ≤ 7 ∧ y ≤ 7 ∧ 0 < x * x + y * y ∧ x * x + y * y ≤ 50 ∧ torusR b c = torF x y ∧ torusR c b = torF y x ∧ torusC c b = 0 := by
  unfold torusC at h
  split at h
  · rename_i ok
    have ok' := ok
    unfold torOk at ok
    simp only [Bool.and_eq_true] at ok
    obtain ⟨h1, h2, h3⟩ := ok
    have h4 : torOk c b = true := by
      unfold torOk
      simp only [Bool.and_eq_true]
      exact ⟨h2, h1, by rw [Int.add_comm]; exact h3⟩
    rw [inB_true] at h1 h2 h3
    obtain ⟨x, rfl⟩ := Int.eq_ofNat_of_zero_le h1.1
    obtain ⟨y, rfl⟩ := Int.eq_ofNat_of_zero_le h2.1
    rw [← Int.natCast_mul, ← Int.natCast_mul] at h3
    refine ⟨x, y, rfl, rfl, by omega, by omega, by omega, by omega, ?_, ?_, ?_⟩
    · unfold torusR; rw [if_pos ok', Int.toNat_natCast, Int.toNat_natCast]
    · unfold torusR; rw [if_pos h4, Int.toNat_natCast, Int.toNat_natCast]
    · unfold torusC; rw [if_pos h4]
  · cases h
set_option maxRecDepth 100000 in
set_option maxHeartbeats 6400000 in
theorem walkTori {ao : Option Addr} {n c : Nat} (w : World) (h : Bts w ao n w.heap.size) :
    Calls Try.prog 3 #[.slice ao n c] w fun e w' => e = .returned (.bool true) ∧ Below w.heap.size w w' := by
  go_enter Try.func3, Try.ntmps3
  go_wp2_with fail
  refine (big_any ao n c w).mono ?_
  rintro e w1 ⟨rfl, hw1⟩
  obtain rfl : w = w1 := hw1.symm
  by_cases hbig : 4096 < n
  · go_wp2
    go_ret
    exact ⟨rfl, Below.refl _ _⟩
  · go_wp2_with fail
    refine (drawTorus_any ao n c w h).mono ?_
    rintro e w2 ⟨b, q, rfl, B2⟩
    have z2 := B2.size
    clear h
    go_wp2_with fail
    refine (api_implTorusMap b q w2).mono ?_
    rintro e w3 ⟨u3, rfl, o3, b3⟩
    obtain ⟨a3, n3, c3, rfl⟩ := o3.form
    have z3 := b3.size
    have kA := below_alloc1 w3 (.cells #[.slice a3 n3 c3] 28)
    have B4 : Below w.heap.size w (w3.alloc (.cells #[.slice a3 n3 c3] 28)) := (B2.trans (b3.mono z2)).trans (kA.mono (by omega))
    have O4 := Lib.hid (o3.below kA)
    have k4 : Blk (w3.alloc (.cells #[.slice a3 n3 c3] 28)) w3.heap.size 28 #[.slice a3 n3 c3] := blk_at rfl
    clear o3 b3 kA B2
    go_upto_region 5 with fail
    generalize w3.alloc (.cells #[.slice a3 n3 c3] 28) = w4 at *
    have z4 := k4.lt
    go_wp2_with fail
    refine (api_specTorusMap b q w4).mono ?_
    rintro e w5 ⟨u5, rfl, o5, b5⟩
    obtain ⟨a5, n5, c5, rfl⟩ := o5.form
    have z5 := b5.size
    have kA := below_alloc1 w5 (.cells #[.slice a5 n5 c5] 28)
    have B6 : Below w.heap.size w (w5.alloc (.cells #[.slice a5 n5 c5] 28)) := (B4.trans (b5.mono (by omega))).trans (kA.mono (by omega))
    have O6 := Lib.hid ((O4.out.below b5).below kA)
    have OS6 := Lib.hid (o5.below kA)
    have k6 : Blk (w5.alloc (.cells #[.slice a5 n5 c5] 28)) w3.heap.size 28 #[.slice a3 n3 c3] := (k4.belowS b5).alloc _
    have q6 : Blk (w5.alloc (.cells #[.slice a5 n5 c5] 28)) w5.heap.size 28 #[.slice a5 n5 c5] := blk_at rfl
    clear o5 O4 k4 b5 kA B4
    go_upto_region 6 with fail
    generalize w5.alloc (.cells #[.slice a5 n5 c5] 28) = w6 at *
    have x6 := k6.cell 0
    have y6 := q6.cell 0
    simp at x6 y6
    generalize hC : torusC b q = C at *
    have HC := Lib.hid hC
    clear hC
    have hR1 := O6.out.rdcM
    have hR2 := OS6.out.rdcM
    go_wp2_with fail
    refine (like5_any w6 hR1.1.rd hR2.1.rd).mono ?_
    rintro e w7 ⟨rfl, b7⟩
    have z7 := b7.size
    have B7 := B6.trans (b7.mono B6.size)
    by_cases hC0 : C = 0
    · subst hC0
      obtain ⟨x, y, rfl, rfl, hx, hy, hp, h50, hR, hR', hC'⟩ := tor_small HC.out
      have O7 := Lib.hid (O6.out.below b7)
      rw [hR] at O7
      have k7 := k6.belowS b7
      clear hR1 hR2 O6 OS6 k6 q6 x6 y6 b7 B6
      have xx : x * x ≤ 49 := Nat.mul_le_mul hx hx
      have yy : y * y ≤ 49 := Nat.mul_le_mul hy hy
      have e1 : IntKind.i64.wrap ((x : Int) * x) = ((x * x : Nat) : Int) := by
        rw [← Int.natCast_mul]; exact IntWalk.i64_in _ (by omega)
      have e2 : IntKind.i64.wrap ((y : Int) * y) = ((y * y : Nat) : Int) := by
        rw [← Int.natCast_mul]; exact IntWalk.i64_in _ (by omega)
      have e3 : IntKind.i64.wrap (((x * x : Nat) : Int) + ((y * y : Nat) : Int)) = ((x * x + y * y : Nat) : Int) := by rw [IntWalk.i64_in _ (by omega)]; omega
      by_cases h20 : x * x + y * y ≤ 20
      · have TP := tor_P hp h20
        have hg20 : decide ((20 : Int) < ((x * x + y * y : Nat) : Int)) = false := by simp; omega
        have hw2 : IntKind.i64.wrap (2 * ((x * x + y * y : Nat) : Int)) = ((2 * (x * x + y * y) : Nat) : Int) := by rw [IntWalk.i64_in _ (by omega)]; omega
        have hoth : (decide (x ≠ y ∧ x ≠ 0 ∧ y ≠ 0)) = (((x : Int) != (y : Int)) && (((x : Int) != 0) && ((y : Int) != 0))) := by
          rw [Bool.eq_iff_iff]; simp; omega
        generalize hN : x * x + y * y = N at *
        generalize hX : x * x = X at *
        generalize hY : y * y = Y at *
        have hn3 : n3 = 3 := by have := O7.out.rdcM.2; rw [TP.len] at this; exact this.symm
        subst hn3
        have HT := Lib.hid (fun w => api_implTorusMap (y : Int) (x : Int) w)
        rw [hR', hC'] at HT
        generalize torF x y = d at *
        generalize torF y x = d' at *
        clear hN hX hY xx yy hR hR' hC' HC hp h50
        have TPH := Lib.hid TP
        clear TP
        obtain ⟨cl, hcl⟩ := TPH.out.col
        have HCL := Lib.hid hcl
        clear hcl
        have x7 := k7.cell 0
        simp at x7
        have hE : eulT (fcL d 3) 3 = 0 := by rw [TPH.out.fc]; simp [eulT, iget]; omega
        have HFC := Lib.hid TPH.out.fc
        have HTY := Lib.hid TPH.out.ty
        have HM := Lib.hid TPH.out.man
        have HSD := Lib.hid TPH.out.sd
        have hir : irC d = 0 := by unfold irC; rw [manB_yes HM.out]; rfl
        have HIR := Lib.hid hir
        have HE := Lib.hid hE
        obtain ⟨O, hO⟩ : ∃ O, decide (x ≠ y ∧ x ≠ 0 ∧ y ≠ 0) = O := ⟨_, rfl⟩
        have HCH := Lib.hid (TPH.out.chi.trans hO)
        have HRG := Lib.hid (TPH.out.reg.trans (congrArg (!·) hO))
        rw [hO] at hoth
        have HOTH := Lib.hid hoth
        clear hE hir hO hoth
        go_wp2_with fail
        refine (api_faceCounts w7 O7.out HM.out).mono ?_
        rintro e w8 ⟨a8, c8, rfl, o8, b8⟩
        rw [HFC.out] at o8
        have z8 := b8.size
        have O8 := Lib.hid (O7.out.below b8)
        have k8 := k7.belowS b8
        have x8 := k8.cell 0
        simp at x8
        have A8 := Lib.hid o8
        have B8 := B7.trans (b8.mono B7.size)
        clear O7 k7 x7 b8 B7 o8
        go_wp2_with fail
        refine (api_implOr a3 3 c3 d cl w8 O8.out.rdcM.1 HM.out HCL.out).mono ?_
        rintro e w9 ⟨rfl, b9⟩
        have z9 := b9.size
        have O9 := Lib.hid (O8.out.below b9)
        have k9 := k8.belowS b9
        have x9 := k9.cell 0
        simp at x9
        have A9 := Lib.hid (A8.out.below b9)
        have B9 := B8.trans (b9.mono B8.size)
        clear O8 k8 x8 b9 B8 A8
        go_wp2_with fail
        refine (api_implEu a3 3 c3 d w9 O9.out.rdcM.1 HM.out).mono ?_
        rintro e w10 ⟨rfl, b10⟩
        rw [HE.out]
        have z10 := b10.size
        have O10 := Lib.hid (O9.out.below b10)
        have k10 := k9.belowS b10
        have x10 := k10.cell 0
        simp at x10
        have A10 := Lib.hid (A9.out.below b10)
        have B10 := B9.trans (b10.mono B9.size)
        clear O9 k9 x9 b10 B9 A9
        go_wp2_with fail
        refine (api_implSd a3 3 c3 d w10 O10.out.rdcM.1 HM.out).mono ?_
        rintro e w11 ⟨rfl, b11⟩
        rw [HSD.out]
        have z11 := b11.size
        have O11 := Lib.hid (O10.out.below b11)
        have k11 := k10.belowS b11
        have x11 := k11.cell 0
        simp at x11
        have A11 := Lib.hid (A10.out.below b11)
        have B11 := B10.trans (b11.mono B10.size)
        clear O10 k10 x10 b11 B10 A10
        go_wp2_with fail
        refine (api_implCh a3 3 c3 d w11 O11.out.rdcM.1 (man_few HM.out)).mono ?_
        rintro e w12 ⟨rfl, b12⟩
        rw [HCH.out, HIR.out]
        have z12 := b12.size
        have O12 := Lib.hid (O11.out.below b12)
        have k12 := k11.belowS b12
        have x12 := k12.cell 0
        simp at x12
        have A12 := Lib.hid (A11.out.below b12)
        have B12 := B11.trans (b12.mono B11.size)
        clear O11 k11 x11 b12 B11 A11
        go_wp2_with fail
        refine (api_implIr a3 3 c3 d w12 O12.out.rdcM.1 (man_few HM.out)).mono ?_
        rintro e w13 ⟨rfl, b13⟩
        rw [HRG.out, HIR.out]
        have z13 := b13.size
        have O13 := Lib.hid (O12.out.below b13)
        have k13 := k12.belowS b13
        have x13 := k13.cell 0
        simp at x13
        have A13 := Lib.hid (A12.out.below b13)
        have B13 := B12.trans (b13.mono B12.size)
        clear O12 k12 x12 b13 B12 A12
        go_wp2_with fail
        refine (api_implTy a3 3 c3 d w13 O13.out.rdcM.1 HM.out).mono ?_
        rintro e w14 ⟨v14, rfl, o14, b14⟩
        rw [show 3 - 1 = 2 from rfl, HTY.out] at o14
        obtain ⟨ak, nk, ck, uk, rfl, o14'⟩ := id o14
        have z14 := b14.size
        have O14 := Lib.hid (O13.out.below b14)
        have k14 := k13.belowS b14
        have A14 := Lib.hid (A13.out.below b14)
        have T14 := Lib.hid o14.rdc
        have B14 := B13.trans (b14.mono B13.size)
        clear O13 k13 x13 b14 B13 A13 o14 o14'
        go_wp2_with fail
        refine (HT.out w14).mono ?_
        rintro e w15 ⟨v15, rfl, o15, b15⟩
        obtain ⟨a15, n15, c15, rfl⟩ := o15.form
        have z15 := b15.size
        have kA := below_alloc1 w15 (.cells #[.slice a15 n15 c15] 28)
        have B16 := Lib.hid ((B14.trans (b15.mono B14.size)).trans (kA.mono (Nat.le_trans B14.size z15)))
        have O16 := Lib.hid ((O14.out.below b15).below kA)
        have P16 := Lib.hid (o15.below kA)
        have A16 := Lib.hid ((A14.out.below b15).below kA)
        have T16 := Lib.hid ((T14.out.below b15).below kA)
        have k16 : Blk (w15.alloc (.cells #[.slice a15 n15 c15] 28)) w3.heap.size 28 #[.slice a3 3 c3] := (k14.belowS b15).alloc _
        have q16 : Blk (w15.alloc (.cells #[.slice a15 n15 c15] 28)) w15.heap.size 28 #[.slice a15 n15 c15] := blk_at rfl
        clear O14 k14 A14 T14 B14 o15 b15 kA
        go_upto_region 19 with fail
        generalize w15.alloc (.cells #[.slice a15 n15 c15] 28) = w16 at *
        have K16 := Lib.hid k16
        have Q16 := Lib.hid q16
        clear k16 q16
        cases c1 : ((x : Int) != (y : Int))
        case false =>
          obtain rfl : O = false := by have := HOTH.out; rw [c1] at this; simpa using this
          have kA := below_alloc1 w16 (.cells #[.int .i64 (N : Int), .int .i64 ((2 * N : Nat) : Int), .int .i64 (N : Int)] 2)
          have iL : Ints (w16.alloc (.cells #[.int .i64 (N : Int), .int .i64 ((2 * N : Nat) : Int), .int .i64 (N : Int)] 2)) (some ⟨w16.heap.size, 0, none⟩) 3 [(N : Int), ((2 * N : Nat) : Int), (N : Int)] := (own_rowL (us := [.int .i64 (N : Int), .int .i64 ((2 * N : Nat) : Int), .int .i64 (N : Int)]) rfl rfl rfl (by simp)).ints
          have hz16 := B16.out.size
          have B17 := Lib.hid (B16.out.trans (kA.mono hz16))
          have O17 := Lib.hid (O16.out.below kA)
          have P17 := Lib.hid (P16.out.below kA)
          have A17 := Lib.hid (A16.out.below kA)
          have T17 := Lib.hid (T16.out.below kA)
          have K17 := Lib.hid (K16.out.belowS kA)
          have Q17 := Lib.hid (Q16.out.belowS kA)
          have IL := Lib.hid iL
          clear iL kA
          go_wp2_with fail
          refine (likeInts_any a8 _ 3 c8 3 _ _ A17.out.ints IL.out).mono ?_
          rintro e w18 ⟨rfl, b18⟩
          have b18 := below_of_quiet (B := (w16.alloc (.cells #[.int .i64 (N : Int), .int .i64 ((2 * N : Nat) : Int), .int .i64 (N : Int)] 2)).heap.size) b18
          have B18 := Lib.hid (B17.out.trans (b18.mono B17.out.size))
          have O18 := O17.out.below b18
          have P18 := P17.out.below b18
          have T18 := T17.out.below b18
          have k18 := K17.out.belowS b18
          have q18 := Q17.out.belowS b18
          clear b18 IL A17 O17 P17 T17 K17 Q17 B17 A16 O16 P16 T16 K16 Q16 B16 hz16
          have kA := below_alloc3 w18 (.cells #[.int .i64 4] 2) (.cells #[.int .i64 4] 2) (.cells #[.slice (some ⟨w18.heap.size, 0, none⟩) 1 1, .slice (some ⟨w18.heap.size + 1, 0, none⟩) 1 1] 32)
          have KD := Lib.hid (kinds44 w18 rfl rfl rfl)
          have B19 := Lib.hid (B18.out.trans (kA.mono B18.out.size))
          have O19 := Lib.hid (O18.below kA)
          have P19 := Lib.hid (P18.below kA)
          have T19 := Lib.hid (T18.below kA)
          have K19 := Lib.hid (k18.belowS kA)
          have Q19 := Lib.hid (q18.belowS kA)
          clear kA O18 P18 T18 k18 q18 B18
          go_wp2_with fail
          refine (likeRows5_any _ T19.out.rd KD.out).mono ?_
          rintro e w20 ⟨rfl, b20⟩
          have B20 := Lib.hid (B19.out.trans (b20.mono B19.out.size))
          have O20 := Lib.hid (O19.out.below b20)
          have P20 := Lib.hid (P19.out.below b20)
          have x20 := (K19.out.belowS b20).cell 0
          have y20 := (Q19.out.belowS b20).cell 0
          simp at x20 y20
          clear b20 O19 P19 T19 K19 Q19 B19 KD
          go_wp2_with fail
          refine (least5_any w20 O20.out.rdcM.1 P20.out.rdcM.1 HM.out TPH.out.man2 TPH.out.lf).mono ?_
          rintro e w21 ⟨rfl, b21⟩
          have B21 := Lib.hid (B20.out.trans (b21.mono B20.out.size))
          clear b21
          go_wp2_with fail
          go_ret
          exact ⟨rfl, B21.out⟩
        case true =>
          cases c2 : ((x : Int) != 0)
          case false =>
            obtain rfl : O = false := by have := HOTH.out; rw [c1, c2] at this; simpa using this
            have kA := below_alloc1 w16 (.cells #[.int .i64 (N : Int), .int .i64 ((2 * N : Nat) : Int), .int .i64 (N : Int)] 2)
            have iL : Ints (w16.alloc (.cells #[.int .i64 (N : Int), .int .i64 ((2 * N : Nat) : Int), .int .i64 (N : Int)] 2)) (some ⟨w16.heap.size, 0, none⟩) 3 [(N : Int), ((2 * N : Nat) : Int), (N : Int)] := (own_rowL (us := [.int .i64 (N : Int), .int .i64 ((2 * N : Nat) : Int), .int .i64 (N : Int)]) rfl rfl rfl (by simp)).ints
            have hz16 := B16.out.size
            have B17 := Lib.hid (B16.out.trans (kA.mono hz16))
            have O17 := Lib.hid (O16.out.below kA)
            have P17 := Lib.hid (P16.out.below kA)
            have A17 := Lib.hid (A16.out.below kA)
            have T17 := Lib.hid (T16.out.below kA)
            have K17 := Lib.hid (K16.out.belowS kA)
            have Q17 := Lib.hid (Q16.out.belowS kA)
            have IL := Lib.hid iL
            clear iL kA
            go_wp2_with fail
            refine (likeInts_any a8 _ 3 c8 3 _ _ A17.out.ints IL.out).mono ?_
            rintro e w18 ⟨rfl, b18⟩
            have b18 := below_of_quiet (B := (w16.alloc (.cells #[.int .i64 (N : Int), .int .i64 ((2 * N : Nat) : Int), .int .i64 (N : Int)] 2)).heap.size) b18
            have B18 := Lib.hid (B17.out.trans (b18.mono B17.out.size))
            have O18 := O17.out.below b18
            have P18 := P17.out.below b18
            have T18 := T17.out.below b18
            have k18 := K17.out.belowS b18
            have q18 := Q17.out.belowS b18
            clear b18 IL A17 O17 P17 T17 K17 Q17 B17 A16 O16 P16 T16 K16 Q16 B16 hz16
            have kA := below_alloc3 w18 (.cells #[.int .i64 4] 2) (.cells #[.int .i64 4] 2) (.cells #[.slice (some ⟨w18.heap.size, 0, none⟩) 1 1, .slice (some ⟨w18.heap.size + 1, 0, none⟩) 1 1] 32)
            have KD := Lib.hid (kinds44 w18 rfl rfl rfl)
            have B19 := Lib.hid (B18.out.trans (kA.mono B18.out.size))
            have O19 := Lib.hid (O18.below kA)
            have P19 := Lib.hid (P18.below kA)
            have T19 := Lib.hid (T18.below kA)
            have K19 := Lib.hid (k18.belowS kA)
            have Q19 := Lib.hid (q18.belowS kA)
            clear kA O18 P18 T18 k18 q18 B18
            go_wp2_with fail
            refine (likeRows5_any _ T19.out.rd KD.out).mono ?_
            rintro e w20 ⟨rfl, b20⟩
            have B20 := Lib.hid (B19.out.trans (b20.mono B19.out.size))
            have O20 := Lib.hid (O19.out.below b20)
            have P20 := Lib.hid (P19.out.below b20)
            have x20 := (K19.out.belowS b20).cell 0
            have y20 := (Q19.out.belowS b20).cell 0
            simp at x20 y20
            clear b20 O19 P19 T19 K19 Q19 B19 KD
            go_wp2_with fail
            refine (least5_any w20 O20.out.rdcM.1 P20.out.rdcM.1 HM.out TPH.out.man2 TPH.out.lf).mono ?_
            rintro e w21 ⟨rfl, b21⟩
            have B21 := Lib.hid (B20.out.trans (b21.mono B20.out.size))
            clear b21
            go_wp2_with fail
            go_ret
            exact ⟨rfl, B21.out⟩
          case true =>
            cases c3 : ((y : Int) != 0)
            case false =>
              obtain rfl : O = false := by have := HOTH.out; rw [c1, c2, c3] at this; simpa using this
              have kA := below_alloc1 w16 (.cells #[.int .i64 (N : Int), .int .i64 ((2 * N : Nat) : Int), .int .i64 (N : Int)] 2)
              have iL : Ints (w16.alloc (.cells #[.int .i64 (N : Int), .int .i64 ((2 * N : Nat) : Int), .int .i64 (N : Int)] 2)) (some ⟨w16.heap.size, 0, none⟩) 3 [(N : Int), ((2 * N : Nat) : Int), (N : Int)] := (own_rowL (us := [.int .i64 (N : Int), .int .i64 ((2 * N : Nat) : Int), .int .i64 (N : Int)]) rfl rfl rfl (by simp)).ints
              have hz16 := B16.out.size
              have B17 := Lib.hid (B16.out.trans (kA.mono hz16))
              have O17 := Lib.hid (O16.out.below kA)
              have P17 := Lib.hid (P16.out.below kA)
              have A17 := Lib.hid (A16.out.below kA)
              have T17 := Lib.hid (T16.out.below kA)
              have K17 := Lib.hid (K16.out.belowS kA)
              have Q17 := Lib.hid (Q16.out.belowS kA)
              have IL := Lib.hid iL
              clear iL kA
              go_wp2_with fail
              refine (likeInts_any a8 _ 3 c8 3 _ _ A17.out.ints IL.out).mono ?_
              rintro e w18 ⟨rfl, b18⟩
              have b18 := below_of_quiet (B := (w16.alloc (.cells #[.int .i64 (N : Int), .int .i64 ((2 * N : Nat) : Int), .int .i64 (N : Int)] 2)).heap.size) b18
              have B18 := Lib.hid (B17.out.trans (b18.mono B17.out.size))
              have O18 := O17.out.below b18
              have P18 := P17.out.below b18
              have T18 := T17.out.below b18
              have k18 := K17.out.belowS b18
              have q18 := Q17.out.belowS b18
              clear b18 IL A17 O17 P17 T17 K17 Q17 B17 A16 O16 P16 T16 K16 Q16 B16 hz16
              have kA := below_alloc3 w18 (.cells #[.int .i64 4] 2) (.cells #[.int .i64 4] 2) (.cells #[.slice (some ⟨w18.heap.size, 0, none⟩) 1 1, .slice (some ⟨w18.heap.size + 1, 0, none⟩) 1 1] 32)
              have KD := Lib.hid (kinds44 w18 rfl rfl rfl)
              have B19 := Lib.hid (B18.out.trans (kA.mono B18.out.size))
              have O19 := Lib.hid (O18.below kA)
              have P19 := Lib.hid (P18.below kA)
              have T19 := Lib.hid (T18.below kA)
              have K19 := Lib.hid (k18.belowS kA)
              have Q19 := Lib.hid (q18.belowS kA)
              clear kA O18 P18 T18 k18 q18 B18
              go_wp2_with fail
              refine (likeRows5_any _ T19.out.rd KD.out).mono ?_
              rintro e w20 ⟨rfl, b20⟩
              have B20 := Lib.hid (B19.out.trans (b20.mono B19.out.size))
              have O20 := Lib.hid (O19.out.below b20)
              have P20 := Lib.hid (P19.out.below b20)
              have x20 := (K19.out.belowS b20).cell 0
              have y20 := (Q19.out.belowS b20).cell 0
              simp at x20 y20
              clear b20 O19 P19 T19 K19 Q19 B19 KD
              go_wp2_with fail
              refine (least5_any w20 O20.out.rdcM.1 P20.out.rdcM.1 HM.out TPH.out.man2 TPH.out.lf).mono ?_
              rintro e w21 ⟨rfl, b21⟩
              have B21 := Lib.hid (B20.out.trans (b21.mono B20.out.size))
              clear b21
              go_wp2_with fail
              go_ret
              exact ⟨rfl, B21.out⟩
            case true =>
              obtain rfl : O = true := by have := HOTH.out; rw [c1, c2, c3] at this; simpa using this
              have kA := below_alloc1 w16 (.cells #[.int .i64 (N : Int), .int .i64 ((2 * N : Nat) : Int), .int .i64 (N : Int)] 2)
              have iL : Ints (w16.alloc (.cells #[.int .i64 (N : Int), .int .i64 ((2 * N : Nat) : Int), .int .i64 (N : Int)] 2)) (some ⟨w16.heap.size, 0, none⟩) 3 [(N : Int), ((2 * N : Nat) : Int), (N : Int)] := (own_rowL (us := [.int .i64 (N : Int), .int .i64 ((2 * N : Nat) : Int), .int .i64 (N : Int)]) rfl rfl rfl (by simp)).ints
              have hz16 := B16.out.size
              have B17 := Lib.hid (B16.out.trans (kA.mono hz16))
              have O17 := Lib.hid (O16.out.below kA)
              have P17 := Lib.hid (P16.out.below kA)
              have A17 := Lib.hid (A16.out.below kA)
              have T17 := Lib.hid (T16.out.below kA)
              have K17 := Lib.hid (K16.out.belowS kA)
              have Q17 := Lib.hid (Q16.out.belowS kA)
              have IL := Lib.hid iL
              clear iL kA
              go_wp2_with fail
              refine (likeInts_any a8 _ 3 c8 3 _ _ A17.out.ints IL.out).mono ?_
              rintro e w18 ⟨rfl, b18⟩
              have b18 := below_of_quiet (B := (w16.alloc (.cells #[.int .i64 (N : Int), .int .i64 ((2 * N : Nat) : Int), .int .i64 (N : Int)] 2)).heap.size) b18
              have B18 := Lib.hid (B17.out.trans (b18.mono B17.out.size))
              have O18 := O17.out.below b18
              have P18 := P17.out.below b18
              have T18 := T17.out.below b18
              have k18 := K17.out.belowS b18
              have q18 := Q17.out.belowS b18
              clear b18 IL A17 O17 P17 T17 K17 Q17 B17 A16 O16 P16 T16 K16 Q16 B16 hz16
              have kA := below_alloc3 w18 (.cells #[.int .i64 4] 2) (.cells #[.int .i64 4] 2) (.cells #[.slice (some ⟨w18.heap.size, 0, none⟩) 1 1, .slice (some ⟨w18.heap.size + 1, 0, none⟩) 1 1] 32)
              have KD := Lib.hid (kinds44 w18 rfl rfl rfl)
              have B19 := Lib.hid (B18.out.trans (kA.mono B18.out.size))
              have O19 := Lib.hid (O18.below kA)
              have P19 := Lib.hid (P18.below kA)
              have T19 := Lib.hid (T18.below kA)
              have K19 := Lib.hid (k18.belowS kA)
              have Q19 := Lib.hid (q18.belowS kA)
              clear kA O18 P18 T18 k18 q18 B18
              go_wp2_with fail
              refine (likeRows5_any _ T19.out.rd KD.out).mono ?_
              rintro e w20 ⟨rfl, b20⟩
              have B20 := Lib.hid (B19.out.trans (b20.mono B19.out.size))
              have O20 := Lib.hid (O19.out.below b20)
              have P20 := Lib.hid (P19.out.below b20)
              have x20 := (K19.out.belowS b20).cell 0
              have y20 := (Q19.out.belowS b20).cell 0
              simp at x20 y20
              clear b20 O19 P19 T19 K19 Q19 B19 KD
              go_wp2_with fail
              refine (least5_any w20 O20.out.rdcM.1 P20.out.rdcM.1 HM.out TPH.out.man2 TPH.out.lf).mono ?_
              rintro e w21 ⟨rfl, b21⟩
              have B21 := Lib.hid (B20.out.trans (b21.mono B20.out.size))
              clear b21
              go_wp2_with fail
              go_ret
              exact ⟨rfl, B21.out⟩
      · have hg20 : decide ((20 : Int) < ((x * x + y * y : Nat) : Int)) = true := by simp; omega
        generalize x * x + y * y = N at *
        generalize x * x = X at *
        generalize y * y = Y at *
        clear O7 k7
        go_wp2_with fail
        go_ret
        exact ⟨rfl, B7⟩
    · have hC1 : (C == 0) = false := by simp [hC0]
      go_wp2_with fail
      go_ret
      exact ⟨rfl, B7⟩
end Go.Proofs.Ytmdhljleaijkbaa
