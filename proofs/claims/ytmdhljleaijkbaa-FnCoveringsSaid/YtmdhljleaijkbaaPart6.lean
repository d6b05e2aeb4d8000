/- All coverings, the reference's; CoveringOf, both sides; CountCoverings, AreCovered. -/
import Derived.Test.YtmdhljleaijkbaaPart5
import Derived.Test.YtmdhljleaijkbaaPart4
import Derived.Test.YtmdhljleaijkbaaPart3
import Derived.Test.YtmdhljleaijkbaaPart1
import Derived.RegionTactic
import Derived.Deep.DeepCutAuto
import Derived.Laws.BitsAllLaws
import Derived.Laws.BitsLemmas
import Derived.Deep.CutBlock
import Derived.Lib.LazyBuf
import Derived.Lib.SliceRun
namespace Go.Proofs.Ytmdhljleaijkbaa
open Go.RowKit

set_option maxRecDepth 100000 in
set_option maxHeartbeats 3200000 in
theorem coverS_any (ao bo : Option Addr) (n c m c' f N K : Nat) (d e : List (List Int)) (w : World) (hd : Intss w ao n d) (he : Intss w bo m e) (hM : Man d) (hE : Man e) (hN : flg d = N) (hK : flg e = K) (hf : f < K) :
    Calls Try.prog 100 #[.agg #[.slice ao n c], .agg #[.slice bo m c'], .int .i64 f] w (CvSAns w N (covO d e f)) := by
  have b0 := below_alloc2 w (.cells #[.slice ao n c] 28) (.cells #[.slice bo m c'] 28)
  have hd1 := Lib.hid (hd.below b0)
  have he1 := Lib.hid (he.below b0)
  have hz := b0.size
  have hnl := hd.1
  have hml := he.1
  by_cases hrk : n = m
  · subst hrk
    have hbeq : ((n : Int) != (n : Int)) = false := by simp
    have HC := Lib.hid (fun w h1 h2 => mapCv_any ao bo n c c' f N K d e w h1 h2 hM hE hN hK hf)
    obtain ⟨R, hR⟩ : ∃ R, covO d e f = R := ⟨_, rfl⟩
    rw [hR] at HC ⊢
    clear hM hE hd he hR
    go_enter Try.func100, Try.ntmps100
    go_wp2_with fail
    generalize (w.alloc (.cells #[.slice ao n c] 28)).alloc (.cells #[.slice bo n c'] 28) = w1 at *
    refine (HC.out w1 hd1.out he1.out).mono ?_
    rintro e' w2 ⟨a, k, cc, rfl, h1, h2, b2⟩
    have B2 := Lib.hid (b0.trans (b2.mono hz))
    have H1 := Lib.hid h1
    have H2 := Lib.hid h2
    clear h1 h2 b2
    go_wp2_with fail
    exact bodyPost_ret (v := .tuple #[.slice a k cc, .bool R.isSome]) (by simp [results, Try.f100, go_sem]) rfl ⟨a, k, cc, rfl, H1.out, fun p hp => ⟨(H2.out p hp).1, (H2.out p hp).2.mono hz⟩, B2.out⟩
  · have hbeq : ((n : Int) != (m : Int)) = true := by simp; omega
    have hR : covO d e f = none := covO_rank (by omega)
    rw [hR]
    clear hR hM hE hd he
    go_enter Try.func100, Try.ntmps100
    go_wp2
    exact bodyPost_ret (v := .tuple #[.slice none 0 0, .bool false]) (by simp [results, Try.f100, go_sem]) rfl ⟨none, 0, 0, rfl, fun _ => ⟨rfl, rfl, rfl⟩, fun p h => (by cases h), b0⟩
set_option maxRecDepth 100000 in
set_option maxHeartbeats 6400000 in
theorem coversS_any (ao bo : Option Addr) (n c m c' N K : Nat) (d e : List (List Int)) (w : World) (hd : Intss w ao n d) (he : Intss w bo m e) (hM : Man d) (hE : Man e) (hN : flg d = N) (hK : flg e = K) :
    Calls Try.prog 52 #[.agg #[.slice ao n c], .agg #[.slice bo m c']] w (CvsAns w (cvL d e K)) := by
  have HD := Lib.hid hd
  have HE := Lib.hid he
  have HM := Lib.hid hM
  have HEM := Lib.hid hE
  have HN := Lib.hid hN
  have HK := Lib.hid hK
  have he1 := hE.n1
  have hel := he.1
  have hK4 : K ≤ 400 := by rw [← hK]; exact hE.f4
  have hN2 : 2 ≤ N := by rw [← hN]; exact hM.f2
  clear hd he hM hE hN hK
  have b0 := below_alloc2 w (.cells #[.slice ao n c] 28) (.cells #[.slice bo m c'] 28)
  have km : Blk ((w.alloc (.cells #[.slice ao n c] 28)).alloc (.cells #[.slice bo m c'] 28)) w.heap.size 28 #[.slice ao n c] := (blk_at rfl).alloc _
  have kk : Blk ((w.alloc (.cells #[.slice ao n c] 28)).alloc (.cells #[.slice bo m c'] 28)) (w.heap.size + 1) 28 #[.slice bo m c'] := blk_at (by simp)
  have HD1 := Lib.hid (HD.out.below b0)
  have HE1 := Lib.hid (HE.out.below b0)
  go_enter Try.func52, Try.ntmps52
  go_upto_region 1 with fail
  generalize (w.alloc (.cells #[.slice ao n c] 28)).alloc (.cells #[.slice bo m c'] 28) = w1 at *
  have KM := Lib.hid km
  have KK := Lib.hid kk
  have HB0 := Lib.hid b0
  have hz1 := b0.size
  have hN0 : OwR (OwS 2) (w1.alloc (.cells #[] 32)) w1.heap.size (w1.alloc (.cells #[] 32)).heap.size 32 (some ⟨w1.heap.size, 0, none⟩) 0 0 [] [] := OwR.empty_ (Own.empty_ w1 32 (Nat.le_refl _)) (fun g hg => by injection hg with hg; simp at hg ⊢; omega)
  have hB1 := below_alloc1 w1 (.cells #[] 32)
  clear b0 km kk
  go_wp2_with fail
  go_loopw [5, 6] (fun sv fv wr => ∃ (f k : Nat) (a : Option Addr) (cc : Nat) (us : List Value), sv = .slice a k cc ∧ fv = .int .i64 f ∧ f ≤ K ∧ k ≤ f ∧ OwR (OwS 2) wr w1.heap.size wr.heap.size 32 a k cc us (cvL d e f) ∧ Below w1.heap.size w1 wr) (fun _ fv _ => K - (intOf fv).toNat)
  case atStart => exact ⟨0, 0, _, 0, [], rfl, rfl, Nat.zero_le _, Nat.le_refl _, hN0, hB1⟩
  case round =>
    clear hN0 hB1
    obtain ⟨f, k, a, cc, us, rfl, rfl, hf, hkf, ho, hb⟩ := hrel
    obtain ⟨wA, rfl⟩ : ∃ x, x = wr := ⟨_, rfl⟩
    have xm := (KM.out.belowS hb).cell 0
    have xk := (KK.out.belowS hb).cell 0
    simp at xm xk
    have HFL := Lib.hid (flagsS_any bo m c' K e wA ⟨bo, m, c', rfl, HE1.out.below hb⟩ (by omega) HK.out (by omega))
    have OR := Lib.hid ho
    have HB := Lib.hid hb
    have hsz := hb.size
    clear ho hb
    go_wp2_with fail
    refine HFL.out.mono ?_
    rintro e' w2 ⟨rfl, b2⟩
    have OR2 := Lib.hid (OR.out.below (innerS _) b2)
    have HB2 := Lib.hid (HB.out.trans (b2.mono hsz))
    have hz2 := b2.size
    clear b2 HFL OR HB
    have xm2 := (KM.out.belowS HB2.out).cell 0
    have xk2 := (KK.out.belowS HB2.out).cell 0
    simp at xm2 xk2
    by_cases hlt : f < K
    · have hd0 : decide ((f : Int) < (K : Int)) = true := by simp; omega
      go_wp2_with fail
      refine (coverS_any ao bo n c m c' f N K d e w2 (HD1.out.below HB2.out) (HE1.out.below HB2.out) HM.out HEM.out HN.out HK.out hlt).mono ?_
      rintro e' w3 ⟨a3, n3, c3, rfl, hno, hyes, b3⟩
      have hz2w := HB2.out.size
      have hB3 := Lib.hid (HB2.out.trans (b3.mono hz2w))
      have OR3 := Lib.hid (OR2.out.below (innerS _) b3)
      have hz3 := b3.size
      cases hc : covO d e f with
      | none =>
        obtain ⟨rfl, rfl, rfl⟩ := hno hc
        have HL := Lib.hid (cvL_none hc)
        clear hno hyes hc
        go_wp2
        go_roundw
        case rel => exact ⟨f + 1, k, a, cc, us, rfl, by go_num, by omega, by omega, by rw [HL.out]; exact OR3.out.mono (Nat.le_refl _) (by omega), hB3.out⟩
        case measure => simp [intOf]; omega
      | some p =>
        obtain ⟨rfl, o3⟩ := hyes p hc
        have HL := Lib.hid (cvL_some hc)
        have O3 := Lib.hid o3
        have BB := Lib.hid b3
        have OR2' := Lib.hid (OR2.out.mono (Nat.le_refl _) hz2)
        clear hno hyes hc o3
        go_wp2_with (at_builtin; refine wpList_ap1 etSS _ rfl _ _ rfl w1.heap.size a k cc _ rfl OR3.out.own (.slice a3 n3 c3) rfl rfl (by omega) (by omega) ?_; intro ao4 c4 w4 o4 g4 hat4)
        have OR4 := Lib.hid (rows_push2 OR2'.out (by omega) BB.out O3.out (Below.refl _ _) o4 g4 (hat4.imp id fun e => ⟨_, e, Nat.le_succ _⟩))
        have B4 := Lib.hid (hB3.out.grown g4 (by omega) (fun g hg => (OR3.out.own.lt g hg).1))
        clear o4 g4 hat4
        go_roundw
        case rel => exact ⟨f + 1, k + 1, ao4, c4, _, rfl, by go_num, by omega, by omega, by rw [HL.out]; exact OR4.out, B4.out⟩
        case measure => simp [intOf]; omega
    · obtain rfl : f = K := by omega
      have hd0 : decide ((f : Int) < (f : Int)) = false := by simp
      have BF := Lib.hid (HB0.out.trans (HB2.out.mono hz1))
      go_wp2
      go_ret
      exact ⟨a, k, cc, us, rfl, OR2.out.mono hz1 hz2, BF.out⟩
end Go.Proofs.Ytmdhljleaijkbaa

/- Draws of maniplexes: l06All. guards: -/
namespace Go.Proofs.Ytmdhljleaijkbaa
open Go.RowKit

set_option maxRecDepth 100000 in
set_option maxHeartbeats 6400000 in
theorem allS_any (ao : Option Addr) (n c N : Nat) (d : List (List Int)) (w : World) (hd : Intss w ao n d) (hM : Man d) (hN : flg d = N) :
    Calls Try.prog 92 #[.agg #[.slice ao n c]] w (CvsAns w (cvL d d N)) := by
  have HD := Lib.hid hd
  have HM := Lib.hid hM
  have HN := Lib.hid hN
  have hN4 : N ≤ 400 := by rw [← hN]; exact hM.f4
  have hN2 : 2 ≤ N := by rw [← hN]; exact hM.f2
  have hd1 := hM.n1
  have hdl := hd.1
  clear hd hM hN
  have b0 := below_alloc1 w (.cells #[.slice ao n c] 28)
  have km : Blk (w.alloc (.cells #[.slice ao n c] 28)) w.heap.size 28 #[.slice ao n c] := blk_at rfl
  have HD1 := Lib.hid (HD.out.below b0)
  go_enter Try.func92, Try.ntmps92
  go_upto_region 1 with fail
  generalize w.alloc (.cells #[.slice ao n c] 28) = w1 at *
  have KM := Lib.hid km
  have HB0 := Lib.hid b0
  have hz1 := b0.size
  have hN0 : OwR (OwS 2) (w1.alloc (.cells #[] 32)) w1.heap.size (w1.alloc (.cells #[] 32)).heap.size 32 (some ⟨w1.heap.size, 0, none⟩) 0 0 [] [] := OwR.empty_ (Own.empty_ w1 32 (Nat.le_refl _)) (fun g hg => by injection hg with hg; simp at hg ⊢; omega)
  have hB1 := below_alloc1 w1 (.cells #[] 32)
  clear b0 km
  go_wp2_with fail
  go_loopw [3, 4] (fun sv fv wr => ∃ (f k : Nat) (a : Option Addr) (cc : Nat) (us : List Value), sv = .slice a k cc ∧ fv = .int .i64 f ∧ f ≤ N ∧ k ≤ f ∧ OwR (OwS 2) wr w1.heap.size wr.heap.size 32 a k cc us (cvL d d f) ∧ Below w1.heap.size w1 wr) (fun _ fv _ => N - (intOf fv).toNat)
  case atStart => exact ⟨0, 0, _, 0, [], rfl, rfl, Nat.zero_le _, Nat.le_refl _, hN0, hB1⟩
  case round =>
    clear hN0 hB1
    obtain ⟨f, k, a, cc, us, rfl, rfl, hf, hkf, ho, hb⟩ := hrel
    obtain ⟨wA, rfl⟩ : ∃ x, x = wr := ⟨_, rfl⟩
    have xm := (KM.out.belowS hb).cell 0
    simp at xm
    have HFL := Lib.hid (flagsS_any ao n c N d wA ⟨ao, n, c, rfl, HD1.out.below hb⟩ (by omega) HN.out (by omega))
    have OR := Lib.hid ho
    have HB := Lib.hid hb
    have hsz := hb.size
    clear ho hb
    go_wp2_with fail
    refine HFL.out.mono ?_
    rintro e' w2 ⟨rfl, b2⟩
    have OR2 := Lib.hid (OR.out.below (innerS _) b2)
    have HB2 := Lib.hid (HB.out.trans (b2.mono hsz))
    have hz2 := b2.size
    clear b2 HFL OR HB
    have xm2 := (KM.out.belowS HB2.out).cell 0
    simp at xm2
    by_cases hlt : f < N
    · have hd0 : decide ((f : Int) < (N : Int)) = true := by simp; omega
      go_wp2_with fail
      refine (mapCv_any ao ao n c c f N N d d w2 (HD1.out.below HB2.out) (HD1.out.below HB2.out) HM.out HM.out HN.out HN.out hlt).mono ?_
      rintro e' w3 ⟨a3, n3, c3, rfl, hno, hyes, b3⟩
      have hz2w := HB2.out.size
      have hB3 := Lib.hid (HB2.out.trans (b3.mono hz2w))
      have OR3 := Lib.hid (OR2.out.below (innerS _) b3)
      have hz3 := b3.size
      cases hc : covO d d f with
      | none =>
        obtain ⟨rfl, rfl, rfl⟩ := hno hc
        have HL := Lib.hid (cvL_none hc)
        clear hno hyes hc
        go_wp2
        go_roundw
        case rel => exact ⟨f + 1, k, a, cc, us, rfl, by go_num, by omega, by omega, by rw [HL.out]; exact OR3.out.mono (Nat.le_refl _) (by omega), hB3.out⟩
        case measure => simp [intOf]; omega
      | some p =>
        obtain ⟨rfl, o3⟩ := hyes p hc
        have HL := Lib.hid (cvL_some hc)
        have O3 := Lib.hid o3
        have BB := Lib.hid b3
        have OR2' := Lib.hid (OR2.out.mono (Nat.le_refl _) hz2)
        clear hno hyes hc o3
        go_wp2_with (at_builtin; refine wpList_ap1 etSS _ rfl _ _ rfl w1.heap.size a k cc _ rfl OR3.out.own (.slice a3 n3 c3) rfl rfl (by omega) (by omega) ?_; intro ao4 c4 w4 o4 g4 hat4)
        have OR4 := Lib.hid (rows_push2 OR2'.out (by omega) BB.out O3.out (Below.refl _ _) o4 g4 (hat4.imp id fun e => ⟨_, e, Nat.le_succ _⟩))
        have B4 := Lib.hid (hB3.out.grown g4 (by omega) (fun g hg => (OR3.out.own.lt g hg).1))
        clear o4 g4 hat4
        go_roundw
        case rel => exact ⟨f + 1, k + 1, ao4, c4, _, rfl, by go_num, by omega, by omega, by rw [HL.out]; exact OR4.out, B4.out⟩
        case measure => simp [intOf]; omega
    · obtain rfl : f = N := by omega
      have hd0 : decide ((f : Int) < (f : Int)) = false := by simp
      have BF := Lib.hid (HB0.out.trans (HB2.out.mono hz1))
      go_wp2
      go_ret
      exact ⟨a, k, cc, us, rfl, OR2.out.mono hz1 hz2, BF.out⟩
end Go.Proofs.Ytmdhljleaijkbaa

/- Draws of maniplexes: l07Quotient. guards: -/
namespace Go.Proofs.Ytmdhljleaijkbaa
open Go.RowKit

set_option maxHeartbeats 1600000 in
theorem idxB_any (ao : Option Addr) (n c : Nat) (zs : List Int) (x : Int) (w : World) (h : Ints w ao n zs) (hn : n ≤ 1000) (hx : ∃ p, p < n ∧ iget zs p = x) :
    Calls Try.prog 123 #[.slice ao n c, .int .i64 x] w fun e w' => ∃ k : Nat, k < n ∧ e = .returned (.int .i64 k) ∧ Below w.heap.size w w' := by
  have HL := Lib.hid h.1
  have HX := Lib.hid hx
  clear hx
  go_enter Try.func123, Try.ntmps123
  go_wp2
  go_loopw [5] (fun i wr => ∃ k m : Nat, k ≤ n ∧ i = .int .i64 k ∧ wr = w.drewN m ∧ ∀ p, p < k → iget zs p ≠ x) (fun i _ => n - (intOf i).toNat)
  case atStart => exact ⟨0, 0, Nat.zero_le _, rfl, rfl, fun p hp => by omega⟩
  case round =>
    obtain ⟨k, m, hk, rfl, rfl, hni⟩ := hrel
    by_cases hlt : k < n
    · obtain ⟨b, off, rfl, hc⟩ := h.at_ hlt
      have HNI := Lib.hid hni
      clear hni h
      obtain ⟨y, hy⟩ : ∃ y, iget zs k = y := ⟨_, rfl⟩
      rw [hy] at hc
      have HY := Lib.hid hy
      clear hy
      by_cases hy : y = x
      · subst hy
        have h1 : (y == y) = true := by simp
        go_wp2
        go_ret
        exact ⟨k, hlt, rfl, below_drewN (Below.refl _ _) _⟩
      · have h1 : (y == x) = false := by simp [hy]
        go_wp2
        go_roundw
        case rel => exact ⟨k + 1, _, by omega, by go_num, rfl, fun p hp => by
          rcases Nat.lt_or_ge p k with q | q
          · exact HNI.out p q
          · obtain rfl : p = k := by omega
            rw [HY.out]; exact hy⟩
        case measure => first | (simp [intOf]; done) | (simp [intOf]; omega)
    · obtain rfl : k = n := by omega
      obtain ⟨p, h1, h2⟩ := HX.out
      exact absurd h2 (hni p h1)
theorem grt_any (ao : Option Addr) (n c : Nat) (zs : List Int) (K : Nat) (w : World) (h : OwS 2 w (.slice ao n c) zs) (hl : zs.length ≤ 1000) (hz : ∀ z ∈ zs, -1 ≤ z ∧ z ≤ 1000000) (hK : grt zs = K) :
    Calls Try.prog 122 #[.slice ao n c] w fun e w' => e = .returned (.int .i64 K) ∧ Below w.heap.size w w' := by
  rw [← hK]
  refine one_val (callS (lo := 0) (hi := w.heap.size) (fun _ => greatest_fc zs (by omega) hz) ⟨h, ?_⟩)
  exact fun g hg => ⟨Nat.zero_le _, (innerS _).lt h g hg⟩
set_option maxRecDepth 100000 in
set_option maxHeartbeats 6400000 in
theorem quot_any (ao lo : Option Addr) (n c lc N K : Nat) (d : List (List Int)) (zs : List Int) (w : World) (hd : RdSSc w (.slice ao n c) d) (hT : Leads d N) (hn : 1 ≤ n) (hn9 : n ≤ 100) (hN : 1 ≤ N) (hN9 : N ≤ 1000)
    (hz : OwS 2 w (.slice lo N lc) zs) (hv : ∀ f, f < N → ∃ x : Nat, iget zs f = (x : Int) ∧ x < K) (ha : ∀ j : Nat, j < K → ∃ p, p < N ∧ iget zs p = (j : Int)) (hK : grt zs = K) (hK9 : K ≤ N) :
    Calls Try.prog 93 #[.agg #[.slice ao n c], .slice lo N lc] w fun e w' => ∃ a c' r, e = .returned (.agg #[.slice a n c']) ∧ OwM 2 32 w' w.heap.size w'.heap.size (.agg #[.slice a n c']) r ∧ r.length = n ∧ Sq r K ∧ Below w.heap.size w w' := by
  have hzl : zs.length = N := by
    obtain ⟨a', n', c', e, ho⟩ := id hz
    injection e with e1 e2 e3
    subst e2
    have := ho.len
    simp at this
    omega
  have hzz : ∀ z ∈ zs, -1 ≤ z ∧ z ≤ 1000000 := fun z hzm => by
    obtain ⟨j, hj, rfl⟩ := List.getElem_of_mem hzm
    obtain ⟨x, hx1, hx2⟩ := hv j (by omega)
    rw [← iget_lt hj, hx1]; omega
  have hzi : ∀ w' : World, Below w.heap.size w w' → Ints w' lo N zs ∧ OwS 2 w' (.slice lo N lc) zs := fun w' hb => by
    have h2 : OwS 2 w' (.slice lo N lc) zs := (innerS _).loc hz fun g hg => hb.block g ((innerS _).lt hz g hg)
    obtain ⟨a', n', c', e, ho⟩ := h2.rd
    injection e with e1 e2 e3
    subst e1 e2 e3
    exact ⟨ho, h2⟩
  have HZ := Lib.hid hzi
  have HG := Lib.hid (fun (w' : World) (h : OwS 2 w' (.slice lo N lc) zs) => grt_any lo N lc zs K w' h (by omega) hzz hK)
  have HV := Lib.hid hv
  have HAT := Lib.hid ha
  have HT := Lib.hid hT
  have HD := Lib.hid hd
  have hdl := hd.intss.1
  have hb0 := below_alloc2 w (.cells #[.slice ao n c] 28) (.cells #[.slice none 0 0] 28)
  have k1 : Blk ((w.alloc (.cells #[.slice ao n c] 28)).alloc (.cells #[.slice none 0 0] 28)) w.heap.size 28 #[.slice ao n c] := (blk_at rfl).alloc _
  have k3 : Blk ((w.alloc (.cells #[.slice ao n c] 28)).alloc (.cells #[.slice none 0 0] 28)) (w.heap.size + 1) 28 #[.slice none 0 0] := blk_at (by simp)
  have hz1 : ((w.alloc (.cells #[.slice ao n c] 28)).alloc (.cells #[.slice none 0 0] 28)).heap.size = w.heap.size + 2 := by simp
  clear hz hzi hzz hzl hv ha hT hd hK
  go_enter Try.func93, Try.ntmps93
  go_upto_region 1 with fail
  generalize (w.alloc (.cells #[.slice ao n c] 28)).alloc (.cells #[.slice none 0 0] 28) = wB at *
  have K1 := Lib.hid k1
  have K3 := Lib.hid k3
  have HB4 := Lib.hid hb0
  have hz4 : w.heap.size ≤ wB.heap.size := by omega
  clear k1 k3 hb0
  have b7 := (Below.refl wB.heap.size wB).alloc (Nat.le_refl _) (.cells #[.slice none 0 0] 28)
  have ST := Lib.hid (MBx.start (w := wB) b7 (Blk.new wB 28 #[.slice none 0 0]) (Nat.le_refl _))
  have hz7 : wB.heap.size < (wB.alloc (.cells #[.slice none 0 0] 28)).heap.size := by simp
  clear b7
  go_upto_region 2 with fail
  generalize wB.alloc (.cells #[.slice none 0 0] 28) = w7 at *
  rw [hz1] at ST hz7
  obtain ⟨bx, hbx⟩ : ∃ bx, w.heap.size + 2 = bx := ⟨_, rfl⟩
  have HBX := Lib.hid hbx
  rw [hbx] at ST hz7 ⊢
  clear hbx
  go_wp2_with fail
  go_loopw [6] (fun kv wr => ∃ (q : Nat) (am : Option Addr) (cm : Nat) (us : List Value) (ds : List (List Int)), kv = .int .i64 q ∧ q ≤ n ∧ Sq ds K ∧ MBx wB wr bx (bx + 1) am q cm us ds) (fun kv _ => n - (intOf kv).toNat)
  case atStart => exact ⟨0, none, 0, [], [], rfl, Nat.zero_le _, sq_nil _, ST.out⟩
  case round =>
    clear ST hz7
    obtain ⟨q, am, cm, um, ds, rfl, hq, hds, st⟩ := hrel
    obtain ⟨wA, rfl⟩ : ∃ x, x = wr := ⟨_, rfl⟩
    have ST := Lib.hid st
    have hbw := Lib.hid st.bel
    have hzr := hbw.out.size
    have HBA := Lib.hid (HB4.out.trans (hbw.out.mono hz4))
    have y1 := (K1.out.belowS hbw.out).cell 0
    simp at y1
    by_cases hltq : q < n
    · have hqi : (q : Int) < (n : Int) := by omega
      have HDS := Lib.hid hds
      have E0 := Lib.hid (Gl.empty_ wA wA.heap.size K (Nat.le_refl _) rfl)
      have hbA := below_alloc1 wA (.cells #[] 2)
      have HBE := Lib.hid hbA
      clear st hds hbA
      go_wp2_with fail
      go_loopw [7, 8] (fun sv iv w8 => ∃ (j : Nat) (a : Option Addr) (cc : Nat), j ≤ K ∧ sv = .slice a j cc ∧ iv = .int .i64 j ∧ Gl w8 wA.heap.size a j cc K ∧ Below wA.heap.size wA w8) (fun _ iv _ => K - (intOf iv).toNat)
      case atStart => exact ⟨0, _, _, Nat.zero_le _, rfl, rfl, E0.out, HBE.out⟩
      case round =>
        clear E0 HBE y1
        obtain ⟨j, a, cc, hj, rfl, rfl, hg, hb8⟩ := hrel
        have hz8 := hb8.size
        have HB8 := Lib.hid hb8
        have HG8 := Lib.hid hg
        have HBW := Lib.hid (HBA.out.trans (hb8.mono (by omega)))
        clear hb8 hg
        go_wp2_with fail
        refine (HG.out wr (HZ.out wr HBW.out).2).mono ?_
        rintro e w9 ⟨rfl, b9⟩
        have HB9 := Lib.hid (HB8.out.trans (b9.mono hz8))
        have HG9 := Lib.hid (HG8.out.below b9)
        have HBW9 := Lib.hid (HBW.out.trans (b9.mono HBW.out.size))
        have HBB9 := Lib.hid (hbw.out.trans (HB9.out.mono hzr))
        have hz9 := HB9.out.size
        clear HBW HG8 HB8 b9
        by_cases hltj : j < K
        · have hji : (j : Int) < (K : Int) := by omega
          have y2 := (K1.out.belowS HBB9.out).cell 0
          simp at y2
          obtain ⟨b3, off3, a3, n3, c3, rfl, hc3, hi3⟩ := (HD.out.intss.below HBW9.out).at_ hltq
          have hn3 : n3 = N := by rw [← hi3.1]; exact HT.out.len q (by omega)
          subst hn3
          have HI3 := Lib.hid hi3
          clear hi3
          obtain ⟨g9, n9, m9, o9⟩ := HG9.out
          have Q9 := Lib.hid (show Gl w9 wA.heap.size a j cc K from ⟨g9, n9, m9, o9⟩)
          have HAJ := Lib.hid (HAT.out j hltj)
          clear o9
          go_upto_region 9 with fail
          go_region_law (first
            | (refine gl_step0 (w0 := w3) etI rfl (.tmp 24) (.tmp 38) rfl wA.heap.size a j cc K rfl Q3.out (v : Int) rfl (by omega) (by omega) (by have := B3.out.size; omega) ?_; intro a7 c7 w7 q7 b7 g7 hat7)
            | (go_simp; go_at_call 123; refine (idxB_any lo n3 lc zs (j : Int) w9.drew (HZ.out w9.drew (HBW9.out.drew)).1 (by omega) HAJ.out).mono ?_; rintro e w3 ⟨k, hk, rfl, b3'⟩; have B3 := Lib.hid (below_tr b3' (below_drew1 w9)); have Q3 := Lib.hid (Q9.out.below B3.out); have BW3 := Lib.hid (HBW9.out.trans (B3.out.mono HBW9.out.size)); have BB3 := Lib.hid (HBB9.out.trans (B3.out.mono HBB9.out.size)); have y3 := (K1.out.belowS BB3.out).cell 0; simp at y3; obtain ⟨b4, off4, rfl, hc4⟩ := (HI3.out.below B3.out).at_ hk; have hy := bTo_lt HT.out hk (g := q) (by omega); obtain ⟨y, hye⟩ : ∃ y, bTo d k q = y := ⟨_, rfl⟩; rw [hy.2, hye] at hc4; rw [hye] at hy; have hyN := hy.1; obtain ⟨v, hv1, hv2⟩ := HV.out y hyN; obtain ⟨b5, off5, rfl, hc5⟩ := (HZ.out w3 BW3.out).1.at_ hyN; rw [hv1] at hc5; have hki : (k : Int) < (n3 : Int) := (by omega); have hyi : (y : Int) < (n3 : Int) := (by omega); have HC3 := (B3.out.cell (World.block_lt_of_cell? w9 _ hc3)).trans hc3; clear hy hye hv1))
          all_goals
            have Q7 := Lib.hid q7
            have B7 := Lib.hid ((HB9.out.trans (B3.out.mono hz9)).trans b7)
            clear q7 b7 g7 hat7
            go_wp2_with fail
            go_roundw
          all_goals first | exact ⟨j + 1, a7, c7, by omega, rfl, by go_num, Q7.out, B7.out⟩ | (simp [intOf]; omega)
        · obtain rfl : j = K := by omega
          have hji : ¬ (j : Int) < (j : Int) := by omega
          have STB := Lib.hid (ST.out.below HB9.out)
          obtain ⟨zr, n8, m8, o8⟩ := HG9.out
          have HO8 := Lib.hid o8
          have xb := STB.out.cell
          have hlo8 := STB.out.at_.2.2
          clear o8
          go_wp2_with (at_builtin; refine wpList_ap1 etSS _ rfl _ _ rfl (bx + 1) am q cm _ rfl STB.out.row.own (.slice a j cc) rfl rfl (by omega) hlo8 ?_; intro ao2 c2' w4 ho2 hg2 hat; have x4 := (STB.out.boxG hg2).cell 0; have f4 := (STB.out.boxG hg2).frozen 0)
          have SP := Lib.hid (ST.out.push (by omega) HB9.out HO8.out (Below.refl _ _) ho2 hg2 (hat.imp id fun e => ⟨_, e, Nat.le_succ _⟩))
          clear ho2 hg2 hat STB ST
          go_roundw
          case rel => exact ⟨q + 1, ao2, c2', _, _, by go_num, by omega, HDS.out.app n8 m8, SP.out⟩
          case measure => simp [intOf]; omega
    · obtain rfl : q = n := by omega
      have hqi : ¬ (q : Int) < (q : Int) := by omega
      have xb := st.cell
      have KRr := K3.out.belowS hbw.out
      have xr := KRr.cell 0
      have fr := KRr.frozen 0
      have BF := Lib.hid (HBA.out.trans (Below.refl _ _))
      simp at xr
      have hrl : ds.length = q := st.row.len
      clear st
      go_wp2
      have hfl : w.heap.size + 1 < bx := by rw [← HBX.out]; omega
      exact bodyPost_ret (v := .agg #[.slice am q cm]) (by simp [results, Try.f93, go_sem, xr]) rfl (by first | exact ⟨am, cm, ds, rfl, ST.out.done hfl _ hz4, hrl, hds, BF.out.setCell (by simp) _⟩ | exact ⟨am, cm, rfl, ds, ST.out.done hfl _ hz4, hrl, hds, BF.out.setCell (by simp) _⟩)
end Go.Proofs.Ytmdhljleaijkbaa

/- PolygonOf: the flags of a polygon, by the reference and by the program. -/
namespace Go.Proofs.Ytmdhljleaijkbaa
open Go.RowKit

/-- the two moves of a polygon with n flags -/
def polyA (f : Nat) : Int := if f % 2 = 0 then (f : Int) + 1 else (f : Int) - 1
def polyB (n f : Nat) : Int := if f % 2 = 0 then ((f : Int) + n - 1) % n else ((f : Int) + 1) % n
def polyL (g : Nat → Int) (n : Nat) : List Int := (List.range n).map g
theorem polyL_succ (g : Nat → Int) (n : Nat) : polyL g (n + 1) = polyL g n ++ [g n] := by simp [polyL, List.range_succ]
theorem length_polyL (g : Nat → Int) (n : Nat) : (polyL g n).length = n := by simp [polyL]

set_option maxHeartbeats 800000 in
theorem specPolygon_any (m : Nat) (w : World) (h1 : 1 ≤ m) (h2 : m ≤ 200) :
    Calls Try.prog 86 #[.int .i64 m] w fun e w' => ∃ v, e = .returned v ∧ OwM 2 32 w' w.heap.size w'.heap.size v [polyL polyA (2 * m), polyL (polyB (2 * m)) (2 * m)] ∧ Below w.heap.size w w' := by
  have hmk := run_mk etI .i64 .i64 (2 * (m : Int)) (2 * m) (by omega) (by omega)
  have HMK := Lib.hid hmk
  clear hmk
  go_enter Try.func86, Try.ntmps86
  go_upto_region 2 with fail
  go_cut [4, 5] (fun s4 s5 wx => ∃ g1 g2 : Nat, s4 = .slice (some ⟨g1, 0, none⟩) (2 * m) (2 * m) ∧ s5 = .slice (some ⟨g2, 0, none⟩) (2 * m) (2 * m) ∧ g1 ≠ g2 ∧ Own wx (w.heap.size + 1) 2 (some ⟨g1, 0, none⟩) (2 * m) (2 * m) (List.replicate (2 * m) (.int .i64 0)) ∧ Own wx (w.heap.size + 1) 2 (some ⟨g2, 0, none⟩) (2 * m) (2 * m) (List.replicate (2 * m) (.int .i64 0)) ∧ Blk wx w.heap.size 28 #[.slice none 0 0] ∧ Below w.heap.size w wx)
  case first =>
    have hmk := HMK.out
    go_region
    all_goals go_wp2_with fail
    all_goals go_meet
    · have o1 := own_made etI (w := w.alloc (.cells #[.slice none 0 0] 28)) (base := w.heap.size + 1) (n := 2 * m) (g := w.heap.size + 1) (by simp) (by omega) (by simp)
      have o2 := own_made etI (w := (w.alloc (.cells #[.slice none 0 0] 28)).alloc (.cells (madeCells #[.int .i64 0] (2 * m)) 2)) (base := w.heap.size + 1) (n := 2 * m) (g := w.heap.size + 1 + 1) (by simp) (by omega) (by simp)
      exact ⟨_, _, rfl, rfl, by omega, o1.alloc _, o2, ((blk_at rfl).alloc _).alloc _, (below_alloc3 w _ _ _).drew⟩
    · have o1 := own_made etI (w := w.alloc (.cells #[.slice none 0 0] 28)) (base := w.heap.size + 1) (n := 2 * m) (g := w.heap.size + 1) (by simp) (by omega) (by simp)
      have o2 := own_made etI (w := (w.alloc (.cells #[.slice none 0 0] 28)).alloc (.cells (madeCells #[.int .i64 0] (2 * m)) 2)) (base := w.heap.size + 1) (n := 2 * m) (g := w.heap.size + 1 + 1) (by simp) (by omega) (by simp)
      exact ⟨_, _, rfl, rfl, by omega, o2, o1.alloc _, ((blk_at rfl).alloc _).alloc _, (below_alloc3 w _ _ _).drew⟩
  case rest =>
    obtain ⟨g1, g2, rfl, rfl, hne, o1, o2, kb, hb⟩ := hcut
    clear HMK
    go_wp2
    go_loopw [6] (fun i wr => ∃ k : Nat, k ≤ 2 * m ∧ i = .int .i64 k ∧ Own wr (w.heap.size + 1) 2 (some ⟨g1, 0, none⟩) (2 * m) (2 * m) ((polyL polyA k ++ List.replicate (2 * m - k) 0).map (Value.int .i64)) ∧ Own wr (w.heap.size + 1) 2 (some ⟨g2, 0, none⟩) (2 * m) (2 * m) ((polyL (polyB (2 * m)) k ++ List.replicate (2 * m - k) 0).map (Value.int .i64)) ∧ Blk wr w.heap.size 28 #[.slice none 0 0] ∧ Below w.heap.size w wr) (fun i _ => 2 * m - (intOf i).toNat)
    case atStart => exact ⟨0, by omega, rfl, by simpa [polyL] using o1, by simpa [polyL] using o2, kb, hb⟩
    case round =>
      obtain ⟨k, hk, rfl, p1, p2, kb', hb'⟩ := hrel
      clear o1 o2 kb hb
      have hg1 := (p1.lt g1 rfl)
      have hg2 := (p2.lt g2 rfl)
      by_cases hlt : k < 2 * m
      · have hc1 : wr.cell? ⟨g1, k, none⟩ = some (.int .i64 0) := by
          obtain ⟨g', e, -, -, -, hc, -⟩ := p1.form (by omega)
          injection e with e; injection e with e; subst e
          rw [hc k hlt]; exact get_pad (length_polyL _ _) hlt
        have hc2 : wr.cell? ⟨g2, k, none⟩ = some (.int .i64 0) := by
          obtain ⟨g', e, -, -, -, hc, -⟩ := p2.form (by omega)
          injection e with e; injection e with e; subst e
          rw [hc k hlt]; exact get_pad (length_polyL _ _) hlt
        have hf1 := p1.1.frozenAt k
        have hf2 := p2.1.frozenAt k
        have st : ∀ x y : Int, x = polyA k → y = polyB (2 * m) k → (∃ wn, wn = (wr.setCell ⟨g1, k, none⟩ (.int .i64 x)).setCell ⟨g2, k, none⟩ (.int .i64 y) ∧ Own wn (w.heap.size + 1) 2 (some ⟨g1, 0, none⟩) (2 * m) (2 * m) ((polyL polyA (k + 1) ++ List.replicate (2 * m - (k + 1)) 0).map (Value.int .i64)) ∧ Own wn (w.heap.size + 1) 2 (some ⟨g2, 0, none⟩) (2 * m) (2 * m) ((polyL (polyB (2 * m)) (k + 1) ++ List.replicate (2 * m - (k + 1)) 0).map (Value.int .i64)) ∧ Blk wn w.heap.size 28 #[.slice none 0 0] ∧ Below w.heap.size w wn) := by
          rintro x y rfl rfl
          obtain ⟨s1, t1⟩ := p1.stored k (.int .i64 (polyA k))
          have p2' := p2.kept t1 (.inr (by simp [bk]; omega))
          obtain ⟨s2, t2⟩ := p2'.stored k (.int .i64 (polyB (2 * m) k))
          have s1' := s1.kept t2 (.inr (by simp [bk]; omega))
          rw [← List.map_set, set_pad (length_polyL _ _) hlt, ← polyL_succ] at s1' s2
          exact ⟨_, rfl, s1', s2, (kb'.far (by simp; omega) _).far (by simp; omega) _, (hb'.setCell (by simp; omega) _).setCell (by simp; omega) _⟩
        have ST := Lib.hid st
        clear st p1 p2 kb' hb'
        by_cases hev : k % 2 = 0
        · have e1 : ((k : Int) % 2 == 0) = true := by simp; omega
          have hA : (k : Int) + 1 = polyA k := by unfold polyA; rw [if_pos hev]
          have hB : ((k : Int) + 2 * m - 1) % (2 * m) = polyB (2 * m) k := by unfold polyB; rw [if_pos hev]; congr 1 <;> omega
          obtain ⟨wn, hwn, q1, q2, q3, q4⟩ := ST.out _ _ hA hB
          have HW := Lib.hid hwn
          have hdv : 0 ≤ (k : Int) + 2 * m - 1 := by omega
          clear ST hA hB hwn hev
          go_wp2
          go_roundw
          case rel => exact ⟨k + 1, by omega, by go_num, by rw [← HW.out]; exact q1, by rw [← HW.out]; exact q2, by rw [← HW.out]; exact q3, by rw [← HW.out]; exact q4⟩
          case measure => simp [intOf]; omega
        · have e1 : ((k : Int) % 2 == 0) = false := by simp; omega
          have hA : (k : Int) - 1 = polyA k := by unfold polyA; rw [if_neg hev]
          have hB : ((k : Int) + 1) % (2 * m) = polyB (2 * m) k := by unfold polyB; rw [if_neg hev]; congr 1
          obtain ⟨wn, hwn, q1, q2, q3, q4⟩ := ST.out _ _ hA hB
          have HW := Lib.hid hwn
          have hk1 : 1 ≤ k := by omega
          clear ST hA hB hwn hev
          go_wp2
          go_roundw
          case rel => exact ⟨k + 1, by omega, by go_num, by rw [← HW.out]; exact q1, by rw [← HW.out]; exact q2, by rw [← HW.out]; exact q3, by rw [← HW.out]; exact q4⟩
          case measure => simp [intOf]; omega
      · obtain rfl : k = 2 * m := by omega
        rw [Nat.sub_self, List.replicate_zero, List.append_nil] at p1 p2
        have c0 : wr.cell? ⟨w.heap.size, 0, none⟩ = some (.slice none 0 0) := kb'.cell 0
        have f0 := kb'.frozen 0
        have l0 := kb'.lt
        have hbs := hb'.size
        have hset : ∀ g, w.heap.size + 1 ≤ g → (wr.setCell ⟨w.heap.size, 0, none⟩ (.slice (some ⟨wr.heap.size, 0, none⟩) 2 2)).heap[g]? = wr.heap[g]? := fun g hg => Below.heap_setCell _ _ _ _ (by simp; omega)
        have q1 : Own (wr.setCell ⟨w.heap.size, 0, none⟩ (.slice (some ⟨wr.heap.size, 0, none⟩) 2 2)) _ _ _ _ _ _ := p1.same fun g hg => hset g (p1.lt g hg).1
        have q2 : Own (wr.setCell ⟨w.heap.size, 0, none⟩ (.slice (some ⟨wr.heap.size, 0, none⟩) 2 2)) _ _ _ _ _ _ := p2.same fun g hg => hset g (p2.lt g hg).1
        have q3 : Blk (wr.setCell ⟨w.heap.size, 0, none⟩ (.slice (some ⟨wr.heap.size, 0, none⟩) 2 2)) w.heap.size 28 #[.slice (some ⟨wr.heap.size, 0, none⟩) 2 2] := kb'.set_ 0 _
        have q4 : Below w.heap.size w (wr.setCell ⟨w.heap.size, 0, none⟩ (.slice (some ⟨wr.heap.size, 0, none⟩) 2 2)) := hb'.setCell (Nat.le_refl _) _
        have q5 : (wr.setCell ⟨w.heap.size, 0, none⟩ (.slice (some ⟨wr.heap.size, 0, none⟩) 2 2)).heap.size = wr.heap.size := by simp [World.setCell]
        have Q1 := Lib.hid q1
        have Q2 := Lib.hid q2
        have Q5 := Lib.hid q5
        clear q1 q2 q5 hset p1 p2
        go_wp2
        generalize wr.setCell ⟨w.heap.size, 0, none⟩ (.slice (some ⟨wr.heap.size, 0, none⟩) 2 2) = ws at *
        have hz := Q5.out
        have w1 := OwR.lit2 (E := 32) (lo := w.heap.size + 1) (hi := ws.heap.size) (d0 := polyL polyA (2 * m)) (d1 := polyL (polyB (2 * m)) (2 * m)) (innerS 2) (by omega) (Nat.le_refl _) ⟨_, _, _, rfl, Q1.out.mono (Nat.zero_le _)⟩ ⟨_, _, _, rfl, Q2.out.mono (Nat.zero_le _)⟩ (in_slice Q1.out.lt) (in_slice Q2.out.lt) (by intro g hg; rw [ownBlock_slice] at hg ⊢; simp [bk] at hg ⊢; omega)
        have kf := q3.alloc (.cells #[.slice (some ⟨g1, 0, none⟩) (2 * m) (2 * m), .slice (some ⟨g2, 0, none⟩) (2 * m) (2 * m)] 32)
        have bf := q4.alloc q4.size (.cells #[.slice (some ⟨g1, 0, none⟩) (2 * m) (2 * m), .slice (some ⟨g2, 0, none⟩) (2 * m) (2 * m)] 32)
        have zf : ws.heap.size + 1 = (ws.alloc (.cells #[.slice (some ⟨g1, 0, none⟩) (2 * m) (2 * m), .slice (some ⟨g2, 0, none⟩) (2 * m) (2 * m)] 32)).heap.size := by simp
        rw [hz] at w1
        generalize ws.alloc (.cells #[.slice (some ⟨g1, 0, none⟩) (2 * m) (2 * m), .slice (some ⟨g2, 0, none⟩) (2 * m) (2 * m)] 32) = wf at *
        have e0 : wf.cell? ⟨w.heap.size, 0, none⟩ = some (.slice (some ⟨wr.heap.size, 0, none⟩) 2 2) := kf.cell 0
        refine bodyPost_ret (v := .agg #[.slice (some ⟨wr.heap.size, 0, none⟩) 2 2]) (by simp [results, Try.f86, go_sem, e0]) rfl ⟨_, rfl, ⟨_, _, _, _, rfl, w1.mono (by omega) (by omega)⟩, bf⟩
end Go.Proofs.Ytmdhljleaijkbaa

/- polygonOf, the program's; PolygonOf, both. -/
namespace Go.Proofs.Ytmdhljleaijkbaa
open Go.RowKit

theorem ofInt_i64 (a : Nat) (ha : a < 9223372036854775808) : (BitVec.ofInt 64 (a : Int)).toNat = a := by
  rw [BitVec.ofInt_natCast, BitVec.toNat_ofNat]; exact Nat.mod_eq_of_lt (by omega)
theorem i64_xor_nat (a b : Nat) (ha : a < 9223372036854775808) (hb : b < 9223372036854775808) : bits .xor .i64 (a : Int) (b : Int) = ((a ^^^ b : Nat) : Int) := by
  have hx : a ^^^ b < 2 ^ 63 := Nat.xor_lt_two_pow (by omega) (by omega)
  show IntKind.i64.wrap ((BitVec.ofInt 64 (a : Int) ^^^ BitVec.ofInt 64 (b : Int)).toNat : Int) = _
  rw [BitVec.toNat_xor, ofInt_i64 a ha, ofInt_i64 b hb, IntKind.wrap_i64]
  omega
theorem xor_one_div (k : Nat) : (k ^^^ 1) / 2 = k / 2 := by rw [Nat.xor_div_two]; simp
end Go.Proofs.Ytmdhljleaijkbaa

/- Draws of maniplexes: l05Grid. guards: -/
namespace Go.Proofs.Ytmdhljleaijkbaa
open Go.RowKit

theorem xor1_lt {f N : Nat} (h : f < 2 * N) (hN : N ≤ 1000000) : ∃ x : Nat, bits .xor .i64 (f : Int) 1 = (x : Int) ∧ x < 2 * N := by
  refine ⟨f ^^^ 1, i64_xor_nat f 1 (by omega) (by omega), ?_⟩
  have := xor_one_div f
  omega
theorem xor2_lt {f N : Nat} (h : f < 4 * N) (hN : N ≤ 1000000) : ∃ x : Nat, bits .xor .i64 (f : Int) 2 = (x : Int) ∧ x < 4 * N := by
  refine ⟨f ^^^ 2, i64_xor_nat f 2 (by omega) (by omega), ?_⟩
  have h1 : (f ^^^ 2) / 2 / 2 = f / 2 / 2 := by
    rw [Nat.xor_div_two, Nat.xor_div_two]; simp
  omega
set_option maxRecDepth 100000 in
set_option maxHeartbeats 6400000 in
theorem grid_any (a b : Nat) (w : World) (ha : 1 ≤ a) (ha4 : a ≤ 4) (hb : 1 ≤ b) (hb2 : b ≤ 2) :
    Calls Try.prog 85 #[.int .i64 a, .int .i64 b] w fun e w' => ∃ v d, e = .returned v ∧ OwM 2 32 w' w.heap.size w'.heap.size v d ∧ d.length = 3 ∧ Sq d (8 * a * b) ∧ Below w.heap.size w w' := by
  obtain ⟨M, hM⟩ : ∃ M, a * b = M := ⟨_, rfl⟩
  have hM1 : 1 ≤ M := by rw [← hM]; exact Nat.mul_pos ha hb
  have hM8 : M ≤ 8 := by rw [← hM]; exact Nat.mul_le_mul ha4 hb2
  have hN : 8 * a * b = 8 * M := by rw [Nat.mul_assoc, hM]
  rw [hN]
  obtain ⟨NN, hNN⟩ : ∃ NN, 8 * M = NN := ⟨_, rfl⟩
  rw [hNN]
  have hw2 : IntKind.i64.wrap (8 * (a : Int) * (b : Int)) = (NN : Int) := by rw [show 8 * (a : Int) * (b : Int) = ((8 * a * b : Nat) : Int) by simp, hN, hNN]; exact IntWalk.i64_in _ (by omega)
  have E1 := Gl.empty_ (w.alloc (.cells #[.slice none 0 0] 28)) (w.heap.size + 1) NN (by simp) (g := w.heap.size + 1) (by simp)
  have E2 := Gl.empty_ ((w.alloc (.cells #[.slice none 0 0] 28)).alloc (.cells #[] 2)) (w.heap.size + 1) NN (by simp) (g := w.heap.size + 1 + 1) (by simp)
  have E3 := Gl.empty_ (((w.alloc (.cells #[.slice none 0 0] 28)).alloc (.cells #[] 2)).alloc (.cells #[] 2)) (w.heap.size + 1) NN (by simp) (g := w.heap.size + 1 + 1 + 1) (by simp)
  have k1 : Blk ((((w.alloc (.cells #[.slice none 0 0] 28)).alloc (.cells #[] 2)).alloc (.cells #[] 2)).alloc (.cells #[] 2)) w.heap.size 28 #[.slice none 0 0] := (((blk_at rfl).alloc _).alloc _).alloc _
  have B1 := (below_alloc3 w (.cells #[.slice none 0 0] 28) (.cells #[] 2) (.cells #[] 2)).alloc (by simp; omega) (.cells #[] 2)
  have G1 := Lib.hid ((E1.below (below_alloc1 _ (.cells #[] 2))).below (below_alloc1 _ (.cells #[] 2)))
  have G2 := Lib.hid (E2.below (below_alloc1 _ (.cells #[] 2)))
  have G3 := Lib.hid E3
  have K1 := Lib.hid k1
  have HB1 := Lib.hid B1
  have hz1 : w.heap.size + 1 + 1 + 1 + 1 = ((((w.alloc (.cells #[.slice none 0 0] 28)).alloc (.cells #[] 2)).alloc (.cells #[] 2)).alloc (.cells #[] 2)).heap.size := by simp
  clear E1 E2 E3 k1 B1
  go_enter Try.func85, Try.ntmps85
  go_wp2_with fail
  go_loopw [5, 6, 7, 8] (fun s5 s6 s7 s8 wr => ∃ (f : Nat) (a1 a2 a3 : Option Addr) (c1 c2 c3 : Nat), f ≤ NN ∧ s5 = .slice a1 f c1 ∧ s6 = .slice a2 f c2 ∧ s7 = .slice a3 f c3 ∧ s8 = .int .i64 f ∧ Gl wr (w.heap.size + 1) a1 f c1 NN ∧ Gl wr (w.heap.size + 1) a2 f c2 NN ∧ Gl wr (w.heap.size + 1) a3 f c3 NN ∧ Ap a1 a2 ∧ Ap a1 a3 ∧ Ap a2 a3 ∧ Blk wr w.heap.size 28 #[.slice none 0 0] ∧ w.heap.size + 1 ≤ wr.heap.size ∧ Below w.heap.size w wr) (fun _ _ _ s8 _ => NN - (intOf s8).toNat)
  case atStart => exact ⟨0, _, _, _, _, _, _, Nat.zero_le _, rfl, rfl, rfl, rfl, G1.out, G2.out, G3.out, (fun g e => by simp [bk] at e ⊢; omega), (fun g e => by simp [bk] at e ⊢; omega), (fun g e => by simp [bk] at e ⊢; omega), K1.out, by simp, HB1.out⟩
  case round =>
    clear G1 G2 G3 K1 HB1 hz1
    obtain ⟨f, a1, a2, a3, c1, c2, c3, hf, rfl, rfl, rfl, rfl, g1, g2, g3, p12, p13, p23, kb, hsz, hbl⟩ := hrel
    by_cases hlt : f < NN
    · obtain ⟨q, hq⟩ : ∃ q, f / 8 = q := ⟨_, rfl⟩
      obtain ⟨r, hr⟩ : ∃ r, f % 8 = r := ⟨_, rfl⟩
      obtain ⟨x, hx⟩ : ∃ x, q % a = x := ⟨_, rfl⟩
      obtain ⟨y, hy⟩ : ∃ y, q / a = y := ⟨_, rfl⟩
      have hr8 : r < 8 := by omega
      have hqM : q < M := by omega
      have hxa : x < a := by rw [← hx]; exact Nat.mod_lt _ (by omega)
      have hyb : y < b := by rw [← hy]; exact Nat.div_lt_of_lt_mul (by rw [hM]; exact hqM)
      obtain ⟨z, hz, hz8⟩ := xor1_lt (f := f) (N := 4 * M) (by omega) (by omega)
      have t1 : (f : Int).tdiv 8 = (q : Int) := by rw [← hq]; rfl
      have t2 : (f : Int).tmod 8 = (r : Int) := by rw [← hr]; rfl
      have t3 : (q : Int).tmod (a : Int) = (x : Int) := by rw [← hx]; rfl
      have t4 : (q : Int).tdiv (a : Int) = (y : Int) := by rw [← hy]; rfl
      obtain ⟨v0, hv0⟩ : ∃ v, (r + 4) % 8 = v := ⟨_, rfl⟩
      obtain ⟨v1, hv1, hv8⟩ := xor1_lt (f := v0) (N := 4) (by omega) (by omega)
      obtain ⟨u7, hu7⟩ : ∃ u, (r + 7) % 8 = u := ⟨_, rfl⟩
      obtain ⟨u1, hu1⟩ : ∃ u, (r + 1) % 8 = u := ⟨_, rfl⟩
      obtain ⟨h, hh⟩ : ∃ h, r / 2 = h := ⟨_, rfl⟩
      obtain ⟨x0, hx0⟩ : ∃ u, (x + 1) % a = u := ⟨_, rfl⟩
      obtain ⟨x2, hx2⟩ : ∃ u, (x + a - 1) % a = u := ⟨_, rfl⟩
      obtain ⟨y1, hy1⟩ : ∃ u, (y + 1) % b = u := ⟨_, rfl⟩
      obtain ⟨y3, hy3⟩ : ∃ u, (y + b - 1) % b = u := ⟨_, rfl⟩
      have bx0 : x0 < a := by rw [← hx0]; exact Nat.mod_lt _ (by omega)
      have bx2 : x2 < a := by rw [← hx2]; exact Nat.mod_lt _ (by omega)
      have by1 : y1 < b := by rw [← hy1]; exact Nat.mod_lt _ (by omega)
      have by3 : y3 < b := by rw [← hy3]; exact Nat.mod_lt _ (by omega)
      have prod : ∀ y, y < b → ∃ P : Nat, (a : Int) * (y : Int) = (P : Int) ∧ P + a ≤ M := fun y hy => ⟨a * y, by rw [Int.natCast_mul], by rw [← hM, ← Nat.mul_succ]; exact Nat.mul_le_mul_left _ hy⟩
      obtain ⟨P0, hP0, bP0⟩ := prod y hyb
      obtain ⟨P1, hP1, bP1⟩ := prod y1 by1
      obtain ⟨P3, hP3, bP3⟩ := prod y3 by3
      have t5 : ((r : Int) + 4).tmod 8 = (v0 : Int) := by rw [← hv0]; rfl
      have t6 : ((r : Int) + 7).tmod 8 = (u7 : Int) := by rw [← hu7]; rfl
      have t7 : ((r : Int) + 1).tmod 8 = (u1 : Int) := by rw [← hu1]; rfl
      have t8 : (r : Int).tdiv 2 = (h : Int) := by rw [← hh]; rfl
      have t9 : ((x : Int) + 1).tmod (a : Int) = (x0 : Int) := by rw [← hx0]; rfl
      have t10 : ((y : Int) + 1).tmod (b : Int) = (y1 : Int) := by rw [← hy1]; rfl
      have t11 : ((x : Int) + (a : Int) - 1).tmod (a : Int) = (x2 : Int) := by rw [← hx2, show (x : Int) + (a : Int) - 1 = ((x + a - 1 : Nat) : Int) by omega]; rfl
      have t12 : ((y : Int) + (b : Int) - 1).tmod (b : Int) = (y3 : Int) := by rw [← hy3, show (y : Int) + (b : Int) - 1 = ((y + b - 1 : Nat) : Int) by omega]; rfl
      have t13 : (r : Int).tmod 2 = ((r % 2 : Nat) : Int) := rfl
      have ha0 : ((a : Int) == 0) = false := by simp; omega
      have ha0' : (a : Int) ≠ 0 := by omega
      have hb0 : ((b : Int) == 0) = false := by simp; omega
      have hb0' : (b : Int) ≠ 0 := by omega
      have hu8 : u7 < 8 ∧ u1 < 8 ∧ h < 4 := by omega
      have hyM : y ≤ 2 ∧ x ≤ 4 ∧ P0 ≤ 8 ∧ P1 ≤ 8 ∧ P3 ≤ 8 := by omega
      clear prod hx0 hx2 hy1 hy3 hu7 hu1 hv0 hq hr hx hy
      obtain ⟨z1, n1, m1, o1⟩ := g1
      have O1 := Lib.hid o1
      have G2 := Lib.hid g2
      have G3 := Lib.hid g3
      have HB := Lib.hid hbl
      have KB := Lib.hid kb
      clear o1 g2 g3 hbl kb
      clear t13
      have hc : (((r : Int) % 2 == 0) = true ∨ ((r : Int) % 2 == 0) = false) ∧ (h = 0 ∨ h = 1 ∨ h = 2 ∨ h = 3) := ⟨by cases ((r : Int) % 2 == 0) <;> simp, by omega⟩
      clear hh
      rcases hc with ⟨hev | hev, hk | hk | hk | hk⟩
      · subst hk
        go_wp2_with fail
        go_quiet (fail)
        have O1 := Lib.hid (show Own (wr.drewN nq) _ _ _ _ _ _ from O1.out)
        have G2 := Lib.hid (show Gl (wr.drewN nq) _ _ _ _ _ from G2.out)
        have G3 := Lib.hid (show Gl (wr.drewN nq) _ _ _ _ _ from G3.out)
        have HB := Lib.hid (below_drewN HB.out nq)
        have KB := Lib.hid (show Blk (wr.drewN nq) _ _ _ from KB.out)
        have hsz : w.heap.size + 1 ≤ (wr.drewN nq).heap.size := hsz
        generalize wr.drewN nq = wq at *
        go_wp2_with (first | (at_builtin; refine wpList_ap1 etI _ rfl _ _ rfl (w.heap.size + 1) a3 f c3 _ rfl O3.out _ rfl rfl (by omega) hs5 ?_; intro b3 d3 w6 ho2 hg2 hblk; have s13 : Ap b1 b3 := (q13.symm.grown hblk (fun g e => (J1.out.lt g e).2)).symm; have s23 : Ap b2 b3 := (r23.symm.grown hblk (fun g e => (J2.out.lt g e).2)).symm; have K3 := Lib.hid (Gl.app n3 m3 ho2 (show 0 ≤ 8 * ((x0 : Int) + (P0 : Int)) + (v1 : Int) ∧ 8 * ((x0 : Int) + (P0 : Int)) + (v1 : Int) < (NN : Int) by omega)); have K1 := Lib.hid (J1.out.side hg2 q13.symm); have K2 := Lib.hid (J2.out.side hg2 r23.symm); have HB6 := Lib.hid (HB5.out.grown hg2 (by omega) (fun g e => by have := (O3.out.lt g e).1; omega)); have KB6 := Lib.hid (gl_blk KB5.out O3.out hg2); have hs6 : w.heap.size + 1 ≤ w6.heap.size := Nat.le_trans hs5 hg2.size; clear ho2 hg2 hblk O3 J1 J2 J3 HB5 KB5) | (at_builtin; refine wpList_ap1 etI _ rfl _ _ rfl (w.heap.size + 1) a2 f c2 _ rfl O2.out _ rfl rfl (by omega) hs4 ?_; intro b2 d2 w5 ho2 hg2 hblk; have r12 : Ap b1 b2 := (q12.symm.grown hblk (fun g e => (H1.out.lt g e).2)).symm; have r23 : Ap b2 a3 := p23.grown hblk (fun g e => (H3.out.lt g e).2); have J2 := Lib.hid (Gl.app n2 m2 ho2 (show 0 ≤ 8 * (q : Int) + (u7 : Int) ∧ 8 * (q : Int) + (u7 : Int) < (NN : Int) by omega)); have J1 := Lib.hid (H1.out.side hg2 q12.symm); have J3 := Lib.hid (H3.out.side hg2 p23); have HB5 := Lib.hid (HB4.out.grown hg2 (by omega) (fun g e => by have := (O2.out.lt g e).1; omega)); have KB5 := Lib.hid (gl_blk KB4.out O2.out hg2); have hs5 : w.heap.size + 1 ≤ w5.heap.size := Nat.le_trans hs4 hg2.size; obtain ⟨z3, n3, m3, o3⟩ := J3.out; have O3 := Lib.hid o3; clear ho2 hg2 hblk o3 O2 H1 H2 H3 HB4 KB4) | (at_builtin; refine wpList_ap1 etI _ rfl _ _ rfl (w.heap.size + 1) a1 f c1 _ rfl O1.out _ rfl rfl (by omega) hsz ?_; intro b1 d1 w4 ho2 hg2 hblk; have q12 : Ap b1 a2 := p12.grown hblk (fun g e => (G2.out.lt g e).2); have q13 : Ap b1 a3 := p13.grown hblk (fun g e => (G3.out.lt g e).2); have H1 := Lib.hid (Gl.app n1 m1 ho2 (show 0 ≤ (z : Int) ∧ (z : Int) < (NN : Int) by omega)); have H2 := Lib.hid (G2.out.side hg2 p12); have H3 := Lib.hid (G3.out.side hg2 p13); have HB4 := Lib.hid (HB.out.grown hg2 (by omega) (fun g e => by have := (O1.out.lt g e).1; omega)); have KB4 := Lib.hid (gl_blk KB.out O1.out hg2); have hs4 : w.heap.size + 1 ≤ w4.heap.size := Nat.le_trans hsz hg2.size; obtain ⟨z2, n2, m2, o2⟩ := H2.out; have O2 := Lib.hid o2; clear ho2 hg2 hblk o2 O1 G2 G3 HB KB))
        go_roundw
        case rel => exact ⟨f + 1, b1, b2, b3, _, _, _, by omega, rfl, rfl, rfl, by go_num, K1.out, K2.out, K3.out, r12, s13, s23, KB6.out, hs6, HB6.out⟩
        case measure => simp [intOf]; omega
      · subst hk
        go_wp2_with fail
        go_quiet (fail)
        have O1 := Lib.hid (show Own (wr.drewN nq) _ _ _ _ _ _ from O1.out)
        have G2 := Lib.hid (show Gl (wr.drewN nq) _ _ _ _ _ from G2.out)
        have G3 := Lib.hid (show Gl (wr.drewN nq) _ _ _ _ _ from G3.out)
        have HB := Lib.hid (below_drewN HB.out nq)
        have KB := Lib.hid (show Blk (wr.drewN nq) _ _ _ from KB.out)
        have hsz : w.heap.size + 1 ≤ (wr.drewN nq).heap.size := hsz
        generalize wr.drewN nq = wq at *
        go_wp2_with (first | (at_builtin; refine wpList_ap1 etI _ rfl _ _ rfl (w.heap.size + 1) a3 f c3 _ rfl O3.out _ rfl rfl (by omega) hs5 ?_; intro b3 d3 w6 ho2 hg2 hblk; have s13 : Ap b1 b3 := (q13.symm.grown hblk (fun g e => (J1.out.lt g e).2)).symm; have s23 : Ap b2 b3 := (r23.symm.grown hblk (fun g e => (J2.out.lt g e).2)).symm; have K3 := Lib.hid (Gl.app n3 m3 ho2 (show 0 ≤ 8 * ((x : Int) + (P1 : Int)) + (v1 : Int) ∧ 8 * ((x : Int) + (P1 : Int)) + (v1 : Int) < (NN : Int) by omega)); have K1 := Lib.hid (J1.out.side hg2 q13.symm); have K2 := Lib.hid (J2.out.side hg2 r23.symm); have HB6 := Lib.hid (HB5.out.grown hg2 (by omega) (fun g e => by have := (O3.out.lt g e).1; omega)); have KB6 := Lib.hid (gl_blk KB5.out O3.out hg2); have hs6 : w.heap.size + 1 ≤ w6.heap.size := Nat.le_trans hs5 hg2.size; clear ho2 hg2 hblk O3 J1 J2 J3 HB5 KB5) | (at_builtin; refine wpList_ap1 etI _ rfl _ _ rfl (w.heap.size + 1) a2 f c2 _ rfl O2.out _ rfl rfl (by omega) hs4 ?_; intro b2 d2 w5 ho2 hg2 hblk; have r12 : Ap b1 b2 := (q12.symm.grown hblk (fun g e => (H1.out.lt g e).2)).symm; have r23 : Ap b2 a3 := p23.grown hblk (fun g e => (H3.out.lt g e).2); have J2 := Lib.hid (Gl.app n2 m2 ho2 (show 0 ≤ 8 * (q : Int) + (u7 : Int) ∧ 8 * (q : Int) + (u7 : Int) < (NN : Int) by omega)); have J1 := Lib.hid (H1.out.side hg2 q12.symm); have J3 := Lib.hid (H3.out.side hg2 p23); have HB5 := Lib.hid (HB4.out.grown hg2 (by omega) (fun g e => by have := (O2.out.lt g e).1; omega)); have KB5 := Lib.hid (gl_blk KB4.out O2.out hg2); have hs5 : w.heap.size + 1 ≤ w5.heap.size := Nat.le_trans hs4 hg2.size; obtain ⟨z3, n3, m3, o3⟩ := J3.out; have O3 := Lib.hid o3; clear ho2 hg2 hblk o3 O2 H1 H2 H3 HB4 KB4) | (at_builtin; refine wpList_ap1 etI _ rfl _ _ rfl (w.heap.size + 1) a1 f c1 _ rfl O1.out _ rfl rfl (by omega) hsz ?_; intro b1 d1 w4 ho2 hg2 hblk; have q12 : Ap b1 a2 := p12.grown hblk (fun g e => (G2.out.lt g e).2); have q13 : Ap b1 a3 := p13.grown hblk (fun g e => (G3.out.lt g e).2); have H1 := Lib.hid (Gl.app n1 m1 ho2 (show 0 ≤ (z : Int) ∧ (z : Int) < (NN : Int) by omega)); have H2 := Lib.hid (G2.out.side hg2 p12); have H3 := Lib.hid (G3.out.side hg2 p13); have HB4 := Lib.hid (HB.out.grown hg2 (by omega) (fun g e => by have := (O1.out.lt g e).1; omega)); have KB4 := Lib.hid (gl_blk KB.out O1.out hg2); have hs4 : w.heap.size + 1 ≤ w4.heap.size := Nat.le_trans hsz hg2.size; obtain ⟨z2, n2, m2, o2⟩ := H2.out; have O2 := Lib.hid o2; clear ho2 hg2 hblk o2 O1 G2 G3 HB KB))
        go_roundw
        case rel => exact ⟨f + 1, b1, b2, b3, _, _, _, by omega, rfl, rfl, rfl, by go_num, K1.out, K2.out, K3.out, r12, s13, s23, KB6.out, hs6, HB6.out⟩
        case measure => simp [intOf]; omega
      · subst hk
        go_wp2_with fail
        go_quiet (fail)
        have O1 := Lib.hid (show Own (wr.drewN nq) _ _ _ _ _ _ from O1.out)
        have G2 := Lib.hid (show Gl (wr.drewN nq) _ _ _ _ _ from G2.out)
        have G3 := Lib.hid (show Gl (wr.drewN nq) _ _ _ _ _ from G3.out)
        have HB := Lib.hid (below_drewN HB.out nq)
        have KB := Lib.hid (show Blk (wr.drewN nq) _ _ _ from KB.out)
        have hsz : w.heap.size + 1 ≤ (wr.drewN nq).heap.size := hsz
        generalize wr.drewN nq = wq at *
        go_wp2_with (first | (at_builtin; refine wpList_ap1 etI _ rfl _ _ rfl (w.heap.size + 1) a3 f c3 _ rfl O3.out _ rfl rfl (by omega) hs5 ?_; intro b3 d3 w6 ho2 hg2 hblk; have s13 : Ap b1 b3 := (q13.symm.grown hblk (fun g e => (J1.out.lt g e).2)).symm; have s23 : Ap b2 b3 := (r23.symm.grown hblk (fun g e => (J2.out.lt g e).2)).symm; have K3 := Lib.hid (Gl.app n3 m3 ho2 (show 0 ≤ 8 * ((x2 : Int) + (P0 : Int)) + (v1 : Int) ∧ 8 * ((x2 : Int) + (P0 : Int)) + (v1 : Int) < (NN : Int) by omega)); have K1 := Lib.hid (J1.out.side hg2 q13.symm); have K2 := Lib.hid (J2.out.side hg2 r23.symm); have HB6 := Lib.hid (HB5.out.grown hg2 (by omega) (fun g e => by have := (O3.out.lt g e).1; omega)); have KB6 := Lib.hid (gl_blk KB5.out O3.out hg2); have hs6 : w.heap.size + 1 ≤ w6.heap.size := Nat.le_trans hs5 hg2.size; clear ho2 hg2 hblk O3 J1 J2 J3 HB5 KB5) | (at_builtin; refine wpList_ap1 etI _ rfl _ _ rfl (w.heap.size + 1) a2 f c2 _ rfl O2.out _ rfl rfl (by omega) hs4 ?_; intro b2 d2 w5 ho2 hg2 hblk; have r12 : Ap b1 b2 := (q12.symm.grown hblk (fun g e => (H1.out.lt g e).2)).symm; have r23 : Ap b2 a3 := p23.grown hblk (fun g e => (H3.out.lt g e).2); have J2 := Lib.hid (Gl.app n2 m2 ho2 (show 0 ≤ 8 * (q : Int) + (u7 : Int) ∧ 8 * (q : Int) + (u7 : Int) < (NN : Int) by omega)); have J1 := Lib.hid (H1.out.side hg2 q12.symm); have J3 := Lib.hid (H3.out.side hg2 p23); have HB5 := Lib.hid (HB4.out.grown hg2 (by omega) (fun g e => by have := (O2.out.lt g e).1; omega)); have KB5 := Lib.hid (gl_blk KB4.out O2.out hg2); have hs5 : w.heap.size + 1 ≤ w5.heap.size := Nat.le_trans hs4 hg2.size; obtain ⟨z3, n3, m3, o3⟩ := J3.out; have O3 := Lib.hid o3; clear ho2 hg2 hblk o3 O2 H1 H2 H3 HB4 KB4) | (at_builtin; refine wpList_ap1 etI _ rfl _ _ rfl (w.heap.size + 1) a1 f c1 _ rfl O1.out _ rfl rfl (by omega) hsz ?_; intro b1 d1 w4 ho2 hg2 hblk; have q12 : Ap b1 a2 := p12.grown hblk (fun g e => (G2.out.lt g e).2); have q13 : Ap b1 a3 := p13.grown hblk (fun g e => (G3.out.lt g e).2); have H1 := Lib.hid (Gl.app n1 m1 ho2 (show 0 ≤ (z : Int) ∧ (z : Int) < (NN : Int) by omega)); have H2 := Lib.hid (G2.out.side hg2 p12); have H3 := Lib.hid (G3.out.side hg2 p13); have HB4 := Lib.hid (HB.out.grown hg2 (by omega) (fun g e => by have := (O1.out.lt g e).1; omega)); have KB4 := Lib.hid (gl_blk KB.out O1.out hg2); have hs4 : w.heap.size + 1 ≤ w4.heap.size := Nat.le_trans hsz hg2.size; obtain ⟨z2, n2, m2, o2⟩ := H2.out; have O2 := Lib.hid o2; clear ho2 hg2 hblk o2 O1 G2 G3 HB KB))
        go_roundw
        case rel => exact ⟨f + 1, b1, b2, b3, _, _, _, by omega, rfl, rfl, rfl, by go_num, K1.out, K2.out, K3.out, r12, s13, s23, KB6.out, hs6, HB6.out⟩
        case measure => simp [intOf]; omega
      · subst hk
        go_wp2_with fail
        go_quiet (fail)
        have O1 := Lib.hid (show Own (wr.drewN nq) _ _ _ _ _ _ from O1.out)
        have G2 := Lib.hid (show Gl (wr.drewN nq) _ _ _ _ _ from G2.out)
        have G3 := Lib.hid (show Gl (wr.drewN nq) _ _ _ _ _ from G3.out)
        have HB := Lib.hid (below_drewN HB.out nq)
        have KB := Lib.hid (show Blk (wr.drewN nq) _ _ _ from KB.out)
        have hsz : w.heap.size + 1 ≤ (wr.drewN nq).heap.size := hsz
        generalize wr.drewN nq = wq at *
        go_wp2_with (first | (at_builtin; refine wpList_ap1 etI _ rfl _ _ rfl (w.heap.size + 1) a3 f c3 _ rfl O3.out _ rfl rfl (by omega) hs5 ?_; intro b3 d3 w6 ho2 hg2 hblk; have s13 : Ap b1 b3 := (q13.symm.grown hblk (fun g e => (J1.out.lt g e).2)).symm; have s23 : Ap b2 b3 := (r23.symm.grown hblk (fun g e => (J2.out.lt g e).2)).symm; have K3 := Lib.hid (Gl.app n3 m3 ho2 (show 0 ≤ 8 * ((x : Int) + (P3 : Int)) + (v1 : Int) ∧ 8 * ((x : Int) + (P3 : Int)) + (v1 : Int) < (NN : Int) by omega)); have K1 := Lib.hid (J1.out.side hg2 q13.symm); have K2 := Lib.hid (J2.out.side hg2 r23.symm); have HB6 := Lib.hid (HB5.out.grown hg2 (by omega) (fun g e => by have := (O3.out.lt g e).1; omega)); have KB6 := Lib.hid (gl_blk KB5.out O3.out hg2); have hs6 : w.heap.size + 1 ≤ w6.heap.size := Nat.le_trans hs5 hg2.size; clear ho2 hg2 hblk O3 J1 J2 J3 HB5 KB5) | (at_builtin; refine wpList_ap1 etI _ rfl _ _ rfl (w.heap.size + 1) a2 f c2 _ rfl O2.out _ rfl rfl (by omega) hs4 ?_; intro b2 d2 w5 ho2 hg2 hblk; have r12 : Ap b1 b2 := (q12.symm.grown hblk (fun g e => (H1.out.lt g e).2)).symm; have r23 : Ap b2 a3 := p23.grown hblk (fun g e => (H3.out.lt g e).2); have J2 := Lib.hid (Gl.app n2 m2 ho2 (show 0 ≤ 8 * (q : Int) + (u7 : Int) ∧ 8 * (q : Int) + (u7 : Int) < (NN : Int) by omega)); have J1 := Lib.hid (H1.out.side hg2 q12.symm); have J3 := Lib.hid (H3.out.side hg2 p23); have HB5 := Lib.hid (HB4.out.grown hg2 (by omega) (fun g e => by have := (O2.out.lt g e).1; omega)); have KB5 := Lib.hid (gl_blk KB4.out O2.out hg2); have hs5 : w.heap.size + 1 ≤ w5.heap.size := Nat.le_trans hs4 hg2.size; obtain ⟨z3, n3, m3, o3⟩ := J3.out; have O3 := Lib.hid o3; clear ho2 hg2 hblk o3 O2 H1 H2 H3 HB4 KB4) | (at_builtin; refine wpList_ap1 etI _ rfl _ _ rfl (w.heap.size + 1) a1 f c1 _ rfl O1.out _ rfl rfl (by omega) hsz ?_; intro b1 d1 w4 ho2 hg2 hblk; have q12 : Ap b1 a2 := p12.grown hblk (fun g e => (G2.out.lt g e).2); have q13 : Ap b1 a3 := p13.grown hblk (fun g e => (G3.out.lt g e).2); have H1 := Lib.hid (Gl.app n1 m1 ho2 (show 0 ≤ (z : Int) ∧ (z : Int) < (NN : Int) by omega)); have H2 := Lib.hid (G2.out.side hg2 p12); have H3 := Lib.hid (G3.out.side hg2 p13); have HB4 := Lib.hid (HB.out.grown hg2 (by omega) (fun g e => by have := (O1.out.lt g e).1; omega)); have KB4 := Lib.hid (gl_blk KB.out O1.out hg2); have hs4 : w.heap.size + 1 ≤ w4.heap.size := Nat.le_trans hsz hg2.size; obtain ⟨z2, n2, m2, o2⟩ := H2.out; have O2 := Lib.hid o2; clear ho2 hg2 hblk o2 O1 G2 G3 HB KB))
        go_roundw
        case rel => exact ⟨f + 1, b1, b2, b3, _, _, _, by omega, rfl, rfl, rfl, by go_num, K1.out, K2.out, K3.out, r12, s13, s23, KB6.out, hs6, HB6.out⟩
        case measure => simp [intOf]; omega
      · subst hk
        go_wp2_with fail
        go_quiet (fail)
        have O1 := Lib.hid (show Own (wr.drewN nq) _ _ _ _ _ _ from O1.out)
        have G2 := Lib.hid (show Gl (wr.drewN nq) _ _ _ _ _ from G2.out)
        have G3 := Lib.hid (show Gl (wr.drewN nq) _ _ _ _ _ from G3.out)
        have HB := Lib.hid (below_drewN HB.out nq)
        have KB := Lib.hid (show Blk (wr.drewN nq) _ _ _ from KB.out)
        have hsz : w.heap.size + 1 ≤ (wr.drewN nq).heap.size := hsz
        generalize wr.drewN nq = wq at *
        go_wp2_with (first | (at_builtin; refine wpList_ap1 etI _ rfl _ _ rfl (w.heap.size + 1) a3 f c3 _ rfl O3.out _ rfl rfl (by omega) hs5 ?_; intro b3 d3 w6 ho2 hg2 hblk; have s13 : Ap b1 b3 := (q13.symm.grown hblk (fun g e => (J1.out.lt g e).2)).symm; have s23 : Ap b2 b3 := (r23.symm.grown hblk (fun g e => (J2.out.lt g e).2)).symm; have K3 := Lib.hid (Gl.app n3 m3 ho2 (show 0 ≤ 8 * ((x0 : Int) + (P0 : Int)) + (v1 : Int) ∧ 8 * ((x0 : Int) + (P0 : Int)) + (v1 : Int) < (NN : Int) by omega)); have K1 := Lib.hid (J1.out.side hg2 q13.symm); have K2 := Lib.hid (J2.out.side hg2 r23.symm); have HB6 := Lib.hid (HB5.out.grown hg2 (by omega) (fun g e => by have := (O3.out.lt g e).1; omega)); have KB6 := Lib.hid (gl_blk KB5.out O3.out hg2); have hs6 : w.heap.size + 1 ≤ w6.heap.size := Nat.le_trans hs5 hg2.size; clear ho2 hg2 hblk O3 J1 J2 J3 HB5 KB5) | (at_builtin; refine wpList_ap1 etI _ rfl _ _ rfl (w.heap.size + 1) a2 f c2 _ rfl O2.out _ rfl rfl (by omega) hs4 ?_; intro b2 d2 w5 ho2 hg2 hblk; have r12 : Ap b1 b2 := (q12.symm.grown hblk (fun g e => (H1.out.lt g e).2)).symm; have r23 : Ap b2 a3 := p23.grown hblk (fun g e => (H3.out.lt g e).2); have J2 := Lib.hid (Gl.app n2 m2 ho2 (show 0 ≤ 8 * (q : Int) + (u1 : Int) ∧ 8 * (q : Int) + (u1 : Int) < (NN : Int) by omega)); have J1 := Lib.hid (H1.out.side hg2 q12.symm); have J3 := Lib.hid (H3.out.side hg2 p23); have HB5 := Lib.hid (HB4.out.grown hg2 (by omega) (fun g e => by have := (O2.out.lt g e).1; omega)); have KB5 := Lib.hid (gl_blk KB4.out O2.out hg2); have hs5 : w.heap.size + 1 ≤ w5.heap.size := Nat.le_trans hs4 hg2.size; obtain ⟨z3, n3, m3, o3⟩ := J3.out; have O3 := Lib.hid o3; clear ho2 hg2 hblk o3 O2 H1 H2 H3 HB4 KB4) | (at_builtin; refine wpList_ap1 etI _ rfl _ _ rfl (w.heap.size + 1) a1 f c1 _ rfl O1.out _ rfl rfl (by omega) hsz ?_; intro b1 d1 w4 ho2 hg2 hblk; have q12 : Ap b1 a2 := p12.grown hblk (fun g e => (G2.out.lt g e).2); have q13 : Ap b1 a3 := p13.grown hblk (fun g e => (G3.out.lt g e).2); have H1 := Lib.hid (Gl.app n1 m1 ho2 (show 0 ≤ (z : Int) ∧ (z : Int) < (NN : Int) by omega)); have H2 := Lib.hid (G2.out.side hg2 p12); have H3 := Lib.hid (G3.out.side hg2 p13); have HB4 := Lib.hid (HB.out.grown hg2 (by omega) (fun g e => by have := (O1.out.lt g e).1; omega)); have KB4 := Lib.hid (gl_blk KB.out O1.out hg2); have hs4 : w.heap.size + 1 ≤ w4.heap.size := Nat.le_trans hsz hg2.size; obtain ⟨z2, n2, m2, o2⟩ := H2.out; have O2 := Lib.hid o2; clear ho2 hg2 hblk o2 O1 G2 G3 HB KB))
        go_roundw
        case rel => exact ⟨f + 1, b1, b2, b3, _, _, _, by omega, rfl, rfl, rfl, by go_num, K1.out, K2.out, K3.out, r12, s13, s23, KB6.out, hs6, HB6.out⟩
        case measure => simp [intOf]; omega
      · subst hk
        go_wp2_with fail
        go_quiet (fail)
        have O1 := Lib.hid (show Own (wr.drewN nq) _ _ _ _ _ _ from O1.out)
        have G2 := Lib.hid (show Gl (wr.drewN nq) _ _ _ _ _ from G2.out)
        have G3 := Lib.hid (show Gl (wr.drewN nq) _ _ _ _ _ from G3.out)
        have HB := Lib.hid (below_drewN HB.out nq)
        have KB := Lib.hid (show Blk (wr.drewN nq) _ _ _ from KB.out)
        have hsz : w.heap.size + 1 ≤ (wr.drewN nq).heap.size := hsz
        generalize wr.drewN nq = wq at *
        go_wp2_with (first | (at_builtin; refine wpList_ap1 etI _ rfl _ _ rfl (w.heap.size + 1) a3 f c3 _ rfl O3.out _ rfl rfl (by omega) hs5 ?_; intro b3 d3 w6 ho2 hg2 hblk; have s13 : Ap b1 b3 := (q13.symm.grown hblk (fun g e => (J1.out.lt g e).2)).symm; have s23 : Ap b2 b3 := (r23.symm.grown hblk (fun g e => (J2.out.lt g e).2)).symm; have K3 := Lib.hid (Gl.app n3 m3 ho2 (show 0 ≤ 8 * ((x : Int) + (P1 : Int)) + (v1 : Int) ∧ 8 * ((x : Int) + (P1 : Int)) + (v1 : Int) < (NN : Int) by omega)); have K1 := Lib.hid (J1.out.side hg2 q13.symm); have K2 := Lib.hid (J2.out.side hg2 r23.symm); have HB6 := Lib.hid (HB5.out.grown hg2 (by omega) (fun g e => by have := (O3.out.lt g e).1; omega)); have KB6 := Lib.hid (gl_blk KB5.out O3.out hg2); have hs6 : w.heap.size + 1 ≤ w6.heap.size := Nat.le_trans hs5 hg2.size; clear ho2 hg2 hblk O3 J1 J2 J3 HB5 KB5) | (at_builtin; refine wpList_ap1 etI _ rfl _ _ rfl (w.heap.size + 1) a2 f c2 _ rfl O2.out _ rfl rfl (by omega) hs4 ?_; intro b2 d2 w5 ho2 hg2 hblk; have r12 : Ap b1 b2 := (q12.symm.grown hblk (fun g e => (H1.out.lt g e).2)).symm; have r23 : Ap b2 a3 := p23.grown hblk (fun g e => (H3.out.lt g e).2); have J2 := Lib.hid (Gl.app n2 m2 ho2 (show 0 ≤ 8 * (q : Int) + (u1 : Int) ∧ 8 * (q : Int) + (u1 : Int) < (NN : Int) by omega)); have J1 := Lib.hid (H1.out.side hg2 q12.symm); have J3 := Lib.hid (H3.out.side hg2 p23); have HB5 := Lib.hid (HB4.out.grown hg2 (by omega) (fun g e => by have := (O2.out.lt g e).1; omega)); have KB5 := Lib.hid (gl_blk KB4.out O2.out hg2); have hs5 : w.heap.size + 1 ≤ w5.heap.size := Nat.le_trans hs4 hg2.size; obtain ⟨z3, n3, m3, o3⟩ := J3.out; have O3 := Lib.hid o3; clear ho2 hg2 hblk o3 O2 H1 H2 H3 HB4 KB4) | (at_builtin; refine wpList_ap1 etI _ rfl _ _ rfl (w.heap.size + 1) a1 f c1 _ rfl O1.out _ rfl rfl (by omega) hsz ?_; intro b1 d1 w4 ho2 hg2 hblk; have q12 : Ap b1 a2 := p12.grown hblk (fun g e => (G2.out.lt g e).2); have q13 : Ap b1 a3 := p13.grown hblk (fun g e => (G3.out.lt g e).2); have H1 := Lib.hid (Gl.app n1 m1 ho2 (show 0 ≤ (z : Int) ∧ (z : Int) < (NN : Int) by omega)); have H2 := Lib.hid (G2.out.side hg2 p12); have H3 := Lib.hid (G3.out.side hg2 p13); have HB4 := Lib.hid (HB.out.grown hg2 (by omega) (fun g e => by have := (O1.out.lt g e).1; omega)); have KB4 := Lib.hid (gl_blk KB.out O1.out hg2); have hs4 : w.heap.size + 1 ≤ w4.heap.size := Nat.le_trans hsz hg2.size; obtain ⟨z2, n2, m2, o2⟩ := H2.out; have O2 := Lib.hid o2; clear ho2 hg2 hblk o2 O1 G2 G3 HB KB))
        go_roundw
        case rel => exact ⟨f + 1, b1, b2, b3, _, _, _, by omega, rfl, rfl, rfl, by go_num, K1.out, K2.out, K3.out, r12, s13, s23, KB6.out, hs6, HB6.out⟩
        case measure => simp [intOf]; omega
      · subst hk
        go_wp2_with fail
        go_quiet (fail)
        have O1 := Lib.hid (show Own (wr.drewN nq) _ _ _ _ _ _ from O1.out)
        have G2 := Lib.hid (show Gl (wr.drewN nq) _ _ _ _ _ from G2.out)
        have G3 := Lib.hid (show Gl (wr.drewN nq) _ _ _ _ _ from G3.out)
        have HB := Lib.hid (below_drewN HB.out nq)
        have KB := Lib.hid (show Blk (wr.drewN nq) _ _ _ from KB.out)
        have hsz : w.heap.size + 1 ≤ (wr.drewN nq).heap.size := hsz
        generalize wr.drewN nq = wq at *
        go_wp2_with (first | (at_builtin; refine wpList_ap1 etI _ rfl _ _ rfl (w.heap.size + 1) a3 f c3 _ rfl O3.out _ rfl rfl (by omega) hs5 ?_; intro b3 d3 w6 ho2 hg2 hblk; have s13 : Ap b1 b3 := (q13.symm.grown hblk (fun g e => (J1.out.lt g e).2)).symm; have s23 : Ap b2 b3 := (r23.symm.grown hblk (fun g e => (J2.out.lt g e).2)).symm; have K3 := Lib.hid (Gl.app n3 m3 ho2 (show 0 ≤ 8 * ((x2 : Int) + (P0 : Int)) + (v1 : Int) ∧ 8 * ((x2 : Int) + (P0 : Int)) + (v1 : Int) < (NN : Int) by omega)); have K1 := Lib.hid (J1.out.side hg2 q13.symm); have K2 := Lib.hid (J2.out.side hg2 r23.symm); have HB6 := Lib.hid (HB5.out.grown hg2 (by omega) (fun g e => by have := (O3.out.lt g e).1; omega)); have KB6 := Lib.hid (gl_blk KB5.out O3.out hg2); have hs6 : w.heap.size + 1 ≤ w6.heap.size := Nat.le_trans hs5 hg2.size; clear ho2 hg2 hblk O3 J1 J2 J3 HB5 KB5) | (at_builtin; refine wpList_ap1 etI _ rfl _ _ rfl (w.heap.size + 1) a2 f c2 _ rfl O2.out _ rfl rfl (by omega) hs4 ?_; intro b2 d2 w5 ho2 hg2 hblk; have r12 : Ap b1 b2 := (q12.symm.grown hblk (fun g e => (H1.out.lt g e).2)).symm; have r23 : Ap b2 a3 := p23.grown hblk (fun g e => (H3.out.lt g e).2); have J2 := Lib.hid (Gl.app n2 m2 ho2 (show 0 ≤ 8 * (q : Int) + (u1 : Int) ∧ 8 * (q : Int) + (u1 : Int) < (NN : Int) by omega)); have J1 := Lib.hid (H1.out.side hg2 q12.symm); have J3 := Lib.hid (H3.out.side hg2 p23); have HB5 := Lib.hid (HB4.out.grown hg2 (by omega) (fun g e => by have := (O2.out.lt g e).1; omega)); have KB5 := Lib.hid (gl_blk KB4.out O2.out hg2); have hs5 : w.heap.size + 1 ≤ w5.heap.size := Nat.le_trans hs4 hg2.size; obtain ⟨z3, n3, m3, o3⟩ := J3.out; have O3 := Lib.hid o3; clear ho2 hg2 hblk o3 O2 H1 H2 H3 HB4 KB4) | (at_builtin; refine wpList_ap1 etI _ rfl _ _ rfl (w.heap.size + 1) a1 f c1 _ rfl O1.out _ rfl rfl (by omega) hsz ?_; intro b1 d1 w4 ho2 hg2 hblk; have q12 : Ap b1 a2 := p12.grown hblk (fun g e => (G2.out.lt g e).2); have q13 : Ap b1 a3 := p13.grown hblk (fun g e => (G3.out.lt g e).2); have H1 := Lib.hid (Gl.app n1 m1 ho2 (show 0 ≤ (z : Int) ∧ (z : Int) < (NN : Int) by omega)); have H2 := Lib.hid (G2.out.side hg2 p12); have H3 := Lib.hid (G3.out.side hg2 p13); have HB4 := Lib.hid (HB.out.grown hg2 (by omega) (fun g e => by have := (O1.out.lt g e).1; omega)); have KB4 := Lib.hid (gl_blk KB.out O1.out hg2); have hs4 : w.heap.size + 1 ≤ w4.heap.size := Nat.le_trans hsz hg2.size; obtain ⟨z2, n2, m2, o2⟩ := H2.out; have O2 := Lib.hid o2; clear ho2 hg2 hblk o2 O1 G2 G3 HB KB))
        go_roundw
        case rel => exact ⟨f + 1, b1, b2, b3, _, _, _, by omega, rfl, rfl, rfl, by go_num, K1.out, K2.out, K3.out, r12, s13, s23, KB6.out, hs6, HB6.out⟩
        case measure => simp [intOf]; omega
      · subst hk
        go_wp2_with fail
        go_quiet (fail)
        have O1 := Lib.hid (show Own (wr.drewN nq) _ _ _ _ _ _ from O1.out)
        have G2 := Lib.hid (show Gl (wr.drewN nq) _ _ _ _ _ from G2.out)
        have G3 := Lib.hid (show Gl (wr.drewN nq) _ _ _ _ _ from G3.out)
        have HB := Lib.hid (below_drewN HB.out nq)
        have KB := Lib.hid (show Blk (wr.drewN nq) _ _ _ from KB.out)
        have hsz : w.heap.size + 1 ≤ (wr.drewN nq).heap.size := hsz
        generalize wr.drewN nq = wq at *
        go_wp2_with (first | (at_builtin; refine wpList_ap1 etI _ rfl _ _ rfl (w.heap.size + 1) a3 f c3 _ rfl O3.out _ rfl rfl (by omega) hs5 ?_; intro b3 d3 w6 ho2 hg2 hblk; have s13 : Ap b1 b3 := (q13.symm.grown hblk (fun g e => (J1.out.lt g e).2)).symm; have s23 : Ap b2 b3 := (r23.symm.grown hblk (fun g e => (J2.out.lt g e).2)).symm; have K3 := Lib.hid (Gl.app n3 m3 ho2 (show 0 ≤ 8 * ((x : Int) + (P3 : Int)) + (v1 : Int) ∧ 8 * ((x : Int) + (P3 : Int)) + (v1 : Int) < (NN : Int) by omega)); have K1 := Lib.hid (J1.out.side hg2 q13.symm); have K2 := Lib.hid (J2.out.side hg2 r23.symm); have HB6 := Lib.hid (HB5.out.grown hg2 (by omega) (fun g e => by have := (O3.out.lt g e).1; omega)); have KB6 := Lib.hid (gl_blk KB5.out O3.out hg2); have hs6 : w.heap.size + 1 ≤ w6.heap.size := Nat.le_trans hs5 hg2.size; clear ho2 hg2 hblk O3 J1 J2 J3 HB5 KB5) | (at_builtin; refine wpList_ap1 etI _ rfl _ _ rfl (w.heap.size + 1) a2 f c2 _ rfl O2.out _ rfl rfl (by omega) hs4 ?_; intro b2 d2 w5 ho2 hg2 hblk; have r12 : Ap b1 b2 := (q12.symm.grown hblk (fun g e => (H1.out.lt g e).2)).symm; have r23 : Ap b2 a3 := p23.grown hblk (fun g e => (H3.out.lt g e).2); have J2 := Lib.hid (Gl.app n2 m2 ho2 (show 0 ≤ 8 * (q : Int) + (u1 : Int) ∧ 8 * (q : Int) + (u1 : Int) < (NN : Int) by omega)); have J1 := Lib.hid (H1.out.side hg2 q12.symm); have J3 := Lib.hid (H3.out.side hg2 p23); have HB5 := Lib.hid (HB4.out.grown hg2 (by omega) (fun g e => by have := (O2.out.lt g e).1; omega)); have KB5 := Lib.hid (gl_blk KB4.out O2.out hg2); have hs5 : w.heap.size + 1 ≤ w5.heap.size := Nat.le_trans hs4 hg2.size; obtain ⟨z3, n3, m3, o3⟩ := J3.out; have O3 := Lib.hid o3; clear ho2 hg2 hblk o3 O2 H1 H2 H3 HB4 KB4) | (at_builtin; refine wpList_ap1 etI _ rfl _ _ rfl (w.heap.size + 1) a1 f c1 _ rfl O1.out _ rfl rfl (by omega) hsz ?_; intro b1 d1 w4 ho2 hg2 hblk; have q12 : Ap b1 a2 := p12.grown hblk (fun g e => (G2.out.lt g e).2); have q13 : Ap b1 a3 := p13.grown hblk (fun g e => (G3.out.lt g e).2); have H1 := Lib.hid (Gl.app n1 m1 ho2 (show 0 ≤ (z : Int) ∧ (z : Int) < (NN : Int) by omega)); have H2 := Lib.hid (G2.out.side hg2 p12); have H3 := Lib.hid (G3.out.side hg2 p13); have HB4 := Lib.hid (HB.out.grown hg2 (by omega) (fun g e => by have := (O1.out.lt g e).1; omega)); have KB4 := Lib.hid (gl_blk KB.out O1.out hg2); have hs4 : w.heap.size + 1 ≤ w4.heap.size := Nat.le_trans hsz hg2.size; obtain ⟨z2, n2, m2, o2⟩ := H2.out; have O2 := Lib.hid o2; clear ho2 hg2 hblk o2 O1 G2 G3 HB KB))
        go_roundw
        case rel => exact ⟨f + 1, b1, b2, b3, _, _, _, by omega, rfl, rfl, rfl, by go_num, K1.out, K2.out, K3.out, r12, s13, s23, KB6.out, hs6, HB6.out⟩
        case measure => simp [intOf]; omega
    · obtain rfl : f = NN := by omega
      have c0 : wr.cell? ⟨w.heap.size, 0, none⟩ = some (.slice none 0 0) := kb.cell 0
      have f0 := kb.frozen 0
      have l0 := kb.lt
      have hset : (wr.setCell ⟨w.heap.size, 0, none⟩ (.slice (some ⟨wr.heap.size, 0, none⟩) 3 3)).heap.size = wr.heap.size := by simp [World.setCell]
      have HG1 := Lib.hid (g1.setBox (Nat.lt_succ_self w.heap.size) (.slice (some ⟨wr.heap.size, 0, none⟩) 3 3))
      have HG2 := Lib.hid (g2.setBox (Nat.lt_succ_self w.heap.size) (.slice (some ⟨wr.heap.size, 0, none⟩) 3 3))
      have HG3 := Lib.hid (g3.setBox (Nat.lt_succ_self w.heap.size) (.slice (some ⟨wr.heap.size, 0, none⟩) 3 3))
      have KS : Blk (wr.setCell ⟨w.heap.size, 0, none⟩ (.slice (some ⟨wr.heap.size, 0, none⟩) 3 3)) w.heap.size 28 #[.slice (some ⟨wr.heap.size, 0, none⟩) 3 3] := kb.set_ 0 _
      have HBS := Lib.hid (hbl.setCell (p := ⟨w.heap.size, 0, none⟩) (Nat.le_refl _) (.slice (some ⟨wr.heap.size, 0, none⟩) 3 3))
      have HSZ := Lib.hid hset
      clear g1 g2 g3 hbl hset
      go_wp2_with fail
      generalize hws : wr.setCell ⟨w.heap.size, 0, none⟩ (.slice (some ⟨wr.heap.size, 0, none⟩) 3 3) = ws at *
      obtain ⟨d, d1, d2, d3⟩ := gl3_box (lo' := w.heap.size) HG1.out HG2.out HG3.out p12 p13 p23 (by rw [HSZ.out]; exact hsz) HSZ.out (Nat.le_succ _) rfl
      have bf := HBS.out.alloc HBS.out.size (.cells #[.slice a1 f c1, .slice a2 f c2, .slice a3 f c3] 32)
      have kf := KS.alloc (.cells #[.slice a1 f c1, .slice a2 f c2, .slice a3 f c3] 32)
      generalize ws.alloc (.cells #[.slice a1 f c1, .slice a2 f c2, .slice a3 f c3] 32) = wf at *
      have e0 : wf.cell? ⟨w.heap.size, 0, none⟩ = some (.slice (some ⟨wr.heap.size, 0, none⟩) 3 3) := kf.cell 0
      refine bodyPost_ret (v := .agg #[.slice (some ⟨wr.heap.size, 0, none⟩) 3 3]) (by simp [results, Try.f85, go_sem, e0]) rfl ⟨_, d, rfl, d3, d1, d2, bf⟩
end Go.Proofs.Ytmdhljleaijkbaa

/- Draws of maniplexes: l02Map. guards: -/
namespace Go.Proofs.Ytmdhljleaijkbaa
open Go.RowKit

theorem only_cell {lo hi : Nat} {w wx : World} (h : Only lo hi w wx) {p : Addr} (hp : w.heap.size ≤ p.block) (v : Value) : Only lo hi w (wx.setCell p v) :=
  ⟨h.os, h.tape, h.output, by have := h.size; simpa [World.setCell] using this, fun k hk hd => (Below.heap_setCell _ _ _ _ (by omega)).trans (h.block k hk hd)⟩
/-- a maniplex drawn beside a source -/
structure MxS (w wx : World) (sb : Nat) (v : Value) (r : List (List Int)) (L : Nat) : Prop where
  ow : OwM 2 32 wx w.heap.size wx.heap.size v r
  sq : Sq r L
  pos : 1 ≤ L
  src : Src wx sb
  only : Only sb (sb + 1) w wx
structure M3 (w wr : World) (sb f n : Nat) (a1 a2 am : Option Addr) (c1 c2 cm : Nat) : Prop where
  g1 : Gl wr (w.heap.size + 1) a1 f c1 n
  g2 : Gl wr (w.heap.size + 1) a2 f c2 n
  gm : Gl wr (w.heap.size + 1) am n cm n
  p12 : Ap a1 a2
  p1m : Ap a1 am
  p2m : Ap a2 am
  box : Blk wr w.heap.size 28 #[.slice none 0 0]
  src : Src wr sb
  only : Only sb (sb + 1) w wr
  sz : w.heap.size + 1 ≤ wr.heap.size
set_option maxRecDepth 100000 in
set_option maxHeartbeats 6400000 in
theorem mapS_any (sb E : Nat) (w : World) (h : Src w sb) (hsb : sb < w.heap.size) (hE : 1 ≤ E) (hE9 : E ≤ 100) :
    Calls Try.prog 89 #[.pointer (some ⟨sb, 0, none⟩), .int .i64 E] w fun e w' => ∃ v r L, e = .returned v ∧ MxS w w' sb v r L ∧ r.length = 3 ∧ L ≤ 4 * E := by
  obtain ⟨N, hN⟩ : ∃ N, 4 * E = N := ⟨_, rfl⟩
  rw [hN]
  have hw1 : IntKind.i64.wrap (4 * (E : Int)) = (N : Int) := by rw [IntWalk.i64_in _ (by omega)]; omega
  have hw1' : 4 * (E : Int) = (N : Int) := by omega
  have b1 := below_alloc3 w (.cells #[.slice none 0 0] 28) (.cells #[] 2) (.cells #[] 2)
  have k1 : Blk (((w.alloc (.cells #[.slice none 0 0] 28)).alloc (.cells #[] 2)).alloc (.cells #[] 2)) w.heap.size 28 #[.slice none 0 0] := ((blk_at rfl).alloc _).alloc _
  have E1 := (Gl.empty_ (w.alloc (.cells #[.slice none 0 0] 28)) (w.heap.size + 1) N (by simp) (g := w.heap.size + 1) (by simp)).below (below_alloc1 _ (.cells #[] 2))
  have E2 := Gl.empty_ ((w.alloc (.cells #[.slice none 0 0] 28)).alloc (.cells #[] 2)) (w.heap.size + 1) N (by simp) (g := w.heap.size + 1 + 1) (by simp)
  have hz1 : w.heap.size + 1 + 1 + 1 = (((w.alloc (.cells #[.slice none 0 0] 28)).alloc (.cells #[] 2)).alloc (.cells #[] 2)).heap.size := by simp
  have S1 := Lib.hid (src_belowL h hsb b1)
  have O1 := Lib.hid (only_of_below (sb := sb) b1)
  have G1 := Lib.hid E1
  have G2 := Lib.hid E2
  have K1 := Lib.hid k1
  clear b1 k1 E1 E2 h
  go_enter Try.func89, Try.ntmps89
  go_wp2_with fail
  generalize ((w.alloc (.cells #[.slice none 0 0] 28)).alloc (.cells #[] 2)).alloc (.cells #[] 2) = w1 at *
  refine (matching_any sb N w1 S1.out (by omega) (by omega) (by omega)).mono ?_
  rintro e w2 ⟨am, cm, rfl, gs⟩
  have gb := only_of_below (sb := sb) (Below.refl w1.heap.size w1)
  have M0 := Lib.hid (show M3 w w2 sb 0 N (some ⟨w.heap.size + 1, 0, none⟩) (some ⟨w.heap.size + 1 + 1, 0, none⟩) am 0 0 cm from
    ⟨G1.out.only gs.only (by omega), G2.out.only gs.only (by omega), gs.gl.mono (by omega), (fun g e e' => by simp [bk] at e e'; omega), (fun g e e' => by have := (gs.gl.lt g e').1; simp [bk] at e; omega), (fun g e e' => by have := (gs.gl.lt g e').1; simp [bk] at e; omega),
     K1.out.only gs.only (.inr (by omega)), gs.src, O1.out.trans gs.only, by have := gs.only.size; omega⟩)
  clear gs gb G1 G2 K1 S1 O1 hz1
  go_wp2_with fail
  go_loopw [6, 7, 9] (fun s6 s7 s9 wr => ∃ (f : Nat) (a1 a2 : Option Addr) (c1 c2 : Nat), f ≤ N ∧ s6 = .slice a1 f c1 ∧ s7 = .slice a2 f c2 ∧ s9 = .int .i64 f ∧ M3 w wr sb f N a1 a2 am c1 c2 cm) (fun _ _ s9 _ => N - (intOf s9).toNat)
  case atStart => exact ⟨0, _, _, _, _, Nat.zero_le _, rfl, rfl, rfl, M0.out⟩
  case round =>
    clear M0
    obtain ⟨f, a1, a2, c1, c2, hf, rfl, rfl, rfl, m3⟩ := hrel
    by_cases hlt : f < N
    · obtain ⟨x1, hx1, bx1⟩ := xor1_lt (f := f) (N := 2 * E) (by omega) (by omega)
      obtain ⟨x2, hx2, bx2⟩ := xor2_lt (f := f) (N := E) (by omega) (by omega)
      have hfi : (f : Int) < (N : Int) := by omega
      have hsz := m3.sz
      obtain ⟨z1, n1, l1, o1⟩ := m3.g1
      have HO1 := Lib.hid o1
      have M := Lib.hid m3
      clear o1 m3
      go_wp2_with (first
        | (at_builtin; refine wpList_ap1 etI _ rfl _ _ rfl (w.heap.size + 1) a2 f c2 _ rfl HO2.out _ rfl rfl (by omega) hs4 ?_; intro b2 d2 w5 ho2 hg2 hblk; have MM := Lib.hid (show M3 w w5 sb (f + 1) N b1 b2 am d1 d2 cm from ⟨Q1.out.side hg2 q12.symm, Gl.app n2 l2 ho2 (show 0 ≤ (x2 : Int) ∧ (x2 : Int) < (N : Int) by omega), Qm.out.side hg2 M.out.p2m, (q12.symm.grown hblk (fun g e => (Q1.out.lt g e).2)).symm, q1m, M.out.p2m.grown hblk (fun g e => (Qm.out.lt g e).2), gl_blk QB.out HO2.out hg2, QS.out.grown hg2 (fun g e => by have := (HO2.out.lt g e).1; omega), only_grown QO.out hg2 (fun g e => by have := (HO2.out.lt g e).1; omega), Nat.le_trans hs4 hg2.size⟩); clear ho2 hg2 hblk)
        | (at_builtin; refine wpList_ap1 etI _ rfl _ _ rfl (w.heap.size + 1) a1 f c1 _ rfl HO1.out _ rfl rfl (by omega) hsz ?_; intro b1 d1 w4 ho1 hg1 hblk; have q12 : Ap b1 a2 := M.out.p12.grown hblk (fun g e => (M.out.g2.lt g e).2); have q1m : Ap b1 am := M.out.p1m.grown hblk (fun g e => (M.out.gm.lt g e).2); have Q1 := Lib.hid (Gl.app n1 l1 ho1 (show 0 ≤ (x1 : Int) ∧ (x1 : Int) < (N : Int) by omega)); have Qm := Lib.hid (M.out.gm.side hg1 M.out.p1m); have QB := Lib.hid (gl_blk M.out.box HO1.out hg1); have QS := Lib.hid (M.out.src.grown hg1 (fun g e => by have := (HO1.out.lt g e).1; omega)); have QO := Lib.hid (only_grown M.out.only hg1 (fun g e => by have := (HO1.out.lt g e).1; omega)); have hs4 : w.heap.size + 1 ≤ w4.heap.size := Nat.le_trans hsz hg1.size; obtain ⟨z2, n2, l2, o2⟩ := M.out.g2.side hg1 M.out.p12; have HO2 := Lib.hid o2; clear ho1 hg1 hblk o2))
      go_roundw
      case rel => exact ⟨f + 1, b1, b2, d1, d2, by omega, rfl, rfl, by go_num, MM.out⟩
      case measure => simp [intOf]; omega
    · obtain rfl : f = N := by omega
      obtain ⟨wC, rfl⟩ : ∃ x, x = wr := ⟨_, rfl⟩
      have hszC := m3.sz
      obtain ⟨d, d1, sqd, owd⟩ := gl3_box (lo' := w.heap.size) m3.g1 m3.gm m3.g2 m3.p1m m3.p12 m3.p2m.symm m3.sz rfl (Nat.le_succ _) rfl
      have kA := below_alloc1 wC (.cells #[.slice a1 f c1, .slice am f cm, .slice a2 f c2] 32)
      have B1 := Lib.hid kA
      have HD := Lib.hid owd.rdcM.1
      have HT := Lib.hid sqd.leads
      have M := Lib.hid m3
      have hz1 := kA.size
      clear kA owd sqd m3
      go_upto_region 9 with fail
      generalize wC.alloc (.cells #[.slice a1 f c1, .slice am f cm, .slice a2 f c2] 32) = w1 at *
      obtain ⟨L, hL⟩ : ∃ L, (orb d f 0).2.length = L := ⟨_, rfl⟩
      have hL1 : 1 ≤ L := by rw [← hL]; exact orb_one HT.out (by omega)
      have hLN : L ≤ f := by rw [← hL]; exact (orb_ok HT.out (by omega)).le
      have HLL := Lib.hid hL
      clear hL
      go_wp2_with fail
      refine (orbO_any (c := 0) rfl w1 HD.out HT.out (by omega) (by omega) (by omega) (by omega)).mono ?_
      rw [HLL.out]
      rintro e w3 ⟨oa, oc, rfl, ho, b2⟩
      have hG := orb_gl HT.out (show 0 < f by omega) (by rw [HLL.out]; exact ho)
      rw [HLL.out] at hG
      have B3 := Lib.hid (B1.out.trans (b2.mono hz1))
      have z12 := b2.size
      have HD3 := Lib.hid (HD.out.below b2)
      have HO3 := Lib.hid hG
      clear hG ho b2 HD B1
      go_wp2_with (at_make; refine wpList_mk etI _ rfl _ _ rfl w3.heap.size _ _ _ _ f rfl rfl rfl rfl (by omega) (Nat.le_refl _) ?_; intro w4 o4 g4 s4)
      have b4 : Below w3.heap.size w3 w4 := (Below.refl _ _).grown g4 (Nat.le_refl _) (by simp)
      obtain ⟨gn, hgn⟩ : ∃ gn, w3.heap.size = gn := ⟨_, rfl⟩
      have G4 := Lib.hid (gl_made (N := L) (Nat.le_refl w3.heap.size) rfl (by omega) hL1 o4)
      have B4 := Lib.hid b4
      have HGN := Lib.hid hgn
      rw [hgn] at G4 ⊢
      clear o4 g4 s4 b4 hgn
      go_wp2_with fail
      go_loopw [13] (fun iv wr => ∃ i : Nat, iv = .int .i64 i ∧ i ≤ L ∧ Gl wr gn (some ⟨gn, 0, none⟩) f f L ∧ Below w3.heap.size w3 wr) (fun iv _ => L - (intOf iv).toNat)
      case atStart => exact ⟨0, rfl, Nat.zero_le _, G4.out, B4.out⟩
      case round =>
        clear G4 B4
        obtain ⟨i, rfl, hi, hg, hb⟩ := hrel
        by_cases hlt : i < L
        · obtain ⟨og, x, rfl, hx, hcx, hfx, -, -⟩ := (HO3.out.below hb).cell hlt
          obtain ⟨g', y, e, hy, hcy, hfy, -, -⟩ := hg.cell hx
          injection e with e; injection e with e; subst e
          obtain ⟨p1, p2⟩ := hg.put x (y := (i : Int)) (by omega)
          have P1 := Lib.hid p1
          have P2 := Lib.hid (hb.grown p2 (by have := hb.size; omega) (fun g e => by injection e with e; rw [← e, HGN.out]; exact Nat.le_refl _))
          have hxi : (x : Int) < (f : Int) := by omega
          have hii : (i : Int) < (L : Int) := by omega
          clear p1 p2 hg hb
          go_wp2_with fail
          go_roundw
          case rel => exact ⟨i + 1, by go_num, by omega, P1.out, P2.out⟩
          case measure => simp [intOf]; omega
        · obtain rfl : i = L := by omega
          obtain ⟨wB, rfl⟩ : ∃ x, x = wr := ⟨_, rfl⟩
          have HG := Lib.hid hg
          have HB := Lib.hid hb
          have hzB := hb.size
          have b7 := (Below.refl wB.heap.size wB).alloc (Nat.le_refl _) (.cells #[.slice none 0 0] 28)
          have ST := Lib.hid (MBx.start (w := wB) b7 (Blk.new wB 28 #[.slice none 0 0]) (Nat.le_refl _))
          have hz7 : wB.heap.size < (wB.alloc (.cells #[.slice none 0 0] 28)).heap.size := by simp
          clear b7 hb hg
          go_upto_region 16 with fail
          generalize wB.alloc (.cells #[.slice none 0 0] 28) = w7 at *
          obtain ⟨bx, hbx⟩ : ∃ bx, wB.heap.size = bx := ⟨_, rfl⟩
          have HBX := Lib.hid hbx
          rw [hbx] at ST hz7 ⊢
          clear hbx
          go_wp2_with fail
          go_loopw [15] (fun kv wr => ∃ (q : Nat) (am : Option Addr) (cm : Nat) (us : List Value) (ds : List (List Int)), kv = .int .i64 q ∧ q ≤ 3 ∧ Sq ds i ∧ MBx wB wr bx (bx + 1) am q cm us ds) (fun kv _ => 3 - (intOf kv).toNat)
          case atStart => exact ⟨0, none, 0, [], [], rfl, Nat.zero_le _, sq_nil _, ST.out⟩
          case round =>
            clear ST hz7
            obtain ⟨q, am3, cm3, um, ds, rfl, hq, hds, st⟩ := hrel
            obtain ⟨wA, rfl⟩ : ∃ x, x = wr := ⟨_, rfl⟩
            have ST := Lib.hid st
            have hbw := Lib.hid st.bel
            have hzr := hbw.out.size
            have HBA := Lib.hid (HB.out.trans (hbw.out.mono hzB))
            by_cases hltq : q < 3
            · have hqi : (q : Int) < 3 := by omega
              have HDS := Lib.hid hds
              have E0 := Lib.hid (Gl.empty_ wA wA.heap.size i (Nat.le_refl _) rfl)
              have hbA := below_alloc1 wA (.cells #[] 2)
              have HBE := Lib.hid hbA
              clear st hds hbA
              go_wp2_with fail
              go_loopw [16, 17] (fun sv iv w8 => ∃ (f : Nat) (a : Option Addr) (cc : Nat), f ≤ i ∧ sv = .slice a f cc ∧ iv = .int .i64 f ∧ Gl w8 wA.heap.size a f cc i ∧ Below wA.heap.size wA w8) (fun _ iv _ => i - (intOf iv).toNat)
              case atStart => exact ⟨0, _, _, Nat.zero_le _, rfl, rfl, E0.out, HBE.out⟩
              case round =>
                clear E0 HBE
                obtain ⟨p, a, cc, hf, rfl, rfl, hg, hb8⟩ := hrel
                obtain ⟨w8, rfl⟩ : ∃ x, x = wr := ⟨_, rfl⟩
                have hz8 := hb8.size
                have HBW := Lib.hid (HBA.out.trans (hb8.mono (by omega)))
                have HBX2 := Lib.hid (hbw.out.trans (hb8.mono hzr))
                have HB8 := Lib.hid hb8
                have HG8 := Lib.hid hg
                clear hb8 hg
                by_cases hltf : p < i
                · have hfi : (p : Int) < (i : Int) := by omega
                  obtain ⟨og, x, rfl, hx, hcx, hfx, -, -⟩ := (HO3.out.below HBW.out).cell hltf
                  obtain ⟨b2, off2, a2, n2, c2, e2, hc2, hi2⟩ := (HD3.out.intss.below HBW.out).at_ hltq
                  injection e2 with e2
                  injection e2 with e21 e22
                  subst e21 e22
                  rw [Nat.zero_add] at hc2
                  have hn2 : n2 = f := by rw [← hi2.1]; exact HT.out.len q (by omega)
                  subst hn2
                  obtain ⟨b4, off4, rfl, hc4⟩ := hi2.at_ hx
                  have hy := bTo_lt HT.out hx (g := q) (by omega)
                  obtain ⟨y, hye⟩ : ∃ y, bTo d x q = y := ⟨_, rfl⟩
                  rw [hy.2, hye] at hc4
                  rw [hye] at hy
                  have hyN := hy.1
                  obtain ⟨g5, u, e5, hu, hcu, hfu, -, -⟩ := (HG.out.below HBX2.out).cell hyN
                  injection e5 with e5; injection e5 with e5; subst e5
                  have hxi : (x : Int) < (n2 : Int) := by omega
                  have hyi : (y : Int) < (n2 : Int) := by omega
                  clear hi2 hy hye
                  go_upto_region 23 with fail
                  go_region_law (refine gl_step (o := ⟨some 88, _, _, _, _, _⟩) etI rfl (.tmp 73) (.tmp 87) rfl wA.heap.size a p cc i rfl HG8.out (u : Int) rfl (by omega) (by omega) hz8 ?_; intro a9 c9 w9 g9 B9 gr9 hat9)
                  all_goals
                    have HG9 := Lib.hid g9
                    have HB9 := Lib.hid (HB8.out.trans B9)
                    clear g9 B9 gr9 hat9
                    go_wp2_with fail
                    go_roundw
                  all_goals first | exact ⟨p + 1, a9, c9, by omega, rfl, by go_num, HG9.out, HB9.out⟩ | (simp [intOf]; omega)
                · obtain rfl : p = i := by omega
                  have STB := Lib.hid (ST.out.below HB8.out)
                  obtain ⟨zs, n8, m8, o8⟩ := HG8.out
                  have HO8 := Lib.hid o8
                  have xb := STB.out.cell
                  have hlo8 := STB.out.at_.2.2
                  clear o8
                  go_wp2_with (at_builtin; refine wpList_ap1 etSS _ rfl _ _ rfl (bx + 1) am3 q cm3 _ rfl STB.out.row.own (.slice a p cc) rfl rfl (by omega) hlo8 ?_; intro ao2 c2' w4 ho2 hg2 hat; have x4 := (STB.out.boxG hg2).cell 0; have f4 := (STB.out.boxG hg2).frozen 0)
                  have SP := Lib.hid (ST.out.push (by omega) HB8.out HO8.out (Below.refl _ _) ho2 hg2 (hat.imp id fun e => ⟨_, e, Nat.le_succ _⟩))
                  clear ho2 hg2 hat STB ST
                  go_roundw
                  case rel => exact ⟨q + 1, ao2, c2', _, _, by go_num, by omega, HDS.out.app n8 m8, SP.out⟩
                  case measure => simp [intOf]; omega
            · obtain rfl : q = 3 := by omega

              have xb := st.cell
              have HBF := Lib.hid (B3.out.trans (HBA.out.mono (by omega)))
              have KRr := M.out.box.belowS HBF.out
              have xr := KRr.cell 0
              have fr := KRr.frozen 0
              have SF := Lib.hid (src_belowL M.out.src (by omega) HBF.out)
              have OF := Lib.hid (only_below M.out.only HBF.out)
              have hwb : w.heap.size ≤ wB.heap.size := by omega
              simp at xr
              have hrl : ds.length = 3 := st.row.len
              clear st
              go_wp2
              have hfl : w.heap.size < bx := by rw [← HBX.out]; omega
              exact bodyPost_ret (v := .agg #[.slice am3 3 cm3]) (by simp [results, Try.f89, go_sem, xr]) rfl ⟨_, ds, i, rfl, ⟨ST.out.done hfl _ hwb, hds, hL1, src_farL SF.out fun h hh => Below.heap_setCell _ _ _ h (by show h ≠ w.heap.size; omega), only_cell OF.out (Nat.le_refl _) _⟩, hrl, hLN⟩
end Go.Proofs.Ytmdhljleaijkbaa

/- Draws of maniplexes: l02Any. guards: -/
namespace Go.Proofs.Ytmdhljleaijkbaa
open Go.RowKit

/-- m's box and what it holds, the edge's box, the source -/
structure AS (w wr : World) (sb most : Nat) (am : Option Addr) (n cm : Nat) (d : List (List Int)) (N : Nat) : Prop where
  res : Blk wr w.heap.size 28 #[.slice none 0 0]
  eb : Blk wr (w.heap.size + 1 + 1 + 1) 28 #[.slice (some ⟨w.heap.size + 1 + 1, 0, none⟩) 1 1]
  mb : Blk wr (w.heap.size + 1 + 1 + 1 + 1) 28 #[.slice am n cm]
  eo : OwM 2 32 wr (w.heap.size + 1) (w.heap.size + 1 + 1 + 1) (.agg #[.slice (some ⟨w.heap.size + 1 + 1, 0, none⟩) 1 1]) [[1, 0]]
  mo : ∃ hi, OwM 2 32 wr (w.heap.size + 1) hi (.agg #[.slice am n cm]) d ∧ hi ≤ wr.heap.size ∧ (hi ≤ w.heap.size + 1 + 1 + 1 ∨ OwM 2 32 wr (w.heap.size + 5) hi (.agg #[.slice am n cm]) d)
  sq : Sq d N
  n1 : 1 ≤ n
  n5 : n ≤ 5
  N1 : 1 ≤ N
  Nm : N ≤ most
  src : Src wr sb
  only : Only sb (sb + 1) w wr
  sz : w.heap.size + 5 ≤ wr.heap.size
section
variable {w wr w2 : World} {sb most n cm N : Nat} {am : Option Addr} {d : List (List Int)}
theorem AS.next (h : AS w wr sb most am n cm d N) (hs : sb < w.heap.size) (s : Src w2 sb) (o : Only sb (sb + 1) wr w2) : AS w w2 sb most am n cm d N := by
  have hz := h.sz
  obtain ⟨hi, m1, m2, m3⟩ := h.mo
  exact ⟨h.res.only o (.inr (by omega)), h.eb.only o (.inr (by omega)), h.mb.only o (.inr (by omega)), h.eo.only o (.inr (by omega)), ⟨hi, m1.only o (.inr (by omega)), Nat.le_trans m2 o.size, m3.imp id fun q => q.only o (.inr (by omega))⟩, h.sq, h.n1, h.n5, h.N1, h.Nm, s, h.only.trans o, Nat.le_trans hz o.size⟩
theorem AS.below (h : AS w wr sb most am n cm d N) (hs : sb < w.heap.size) (b : Below wr.heap.size wr w2) : AS w w2 sb most am n cm d N :=
  h.next hs (src_belowL h.src (by have := h.sz; omega) b) (only_of_below b)
theorem AS.rdm (h : AS w wr sb most am n cm d N) : RdSSc wr (.slice am n cm) d ∧ d.length = n := by
  obtain ⟨hi, m1, m2, m3⟩ := h.mo
  exact m1.rdcM
theorem AS.rde (h : AS w wr sb most am n cm d N) : RdSSc wr (.slice (some ⟨w.heap.size + 1 + 1, 0, none⟩) 1 1) [[1, 0]] := h.eo.rdcM.1
/-- m is another maniplex now -/
theorem AS.put (h : AS w wr sb most am n cm d N) {lo hi a' n' c' N' : Nat} {ao' : Option Addr} {r : List (List Int)} (o : OwM 2 32 wr lo hi (.agg #[.slice ao' n' c']) r) (hlo : w.heap.size + 5 ≤ lo) (hhi : hi ≤ wr.heap.size) (sq : Sq r N') (h1 : 1 ≤ n') (h5 : n' ≤ 5) (g1 : 1 ≤ N') (g2 : N' ≤ most) (_ : a' = 0) (hs : sb < w.heap.size) :
    AS w (wr.setCell ⟨w.heap.size + 1 + 1 + 1 + 1, 0, none⟩ (.slice ao' n' c')) sb most ao' n' c' r N' := by
  have hz := h.sz
  have oc := only_set wr (w.heap.size + 1 + 1 + 1 + 1) 0 (.slice ao' n' c')
  have hsz : (wr.setCell ⟨w.heap.size + 1 + 1 + 1 + 1, 0, none⟩ (.slice ao' n' c')).heap.size = wr.heap.size := by simp [World.setCell]
  have kb : Blk (wr.setCell ⟨w.heap.size + 1 + 1 + 1 + 1, 0, none⟩ (.slice ao' n' c')) (w.heap.size + 1 + 1 + 1 + 1) 28 #[.slice ao' n' c'] := by simpa using h.mb.set_ 0 (.slice ao' n' c')
  have o2 := o.only oc (.inr (by omega))
  exact ⟨h.res.only oc (.inl (by omega)), h.eb.only oc (.inl (by omega)), kb, h.eo.only oc (.inl (by omega)), ⟨hi, o2.mono (by omega) (Nat.le_refl _), by omega, .inr (o2.mono hlo (Nat.le_refl _))⟩, sq, h1, h5, g1, g2, src_farL h.src fun g hg => Below.heap_setCell _ _ _ g (by simp; omega), only_cell h.only (by simp; omega) _, by omega⟩
/-- the result is m -/
theorem AS.fin (h : AS w wr sb most am n cm d N) (hs : sb < w.heap.size) : MxS w (wr.setCell ⟨w.heap.size, 0, none⟩ (.slice am n cm)) sb (.agg #[.slice am n cm]) d N := by
  have hz := h.sz
  obtain ⟨hi, m1, m2, m3⟩ := h.mo
  have oc := only_set wr w.heap.size 0 (.slice am n cm)
  have hsz : (wr.setCell ⟨w.heap.size, 0, none⟩ (.slice am n cm)).heap.size = wr.heap.size := by simp [World.setCell]
  exact ⟨(m1.only oc (.inr (by omega))).mono (by omega) (by omega), h.sq, h.N1, src_farL h.src fun g hg => Below.heap_setCell _ _ _ g (by simp; omega), only_cell h.only (Nat.le_refl _) _⟩
theorem AS.fine (h : AS w wr sb most am n cm d N) (hs : sb < w.heap.size) : MxS w (wr.setCell ⟨w.heap.size, 0, none⟩ (.slice (some ⟨w.heap.size + 1 + 1, 0, none⟩) 1 1)) sb (.agg #[.slice (some ⟨w.heap.size + 1 + 1, 0, none⟩) 1 1]) [[1, 0]] 2 := by
  have hz := h.sz
  have oc := only_set wr w.heap.size 0 (.slice (some ⟨w.heap.size + 1 + 1, 0, none⟩) 1 1)
  have hsz : (wr.setCell ⟨w.heap.size, 0, none⟩ (.slice (some ⟨w.heap.size + 1 + 1, 0, none⟩) 1 1)).heap.size = wr.heap.size := by simp [World.setCell]
  refine ⟨(h.eo.only oc (.inr (by omega))).mono (by omega) (by omega), fun r hr => ?_, by omega, src_farL h.src fun g hg => Below.heap_setCell _ _ _ g (by simp; omega), only_cell h.only (Nat.le_refl _) _⟩
  simp at hr; subst hr
  exact ⟨rfl, fun z hz => by simp at hz; omega⟩
end
theorem polyL_sq {m : Nat} (hm : 1 ≤ m) : Sq [polyL polyA (2 * m), polyL (polyB (2 * m)) (2 * m)] (2 * m) := fun r hr => by
  simp at hr
  rcases hr with rfl | rfl
  · refine ⟨length_polyL _ _, fun z hz => ?_⟩
    unfold polyL at hz
    obtain ⟨f, hf, rfl⟩ := List.mem_map.1 hz
    have := List.mem_range.1 hf
    unfold polyA
    split <;> omega
  · refine ⟨length_polyL _ _, fun z hz => ?_⟩
    unfold polyL at hz
    obtain ⟨f, hf, rfl⟩ := List.mem_map.1 hz
    unfold polyB
    split
    · exact ⟨Int.emod_nonneg _ (by omega), Int.emod_lt_of_pos _ (by omega)⟩
    · exact ⟨Int.emod_nonneg _ (by omega), Int.emod_lt_of_pos _ (by omega)⟩
theorem polyZ_any {m : Nat} (z : Int) (hz : z = (m : Int)) (w : World) (h1 : 1 ≤ m) (h2 : m ≤ 200) :
    Calls Try.prog 86 #[.int .i64 z] w fun e w' => ∃ a c r, e = .returned (.agg #[.slice a 2 c]) ∧ OwM 2 32 w' w.heap.size w'.heap.size (.agg #[.slice a 2 c]) r ∧ Sq r (2 * m) ∧ Below w.heap.size w w' := by
  subst hz
  refine (specPolygon_any m w h1 h2).mono ?_
  rintro e w' ⟨v, rfl, ho, hb⟩
  obtain ⟨a, n, c, rfl⟩ := ho.form
  have hn : n = 2 := by have := ho.rdcM.2; simpa using this.symm
  subst hn
  exact ⟨a, c, _, rfl, ho, polyL_sq h1, hb⟩
theorem mapZ_any {sb E : Nat} (z : Int) (hz : z = (E : Int)) (w : World) (h : Src w sb) (hsb : sb < w.heap.size) (hE : 1 ≤ E) (hE9 : E ≤ 100) :
    Calls Try.prog 89 #[.pointer (some ⟨sb, 0, none⟩), .int .i64 z] w fun e w' => ∃ a c r L, e = .returned (.agg #[.slice a 3 c]) ∧ MxS w w' sb (.agg #[.slice a 3 c]) r L ∧ L ≤ 4 * E := by
  subst hz
  refine (mapS_any sb E w h hsb hE hE9).mono ?_
  rintro e w' ⟨v, r, L, rfl, hm, hr, hL⟩
  obtain ⟨a, n, c, rfl⟩ := hm.ow.form
  have hn : n = 3 := by have := hm.ow.rdcM.2; omega
  subst hn
  exact ⟨a, c, r, L, rfl, hm, hL⟩
theorem besZ_any (ao bo : Option Addr) (n c m c' N K : Nat) (d e : List (List Int)) (w : World) (hd : RdSSc w (.slice ao n c) d) (he : RdSSc w (.slice bo m c') e) (hT : Sq d N) (hE : Sq e K) (hn : 1 ≤ n) (hm : 1 ≤ m) (hn9 : n ≤ 100) (hm9 : m ≤ 100) (hN : 1 ≤ N) (hK : 1 ≤ K) (hN9 : N ≤ 1000) (hK9 : K ≤ 1000) :
    Calls Try.prog 118 #[.agg #[.slice ao n c], .agg #[.slice bo m c']] w fun e w' => ∃ a cc r, e = .returned (.agg #[.slice a (n + m) cc]) ∧ OwM 2 32 w' w.heap.size w'.heap.size (.agg #[.slice a (n + m) cc]) r ∧ Sq r (N * K) ∧ Below w.heap.size w w' := by
  refine (beside_any ao bo n c m c' N K d e w hd he hT.leads hE.leads hn hm hn9 hm9 hN hK hN9 hK9).mono ?_
  rintro e w' ⟨v, r, rfl, ho, hr, hs, hb⟩
  obtain ⟨a, q, cc, rfl⟩ := ho.form
  have hq : q = n + m := by have := ho.rdcM.2; omega
  subst hq
  exact ⟨a, cc, r, rfl, ho, hs, hb⟩
theorem edge_sq : Sq [[1, 0]] 2 := fun r hr => by
  simp at hr; subst hr
  exact ⟨rfl, fun z hz => by simp at hz; omega⟩
/-- how long the slice in a box is -/
def lenOf (w : World) (b : Nat) : Nat := match w.cell? ⟨b, 0, none⟩ with
  | some (.slice _ n _) => n
  | _ => 0
theorem lenOf_blk {w : World} {b n c : Nat} {a : Option Addr} {t : TypeId} (h : Blk w b t #[.slice a n c]) : lenOf w b = n := by
  unfold lenOf
  rw [h.cell 0]; rfl
theorem any_div {most p k : Nat} (hm : most ≤ 400) (h1 : 1 ≤ p) (h3 : 4 * p ≤ most) (h4 : most / (4 * p) = k) : 1 ≤ k ∧ (4 * p) * k ≤ most ∧ k ≤ 100 := by
  subst h4
  have h5 := Nat.mul_div_le most (4 * p)
  have h6 := Nat.mul_le_mul_right (most / (4 * p)) (show 4 ≤ 4 * p by omega)
  exact ⟨Nat.div_pos h3 (by omega), h5, by omega⟩
theorem as_start {w : World} {sb most : Nat} (h : Src w sb) (hsb : sb < w.heap.size) (hm : 2 ≤ most) : AS w (((((w.alloc (.cells #[.slice none 0 0] 28)).alloc (.cells #[.int .i64 1, .int .i64 0] 2)).alloc (.cells #[.slice (some ⟨w.heap.size + 1, 0, none⟩) 2 2] 32)).alloc (.cells #[.slice (some ⟨w.heap.size + 1 + 1, 0, none⟩) 1 1] 28)).alloc (.cells #[.slice (some ⟨w.heap.size + 1 + 1, 0, none⟩) 1 1] 28)) sb most (some ⟨w.heap.size + 1 + 1, 0, none⟩) 1 1 [[1, 0]] 2 := by
  have hL : Own (((w.alloc (.cells #[.slice none 0 0] 28)).alloc (.cells #[.int .i64 1, .int .i64 0] 2))) (w.heap.size + 1) 2 (some ⟨w.heap.size + 1, 0, none⟩) 2 2 (([1, 0] : List Int).map (Value.int .i64)) := by
    have := own_rowL (w := w.alloc (.cells #[.slice none 0 0] 28)) (us := [.int .i64 1, .int .i64 0]) (zs := [1, 0]) (k := 2) (g := w.heap.size + 1) (by simp) rfl rfl (by omega)
    have e : (w.alloc (.cells #[.slice none 0 0] 28)).heap.size = w.heap.size + 1 := by simp
    rw [e] at this; exact this
  have e2 : ((w.alloc (.cells #[.slice none 0 0] 28)).alloc (.cells #[.int .i64 1, .int .i64 0] 2)).heap.size = w.heap.size + 1 + 1 := by simp
  have hR : OwR (OwS 2) (((w.alloc (.cells #[.slice none 0 0] 28)).alloc (.cells #[.int .i64 1, .int .i64 0] 2)).alloc (.cells #[.slice (some ⟨w.heap.size + 1, 0, none⟩) 2 2] 32)) (w.heap.size + 1) (w.heap.size + 1 + 1 + 1) 32 (some ⟨w.heap.size + 1 + 1, 0, none⟩) 1 1 [.slice (some ⟨w.heap.size + 1, 0, none⟩) 2 2] [[1, 0]] := by
    have := OwR.lit (E := 32) (us := [.slice (some ⟨w.heap.size + 1, 0, none⟩) 2 2]) (ds := [[1, 0]]) (n := 1) (lo := w.heap.size + 1) (hi := w.heap.size + 1 + 1) (w := (w.alloc (.cells #[.slice none 0 0] 28)).alloc (.cells #[.int .i64 1, .int .i64 0] 2)) (innerS 2) (by omega) (by omega) rfl rfl (by omega) (fun j u d hu hd => by
        match j, hu, hd with
        | 0, hu, hd => simp at hu hd; subst hu hd; exact ⟨_, _, _, rfl, hL.mono (Nat.zero_le _)⟩
        | j + 1, hu, _ => simp at hu) (fun j u hu => by
        match j, hu with
        | 0, hu => simp at hu; subst hu; exact in_slice fun g hg => by simp [bk] at hg; omega
        | j + 1, hu => simp at hu) (fun i j u u' g hij hu hu' _ => by
        match i, j, hu, hu' with
        | 0, 0, _, _ => exact absurd rfl hij
        | 0, j + 1, _, hu' => simp at hu'
        | i + 1, _, hu, _ => simp at hu)
    rw [e2] at this; exact this
  have kA := below_alloc2 (((w.alloc (.cells #[.slice none 0 0] 28)).alloc (.cells #[.int .i64 1, .int .i64 0] 2)).alloc (.cells #[.slice (some ⟨w.heap.size + 1, 0, none⟩) 2 2] 32)) (.cells #[.slice (some ⟨w.heap.size + 1 + 1, 0, none⟩) 1 1] 28) (.cells #[.slice (some ⟨w.heap.size + 1 + 1, 0, none⟩) 1 1] 28)
  have eo : OwM 2 32 (((((w.alloc (.cells #[.slice none 0 0] 28)).alloc (.cells #[.int .i64 1, .int .i64 0] 2)).alloc (.cells #[.slice (some ⟨w.heap.size + 1, 0, none⟩) 2 2] 32)).alloc (.cells #[.slice (some ⟨w.heap.size + 1 + 1, 0, none⟩) 1 1] 28)).alloc (.cells #[.slice (some ⟨w.heap.size + 1 + 1, 0, none⟩) 1 1] 28)) (w.heap.size + 1) (w.heap.size + 1 + 1 + 1) (.agg #[.slice (some ⟨w.heap.size + 1 + 1, 0, none⟩) 1 1]) [[1, 0]] := ⟨_, _, _, _, rfl, hR.below (innerS _) kA⟩
  have hB := (below_alloc3 w (.cells #[.slice none 0 0] 28) (.cells #[.int .i64 1, .int .i64 0] 2) (.cells #[.slice (some ⟨w.heap.size + 1, 0, none⟩) 2 2] 32)).trans (kA.mono (by simp; omega))
  exact ⟨((((blk_at rfl).alloc _).alloc _).alloc _).alloc _, (blk_at (by simp)).alloc _, blk_at (by simp), eo, ⟨_, eo, by simp, .inl (Nat.le_refl _)⟩, edge_sq, by omega, by omega, by omega, hm, src_belowL h hsb hB, only_of_below hB, by simp⟩
set_option maxRecDepth 100000 in
set_option maxHeartbeats 6400000 in
theorem any_any (sb most : Nat) (w : World) (h : Src w sb) (hsb : sb < w.heap.size) (hm8 : 8 ≤ most) (hm4 : most ≤ 400) :
    Calls Try.prog 150 #[.pointer (some ⟨sb, 0, none⟩), .int .i64 most] w fun e w' => ∃ a n c r N, e = .returned (.agg #[.slice a n c]) ∧ MxS w w' sb (.agg #[.slice a n c]) r N ∧ 1 ≤ n ∧ n ≤ 5 ∧ N ≤ most := by
  have HA := Lib.hid (as_start (most := most) h hsb (by omega))
  clear h
  go_enter Try.func150, Try.ntmps150
  go_upto_region 3 with fail
  generalize ((((w.alloc (.cells #[.slice none 0 0] 28)).alloc (.cells #[.int .i64 1, .int .i64 0] 2)).alloc (.cells #[.slice (some ⟨w.heap.size + 1, 0, none⟩) 2 2] 32)).alloc (.cells #[.slice (some ⟨w.heap.size + 1 + 1, 0, none⟩) 1 1] 28)).alloc (.cells #[.slice (some ⟨w.heap.size + 1 + 1, 0, none⟩) 1 1] 28) = w1 at *
  go_wp2_with fail
  refine (next_any sb _ _ HA.out.src (by omega)).mono ?_
  rintro e w2 ⟨r, rfl, -, r2, s2, o2⟩
  have hr := r2 (by omega)
  have HA2 := Lib.hid (HA.out.next hsb s2 o2)
  clear HA r2 s2 o2
  go_upto_block 0 with (fail)
  go_cut [7] (fun s7 wx => ∃ (am : Option Addr) (n cm : Nat) (d : List (List Int)) (N : Nat), AS w wx sb most am n cm d N)
  case first =>
    obtain ⟨h2, hh2⟩ : ∃ u, most / 2 = u := ⟨_, rfl⟩
    obtain ⟨h4, hh4⟩ : ∃ u, most / 4 = u := ⟨_, rfl⟩
    have tA : (most : Int).tdiv 2 = (h2 : Int) := by rw [← hh2]; rfl
    have tB : (most : Int).tdiv 4 = (h4 : Int) := by rw [← hh4]; rfl
    by_cases hr0 : r = 0
    · subst hr0
      go_wp2_with fail
      refine (next_any sb _ _ HA2.out.src (by omega)).mono ?_
      rintro e w3 ⟨q, rfl, -, q3, s3, o3⟩
      have hq := q3 (by omega)
      have HA3 := Lib.hid (HA2.out.next hsb s3 o3)
      have hqw : IntKind.i64.wrap (1 + (q : Int)) = 1 + (q : Int) := IntWalk.i64_in _ (by omega)
      clear q3 s3 o3 HA2
      go_wp2_with fail
      refine (polyZ_any (m := 1 + q) _ (by omega) w3 (by omega) (by omega)).mono ?_
      rintro e w4 ⟨a4, c4, r4, rfl, o4, sq4, b4⟩
      have HA4 := Lib.hid (HA3.out.below hsb b4)
      have y4 := HA4.out.mb.cell 0
      have f4 := HA4.out.mb.frozen 0
      simp at y4
      have HP := Lib.hid (HA4.out.put (a' := 0) o4 HA3.out.sz (Nat.le_refl _) sq4 (by omega) (by omega) (by omega) (by omega) rfl hsb)
      clear o4 b4 HA3
      go_wp2_with fail
      go_meet
      case rel => exact ⟨_, _, _, _, _, HP.out⟩
    · by_cases hr1 : r = 1
      · subst hr1
        have y2 := HA2.out.eb.cell 0
        have z2 := HA2.out.res.cell 0
        have f2 := HA2.out.res.frozen 0
        simp at y2 z2
        have HF := Lib.hid (HA2.out.fine hsb)
        go_wp2_with fail
        exact bodyPost_ret (v := .agg #[.slice (some ⟨w.heap.size + 1 + 1, 0, none⟩) 1 1]) (by simp [results, Try.f150, go_sem, z2]) rfl ⟨_, _, _, _, _, rfl, HF.out, by omega, by omega, by omega⟩
      · by_cases hr2 : r = 2
        · subst hr2
          go_wp2_with fail
          refine (next_any sb _ _ HA2.out.src (by omega)).mono ?_
          rintro e w3 ⟨q, rfl, -, q3, s3, o3⟩
          have hq := q3 (by omega)
          have HA3 := Lib.hid (HA2.out.next hsb s3 o3)
          have hqw : IntKind.i64.wrap (1 + (q : Int)) = 1 + (q : Int) := IntWalk.i64_in _ (by omega)
          clear q3 s3 o3 HA2
          go_wp2_with fail
          refine (polyZ_any (m := 1 + q) _ (by omega) w3 (by omega) (by omega)).mono ?_
          rintro e w4 ⟨a4, c4, r4, rfl, o4, sq4, b4⟩
          have HA4 := Lib.hid (HA3.out.below hsb b4)
          have y4 := HA4.out.mb.cell 0
          have f4 := HA4.out.mb.frozen 0
          simp at y4
          have HP := Lib.hid (HA4.out.put (a' := 0) o4 HA3.out.sz (Nat.le_refl _) sq4 (by omega) (by omega) (by omega) (by omega) rfl hsb)
          clear o4 b4 HA3 HA4
          go_upto_region 11 with fail
          generalize w4.setCell ⟨w.heap.size + 1 + 1 + 1 + 1, 0, none⟩ (.slice a4 2 c4) = w5 at *
          have y5 := HP.out.mb.cell 0
          have e5 := HP.out.eb.cell 0
          simp at y5 e5
          go_wp2_with fail
          refine (besZ_any a4 (some ⟨w.heap.size + 1 + 1, 0, none⟩) 2 c4 1 1 (2 * (1 + q)) 2 r4 [[1, 0]] w5 HP.out.rdm.1 HP.out.rde sq4 edge_sq (by omega) (by omega) (by omega) (by omega) (by omega) (by omega) (by omega) (by omega)).mono ?_
          rintro e w6 ⟨a6, c6, r6, rfl, o6, sq6, b6⟩
          have HA6 := Lib.hid (HP.out.below hsb b6)
          have y6 := HA6.out.mb.cell 0
          have f6 := HA6.out.mb.frozen 0
          simp at y6
          have HP6 := Lib.hid (HA6.out.put (a' := 0) o6 HP.out.sz (Nat.le_refl _) sq6 (by omega) (by omega) (by omega) (by omega) rfl hsb)
          clear o6 b6 HP HA6
          go_wp2_with fail
          go_meet
          case rel => exact ⟨_, _, _, _, _, HP6.out⟩
        · by_cases hr3 : r = 3
          · subst hr3
            go_wp2_with fail
            refine (next_any sb _ _ HA2.out.src (by omega)).mono ?_
            rintro e w3 ⟨q, rfl, -, q3, s3, o3⟩
            have hq := q3 (by omega)
            have HA3 := Lib.hid (HA2.out.next hsb s3 o3)
            have hqw : IntKind.i64.wrap (1 + (q : Int)) = 1 + (q : Int) := IntWalk.i64_in _ (by omega)
            have hqw2 : IntKind.i64.wrap (4 * (1 + (q : Int))) = 4 * (1 + (q : Int)) := IntWalk.i64_in _ (by omega)
            clear q3 s3 o3 HA2
            by_cases h4p : 4 * (1 + q) ≤ most
            · have h4i : ¬ (most : Int) < 4 * (1 + (q : Int)) := by omega
              obtain ⟨k, hk⟩ : ∃ k, most / (4 * (1 + q)) = k := ⟨_, rfl⟩
              obtain ⟨hk1, hkm, hk100⟩ := any_div (p := 1 + q) (k := k) hm4 (by omega) (by omega) hk
              have hk9 : k ≤ most := by rw [← hk]; exact Nat.div_le_self _ _
              have tC : (most : Int).tdiv (4 * (1 + (q : Int))) = (k : Int) := by
                rw [show 4 * (1 + (q : Int)) = ((4 * (1 + q) : Nat) : Int) by omega, ← hk]; rfl
              have hne : ¬ 4 * (1 + (q : Int)) = 0 := by omega
              have hkw : IntKind.i64.wrap (k : Int) = (k : Int) := IntWalk.i64_in _ (by omega)
              clear hk
              go_upto_region 16 with fail
              go_region_law (first
                | (go_simp; go_at_call 118; refine (besZ_any a4 a6 2 c4 2 c6 (2 * (1 + q)) (2 * (1 + u)) r4 r6 w6 O46.out.rdcM.1 O6.out.rdcM.1 SQ4.out SQ6.out (by omega) (by omega) (by omega) (by omega) (by omega) (by omega) (by omega) (by omega)).mono ?_; rintro e w7 ⟨a7, c7, r7, rfl, o7, sq7, b7⟩; have HA7 := Lib.hid (HA6.out.below hsb b7); have y7 := HA7.out.mb.cell 0; have f7 := HA7.out.mb.frozen 0; simp at y7)
                | (go_simp; go_at_call 86; refine (polyZ_any (m := 1 + u) _ (by omega) w5 (by omega) (by omega)).mono ?_; rintro e w6 ⟨a6, c6, r6, rfl, o6, sq6, b6⟩; have O6 := Lib.hid o6; have O46 := Lib.hid (O45.out.below b6); have SQ6 := Lib.hid sq6; have HA6 := Lib.hid (HA5.out.below hsb b6))
                | (go_simp; go_at_call 33; refine (next_any sb _ w4 HA4.out.src (by omega)).mono ?_; rintro e w5 ⟨u, rfl, -, u3, s5, o5⟩; have hu := u3 (by omega); have HA5 := Lib.hid (HA4.out.next hsb s5 o5); have O45 := Lib.hid (O4.out.only o5 (.inr (by have := HA3.out.sz; omega))); have huw : IntKind.i64.wrap (1 + (u : Int)) = 1 + (u : Int) := IntWalk.i64_in _ (by omega))
                | (go_simp; go_at_call 86; refine (polyZ_any (m := 1 + q) _ (by omega) w3.drew (by omega) (by omega)).mono ?_; rintro e w4 ⟨a4, c4, r4, rfl, o4, sq4, b4⟩; have b4' : Below w3.heap.size w3 w4 := below_tr b4 (below_drew1 w3); have HA4 := Lib.hid (HA3.out.below hsb b4'); have O4 := Lib.hid (show OwM 2 32 w4 w3.heap.size w4.heap.size (.agg #[.slice a4 2 c4]) r4 from o4); have SQ4 := Lib.hid sq4))
              all_goals
                have hNN : 2 * (1 + q) * (2 * (1 + u)) ≤ most := by
                  have e1 : 2 * (1 + q) * (2 * (1 + u)) = 4 * (1 + q) * (1 + u) := by rw [← Nat.mul_assoc, Nat.mul_right_comm 2 (1 + q) 2]
                  have e2 := Nat.mul_le_mul_left (4 * (1 + q)) (show 1 + u ≤ k by omega)
                  omega
                have hNP : 1 ≤ 2 * (1 + q) * (2 * (1 + u)) := Nat.mul_pos (by omega) (by omega)
                have HP7 := Lib.hid (HA7.out.put (a' := 0) o7 (by have := HA6.out.sz; omega) (Nat.le_refl _) sq7 (by omega) (by omega) hNP hNN rfl hsb)
                clear o7 b7 hNN hNP
                go_wp2_with fail
                go_meet
              all_goals exact ⟨_, _, _, _, _, HP7.out⟩
            · have h4i : (most : Int) < 4 * (1 + (q : Int)) := by omega
              obtain ⟨k, hk⟩ : ∃ k, most / (4 * (2)) = k := ⟨_, rfl⟩
              obtain ⟨hk1, hkm, hk100⟩ := any_div (p := 2) (k := k) hm4 (by omega) (by omega) hk
              have hk9 : k ≤ most := by rw [← hk]; exact Nat.div_le_self _ _
              have tC : (most : Int).tdiv (4 * (2 : Int)) = (k : Int) := by
                rw [show 4 * (2 : Int) = ((4 * (2) : Nat) : Int) by omega, ← hk]; rfl
              have h8 : IntKind.i64.wrap 8 = 8 := rfl
              have t8 : (most : Int) / 8 = (k : Int) := by rw [← hk]; rfl
              have hkw : IntKind.i64.wrap (k : Int) = (k : Int) := IntWalk.i64_in _ (by omega)
              clear hk
              go_upto_region 16 with fail
              go_region_law (first
                | (go_simp; go_at_call 118; refine (besZ_any a4 a6 2 c4 2 c6 (2 * (2)) (2 * (1 + u)) r4 r6 w6 O46.out.rdcM.1 O6.out.rdcM.1 SQ4.out SQ6.out (by omega) (by omega) (by omega) (by omega) (by omega) (by omega) (by omega) (by omega)).mono ?_; rintro e w7 ⟨a7, c7, r7, rfl, o7, sq7, b7⟩; have HA7 := Lib.hid (HA6.out.below hsb b7); have y7 := HA7.out.mb.cell 0; have f7 := HA7.out.mb.frozen 0; simp at y7)
                | (go_simp; go_at_call 86; refine (polyZ_any (m := 1 + u) _ (by omega) w5 (by omega) (by omega)).mono ?_; rintro e w6 ⟨a6, c6, r6, rfl, o6, sq6, b6⟩; have O6 := Lib.hid o6; have O46 := Lib.hid (O45.out.below b6); have SQ6 := Lib.hid sq6; have HA6 := Lib.hid (HA5.out.below hsb b6))
                | (go_simp; go_at_call 33; refine (next_any sb _ w4 HA4.out.src (by omega)).mono ?_; rintro e w5 ⟨u, rfl, -, u3, s5, o5⟩; have hu := u3 (by omega); have HA5 := Lib.hid (HA4.out.next hsb s5 o5); have O45 := Lib.hid (O4.out.only o5 (.inr (by have := HA3.out.sz; omega))); have huw : IntKind.i64.wrap (1 + (u : Int)) = 1 + (u : Int) := IntWalk.i64_in _ (by omega))
                | (go_simp; go_at_call 86; refine (polyZ_any (m := 2) _ (by omega) w3.drew (by omega) (by omega)).mono ?_; rintro e w4 ⟨a4, c4, r4, rfl, o4, sq4, b4⟩; have b4' : Below w3.heap.size w3 w4 := below_tr b4 (below_drew1 w3); have HA4 := Lib.hid (HA3.out.below hsb b4'); have O4 := Lib.hid (show OwM 2 32 w4 w3.heap.size w4.heap.size (.agg #[.slice a4 2 c4]) r4 from o4); have SQ4 := Lib.hid sq4))
              all_goals
                have hNN : 2 * (2) * (2 * (1 + u)) ≤ most := by
                  have e1 : 2 * (2) * (2 * (1 + u)) = 4 * (2) * (1 + u) := by rw [← Nat.mul_assoc, Nat.mul_right_comm 2 (2) 2]
                  have e2 := Nat.mul_le_mul_left (4 * (2)) (show 1 + u ≤ k by omega)
                  omega
                have hNP : 1 ≤ 2 * (2) * (2 * (1 + u)) := Nat.mul_pos (by omega) (by omega)
                have HP7 := Lib.hid (HA7.out.put (a' := 0) o7 (by have := HA6.out.sz; omega) (Nat.le_refl _) sq7 (by omega) (by omega) hNP hNN rfl hsb)
                clear o7 b7 hNN hNP
                go_wp2_with fail
                go_meet
              all_goals exact ⟨_, _, _, _, _, HP7.out⟩
          · have hr0' : ((r : Int) == 0) = false := by simp; omega
            have hr1' : ((r : Int) == 1) = false := by simp; omega
            have hr2' : ((r : Int) == 2) = false := by simp; omega
            have hr3' : ((r : Int) == 3) = false := by simp; omega
            go_wp2_with fail
            refine (next_any sb _ _ HA2.out.src (by omega)).mono ?_
            rintro e w3 ⟨q, rfl, -, q3, s3, o3⟩
            have hq := q3 (by omega)
            have HA3 := Lib.hid (HA2.out.next hsb s3 o3)
            have hqw : IntKind.i64.wrap (1 + (q : Int)) = 1 + (q : Int) := IntWalk.i64_in _ (by omega)
            clear q3 s3 o3 HA2
            go_wp2_with fail
            refine (mapZ_any (E := 1 + q) _ (by omega) w3 HA3.out.src (by have := HA3.out.sz; omega) (by omega) (by omega)).mono ?_
            rintro e w4 ⟨a4, c4, r4, L, rfl, m4, hL⟩
            have HA4 := Lib.hid (HA3.out.next hsb m4.src m4.only)
            have y4 := HA4.out.mb.cell 0
            have f4 := HA4.out.mb.frozen 0
            simp at y4
            have HP := Lib.hid (HA4.out.put (a' := 0) m4.ow HA3.out.sz (Nat.le_refl _) m4.sq (by omega) (by omega) m4.pos (by omega) rfl hsb)
            clear m4 HA3
            go_wp2_with fail
            go_meet
            case rel => exact ⟨_, _, _, _, _, HP.out⟩
  case rest =>
    obtain ⟨am, n, cm, d, N, ha⟩ := hcut
    have HA := Lib.hid ha
    clear ha HA2
    go_wp2_with fail
    go_loopw [] (fun wr => ∃ (am : Option Addr) (n cm : Nat) (d : List (List Int)) (N : Nat), AS w wr sb most am n cm d N) (fun wr => 5 - lenOf wr (w.heap.size + 1 + 1 + 1 + 1))
    case atStart => exact ⟨am, n, cm, d, N, HA.out⟩
    case round =>
      clear HA
      obtain ⟨am, n, cm, d, N, ha⟩ := hrel
      have HA := Lib.hid ha
      have hn1 := ha.n1
      have hn5 := ha.n5
      have hN1 := ha.N1
      have hNm := ha.Nm
      have hln : lenOf wr (w.heap.size + 1 + 1 + 1 + 1) = n := lenOf_blk ha.mb
      have y1 := ha.mb.cell 0
      have y2 := ha.res.cell 0
      have f2 := ha.res.frozen 0
      simp at y1 y2
      have hdl : (lget d 0).length = N := ha.sq.leads.len 0 (by have := ha.rdm.2; omega)
      clear ha
      by_cases hn : n < 5
      · have hni : (n : Int) < 5 := by omega
        go_wp2_with fail
        refine (flagsS_any am n cm N d wr HA.out.rdm.1.rd (by omega) hdl (by omega)).mono ?_
        rintro e w3 ⟨rfl, b3⟩
        have HA3 := Lib.hid (HA.out.below hsb b3)
        have hNw : IntKind.i64.wrap ((N : Int) * 2) = (N : Int) * 2 := IntWalk.i64_in _ (by omega)
        clear HA b3 y1 y2 f2
        by_cases hN2 : N * 2 ≤ most
        · have hNi : (N : Int) * 2 ≤ (most : Int) := by omega
          go_wp2_with fail
          refine (next_any sb _ _ HA3.out.src (by omega)).mono ?_
          rintro e w4 ⟨q, rfl, -, -, s4, o4⟩
          have HA4 := Lib.hid (HA3.out.next hsb s4 o4)
          clear s4 o4 HA3
          by_cases hq : q = 0
          · subst hq
            go_wp2_with fail
            refine (next_any sb _ _ HA4.out.src (by omega)).mono ?_
            rintro e w5 ⟨u, rfl, -, -, s5, o5⟩
            have HA5 := Lib.hid (HA4.out.next hsb s5 o5)
            have y5 := HA5.out.mb.cell 0
            have e5 := HA5.out.eb.cell 0
            simp at y5 e5
            clear s5 o5 HA4
            by_cases hu : u = 0
            · subst hu
              go_wp2_with fail
              refine (besZ_any am (some ⟨w.heap.size + 1 + 1, 0, none⟩) n cm 1 1 N 2 d [[1, 0]] w5 HA5.out.rdm.1 HA5.out.rde HA5.out.sq edge_sq (by omega) (by omega) (by omega) (by omega) (by omega) (by omega) (by omega) (by omega)).mono ?_
              rintro e w6 ⟨a6, c6, r6, rfl, o6, sq6, b6⟩
              have HA6 := Lib.hid (HA5.out.below hsb b6)
              have y6 := HA6.out.mb.cell 0
              have f6 := HA6.out.mb.frozen 0
              simp at y6
              have HP6 := Lib.hid (HA6.out.put (a' := 0) o6 HA5.out.sz (Nat.le_refl _) sq6 (by omega) (by omega) (by omega) (by omega) rfl hsb)
              clear o6 b6 HA5 HA6
              go_wp2_with fail
              go_roundw
              case rel => exact ⟨_, _, _, _, _, HP6.out⟩
              case measure => rw [hln, lenOf_blk HP6.out.mb]; omega
            · have hu0 : ((u : Int) == 0) = false := by simp; omega
              go_wp2_with fail
              refine (besZ_any (some ⟨w.heap.size + 1 + 1, 0, none⟩) am 1 1 n cm 2 N [[1, 0]] d w5 HA5.out.rde HA5.out.rdm.1 edge_sq HA5.out.sq (by omega) (by omega) (by omega) (by omega) (by omega) (by omega) (by omega) (by omega)).mono ?_
              rintro e w6 ⟨a6, c6, r6, rfl, o6, sq6, b6⟩
              have HA6 := Lib.hid (HA5.out.below hsb b6)
              have y6 := HA6.out.mb.cell 0
              have f6 := HA6.out.mb.frozen 0
              simp at y6
              have HP6 := Lib.hid (HA6.out.put (a' := 0) o6 HA5.out.sz (Nat.le_refl _) sq6 (by omega) (by omega) (by omega) (by omega) rfl hsb)
              clear o6 b6 HA5 HA6
              go_wp2_with fail
              go_roundw
              case rel => exact ⟨_, _, _, _, _, HP6.out⟩
              case measure => rw [hln, lenOf_blk HP6.out.mb]; omega
          · have hq0 : ((q : Int) == 0) = false := by simp; omega
            have y4 := HA4.out.mb.cell 0
            have z4 := HA4.out.res.cell 0
            have f4 := HA4.out.res.frozen 0
            simp at y4 z4
            have HF := Lib.hid (HA4.out.fin hsb)
            have hNf := HA4.out.Nm
            go_wp2_with fail
            exact bodyPost_ret (v := .agg #[.slice am n cm]) (by simp [results, Try.f150, go_sem, z4]) rfl (by first | exact ⟨_, _, _, _, _, rfl, HF.out, hn1, hn5, hNf⟩ | exact ⟨_, _, _, rfl, _, _, HF.out, hn1, hn5, hNf⟩)
        · have hNi : ¬ (N : Int) * 2 ≤ (most : Int) := by omega
          have y4 := HA3.out.mb.cell 0
          have z4 := HA3.out.res.cell 0
          have f4 := HA3.out.res.frozen 0
          simp at y4 z4
          have HF := Lib.hid (HA3.out.fin hsb)
          have hNf := HA3.out.Nm
          go_wp2_with fail
          exact bodyPost_ret (v := .agg #[.slice am n cm]) (by simp [results, Try.f150, go_sem, z4]) rfl (by first | exact ⟨_, _, _, _, _, rfl, HF.out, hn1, hn5, hNf⟩ | exact ⟨_, _, _, rfl, _, _, HF.out, hn1, hn5, hNf⟩)
      · have hni : ¬ (n : Int) < 5 := by omega
        have HF := Lib.hid (HA.out.fin hsb)
        have hNf := HA.out.Nm
        go_wp2_with fail
        exact bodyPost_ret (v := .agg #[.slice am n cm]) (by simp [results, Try.f150, go_sem, y2]) rfl (by first | exact ⟨_, _, _, _, _, rfl, HF.out, hn1, hn5, hNf⟩ | exact ⟨_, _, _, rfl, _, _, HF.out, hn1, hn5, hNf⟩)
end Go.Proofs.Ytmdhljleaijkbaa

/- IsRotation, the program's and the reference's. -/
namespace Go.Proofs.Ytmdhljleaijkbaa
open Go.RowKit

end Go.Proofs.Ytmdhljleaijkbaa

/- Walks in names: bits of masks. No program in sight. -/
namespace Go.Proofs.Ytmdhljleaijkbaa
open Go.RowKit

section
variable {P : Program} {nt : Nat} {S S' S2 : St} {t : Nat} {ty : TypeId} {ps : String} {af : Array Edge} {gd : Option (Nat × Bool)} {x y : Operand} {o : Oper}
/-- a step behind a loss of knowledge -/
theorem Stp.pre (h : Wk S S') (k : Stp P nt o S' S2) : Stp P nt o S S2 :=
  ⟨fun w0 ω0 a w Q hs => k.go w0 ω0 a w Q (h.go _ _ _ _ _ hs)⟩
end
end Go.Proofs.Ytmdhljleaijkbaa

/- A memory of names: a call that turns one vector of the caller's in place; quotients and remainders. No program in sight. -/
namespace Go.Proofs.Ytmdhljleaijkbaa
open Go.RowKit

section
variable {P : Program} {nt : Nat} {S S' S2 : St} {t : Nat} {ty : TypeId} {ps : String} {af : Array Edge} {gd : Option (Nat × Bool)} {x y : Operand} {o : Oper}
end
end Go.Proofs.Ytmdhljleaijkbaa

/- ReverseDiagram: the reference's l12Turned, slices.Clone and slices.Reverse at []int64. -/
namespace Go.Proofs.Ytmdhljleaijkbaa
open Go.RowKit

/-- a list the other way round; closed to simp -/
def turned (zs : List Int) : List Int := zs.reverse
end Go.Proofs.Ytmdhljleaijkbaa

/- slices.Reverse at []int64: it turns a row of the call's own round, in place. -/
namespace Go.Proofs.Ytmdhljleaijkbaa
open Go.RowKit

end Go.Proofs.Ytmdhljleaijkbaa

/- Comparisons of lists, the greatest one of an ascending list, the greatest common divisor. -/
namespace Go.Proofs.Ytmdhljleaijkbaa
open Go.RowKit

set_option maxHeartbeats 400000 in
theorem equal_any (a b : Option Addr) (na nb ca cb : Nat) (za zb : List Int) (w : World) (ha : Ints w a na za) (hb : Ints w b nb zb) :
    Calls Try.prog 77 #[.slice a na ca, .slice b nb cb] w fun e w' => e = .returned (.bool (decide (za = zb))) ∧ ∃ m, w' = w.drewN m := by
  have hla := ha.2.1
  have hlb := hb.2.1
  by_cases hl : na = nb
  · subst hl
    have hl' : ((na : Int) != (na:Int)) = false := by simp
    go_enter Try.func77, Try.ntmps77
    go_wp2
    go_loopw [13] (fun i wr => ∃ k : Nat, k ≤ na ∧ i = .int .i64 k ∧ za.take k = zb.take k ∧ ∃ m, wr = w.drewN m) (fun i _ => na - (intOf i).toNat)
    case atStart => exact ⟨0, Nat.zero_le _, rfl, rfl, 0, rfl⟩
    case round =>
      obtain ⟨k, hk, rfl, hpre, m, rfl⟩ := hrel
      have HP := Lib.hid hpre
      clear hpre
      by_cases hlt : k < na
      · obtain ⟨ba, oa, rfl, hca⟩ := ha.at_ hlt
        obtain ⟨bb, ob, rfl, hcb⟩ := hb.at_ hlt
        have h1 := ha.1
        have h2 := hb.1
        have H1 := Lib.hid h1
        have H2 := Lib.hid h2
        clear h1 h2
        by_cases he : iget za k = iget zb k
        · have he' : (iget za k != iget zb k) = false := by simp [he]
          have HE := Lib.hid he
          clear he
          go_wp2_with fail
          go_quiet (fail)
          go_wp2
          go_roundw
          case rel => exact ⟨k + 1, by omega, by go_num, by rw [take_iget (by rw [H1.out]; omega), take_iget (by rw [H2.out]; omega), HP.out, HE.out], _, rfl⟩
          case measure => simp [intOf]; omega
        · have he' : (iget za k != iget zb k) = true := by simp [he]
          have HE := Lib.hid he
          clear he
          go_wp2_with fail
          go_quiet (fail)
          go_wp2
          go_ret
          exact ⟨ret_bool (by symm; rw [decide_eq_false_iff_not]; intro e; exact HE.out (by rw [e])), _, World.drewN_drewN _ _ _⟩
      · obtain rfl : k = na := by omega
        have h1 := ha.1
        have h2 := hb.1
        have hab : za = zb := by have := HP.out; rwa [List.take_of_length_le (by omega), List.take_of_length_le (by omega)] at this
        have HA := Lib.hid hab
        clear h1 h2 hab
        go_wp2
        go_ret
        exact ⟨ret_bool (by symm; simpa using HA.out), _, rfl⟩
  · have hl' : ((na : Int) != (nb:Int)) = true := by simp; omega
    go_enter Try.func77, Try.ntmps77
    go_wp2
    go_ret
    refine ⟨ret_bool ?_, 0, rfl⟩
    symm
    rw [decide_eq_false_iff_not]
    intro e
    exact hl (by rw [← ha.1, ← hb.1, e])


end Go.Proofs.Ytmdhljleaijkbaa

/- A memory of names: a vector takes another name; an append of nothing. No program in sight. -/
namespace Go.Proofs.Ytmdhljleaijkbaa
open Go.RowKit

section
variable {P : Program} {nt : Nat} {S : St} {t : Nat} {ty : TypeId} {ps : String} {af : Array Edge} {gd : Option (Nat × Bool)} {x y : Operand}
end
end Go.Proofs.Ytmdhljleaijkbaa

/- A memory of names: a literal of three rows; the other one of a pair (x ^ 1). No program in sight. -/
namespace Go.Proofs.Ytmdhljleaijkbaa
open Go.RowKit

section
variable {P : Program} {nt : Nat} {S : St} {t : Nat} {ty : TypeId} {ps : String} {af : Array Edge} {gd : Option (Nat × Bool)} {x y : Operand}
end
end Go.Proofs.Ytmdhljleaijkbaa

/- The map of a rotation, on lists; rotations in names. -/
namespace Go.Proofs.Ytmdhljleaijkbaa
open Go.RowKit

structure Tab where
  a : List Int
  b : List Int
  c : List Int
def Tab.rows (T : Tab) : List (List Int) := [T.a, T.b, T.c]
end Go.Proofs.Ytmdhljleaijkbaa

/- A memory of names: a struct of one slice. No program in sight. -/
namespace Go.Proofs.Ytmdhljleaijkbaa
open Go.RowKit

section
variable {P : Program} {nt : Nat} {S : St} {t : Nat} {ty : TypeId} {ps : String} {af : Array Edge} {gd : Option (Nat × Bool)}
end
end Go.Proofs.Ytmdhljleaijkbaa

/- The map of a rotation: the program's. -/
namespace Go.Proofs.Ytmdhljleaijkbaa
open Go.RowKit

section
variable {P : Program} {nt : Nat} {S : St} {t : Nat} {ty : TypeId} {ps : String} {af : Array Edge} {gd : Option (Nat × Bool)} {x : Operand}
end
abbrev mBox : Ch := ⟨true, 28, 1, .flat [.val (.slice none 0 0)]⟩
end Go.Proofs.Ytmdhljleaijkbaa

/- Forms of maniplexes, the reference's: l01Back, l02Numbers, l02Renumber, l02Form. -/
namespace Go.Proofs.Ytmdhljleaijkbaa
open Go.RowKit

/-- values put at places -/
def putL (N : Nat) (g : Nat → Nat) (v : Nat → Int) (m : Nat) : List Int := (List.range m).foldl (fun l i => l.set (g i) (v i)) (List.replicate N 0)
theorem putL_zero (N : Nat) (g : Nat → Nat) (v : Nat → Int) : putL N g v 0 = List.replicate N 0 := rfl
theorem putL_succ (N : Nat) (g : Nat → Nat) (v : Nat → Int) (m : Nat) : putL N g v (m + 1) = (putL N g v m).set (g m) (v m) := by unfold putL; rw [List.range_succ, List.foldl_append]; rfl
theorem putL_len (N : Nat) (g : Nat → Nat) (v : Nat → Int) : ∀ m, (putL N g v m).length = N
  | 0 => by simp [putL_zero]
  | m + 1 => by rw [putL_succ, List.length_set]; exact putL_len N g v m
theorem putL_get {N : Nat} {g : Nat → Nat} {v : Nat → Int} {M : Nat} (hg : ∀ i, i < M → g i < N) (hi : ∀ i j, i < M → j < M → g i = g j → i = j) : ∀ m, m ≤ M → ∀ i, i < m → iget (putL N g v m) (g i) = v i
  | 0, _, i, h => by omega
  | m + 1, hm, i, h => by
    rw [putL_succ]
    have hl := putL_len N g v m
    by_cases e : i = m
    · subst e
      simp [iget, hl, hg i (by omega)]
    · have hne : g m ≠ g i := fun h' => e (hi m i (by omega) (by omega) h').symm
      have := putL_get (v := v) hg hi m (by omega) i (by omega)
      rw [← this]
      simp [iget, List.getElem?_set, hne]
def fRow (p r : List Int) : List Int := putL p.length (fun f => (iget p f).toNat) (fun f => iget p (iget r f).toNat) p.length
def formL (T : List (List Int)) (p : List Int) : List (List Int) := T.map (fRow p)
set_option maxRecDepth 100000 in
set_option maxHeartbeats 2000000 in
theorem renS_fc (T : List (List Int)) (P : List Int) (N : Nat) (hT : Leads T N) (hP : P.length = N) (hin : ∀ f, f < N → 0 ≤ iget P f ∧ iget P f < N) (hN : N ≤ 1000000) (hg : T.length ≤ 1000000) :
    FC Try.prog 87 [(1002, wRo P), (1003, rowsRo T)] [mA T.length, o1 (.sl 1002 0 N)] [(1000, imOw (formL T P))] (.s (.agg [.sl 1000 0 T.length])) [] := by
  have hTl : (irows T).length = T.length := irows_len _
  have hPi : N ≤ (ivals P).length := by rw [ivals_len, hP]; exact Nat.le_refl _
  refine fc_enter (nt := 50) Try.func87 rfl rfl (by simp) fun w0 ω0 => ?_
  (refine goes_seq ?_; refine goes_region ?_; apply run_step rfl; (exact stp_box rfl rfl rfl rfl); apply run_step rfl; (exact stp_allocZ [.slice none 0 0] rfl (by as_aux_lemma => kernel_rfl)); refine run_nil ?_; refine fin_seq ?_; refine goes_seq ?_; refine goes_region ?_; apply run_step rfl; (exact stp_buildZ [.slice none 0 0] rfl (by as_aux_lemma => kernel_rfl)))
  refine run_wk (wk_nilA (t := 9) (n := 1000) (k := 1) (E := 32) (d := .rows 2 (irows []) []) 0 rfl rfl rfl rfl) ?_
  (apply run_step rfl; (first | exact stp_allocZ [.slice none 0 0] rfl (by as_aux_lemma => kernel_rfl) | exact stp_storeAgg rfl rfl rfl rfl rfl rfl rfl rfl (by as_aux_lemma => kernel_rfl) rfl); apply run_step rfl; (first | exact stp_allocZ [.slice none 0 0] rfl (by as_aux_lemma => kernel_rfl) | exact stp_storeAgg rfl rfl rfl rfl rfl rfl rfl rfl (by as_aux_lemma => kernel_rfl) rfl); refine run_nil ?_; refine fin_seq ?_; refine goes_seq ?_; refine goes_seq ?_; refine goes_region ?_; apply run_step rfl; (exact stp_assign rfl rfl); refine run_nil ?_; refine fin_seq ?_; refine goes_block ?_)
  refine goes_loop (fun k : Nat => St.of [(1, o1 (.sl 1002 0 N)), (2, o1 (.ptr 2 0)), (4, o1 (.ptr 4 0)), (5, o1 (.ptr 5 0)), (6, vv (I6 k))] [(1002, wRo P), (1003, rowsRo T), (2, ⟨true, 28, 1, .flat [.sl 1003 0 T.length]⟩), (4, mBox), (5, ⟨true, 28, 1, .flat [.sl 1000 0 k]⟩), (1000, imOw (formL (T.take k) P))])
    (fun k => k ≤ T.length) (fun k => T.length - k) 0 (Nat.zero_le _) (Wk.of ⟨rfl, rfl, rfl, rfl, rfl, trivial⟩ ⟨rfl, rfl, rfl, rfl, rfl, rfl, trivial⟩ trivial) ?_
  intro k hk
  (refine goes_seq ?_; refine goes_seq ?_; refine goes_region ?_; apply run_step rfl; (exact stp_move rfl rfl); apply run_step rfl; (exact stp_fieldAddr (d := 0) rfl rfl rfl (by as_aux_lemma => kernel_rfl)); apply run_step rfl; (exact stp_loadF rfl (by as_aux_lemma => kernel_rfl) rfl rfl rfl rfl); apply run_step rfl; (exact stp_len rfl rfl rfl (by as_aux_lemma => kernel_rfl)); apply run_step rfl; (exact stp_bin rfl rfl rfl rfl); refine run_nil ?_; refine fin_seq ?_)
  refine goes_if rfl (fun h => ?_) (fun h => ?_)
  · have hkn : k < T.length := by omega
    have hrow : (irows T)[k]? = some (ivals (lget T k)) := irows_get hkn
    have hil : (ivals (lget T k)).length = N := by rw [ivals_len]; exact hT.len k hkn
    have hrl := hT.len k hkn
    have hrin := hT.within k hkn
    have hnext : formL (T.take (k + 1)) P = formL (T.take k) P ++ [fRow P (lget T k)] := by unfold formL; rw [take_lget hkn, List.map_append]; rfl
    have hfr : fRow P (lget T k) = putL N (fun f => (iget P f).toNat) (fun f => iget P (iget (lget T k) f).toNat) N := by unfold fRow; rw [hP]
    have hkl : (formL (T.take k) P).length = k := by unfold formL; rw [List.length_map, List.length_take]; omega
    generalize formL (T.take k) P = Fk at *
    generalize hr : lget T k = r at *
    (refine goes_skip ?_; refine fin_seq ?_; refine goes_seq ?_; refine goes_block ?_; refine goes_seq ?_; refine goes_region ?_; apply run_step rfl; (exact stp_move rfl rfl); apply run_step rfl; (exact stp_len rfl rfl rfl (by as_aux_lemma => kernel_rfl)); apply run_step rfl; (exact stp_makeI (E := 2) rfl (by as_aux_lemma => kernel_rfl) (by as_aux_lemma => kernel_rfl) rfl rfl rfl rfl (by omega)); apply run_step rfl; (exact stp_assign rfl rfl); refine run_nil ?_; refine fin_seq ?_; refine goes_seq ?_; refine goes_seq ?_; refine goes_region ?_; apply run_step rfl; (exact stp_assign rfl rfl); refine run_nil ?_; refine fin_seq ?_; refine goes_block ?_)
    refine goes_loop (fun f : Nat => St.of [(1, o1 (.sl 1002 0 N)), (2, o1 (.ptr 2 0)), (4, o1 (.ptr 4 0)), (5, o1 (.ptr 5 0)), (6, vv (I6 k)), (7, o1 (.sl 19 0 N)), (8, vv (I6 f))] [(1002, wRo P), (1003, rowsRo T), (2, ⟨true, 28, 1, .flat [.sl 1003 0 T.length]⟩), (4, mBox), (5, ⟨true, 28, 1, .flat [.sl 1000 0 k]⟩), (1000, imOw Fk), (19, leOw (putL N (fun f => (iget P f).toNat) (fun f => iget P (iget r f).toNat) f))])
      (fun f => f ≤ N) (fun f => N - f) 0 (Nat.zero_le _) (Wk.of ⟨rfl, rfl, rfl, rfl, rfl, rfl, rfl, trivial⟩ ⟨rfl, rfl, rfl, rfl, rfl, rfl, rfl, trivial⟩ trivial) ?_
    intro f hf
    have hs := putL_succ N (fun f => (iget P f).toNat) (fun f => iget P (iget r f).toNat) f
    have hL := putL_len N (fun f => (iget P f).toNat) (fun f => iget P (iget r f).toNat) f
    obtain ⟨L, hLe⟩ : ∃ L, putL N (fun f => (iget P f).toNat) (fun f => iget P (iget r f).toNat) f = L := ⟨_, rfl⟩
    rw [hLe] at hs hL ⊢
    have hLi : N ≤ (ivals L).length := by rw [ivals_len, hL]; exact Nat.le_refl _
    (refine goes_seq ?_; refine goes_seq ?_; refine goes_region ?_; apply run_step rfl; (exact stp_move rfl rfl); apply run_step rfl; (exact stp_move rfl rfl); apply run_step rfl; (exact stp_len rfl rfl rfl (by as_aux_lemma => kernel_rfl)); apply run_step rfl; (exact stp_bin rfl rfl rfl rfl); refine run_nil ?_; refine fin_seq ?_)
    refine goes_if rfl (fun h2 => ?_) (fun h2 => ?_)
    · have hfN : f < N := by omega
      obtain ⟨d, hd⟩ := Int.eq_ofNat_of_zero_le (hin f hfN).1
      have hdN : d < N := by have := (hin f hfN).2; omega
      obtain ⟨e, he⟩ := Int.eq_ofNat_of_zero_le (hrin f hfN).1
      have heN : e < N := by have := (hrin f hfN).2; omega
      rw [hd, he, Int.toNat_natCast, Int.toNat_natCast] at hs
      have gf : (ivals P)[f]? = some (I6 (d : Int)) := by rw [ivals_get (by omega), hd]
      have gr : (ivals r)[f]? = some (I6 (e : Int)) := by rw [ivals_get (by omega), he]
      have ge : (ivals P)[e]? = some (I6 (iget P e)) := ivals_get (by omega)
      (refine goes_skip ?_; refine fin_seq ?_; refine goes_seq ?_; refine goes_block ?_)
      apply goes_draw 16 [] [[], [], [], [1, 2], [1, 2, 3], [], [], [6], [], [6, 7, 8], [6, 7, 8, 9], [], [6, 7, 8, 9, 10, 11], [6, 7, 8, 9, 10, 11, 12], [5, 6, 7, 8, 9, 10, 11, 12, 13], [5, 6, 7, 8, 9, 10, 11, 12, 13, 14], [0, 1, 2, 3, 4, 5, 6, 7, 8, 9, 10, 11, 12, 13, 14, 15], [0, 1, 2, 3, 4, 5, 6, 7, 8, 9, 10, 11, 12, 13, 14, 15, 16]] [26, 27, 28, 29, 30, 31, 32, 33, 34, 35, 36, 37, 38, 39, 40, 41] [] (by kernel_rfl) (by kernel_rfl)
      · (apply draw_put rfl; (intro S1 hS; exact stp_move rfl (hS.op rfl)); apply draw_put rfl; (intro S1 hS; exact stp_move rfl (hS.op rfl)); apply draw_put rfl; (intro S1 hS; exact stp_move rfl (hS.op rfl)); (first | (apply draw_put rfl; (focus (intro S1 hS; exact stp_ix (j := f) rfl (hS.op rfl) (hS.op rfl) (hS.ch _ _ rfl) rfl (by as_aux_lemma => kernel_rfl) rfl hfN hPi))) | (apply draw_put rfl; (focus (intro S1 hS; exact stp_ix (j := e) rfl (hS.op rfl) (hS.op rfl) (hS.ch _ _ rfl) rfl (by as_aux_lemma => kernel_rfl) rfl heN hPi))) | (apply draw_put rfl; (focus (intro S1 hS; exact stp_ix (j := k) rfl (hS.op rfl) (hS.op rfl) (hS.ch _ _ rfl) rfl (by as_aux_lemma => kernel_rfl) rfl hkn (Nat.le_of_eq hTl.symm)))) | (apply draw_put rfl; (focus (intro S1 hS; exact stp_loadF rfl (by as_aux_lemma => kernel_rfl) (hS.op rfl) (hS.ch _ _ rfl) rfl rfl))) | (apply draw_put rfl; (focus (intro S1 hS; exact stp_loadR rfl (by as_aux_lemma => kernel_rfl) (hS.op rfl) (hS.ch _ _ rfl) rfl hrow hil))) | (apply draw_put rfl; (focus (intro S1 hS; exact stp_loadV rfl (by as_aux_lemma => kernel_rfl) (hS.op rfl) (hS.ch _ _ rfl) rfl gf))) | (apply draw_put rfl; (focus (intro S1 hS; exact stp_loadV rfl (by as_aux_lemma => kernel_rfl) (hS.op rfl) (hS.ch _ _ rfl) rfl ge))) | (apply draw_put rfl; (focus (intro S1 hS; exact stp_ixE (j := f) rfl (hS.op rfl) (hS.op rfl) (hS.ch _ _ rfl) rfl (by as_aux_lemma => kernel_rfl) hrow rfl hfN (Nat.le_of_eq hil.symm)))) | (apply draw_put rfl; (focus (intro S1 hS; exact stp_loadE' rfl (by as_aux_lemma => kernel_rfl) (hS.op rfl) (hS.ch _ _ rfl) rfl hrow gr)))); (first | (apply draw_put rfl; (focus (intro S1 hS; exact stp_ix (j := f) rfl (hS.op rfl) (hS.op rfl) (hS.ch _ _ rfl) rfl (by as_aux_lemma => kernel_rfl) rfl hfN hPi))) | (apply draw_put rfl; (focus (intro S1 hS; exact stp_ix (j := e) rfl (hS.op rfl) (hS.op rfl) (hS.ch _ _ rfl) rfl (by as_aux_lemma => kernel_rfl) rfl heN hPi))) | (apply draw_put rfl; (focus (intro S1 hS; exact stp_ix (j := k) rfl (hS.op rfl) (hS.op rfl) (hS.ch _ _ rfl) rfl (by as_aux_lemma => kernel_rfl) rfl hkn (Nat.le_of_eq hTl.symm)))) | (apply draw_put rfl; (focus (intro S1 hS; exact stp_loadF rfl (by as_aux_lemma => kernel_rfl) (hS.op rfl) (hS.ch _ _ rfl) rfl rfl))) | (apply draw_put rfl; (focus (intro S1 hS; exact stp_loadR rfl (by as_aux_lemma => kernel_rfl) (hS.op rfl) (hS.ch _ _ rfl) rfl hrow hil))) | (apply draw_put rfl; (focus (intro S1 hS; exact stp_loadV rfl (by as_aux_lemma => kernel_rfl) (hS.op rfl) (hS.ch _ _ rfl) rfl gf))) | (apply draw_put rfl; (focus (intro S1 hS; exact stp_loadV rfl (by as_aux_lemma => kernel_rfl) (hS.op rfl) (hS.ch _ _ rfl) rfl ge))) | (apply draw_put rfl; (focus (intro S1 hS; exact stp_ixE (j := f) rfl (hS.op rfl) (hS.op rfl) (hS.ch _ _ rfl) rfl (by as_aux_lemma => kernel_rfl) hrow rfl hfN (Nat.le_of_eq hil.symm)))) | (apply draw_put rfl; (focus (intro S1 hS; exact stp_loadE' rfl (by as_aux_lemma => kernel_rfl) (hS.op rfl) (hS.ch _ _ rfl) rfl hrow gr)))); apply draw_put rfl; (intro S1 hS; exact stp_move rfl (hS.op rfl)); apply draw_put rfl; (intro S1 hS; exact stp_fieldAddr (d := 0) rfl (hS.op rfl) (hS.ch _ _ rfl) (by as_aux_lemma => kernel_rfl)); (first | (apply draw_put rfl; (focus (intro S1 hS; exact stp_ix (j := f) rfl (hS.op rfl) (hS.op rfl) (hS.ch _ _ rfl) rfl (by as_aux_lemma => kernel_rfl) rfl hfN hPi))) | (apply draw_put rfl; (focus (intro S1 hS; exact stp_ix (j := e) rfl (hS.op rfl) (hS.op rfl) (hS.ch _ _ rfl) rfl (by as_aux_lemma => kernel_rfl) rfl heN hPi))) | (apply draw_put rfl; (focus (intro S1 hS; exact stp_ix (j := k) rfl (hS.op rfl) (hS.op rfl) (hS.ch _ _ rfl) rfl (by as_aux_lemma => kernel_rfl) rfl hkn (Nat.le_of_eq hTl.symm)))) | (apply draw_put rfl; (focus (intro S1 hS; exact stp_loadF rfl (by as_aux_lemma => kernel_rfl) (hS.op rfl) (hS.ch _ _ rfl) rfl rfl))) | (apply draw_put rfl; (focus (intro S1 hS; exact stp_loadR rfl (by as_aux_lemma => kernel_rfl) (hS.op rfl) (hS.ch _ _ rfl) rfl hrow hil))) | (apply draw_put rfl; (focus (intro S1 hS; exact stp_loadV rfl (by as_aux_lemma => kernel_rfl) (hS.op rfl) (hS.ch _ _ rfl) rfl gf))) | (apply draw_put rfl; (focus (intro S1 hS; exact stp_loadV rfl (by as_aux_lemma => kernel_rfl) (hS.op rfl) (hS.ch _ _ rfl) rfl ge))) | (apply draw_put rfl; (focus (intro S1 hS; exact stp_ixE (j := f) rfl (hS.op rfl) (hS.op rfl) (hS.ch _ _ rfl) rfl (by as_aux_lemma => kernel_rfl) hrow rfl hfN (Nat.le_of_eq hil.symm)))) | (apply draw_put rfl; (focus (intro S1 hS; exact stp_loadE' rfl (by as_aux_lemma => kernel_rfl) (hS.op rfl) (hS.ch _ _ rfl) rfl hrow gr)))); apply draw_put rfl; (intro S1 hS; exact stp_move rfl (hS.op rfl)); (first | (apply draw_put rfl; (focus (intro S1 hS; exact stp_ix (j := f) rfl (hS.op rfl) (hS.op rfl) (hS.ch _ _ rfl) rfl (by as_aux_lemma => kernel_rfl) rfl hfN hPi))) | (apply draw_put rfl; (focus (intro S1 hS; exact stp_ix (j := e) rfl (hS.op rfl) (hS.op rfl) (hS.ch _ _ rfl) rfl (by as_aux_lemma => kernel_rfl) rfl heN hPi))) | (apply draw_put rfl; (focus (intro S1 hS; exact stp_ix (j := k) rfl (hS.op rfl) (hS.op rfl) (hS.ch _ _ rfl) rfl (by as_aux_lemma => kernel_rfl) rfl hkn (Nat.le_of_eq hTl.symm)))) | (apply draw_put rfl; (focus (intro S1 hS; exact stp_loadF rfl (by as_aux_lemma => kernel_rfl) (hS.op rfl) (hS.ch _ _ rfl) rfl rfl))) | (apply draw_put rfl; (focus (intro S1 hS; exact stp_loadR rfl (by as_aux_lemma => kernel_rfl) (hS.op rfl) (hS.ch _ _ rfl) rfl hrow hil))) | (apply draw_put rfl; (focus (intro S1 hS; exact stp_loadV rfl (by as_aux_lemma => kernel_rfl) (hS.op rfl) (hS.ch _ _ rfl) rfl gf))) | (apply draw_put rfl; (focus (intro S1 hS; exact stp_loadV rfl (by as_aux_lemma => kernel_rfl) (hS.op rfl) (hS.ch _ _ rfl) rfl ge))) | (apply draw_put rfl; (focus (intro S1 hS; exact stp_ixE (j := f) rfl (hS.op rfl) (hS.op rfl) (hS.ch _ _ rfl) rfl (by as_aux_lemma => kernel_rfl) hrow rfl hfN (Nat.le_of_eq hil.symm)))) | (apply draw_put rfl; (focus (intro S1 hS; exact stp_loadE' rfl (by as_aux_lemma => kernel_rfl) (hS.op rfl) (hS.ch _ _ rfl) rfl hrow gr)))); (first | (apply draw_put rfl; (focus (intro S1 hS; exact stp_ix (j := f) rfl (hS.op rfl) (hS.op rfl) (hS.ch _ _ rfl) rfl (by as_aux_lemma => kernel_rfl) rfl hfN hPi))) | (apply draw_put rfl; (focus (intro S1 hS; exact stp_ix (j := e) rfl (hS.op rfl) (hS.op rfl) (hS.ch _ _ rfl) rfl (by as_aux_lemma => kernel_rfl) rfl heN hPi))) | (apply draw_put rfl; (focus (intro S1 hS; exact stp_ix (j := k) rfl (hS.op rfl) (hS.op rfl) (hS.ch _ _ rfl) rfl (by as_aux_lemma => kernel_rfl) rfl hkn (Nat.le_of_eq hTl.symm)))) | (apply draw_put rfl; (focus (intro S1 hS; exact stp_loadF rfl (by as_aux_lemma => kernel_rfl) (hS.op rfl) (hS.ch _ _ rfl) rfl rfl))) | (apply draw_put rfl; (focus (intro S1 hS; exact stp_loadR rfl (by as_aux_lemma => kernel_rfl) (hS.op rfl) (hS.ch _ _ rfl) rfl hrow hil))) | (apply draw_put rfl; (focus (intro S1 hS; exact stp_loadV rfl (by as_aux_lemma => kernel_rfl) (hS.op rfl) (hS.ch _ _ rfl) rfl gf))) | (apply draw_put rfl; (focus (intro S1 hS; exact stp_loadV rfl (by as_aux_lemma => kernel_rfl) (hS.op rfl) (hS.ch _ _ rfl) rfl ge))) | (apply draw_put rfl; (focus (intro S1 hS; exact stp_ixE (j := f) rfl (hS.op rfl) (hS.op rfl) (hS.ch _ _ rfl) rfl (by as_aux_lemma => kernel_rfl) hrow rfl hfN (Nat.le_of_eq hil.symm)))) | (apply draw_put rfl; (focus (intro S1 hS; exact stp_loadE' rfl (by as_aux_lemma => kernel_rfl) (hS.op rfl) (hS.ch _ _ rfl) rfl hrow gr)))); apply draw_put rfl; (intro S1 hS; exact stp_move rfl (hS.op rfl)); (first | (apply draw_put rfl; (focus (intro S1 hS; exact stp_ix (j := f) rfl (hS.op rfl) (hS.op rfl) (hS.ch _ _ rfl) rfl (by as_aux_lemma => kernel_rfl) rfl hfN hPi))) | (apply draw_put rfl; (focus (intro S1 hS; exact stp_ix (j := e) rfl (hS.op rfl) (hS.op rfl) (hS.ch _ _ rfl) rfl (by as_aux_lemma => kernel_rfl) rfl heN hPi))) | (apply draw_put rfl; (focus (intro S1 hS; exact stp_ix (j := k) rfl (hS.op rfl) (hS.op rfl) (hS.ch _ _ rfl) rfl (by as_aux_lemma => kernel_rfl) rfl hkn (Nat.le_of_eq hTl.symm)))) | (apply draw_put rfl; (focus (intro S1 hS; exact stp_loadF rfl (by as_aux_lemma => kernel_rfl) (hS.op rfl) (hS.ch _ _ rfl) rfl rfl))) | (apply draw_put rfl; (focus (intro S1 hS; exact stp_loadR rfl (by as_aux_lemma => kernel_rfl) (hS.op rfl) (hS.ch _ _ rfl) rfl hrow hil))) | (apply draw_put rfl; (focus (intro S1 hS; exact stp_loadV rfl (by as_aux_lemma => kernel_rfl) (hS.op rfl) (hS.ch _ _ rfl) rfl gf))) | (apply draw_put rfl; (focus (intro S1 hS; exact stp_loadV rfl (by as_aux_lemma => kernel_rfl) (hS.op rfl) (hS.ch _ _ rfl) rfl ge))) | (apply draw_put rfl; (focus (intro S1 hS; exact stp_ixE (j := f) rfl (hS.op rfl) (hS.op rfl) (hS.ch _ _ rfl) rfl (by as_aux_lemma => kernel_rfl) hrow rfl hfN (Nat.le_of_eq hil.symm)))) | (apply draw_put rfl; (focus (intro S1 hS; exact stp_loadE' rfl (by as_aux_lemma => kernel_rfl) (hS.op rfl) (hS.ch _ _ rfl) rfl hrow gr)))); (first | (apply draw_put rfl; (focus (intro S1 hS; exact stp_ix (j := f) rfl (hS.op rfl) (hS.op rfl) (hS.ch _ _ rfl) rfl (by as_aux_lemma => kernel_rfl) rfl hfN hPi))) | (apply draw_put rfl; (focus (intro S1 hS; exact stp_ix (j := e) rfl (hS.op rfl) (hS.op rfl) (hS.ch _ _ rfl) rfl (by as_aux_lemma => kernel_rfl) rfl heN hPi))) | (apply draw_put rfl; (focus (intro S1 hS; exact stp_ix (j := k) rfl (hS.op rfl) (hS.op rfl) (hS.ch _ _ rfl) rfl (by as_aux_lemma => kernel_rfl) rfl hkn (Nat.le_of_eq hTl.symm)))) | (apply draw_put rfl; (focus (intro S1 hS; exact stp_loadF rfl (by as_aux_lemma => kernel_rfl) (hS.op rfl) (hS.ch _ _ rfl) rfl rfl))) | (apply draw_put rfl; (focus (intro S1 hS; exact stp_loadR rfl (by as_aux_lemma => kernel_rfl) (hS.op rfl) (hS.ch _ _ rfl) rfl hrow hil))) | (apply draw_put rfl; (focus (intro S1 hS; exact stp_loadV rfl (by as_aux_lemma => kernel_rfl) (hS.op rfl) (hS.ch _ _ rfl) rfl gf))) | (apply draw_put rfl; (focus (intro S1 hS; exact stp_loadV rfl (by as_aux_lemma => kernel_rfl) (hS.op rfl) (hS.ch _ _ rfl) rfl ge))) | (apply draw_put rfl; (focus (intro S1 hS; exact stp_ixE (j := f) rfl (hS.op rfl) (hS.op rfl) (hS.ch _ _ rfl) rfl (by as_aux_lemma => kernel_rfl) hrow rfl hfN (Nat.le_of_eq hil.symm)))) | (apply draw_put rfl; (focus (intro S1 hS; exact stp_loadE' rfl (by as_aux_lemma => kernel_rfl) (hS.op rfl) (hS.ch _ _ rfl) rfl hrow gr)))); (first | (apply draw_put rfl; (focus (intro S1 hS; exact stp_ix (j := f) rfl (hS.op rfl) (hS.op rfl) (hS.ch _ _ rfl) rfl (by as_aux_lemma => kernel_rfl) rfl hfN hPi))) | (apply draw_put rfl; (focus (intro S1 hS; exact stp_ix (j := e) rfl (hS.op rfl) (hS.op rfl) (hS.ch _ _ rfl) rfl (by as_aux_lemma => kernel_rfl) rfl heN hPi))) | (apply draw_put rfl; (focus (intro S1 hS; exact stp_ix (j := k) rfl (hS.op rfl) (hS.op rfl) (hS.ch _ _ rfl) rfl (by as_aux_lemma => kernel_rfl) rfl hkn (Nat.le_of_eq hTl.symm)))) | (apply draw_put rfl; (focus (intro S1 hS; exact stp_loadF rfl (by as_aux_lemma => kernel_rfl) (hS.op rfl) (hS.ch _ _ rfl) rfl rfl))) | (apply draw_put rfl; (focus (intro S1 hS; exact stp_loadR rfl (by as_aux_lemma => kernel_rfl) (hS.op rfl) (hS.ch _ _ rfl) rfl hrow hil))) | (apply draw_put rfl; (focus (intro S1 hS; exact stp_loadV rfl (by as_aux_lemma => kernel_rfl) (hS.op rfl) (hS.ch _ _ rfl) rfl gf))) | (apply draw_put rfl; (focus (intro S1 hS; exact stp_loadV rfl (by as_aux_lemma => kernel_rfl) (hS.op rfl) (hS.ch _ _ rfl) rfl ge))) | (apply draw_put rfl; (focus (intro S1 hS; exact stp_ixE (j := f) rfl (hS.op rfl) (hS.op rfl) (hS.ch _ _ rfl) rfl (by as_aux_lemma => kernel_rfl) hrow rfl hfN (Nat.le_of_eq hil.symm)))) | (apply draw_put rfl; (focus (intro S1 hS; exact stp_loadE' rfl (by as_aux_lemma => kernel_rfl) (hS.op rfl) (hS.ch _ _ rfl) rfl hrow gr)))); (first | (apply draw_put rfl; (focus (intro S1 hS; exact stp_ix (j := f) rfl (hS.op rfl) (hS.op rfl) (hS.ch _ _ rfl) rfl (by as_aux_lemma => kernel_rfl) rfl hfN hPi))) | (apply draw_put rfl; (focus (intro S1 hS; exact stp_ix (j := e) rfl (hS.op rfl) (hS.op rfl) (hS.ch _ _ rfl) rfl (by as_aux_lemma => kernel_rfl) rfl heN hPi))) | (apply draw_put rfl; (focus (intro S1 hS; exact stp_ix (j := k) rfl (hS.op rfl) (hS.op rfl) (hS.ch _ _ rfl) rfl (by as_aux_lemma => kernel_rfl) rfl hkn (Nat.le_of_eq hTl.symm)))) | (apply draw_put rfl; (focus (intro S1 hS; exact stp_loadF rfl (by as_aux_lemma => kernel_rfl) (hS.op rfl) (hS.ch _ _ rfl) rfl rfl))) | (apply draw_put rfl; (focus (intro S1 hS; exact stp_loadR rfl (by as_aux_lemma => kernel_rfl) (hS.op rfl) (hS.ch _ _ rfl) rfl hrow hil))) | (apply draw_put rfl; (focus (intro S1 hS; exact stp_loadV rfl (by as_aux_lemma => kernel_rfl) (hS.op rfl) (hS.ch _ _ rfl) rfl gf))) | (apply draw_put rfl; (focus (intro S1 hS; exact stp_loadV rfl (by as_aux_lemma => kernel_rfl) (hS.op rfl) (hS.ch _ _ rfl) rfl ge))) | (apply draw_put rfl; (focus (intro S1 hS; exact stp_ixE (j := f) rfl (hS.op rfl) (hS.op rfl) (hS.ch _ _ rfl) rfl (by as_aux_lemma => kernel_rfl) hrow rfl hfN (Nat.le_of_eq hil.symm)))) | (apply draw_put rfl; (focus (intro S1 hS; exact stp_loadE' rfl (by as_aux_lemma => kernel_rfl) (hS.op rfl) (hS.ch _ _ rfl) rfl hrow gr)))); exact Draw.nil)
      · rfl
      ((apply rest_one 16 rfl (by as_aux_lemma => kernel_rfl) rfl rfl; (first | exact stp_ix (j := d) rfl rfl rfl rfl rfl (by as_aux_lemma => kernel_rfl) rfl hdN hLi | exact stp_stI rfl rfl rfl rfl rfl (by omega) (by as_aux_lemma => kernel_rfl))); (apply rest_one 17 rfl (by as_aux_lemma => kernel_rfl) rfl rfl; (first | exact stp_ix (j := d) rfl rfl rfl rfl rfl (by as_aux_lemma => kernel_rfl) rfl hdN hLi | exact stp_stI rfl rfl rfl rfl rfl (by omega) (by as_aux_lemma => kernel_rfl))); (refine rest_done (by as_aux_lemma => kernel_rfl) ?_; skip))
      (refine fin_block ?_; refine fin_seq ?_; refine goes_region ?_; apply run_step rfl; (exact stp_move rfl rfl); apply run_step rfl; (exact stp_add rfl rfl rfl (by first | exact IntWalk.i64_in _ (by omega) | rfl)); apply run_step rfl; (exact stp_assign rfl rfl); refine run_nil ?_)
      exact fin_round (f + 1) hfN (by show N - (f + 1) < N - f; omega) (Wk.of ⟨rfl, rfl, rfl, rfl, rfl, rfl, rfl, trivial⟩ ⟨rfl, rfl, rfl, rfl, rfl, rfl, congrArg (fun l => some (leOw l)) hs.symm, trivial⟩ trivial)
    · obtain rfl : f = N := by omega
      rw [hLe] at hfr
      rw [hfr] at hnext
      (refine goes_exit ?_; refine fin_exit_then ?_; refine fin_exit_then ?_; refine fin_exit_eq ?_; refine fin_seq ?_; refine goes_region ?_; apply run_step rfl; (exact stp_fieldAddr (d := 0) rfl rfl rfl (by as_aux_lemma => kernel_rfl)); apply run_step rfl; (first | exact stp_loadF rfl (by as_aux_lemma => kernel_rfl) rfl rfl rfl rfl | exact stp_lit1 rfl rfl rfl rfl rfl | exact stp_appR (E := 32) (F := 2) rfl (by as_aux_lemma => kernel_rfl) rfl rfl hkl rfl rfl rfl hL rfl (by omega) | exact stp_storeF rfl rfl rfl rfl rfl rfl (by as_aux_lemma => kernel_rfl) rfl); apply run_step rfl; (exact stp_move rfl rfl); apply run_step rfl; (exact stp_lit1 (E := 32) rfl (by as_aux_lemma => kernel_rfl) rfl rfl rfl); apply run_step rfl; (first | exact stp_loadF rfl (by as_aux_lemma => kernel_rfl) rfl rfl rfl rfl | exact stp_lit1 rfl rfl rfl rfl rfl | exact stp_appR (E := 32) (F := 2) rfl (by as_aux_lemma => kernel_rfl) rfl rfl hkl rfl rfl rfl hL rfl (by omega) | exact stp_storeF rfl rfl rfl rfl rfl rfl (by as_aux_lemma => kernel_rfl) rfl); apply run_step rfl; (exact stp_fieldAddr (d := 0) rfl rfl rfl (by as_aux_lemma => kernel_rfl)); apply run_step rfl; (first | exact stp_loadF rfl (by as_aux_lemma => kernel_rfl) rfl rfl rfl rfl | exact stp_lit1 rfl rfl rfl rfl rfl | exact stp_appR (E := 32) (F := 2) rfl (by as_aux_lemma => kernel_rfl) rfl rfl hkl rfl rfl rfl hL rfl (by omega) | exact stp_storeF rfl rfl rfl rfl rfl rfl (by as_aux_lemma => kernel_rfl) rfl); refine run_nil ?_; refine fin_block ?_; refine fin_seq ?_; refine goes_region ?_; apply run_step rfl; (exact stp_move rfl rfl); apply run_step rfl; (exact stp_add rfl rfl rfl (by first | exact IntWalk.i64_in _ (by omega) | rfl)); apply run_step rfl; (exact stp_assign rfl rfl); refine run_nil ?_)
      exact fin_round (k + 1) hkn (by show T.length - (k + 1) < T.length - k; omega) (Wk.of ⟨rfl, rfl, rfl, rfl, rfl, trivial⟩ ⟨rfl, rfl, rfl, rfl, rfl, congrArg (fun l => some (imOw l)) hnext.symm, trivial⟩ trivial)
  · obtain rfl : k = T.length := by omega
    rw [List.take_length]
    (refine goes_exit ?_; refine fin_exit_then ?_; refine fin_exit_then ?_; refine fin_exit_eq ?_; refine fin_seq ?_; refine goes_seq ?_; refine goes_region ?_; apply run_step rfl; (first | exact stp_loadAgg (k := 1) rfl rfl rfl rfl rfl rfl (by as_aux_lemma => kernel_rfl) | exact stp_storeAgg rfl rfl rfl rfl rfl rfl rfl rfl (by as_aux_lemma => kernel_rfl) rfl); apply run_step rfl; (first | exact stp_loadAgg (k := 1) rfl rfl rfl rfl rfl rfl (by as_aux_lemma => kernel_rfl) | exact stp_storeAgg rfl rfl rfl rfl rfl rfl rfl rfl (by as_aux_lemma => kernel_rfl) rfl); refine run_nil ?_; refine fin_seq ?_; refine goes_ret ?_)
    exact fin_ret1 (.inl rfl) rfl (.cell rfl rfl rfl rfl rfl (by as_aux_lemma => kernel_rfl)) ⟨rfl, trivial⟩ trivial
end Go.Proofs.Ytmdhljleaijkbaa

/- Draws of maniplexes: l02Renumber in words. -/
namespace Go.Proofs.Ytmdhljleaijkbaa
open Go.RowKit

theorem putL_low {N M : Nat} {g : Nat → Nat} {v : Nat → Int} (hM : 0 < M) : ∀ m, (∀ i, i < m → 0 ≤ v i ∧ v i < M) → Low M (putL N g v m)
  | 0, _ => fun z hz => by rw [putL_zero] at hz; rw [(List.mem_replicate.1 hz).2]; omega
  | m + 1, h => by
    rw [putL_succ]
    exact low_set (putL_low hM m fun i hi => h i (by omega)) (h m (by omega))
theorem formL_sq {T : List (List Int)} {P : List Int} {N : Nat} (hT : Leads T N) (hN : 0 < N) (hP : P.length = N) (hl : Low N P) : Sq (formL T P) N := fun r hr => by
  unfold formL at hr
  obtain ⟨q, hq, rfl⟩ := List.mem_map.1 hr
  obtain ⟨k, hk, rfl⟩ := List.getElem_of_mem hq
  unfold fRow
  rw [hP]
  refine ⟨putL_len _ _ _ _, putL_low hN _ fun i hi => ?_⟩
  have h1 := hT.within k hk i hi
  rw [lget_lt hk] at h1
  exact low_get hl (by omega)
theorem ren_any (ao po : Option Addr) (n c N cp : Nat) (d : List (List Int)) (zs : List Int) (w : World) (hd : RdSSc w (.slice ao n c) d) (hp : OwS 2 w (.slice po N cp) zs) (hT : Leads d N) (hl : zs.length = N) (hlow : Low N zs) (hN : 1 ≤ N) (hN9 : N ≤ 1000) (hn9 : n ≤ 1000) :
    Calls Try.prog 87 #[.agg #[.slice ao n c], .slice po N cp] w fun e w' => ∃ v r, e = .returned v ∧ OwM 2 32 w' w.heap.size w'.heap.size v r ∧ r.length = n ∧ Sq r N ∧ Below w.heap.size w w' := by
  have hdl := hd.intss.1
  have hin : ∀ f, f < N → 0 ≤ iget zs f ∧ iget zs f < N := fun f hf => low_get hlow (by omega)
  obtain ⟨hd', r, e1, hv⟩ := ofSSc 1003 32 2 hd
  obtain ⟨hp', r', e2, hv'⟩ := ofS 1002 2 hp
  rw [e1, e2]
  have hR := renS_fc d zs N hT hl hin (by omega) (by omega)
  have hF : (formL d zs).length = d.length := by simp [formL]
  have hS := formL_sq hT (by omega) hl hlow
  have hc := hR.call (w := w) (l := [(1002, (wRo zs, hp', r')), (1003, (rowsRo d, hd', r))]) (us := [_, _]) (fun p hp => by simp at hp; rcases hp with rfl | rfl; exact hv'; exact hv) rfl (denL2 (denM (den_sl (q := (rowsRo d, hd', r)) rfl)) (by have := den_sl (l := [(1002, (wRo zs, hp', r')), (1003, (rowsRo d, hd', r))]) (x := 1002) (q := (wRo zs, hp', r')) (n := N) rfl; exact this))
  refine Calls.mono (by rw [hl] at *; exact hc) ?_
  rintro e w' ⟨v, η, ω, rfl, hdn, hm, hB, hn⟩
  obtain ⟨us, rfl, hus, ha⟩ := hdn
  obtain ⟨u0, g0, d0⟩ := ha 0 _ rfl
  have e0 : us = #[u0] := by
    have hus : us.size = 1 := hus
    apply Array.ext (by simpa using hus)
    intro i q1 q2
    obtain rfl : i = 0 := by simp at q2; omega
    rw [Array.getElem?_eq_getElem q1] at g0
    simpa using g0
  subst e0
  obtain ⟨ao', n', c', us', rfl, hor⟩ := toSS (zss := formL d zs) (x := 1000) (E := 32) (F := 2) hm hn rfl (by rw [hF]; exact d0) (by rw [hF]; omega) (fun r hr => by rw [(hS r hr).1]; omega)
  exact ⟨_, formL d zs, rfl, ⟨ao', n', c', us', rfl, hor⟩, by rw [hF]; exact hdl, hS, hB⟩
end Go.Proofs.Ytmdhljleaijkbaa

/- Draws of maniplexes: l02Draw. guards: -/
namespace Go.Proofs.Ytmdhljleaijkbaa
open Go.RowKit

/-- lists that lie in blocks from lo on -/
def RdLo (w : World) (lo : Nat) (v : Value) (d : List (List Int)) : Prop := ∀ wx : World, w.heap.size ≤ wx.heap.size → (∀ g, lo ≤ g → g < w.heap.size → wx.heap[g]? = w.heap[g]?) → RdSSc wx v d
section
variable {w w2 : World} {lo : Nat} {v v' : Value} {d d' : List (List Int)}
theorem RdLo.rd (h : RdLo w lo v d) : RdSSc w v d := h w (Nat.le_refl _) fun _ _ _ => rfl
theorem RdLo.map (h : RdLo w lo v d) (hm : ∀ wx, RdSSc wx v d → RdSSc wx v' d') : RdLo w lo v' d' := fun wx hs hg => hm wx (h wx hs hg)
theorem RdLo.mono (h : RdLo w lo v d) {lo' : Nat} (hl : lo' ≤ lo) : RdLo w lo' v d := fun wx hs hg => h wx hs fun g h1 h2 => hg g (by omega) h2
theorem RdLo.step (h : RdLo w lo v d) (hz : w.heap.size ≤ w2.heap.size) (hb : ∀ g, lo ≤ g → g < w.heap.size → w2.heap[g]? = w.heap[g]?) : RdLo w2 lo v d := fun wx hs hg => h wx (Nat.le_trans hz hs) fun g h1 h2 => (hg g h1 (by omega)).trans (hb g h1 h2)
theorem RdLo.only {sb : Nat} (h : RdLo w lo v d) (ho : Only sb (sb + 1) w w2) (hs : sb < lo) : RdLo w2 lo v d := h.step ho.size fun g h1 h2 => ho.block g h2 (.inr (by omega))
theorem RdLo.below (h : RdLo w lo v d) (hb : Below w.heap.size w w2) : RdLo w2 lo v d := h.step hb.size fun g _ h2 => hb.block g h2
theorem RdLo.setBox (h : RdLo w lo v d) {b : Nat} (hb : b < lo ∨ w.heap.size ≤ b) (u : Value) : RdLo (w.setCell ⟨b, 0, none⟩ u) lo v d := h.step (by simp [World.setCell]) fun g h1 h2 => Below.heap_setCell _ _ _ g (by show g ≠ b; omega)
end
theorem OwR.rdlo {w : World} {lo hi n c : Nat} {a : Option Addr} {us : List Value} {ds : List (List Int)} (h : OwR (OwS 2) w lo hi 32 a n c us ds) : RdLo w lo (.slice a n c) ds := fun wx _ hg => OwSS.rdc ⟨_, _, _, _, rfl, h.same (innerS _) fun g h1 _ h3 => hg g h1 h3⟩
theorem OwM.rdlo {w : World} {lo hi n c : Nat} {a : Option Addr} {ds : List (List Int)} (h : OwM 2 32 w lo hi (.agg #[.slice a n c]) ds) : RdLo w lo (.slice a n c) ds := by
  obtain ⟨a', n', c', us, e, hor⟩ := h
  injection e with e
  have e2 : (.slice a n c : Value) = .slice a' n' c' := by
    have := congrArg (fun x : Array Value => x[0]?) e
    simpa using this
  injection e2 with e3 e4 e5
  subst e3 e4 e5
  exact hor.rdlo
/-- a maniplex that is read only, drawn beside a source -/
structure MxR (w wx : World) (sb : Nat) (a : Option Addr) (n c : Nat) (d : List (List Int)) : Prop where
  rd : RdLo wx w.heap.size (.slice a n c) d
  few : FewSS d
  src : Src wx sb
  only : Only sb (sb + 1) w wx
theorem sq_few {d : List (List Int)} {N : Nat} (h : Sq d N) (hN : N ≤ 1000) (hd : d.length ≤ 1000) : FewSS d := ⟨by omega, fun i hi => by rw [lget_lt hi]; have := (h _ (List.getElem_mem hi)).1; omega⟩
theorem MxS.r {w wx : World} {sb n c N : Nat} {a : Option Addr} {d : List (List Int)} (h : MxS w wx sb (.agg #[.slice a n c]) d N) (hN : N ≤ 1000) (hn : n ≤ 1000) : MxR w wx sb a n c d :=
  ⟨h.ow.rdlo, sq_few h.sq hN (by have := h.ow.rdcM.2; omega), h.src, h.only⟩
set_option maxRecDepth 100000 in
set_option maxHeartbeats 6400000 in
theorem drawS_any (sb most : Nat) (w : World) (h : Src w sb) (hsb : sb < w.heap.size) (hm8 : 8 ≤ most) (hm4 : most ≤ 400) :
    Calls Try.prog 140 #[.pointer (some ⟨sb, 0, none⟩), .int .i64 most] w fun e w' => ∃ a n c r N, e = .returned (.agg #[.slice a n c]) ∧ MxS w w' sb (.agg #[.slice a n c]) r N ∧ 1 ≤ n ∧ n ≤ 5 ∧ N ≤ most := by
  have b1 := below_alloc1 w (.cells #[.slice none 0 0] 28)
  have k1 : Blk (w.alloc (.cells #[.slice none 0 0] 28)) w.heap.size 28 #[.slice none 0 0] := blk_at rfl
  have hz1 : w.heap.size + 1 = (w.alloc (.cells #[.slice none 0 0] 28)).heap.size := by simp
  have S1 := Lib.hid (src_belowL h hsb b1)
  have O1 := Lib.hid (only_of_below (sb := sb) b1)
  have K1 := Lib.hid k1
  clear b1 k1 h
  go_enter Try.func140, Try.ntmps140
  go_upto_region 1 with fail
  generalize w.alloc (.cells #[.slice none 0 0] 28) = w1 at *
  go_wp2_with fail
  refine (any_any sb most w1 S1.out (by omega) hm8 hm4).mono ?_
  rintro e w2 ⟨a2, n, c2, d, N, rfl, m2, hn1, hn5, hNm⟩
  have kA := below_alloc1 w2 (.cells #[.slice a2 n c2] 28)
  have z12 := m2.only.size
  have km : Blk (w2.alloc (.cells #[.slice a2 n c2] 28)) w2.heap.size 28 #[.slice a2 n c2] := blk_at rfl
  have KR := Lib.hid ((K1.out.only m2.only (.inr (by omega))).alloc (.cells #[.slice a2 n c2] 28))
  have S3 := Lib.hid (src_belowL m2.src (by omega) kA)
  have O3 := Lib.hid ((O1.out.trans m2.only).trans (only_of_below kA))
  have M3 := Lib.hid (m2.ow.below kA)
  have SQ := Lib.hid m2.sq
  have hN1 := m2.pos
  have hz3 := kA.size
  clear m2 kA K1 S1 O1
  go_upto_region 2 with fail
  generalize w2.alloc (.cells #[.slice a2 n c2] 28) = w3 at *
  have KM := Lib.hid km
  have hlt3 := km.lt
  clear km
  go_wp2_with fail
  refine (next_any sb _ _ S3.out (by omega)).mono ?_
  rintro e w4 ⟨r, rfl, -, -, s4, o4⟩
  have S4 := Lib.hid s4
  have O4 := Lib.hid (O3.out.trans o4)
  have z34 := o4.size
  have KR4 := Lib.hid (KR.out.only o4 (.inr (by omega)))
  have KM4 := Lib.hid (KM.out.only o4 (.inr (by omega)))
  have M4 := Lib.hid (M3.out.only o4 (.inr (by omega)))
  clear s4 o4 S3 O3 KR KM M3
  have y4 := KM4.out.cell 0
  simp at y4
  by_cases hr : r = 0
  · have hr0 : ¬ (0 : Int) < (r : Int) := by omega
    have z4 := KR4.out.cell 0
    have f4 := KR4.out.frozen 0
    simp at z4
    have hF : MxS w (w4.setCell ⟨w.heap.size, 0, none⟩ (.slice a2 n c2)) sb (.agg #[.slice a2 n c2]) d N := ⟨(M4.out.only (only_set w4 w.heap.size 0 (.slice a2 n c2)) (.inr (by omega))).mono (by omega) (by simp [World.setCell]; omega), SQ.out, hN1, src_farL S4.out fun g hg => Below.heap_setCell _ _ _ g (by show g ≠ w.heap.size; omega), only_cell O4.out (Nat.le_refl _) _⟩
    have HF := Lib.hid hF
    clear hF
    go_wp2_with fail
    exact bodyPost_ret (v := .agg #[.slice a2 n c2]) (by simp [results, Try.f140, go_sem, z4]) rfl ⟨_, _, _, _, _, rfl, HF.out, hn1, hn5, hNm⟩
  · have hr0 : (0 : Int) < (r : Int) := by omega
    obtain ⟨hrd, hdl⟩ := M4.out.rdcM
    have HRD := Lib.hid hrd
    have hl0 : (lget d 0).length = N := SQ.out.leads.len 0 (by omega)
    clear hrd
    go_upto_region 3 with fail
    go_region_law (first
      | (go_simp; go_at_call 87; refine (ren_any a2 pa n c2 N pc d zs w6 (HRD6.out) zo SQ.out.leads zl zw hN1 (by omega) (by omega)).mono ?_; rintro e w7 ⟨v7, r7, rfl, o7, hr7, sq7, b7⟩; obtain ⟨a7, n7, c7, rfl⟩ := o7.form; have S7 := Lib.hid (src_belowL G6.out.src (by have := G6.out.only.size; omega) b7); have O7 := Lib.hid (only_below O6.out b7); have KR7 := Lib.hid (KR6.out.belowS b7); have y7 := KR7.out.cell 0; have f7 := KR7.out.frozen 0; simp at y7)
      | (go_simp; go_at_call 88; refine (draw_any sb N w5 S5.out (by omega) (by omega)).mono ?_; rintro e w6 ⟨pa, pc, rfl, g6⟩; have G6 := Lib.hid g6; have O6 := Lib.hid (O5.out.trans g6.only); have KR6 := Lib.hid (KR5.out.only g6.only (.inr (by omega))); have HRD6 := Lib.hid ((RL5.out.only g6.only (by omega)).rd); obtain ⟨zs, zl, zw, zo⟩ := g6.gl.ows; have hz56 := g6.only.size; have KM6 := Lib.hid (KM5.out.only g6.only (.inr (by omega))); have x6 := KM6.out.cell 0; simp at x6; clear g6)
      | (go_simp; go_at_call 95; refine (flagsS_any a2 n c2 N d w4.drew ((HRD.out.below (below_drew1 w4)).rd) (by omega) hl0 (by omega)).mono ?_; rintro e w5 ⟨rfl, b5⟩; have b5' : Below w4.heap.size w4 w5 := below_tr b5 (below_drew1 w4); have S5 := Lib.hid (src_belowL S4.out (by omega) b5'); have O5 := Lib.hid (only_below O4.out b5'); have KR5 := Lib.hid (KR4.out.belowS b5'); have RL5 := Lib.hid ((OwM.rdlo M4.out).below b5'); have hz45 := b5'.size; have KM5 := Lib.hid (KM4.out.belowS b5'); have x5 := KM5.out.cell 0; simp at x5))
    all_goals
      have hn7 : n7 = n := by have := o7.rdcM.2; omega
      subst hn7
      have hF : MxS w (w7.setCell ⟨w.heap.size, 0, none⟩ (.slice a7 n7 c7)) sb (.agg #[.slice a7 n7 c7]) r7 N := ⟨(o7.only (only_set w7 w.heap.size 0 (.slice a7 n7 c7)) (.inr (by omega))).mono (by omega) (by simp [World.setCell]), sq7, hN1, src_farL S7.out fun g hg => Below.heap_setCell _ _ _ g (by show g ≠ w.heap.size; omega), only_cell O7.out (Nat.le_refl _) _⟩
      have HF := Lib.hid hF
      clear hF o7 b7
      go_wp2_with fail
      exact bodyPost_ret (v := .agg #[.slice a7 n7 c7]) (by simp [results, Try.f140, go_sem, y7]) rfl ⟨_, _, _, _, _, rfl, HF.out, hn1, hn5, hNm⟩
end Go.Proofs.Ytmdhljleaijkbaa
