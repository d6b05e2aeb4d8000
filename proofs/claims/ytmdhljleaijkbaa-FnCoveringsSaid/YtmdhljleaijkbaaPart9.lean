/- The walk of FnCoverings: true, whatever the draws. -/
import Derived.Test.YtmdhljleaijkbaaPart7
import Derived.Test.YtmdhljleaijkbaaPart8
namespace Go.Proofs.Ytmdhljleaijkbaa
open Go.RowKit

theorem ownS_at {E : Nat} {w : World} {lo hi : Nat} {v : Value} {zs : List Int} (h : OwnS E w lo hi v zs) : ∃ a n c, v = .slice a n c ∧ zs.length = n := by
  obtain ⟨a, n, c, rfl, ow⟩ := h.1
  exact ⟨a, n, c, rfl, by have := ow.len; simp at this; omega⟩
/-- the two maniplexes in their boxes -/
structure CvS2 (w wr : World) (b1 b2 : Nat) (a : Option Addr) (n c : Nat) (d : List (List Int)) (a' : Option Addr) (n' c' : Nat) (e : List (List Int)) : Prop where
  k1 : Blk wr b1 28 #[.slice a n c]
  k2 : Blk wr b2 28 #[.slice a' n' c']
  r1 : RdSSc wr (.slice a n c) d
  r2 : RdSSc wr (.slice a' n' c') e
  bel : Below w.heap.size w wr
theorem CvS2.next {w wr w2 : World} {b1 b2 n c n' c' : Nat} {a a' : Option Addr} {d e : List (List Int)} (h : CvS2 w wr b1 b2 a n c d a' n' c' e) (b : Below wr.heap.size wr w2) : CvS2 w w2 b1 b2 a n c d a' n' c' e :=
  ⟨h.k1.belowS b, h.k2.belowS b, h.r1.below b, h.r2.below b, below_tr b h.bel⟩
theorem dsrc_below {w w' : World} {sb : Nat} (h : DSrc w sb) (hs : sb < w.heap.size) (hb : Below w.heap.size w w') : DSrc w' sb := by
  obtain ⟨ao, n, c, k, hh, hB, h2, h3, h4⟩ := h.box
  exact ⟨ao, n, c, k, hh, hB.belowS hb, h2, h3, h4.below hb⟩
set_option maxRecDepth 100000 in
set_option maxHeartbeats 6400000 in
theorem walkCoverings {ao : Option Addr} {n c : Nat} (w : World) (h : Bts w ao n w.heap.size) :
    Calls Try.prog 4 #[.slice ao n c] w fun e w' => e = .returned (.bool true) ∧ Below w.heap.size w w' := by
  go_enter Try.func4, Try.ntmps4
  go_wp2_with fail
  refine (big_any ao n c w).mono ?_
  rintro e w1 ⟨rfl, hw1⟩
  obtain rfl : w = w1 := hw1.symm
  by_cases hbig : 4096 < n
  · go_wp2
    go_ret
    exact ⟨rfl, Below.refl _ _⟩
  · go_wp2_with fail
    refine (drawCv_any ao n c w h).mono ?_
    rintro r w2 ⟨a, n1, c1, d, a', n2, c2, e, rfl, r1, r2, f1, f2, b2⟩
    have kA := below_alloc2 w2 (.cells #[.slice a n1 c1] 28) (.cells #[.slice a' n2 c2] 28)
    have SS := Lib.hid (show CvS2 w ((w2.alloc (.cells #[.slice a n1 c1] 28)).alloc (.cells #[.slice a' n2 c2] 28)) w2.heap.size (w2.heap.size + 1) a n1 c1 d a' n2 c2 e from ⟨(blk_at rfl).alloc _, blk_at (by simp), r1.below kA, r2.below kA, below_tr kA b2⟩)
    have HB := Lib.hid h
    have F1 := Lib.hid f1
    have F2 := Lib.hid f2
    clear kA r1 r2 b2 f1 f2 h
    go_upto_region 4 with fail
    generalize (w2.alloc (.cells #[.slice a n1 c1] 28)).alloc (.cells #[.slice a' n2 c2] 28) = w3 at *
    have x3 := SS.out.k1.cell 0
    have y3 := SS.out.k2.cell 0
    simp at x3 y3
    obtain ⟨C, hC⟩ : ∃ C, cvC d e = C := ⟨_, rfl⟩
    obtain ⟨R, hR⟩ : ∃ R, cvR d e = R := ⟨_, rfl⟩
    go_wp2_with fail
    refine (api_implCv a a' n1 c1 n2 c2 d e w3 SS.out.r1 SS.out.r2 F1.out F2.out).mono ?_
    rw [hC, hR]
    rintro r w4 ⟨v4, rfl, o4, b4⟩
    obtain ⟨a4, n4, c4, rfl, hl4⟩ := ownS_at o4
    have S4 := Lib.hid (SS.out.next b4)
    have x4 := S4.out.k1.cell 0
    have y4 := S4.out.k2.cell 0
    simp at x4 y4
    have O4 := Lib.hid o4
    clear b4 o4 SS x3 y3
    go_wp2_with fail
    refine (api_specCv a a' n1 c1 n2 c2 d e w4 S4.out.r1 S4.out.r2 F1.out F2.out).mono ?_
    rw [hC, hR]
    rintro r w5 ⟨v5, rfl, o5, b5⟩
    obtain ⟨a5, n5, c5, rfl, hl5⟩ := ownS_at o5
    have S5 := Lib.hid (S4.out.next b5)
    have O45 := Lib.hid (O4.out.below b5)
    have O5 := Lib.hid o5
    have hn54 : n5 = n4 := by omega
    subst hn54
    have x5 := S5.out.k1.cell 0
    have y5 := S5.out.k2.cell 0
    simp at x5 y5
    clear b5 o5 S4 x4 y4 O4
    have I4 : Ints w5 a4 n5 R := by
      obtain ⟨ao', n', c', e', hi⟩ := O45.out.rd
      injection e' with e1 e2 e3
      subst e1 e2 e3; exact hi
    have I5 : Ints w5 a5 n5 R := by
      obtain ⟨ao', n', c', e', hi⟩ := O5.out.rd
      injection e' with e1 e2 e3
      subst e1 e2 e3; exact hi
    go_wp2_with fail
    refine (likeInts_any a4 a5 n5 c4 c5 R w5 I4 I5).mono ?_
    rintro r w6 ⟨rfl, m6, rfl⟩
    have S6 := Lib.hid (S5.out.next (below_drewN (Below.refl _ _) m6))
    have I6 := Lib.hid (I4.below (below_drewN (Below.refl _ _) m6))
    generalize w5.drewN m6 = w6 at *
    have x6 := S6.out.k1.cell 0
    have y6 := S6.out.k2.cell 0
    simp at x6 y6
    obtain ⟨C3, hC3⟩ : ∃ C3, ccC d e = C3 := ⟨_, rfl⟩
    obtain ⟨R3, hR3⟩ : ∃ R3, ccR d e = R3 := ⟨_, rfl⟩
    obtain ⟨A3, hA3⟩ : ∃ A3, acR d e = A3 := ⟨_, rfl⟩
    clear I4 I5 S5 O45 O5 x5 y5
    go_wp2_with fail
    refine (api_implCc a a' n1 c1 n2 c2 d e w6 S6.out.r1 S6.out.r2 F1.out F2.out).mono ?_
    rw [hC3, hR3]
    rintro r w7 ⟨rfl, b7⟩
    have S7 := Lib.hid (S6.out.next b7)
    have I7 := Lib.hid (I6.out.below b7)
    have x7 := S7.out.k1.cell 0
    have y7 := S7.out.k2.cell 0
    simp at x7 y7
    clear b7 S6 I6 x6 y6
    go_wp2_with fail
    refine (api_implAc a a' n1 c1 n2 c2 d e w7 S7.out.r1 S7.out.r2 F1.out F2.out).mono ?_
    rw [hC3, hA3]
    rintro r w8 ⟨rfl, b8⟩
    have S8 := Lib.hid (S7.out.next b8)
    have I8 := Lib.hid (I7.out.below b8)
    have HC := Lib.hid (And.intro hC (And.intro hR (And.intro hC3 (And.intro hR3 hA3))))
    clear b8 S7 I7 x7 y7 hC hR hC3 hR3 hA3
    have BF := Lib.hid S8.out.bel
    by_cases hbad : manB d = false ∨ manB e = false
    · obtain ⟨q1, q2, q3, q4, q5⟩ := HC.out
      have p1 := (cv_bad hbad).1
      have p2 := (cc_bad hbad).1
      have hc1 : C = 1 := by rw [← q1]; exact p1
      have hc3 : C3 = 1 := by rw [← q3]; exact p2
      clear q1 q2 q3 q4 q5 p1 p2 hbad HC
      subst hc1 hc3
      go_wp2_with fail
      exact bodyPost_ret (v := .bool true) (by simp [results, Try.f4, go_sem]) rfl ⟨rfl, BF.out⟩
    · have h1 : manB d = true := by cases hh : manB d with | true => rfl | false => exact absurd (.inl hh) hbad
      have h2 : manB e = true := by cases hh : manB e with | true => rfl | false => exact absurd (.inr hh) hbad
      obtain ⟨q1, q2, q3, q4, q5⟩ := HC.out
      obtain ⟨p1, p2, p3⟩ := cc_ok h1 h2
      have hc3 : C3 = 0 := by rw [← q3]; exact p1
      by_cases hno : (cvL d e (flg e)).length = 0
      · have hc1 : C = 4 := by rw [← q1]; exact (cv_none h1 h2 hno).1
        have hr3 : R3 = 0 := by rw [← q4, p2, hno]; rfl
        have ha3 : A3 = false := by rw [← q5, p3, hno]; rfl
        clear q1 q2 q3 q4 q5 p1 p2 p3 hbad HC
        subst hc1 hc3 hr3 ha3
        go_wp2_with fail
        exact bodyPost_ret (v := .bool true) (by simp [results, Try.f4, go_sem]) rfl ⟨rfl, BF.out⟩
      · have hc1 : C = 0 := by rw [← q1]; exact (cv_some h1 h2 hno).1
        have hrr : R = lget (cvL d e (flg e)) 0 := by rw [← q2]; exact (cv_some h1 h2 hno).2
        have hr3 : (0 : Int) < R3 := by rw [← q4, p2]; omega
        have ha3 : A3 = true := by rw [← q5, p3]; exact decide_eq_true (by omega)
        have hM := manB_iff.1 h1
        have hE := manB_iff.1 h2
        obtain ⟨hl, hp⟩ : d.length = e.length ∧ Cov d e R := by
          have hm : R ∈ cvL d e (flg e) := by rw [hrr]; exact lget_mem (by omega)
          obtain ⟨f, -, hf⟩ := mem_cvL.1 hm
          exact ⟨(covO_some hf).1, (covO_some hf).2.1⟩
        clear q1 q2 q3 q4 q5 p1 p2 p3 hbad HC hrr h1 h2 hno
        subst hc1 hc3 ha3
        obtain ⟨N, hN⟩ : ∃ N, flg d = N := ⟨_, rfl⟩
        obtain ⟨K, hK⟩ : ∃ K, flg e = K := ⟨_, rfl⟩
        have hN2 : 2 ≤ N := by rw [← hN]; exact hM.f2
        have hN4 : N ≤ 400 := by rw [← hN]; exact hM.f4
        have hK2 : 2 ≤ K := by rw [← hK]; exact hE.f2
        have hK4 : K ≤ 400 := by rw [← hK]; exact hE.f4
        have hd1 := hM.n1
        have hd5 := hM.n5
        have hl0 : (lget d 0).length = N := hN
        have hk0 : (lget e 0).length = K := hK
        have hn5 : n5 = N := by rw [← hl5, hp.len, hN]
        subst hn5
        have hdl := S8.out.r1.intss.1
        have hel := S8.out.r2.intss.1
        have HM := Lib.hid hM
        have HE := Lib.hid hE
        have HP := Lib.hid hp
        have HL := Lib.hid hl
        have HN := Lib.hid hN
        have HK := Lib.hid hK
        have hn12 : n2 = n1 := by omega
        subst hn12
        clear hM hE hp hN hK hl
        go_wp2_with fail
        go_loopw [13] (fun iv wr => ∃ f : Nat, iv = .int .i64 f ∧ f ≤ n5 ∧ CvS2 w wr w2.heap.size (w2.heap.size + 1) a n2 c1 d a' n2 c2 e ∧ Ints wr a4 n5 R) (fun iv _ => n5 - (intOf iv).toNat)
        case atStart => exact ⟨0, rfl, by omega, S8.out, I8.out⟩
        case round =>
          clear S8 I8 BF
          obtain ⟨f, rfl, hf, hs, hi⟩ := hrel
          have S8 := Lib.hid hs
          have I8 := Lib.hid hi
          have x8 := hs.k1.cell 0
          simp at x8
          clear hs hi
          go_wp2_with fail
          refine (flags5_any wr S8.out.r1.rd (by omega) hl0).mono ?_
          rintro r w9 ⟨rfl, b9⟩
          have S9 := Lib.hid (S8.out.next b9)
          have I9 := Lib.hid (I8.out.below b9)
          clear b9 S8 I8 x8
          by_cases hlt : f < n5
          · have hfi : (f : Int) < (n5 : Int) := by omega
            go_wp2_with fail
            go_loopw [14] (fun iv wx => ∃ i : Nat, iv = .int .i64 i ∧ i ≤ n2 ∧ CvS2 w wx w2.heap.size (w2.heap.size + 1) a n2 c1 d a' n2 c2 e ∧ Ints wx a4 n5 R) (fun iv _ => n2 - (intOf iv).toNat)
            case atStart => exact ⟨0, rfl, by omega, S9.out, I9.out⟩
            case round =>
              clear S9 I9
              obtain ⟨i, rfl, hi, hs, hii⟩ := hrel
              have S9 := Lib.hid hs
              have I9 := Lib.hid hii
              have x9 := hs.k1.cell 0
              have y9 := hs.k2.cell 0
              simp at x9 y9
              clear hs hii
              by_cases hlti : i < n2
              · have hii : (i : Int) < (n2 : Int) := by omega
                obtain ⟨b3, off3, a3, n3, c3, e3, hc3, hi3⟩ := S9.out.r1.intss.at_ hlti
                have hn3 : n3 = n5 := by rw [← hi3.1, HM.out.len i (by omega), hl0]
                subst hn3
                obtain ⟨b4, off4, e4, hc4⟩ := hi3.at_ hlt
                obtain ⟨b5, off5, a6, n6, c6, e5, hc5, hi5⟩ := S9.out.r2.intss.at_ hlti
                have hn6 : n6 = K := by rw [← hi5.1, HE.out.len i (by have := HL.out; omega), hk0]
                subst hn6
                have hT : Leads d n3 := by have := man_leads HM.out; rw [HN.out] at this; exact this
                have hy := bTo_lt hT hlt (g := i) (by omega)
                have hmv := HP.out.mov i f (by omega) (by rw [HN.out]; exact hlt)
                obtain ⟨u, hu, huK⟩ := HP.out.val f (by rw [HN.out]; exact hlt)
                obtain ⟨y, hye⟩ : ∃ y, bTo d f i = y := ⟨_, rfl⟩
                rw [hy.2, hye] at hc4
                rw [hye] at hy hmv
                have hyN := hy.1
                rw [HK.out] at huK
                obtain ⟨v, hv, hvK⟩ := HP.out.val y (by rw [HN.out]; exact hyN)
                rw [hu, hv, Int.toNat_natCast] at hmv
                obtain ⟨bl, ofl, e6, hcl⟩ := I9.out.at_ hlt
                obtain ⟨bl', ofl', e7, hcy⟩ := I9.out.at_ hyN
                rw [e6] at e7
                injection e7 with e7
                injection e7 with e71 e72
                subst e71 e72
                rw [hu] at hcl
                rw [hv] at hcy
                obtain ⟨b7, off7, e8, hc7⟩ := hi5.at_ huK
                rw [← hmv] at hc7
                have S9h := Lib.hid (And.intro S9.out I9.out)
                have hyi : (y : Int) < (n3 : Int) := by omega
                have hui : (u : Int) < (n6 : Int) := by omega
                clear hi3 hi5 hy hye hmv hT hu hv S9 I9
                subst e3 e4 e5 e6 e8
                have hne : ((v : Int) != (v : Int)) = false := by simp
                go_wp2_with fail
                go_quiet (fail)
                go_wp2_with fail
                go_roundw
                case rel => exact ⟨i + 1, by go_num, by omega, S9h.out.1.next (below_drewN (Below.refl _ _) nq), S9h.out.2.below (below_drewN (Below.refl _ _) nq)⟩
                case measure => simp [intOf]; omega
              · obtain rfl : i = n2 := by omega
                have hii : ¬ (i : Int) < (i : Int) := by omega
                go_wp2_with fail
                go_roundw
                case rel => exact ⟨f + 1, by go_num, by omega, S9.out, I9.out⟩
                case measure => simp [intOf]; omega
          · obtain rfl : f = n5 := by omega
            have hfi : ¬ (f : Int) < (f : Int) := by omega
            obtain ⟨s, hs⟩ : ∃ s, R.count (0 : Int) = s := ⟨_, rfl⟩
            have hKs : K * s = f := by
              have := fibre_even HM.out HE.out HL.out HP.out (f := 0) (by rw [HK.out]; omega)
              rw [HK.out, HN.out] at this
              rw [← hs]; exact this
            have hdiv : f / K = s := by rw [← hKs]; exact Nat.mul_div_cancel_left s (by omega)
            have htd : (f : Int).tdiv (K : Int) = (s : Int) := by rw [← hdiv]; rfl
            have hKz : ¬ (K : Int) = 0 := by omega
            have hKz2 : ¬ K = 0 := by omega
            have hsf : s ≤ 400 := by rw [← hdiv]; exact Nat.le_trans (Nat.div_le_self _ _) hN4
            have hsw : IntKind.i64.wrap (s : Int) = (s : Int) := IntWalk.i64_in _ (by omega)
            have HS := Lib.hid (And.intro hs hKs)
            clear hs hdiv hKs
            have S0 := Lib.hid (show ∀ w', Below w9.heap.size w9 w' → (w'.cell? ⟨w2.heap.size, 0, none⟩ = some (.slice a n2 c1) ∧ w'.cell? ⟨w2.heap.size + 1, 0, none⟩ = some (.slice a' n2 c2)) from fun w' hb => ⟨by have := (S9.out.next hb).k1.cell 0; simpa using this, by have := (S9.out.next hb).k2.cell 0; simpa using this⟩)
            have K0 := Lib.hid (S0.out w9.drew (below_drew1 w9))
            go_upto_region 24 with fail
            go_region_held3 (fun w' => w'.cell? ⟨w2.heap.size, 0, none⟩ = some (.slice a n2 c1) ∧ w'.cell? ⟨w2.heap.size + 1, 0, none⟩ = some (.slice a' n2 c2)) (first | exact K0.out | exact K5.out | exact K6.out) (first
              | (go_at_call 25; refine (flags5_any w5b (S9.out.next B5).r2.rd (by omega) hk0).mono ?_; rintro r w6b ⟨rfl, b6⟩; have B6 : Below w9.heap.size w9 w6b := below_tr b6 B5; have K6 := Lib.hid (S0.out w6b B6))
              | (go_at_call 25; refine (flags5_any w9.drew (S9.out.next (below_drew1 w9)).r1.rd (by omega) hl0).mono ?_; rintro r w5b ⟨rfl, b5⟩; have B5 : Below w9.heap.size w9 w5b := below_tr b5 (below_drew1 w9); have K5 := Lib.hid (S0.out w5b B5)))
            have SA := Lib.hid (S9.out.next B6)
            have IA := Lib.hid (I9.out.below B6)
            clear S9 I9 S0 K0 K5 K6 B5 B6
            go_upto_region 25 with fail
            generalize w6b = wA at *
            have TA := Lib.hid (HB.out.up_ SA.out.bel)
            have S0 := Lib.hid (show ∀ w', Below wA.heap.size wA w' → (w'.cell? ⟨w2.heap.size, 0, none⟩ = some (.slice a n2 c1) ∧ w'.cell? ⟨w2.heap.size + 1, 0, none⟩ = some (.slice a' n2 c2)) from fun w' hb => ⟨by have := (SA.out.next hb).k1.cell 0; simpa using this, by have := (SA.out.next hb).k2.cell 0; simpa using this⟩)
            have K0 := Lib.hid (S0.out wA.drew (below_drew1 wA))
            have TD := Lib.hid (TA.out.up_ (below_drew1 wA))
            go_region_held3 (fun w' => w'.cell? ⟨w2.heap.size, 0, none⟩ = some (.slice a n2 c1) ∧ w'.cell? ⟨w2.heap.size + 1, 0, none⟩ = some (.slice a' n2 c2)) (first | exact K0.out | exact K5.out | exact K6.out | exact K7.out | exact K8.out) (first
              | (go_at_call 26; refine (fibre_any a a' a4 n2 c1 n2 c2 c4 f K d e R q _ rfl hqK wD (SA.out.next B7).r1 (SA.out.next B7).r2 HM.out HE.out HL.out HN.out HK.out HP.out (IA.out.below B7)).mono ?_; rintro r wE ⟨a8, c8, rfl, b8⟩; have B8 : Below wA.heap.size wA wE := below_tr b8 B7; have K8 := Lib.hid (S0.out wE B8))
              | (go_at_call 28; refine (below_any wA.heap.size (K : Int) wC s6 (by omega)).mono ?_; rintro r wD ⟨q, rfl, -, hq, s7, o7⟩; have hqK : q < K := (by have := hq (by omega); omega); have B7 : Below wA.heap.size wA wD := B6.trans (o7.below (Nat.le_refl _) (by omega)); have K7 := Lib.hid (S0.out wD B7))
              | (go_at_call 25; refine (flags5_any wB (SA.out.next B5).r2.rd (by omega) hk0).mono ?_; rintro r wC ⟨rfl, b6⟩; have B6 : Below wA.heap.size wA wC := below_tr b6 B5; have K6 := Lib.hid (S0.out wC B6); have s6 := dsrc_below s5 z5 b6; have z6 : wA.heap.size < wC.heap.size := Nat.lt_of_lt_of_le z5 b6.size)
              | (go_at_call 27; refine (roll712_any ao n c wA.drew TD.out).mono ?_; rintro r wB ⟨rfl, s5, z5, b5⟩; have B5 : Below wA.heap.size wA wB := below_tr b5 (below_drew1 wA); have K5 := Lib.hid (S0.out wB B5)))
            all_goals
              have SE := Lib.hid (SA.out.next B8)
              have IE := Lib.hid (IA.out.below B8)
              have xE := SE.out.k1.cell 0
              have yE := SE.out.k2.cell 0
              simp at xE yE
              obtain ⟨T, hT⟩ : ∃ T, deckL d R = T := ⟨_, rfl⟩
              have HT := Lib.hid hT
              clear SA IA S0 K0 K5 K6 K7 K8 TA TD
              go_wp2_with fail
              refine (deckMoves_any a a' a4 n2 c1 n2 c2 c4 f K d e R wE SE.out.r1 SE.out.r2 HM.out HE.out HL.out HN.out HK.out HP.out IE.out).mono ?_
              rw [hT]
              rintro r wF ⟨a9, c9, rfl, rT, b9⟩
              have SF := Lib.hid (SE.out.next b9)
              have IF := Lib.hid (IE.out.below b9)
              have RT := Lib.hid rT
              have xF := SF.out.k1.cell 0
              have yF := SF.out.k2.cell 0
              simp at xF yF
              clear b9 rT SE IE xE yE
              go_wp2_with fail
              refine (normal_any a a' a4 n2 c1 n2 c2 c4 f K d e R wF SF.out.r1 SF.out.r2 HM.out HE.out HL.out HN.out HK.out HP.out IF.out).mono ?_
              rw [hT]
              rintro r wG ⟨rfl, b10⟩
              have SG := Lib.hid (SF.out.next b10)
              have IG := Lib.hid (IF.out.below b10)
              have RG := Lib.hid (RT.out.below b10)
              clear b10 SF IF RT xF yF
              have hqc : R.count (q : Int) = s := by
                have := fibre_even HM.out HE.out HL.out HP.out (f := q) (by rw [HK.out]; exact hqK)
                rw [HK.out, HN.out, ← HS.out.2] at this
                exact Nat.eq_of_mul_eq_mul_left (by omega) this
              have hmw : IntKind.i64.wrap ((s : Int) * (K : Int)) = (f : Int) := by
                have : (s : Int) * (K : Int) = (f : Int) := by rw [← HS.out.2, Int.natCast_mul, Int.mul_comm]
                rw [this]; exact IntWalk.i64_in _ (by omega)
              obtain ⟨t, ht⟩ : ∃ t, T.length = t := ⟨_, rfl⟩
              have hts : t ≤ s := by
                have := deck_le HM.out HE.out HL.out HP.out (f := q) (by rw [HK.out]; exact hqK)
                rw [hT, ht, hqc] at this; exact this
              obtain ⟨B, hB⟩ : ∃ B, decide (T.length * K = f) = B := ⟨_, rfl⟩
              have hBt : decide (t = s) = B := by
                rw [← hB, ht, ← HS.out.2]
                by_cases h : t = s
                · rw [h]; simp [Nat.mul_comm]
                · rw [decide_eq_false h, decide_eq_false]
                  intro e; apply h
                  rw [Nat.mul_comm] at e
                  exact Nat.eq_of_mul_eq_mul_left (by omega) e
              rw [hB, hqc, ht]
              rw [ht] at RG
              have HT := Lib.hid (And.intro hT (And.intro ht hB))
              clear hT ht hB hqc
              have hn1 : ((f : Int) != (f : Int)) = false := by simp
              have hn2 : ((s : Int) != (s : Int)) = false := by simp
              have hn3 : (B == ((t : Int) == (s : Int))) = true := by
                rw [← hBt]
                by_cases h : t = s
                · simp [h]
                · have : ¬ (t : Int) = (s : Int) := by omega
                  simp [h, this]
              have hn4 : ¬ (s : Int) < (t : Int) := by omega
              go_upto_region 28 with fail
              (refine wp_region_calm (by kernel_rfl) (by kernel_rfl) ?_; (repeat (first | go_big_quiet_skip | (go_big_quiet_want; first | (go_big_quiet_op; go_big_quiet_on) | (apply quiet_val; (· (intro _ hw; have y0 := (SG.out.next hw).k1.cell 0; have y1 := (SG.out.next hw).k2.cell 0; simp at y0 y1; go_simp; exact rfl)); go_simp; go_big_quiet_on) | (apply quiet_call; (· (intro _ _; go_simp; exact ⟨rfl, rfl⟩)); (· (intro _ hw; go_at_call 25; have hx := flags5_any _ (SG.out.next hw).r2.rd (by omega) hk0; have hy := flags5_any _ (SG.out.next hw).r1.rd (by omega) hl0; (first | (with_reducible refine hx.mono ?_; rintro e w' ⟨rfl, b⟩; exact ⟨rfl, below_tr b hw⟩) | (with_reducible refine hy.mono ?_; rintro e w' ⟨rfl, b⟩; exact ⟨rfl, below_tr b hw⟩)))); go_simp; go_big_quiet_on)))); refine wpQuiet_nil ?_; intro wq bq)
              clear hmw hn1 hn2 hn3 hn4
              have SH := Lib.hid (SG.out.next bq)
              have RH := Lib.hid (RG.out.below bq)
              clear SG IG RG bq
              have xH := SH.out.k1.cell 0
              have yH := SH.out.k2.cell 0
              simp at xH yH
              by_cases h16 : t ≤ 16
              · have hq1 : ¬ (16 : Int) < (t : Int) := by omega
                obtain ⟨Q, hQ⟩ : ∃ Q, dkQ d R = Q := ⟨_, rfl⟩
                have hQ2 : quoL d (labs T f).1 (labs T f).2 f = Q := by
                  rw [← hQ, ← HT.out.1]; unfold dkQ dkL; rw [HN.out]
                have hMQ : Man Q := by rw [← hQ]; exact dkQ_man HM.out HE.out HL.out HP.out
                have hA : Leads T f := by have := deck_leads HM.out HP.out; rw [HT.out.1, HN.out] at this; exact this
                have hSy : SymR T f := by have := deck_sym HM.out HP.out; rw [HT.out.1, HN.out] at this; exact this
                have hTc : ∀ j, j < T.length → Cov d d (lget T j) := fun j hj => by
                  have := (deck_get HM.out HP.out (g := j) (by rw [HT.out.1]; exact hj)).1
                  rw [HT.out.1] at this; exact this
                obtain ⟨hac1, hac2⟩ := dkQ_ac HM.out HE.out HL.out HP.out
                rw [hQ] at hac1 hac2
                have hlf : B = true → lfR Q = lfR e := fun hb => by
                  have h2 := HT.out.2.2
                  rw [hb, decide_eq_true_eq] at h2
                  rw [← hQ]
                  exact dkQ_least HM.out HE.out HL.out HP.out (by rw [HT.out.1, HK.out, HN.out]; exact h2)
                have HA := Lib.hid (And.intro hac1 (And.intro hac2 (And.intro hlf hMQ)))
                have HQ := Lib.hid (And.intro hQ2 (And.intro hA (And.intro hSy hTc)))
                clear hac1 hac2 hlf hQ hQ2 hMQ hA hSy hTc
                go_wp2_with fail
                refine (quotientBy_any a a9 n2 c1 t c9 f d T wq SH.out.r1 HM.out HN.out RH.out h16 HQ.out.2.2.2 HQ.out.2.1 HQ.out.2.2.1 (by rw [HQ.out.1]; exact HA.out.2.2.2)).mono ?_
                rw [HQ.out.1]
                rintro r wI ⟨aq, cq, rfl, rq, bI⟩
                have kB : Below wI.heap.size wI (wI.alloc (.cells #[.slice aq n2 cq] 28)) := below_alloc1 _ _
                have SI := Lib.hid ((SH.out.next bI).next kB)
                have RQ := Lib.hid (rq.below kB)
                have KQ := Lib.hid (show Blk (wI.alloc (.cells #[.slice aq n2 cq] 28)) wI.heap.size 28 #[.slice aq n2 cq] from blk_at rfl)
                have hq0 := SH.out.bel.size
                clear bI rq kB SH RH HQ xH yH
                go_upto_region 35 with fail
                generalize wI.alloc (.cells #[.slice aq n2 cq] 28) = wJ at *
                have xJ := SI.out.k2.cell 0
                have yJ := KQ.out.cell 0
                simp at xJ yJ
                go_wp2_with fail
                refine (api_implAc aq a' n2 cq n2 c2 Q e wJ RQ.out SI.out.r2 (man_few HA.out.2.2.2) F2.out).mono ?_
                rw [HA.out.1, HA.out.2.1]
                rintro r wK ⟨rfl, bK⟩
                have SK := Lib.hid (SI.out.next bK)
                have RK := Lib.hid (RQ.out.below bK)
                have KK := Lib.hid (KQ.out.belowS bK)
                clear bK SI RQ KQ xJ yJ
                go_upto_region 36 with fail
                have xK := SK.out.k2.cell 0
                have yK := KK.out.cell 0
                simp at xK yK
                cases B with
                | false =>
                  go_wp2_with fail
                  exact bodyPost_ret (v := .bool true) (by simp [results, Try.f4, go_sem]) rfl ⟨rfl, SK.out.bel⟩
                | true =>
                  go_wp2_with fail
                  refine (least5_any wK RK.out SK.out.r2 HA.out.2.2.2 HE.out (by first | exact HA.out.2.2.1 rfl | exact HA.out.2.2.1 trivial)).mono ?_
                  rintro r wL ⟨rfl, bL⟩
                  have BL := Lib.hid (below_tr bL SK.out.bel)
                  go_wp2_with fail
                  exact bodyPost_ret (v := .bool true) (by simp [results, Try.f4, go_sem]) rfl ⟨rfl, BL.out⟩
              · have hq1 : (16 : Int) < (t : Int) := by omega
                go_wp2_with fail
                exact bodyPost_ret (v := .bool true) (by simp [results, Try.f4, go_sem]) rfl ⟨rfl, SH.out.bel⟩
end Go.Proofs.Ytmdhljleaijkbaa
