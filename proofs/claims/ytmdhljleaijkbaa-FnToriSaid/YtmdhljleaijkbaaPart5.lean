/- Orbits of flags, IsRegular, IsChiral, the program's. -/
import Derived.Test.YtmdhljleaijkbaaPart4
import Derived.Deep.RegionHeld3
import Derived.Deep.QuietTactic
import Derived.Test.YtmdhljleaijkbaaPart3
import Derived.Test.YtmdhljleaijkbaaPart1
import Derived.Test.YtmdhljleaijkbaaPart2
import Derived.Lib.LazyBuf
import Derived.Lib.SliceRun
import Derived.RegionTactic
import Derived.Deep.DeepCutAuto
namespace Go.Proofs.Ytmdhljleaijkbaa
open Go.RowKit

theorem OwR.rdc {w : World} {lo hi n c : Nat} {ao : Option Addr} {us : List Value} {ds : List (List Int)} (h : OwR (OwS 2) w lo hi 32 ao n c us ds) : RdSSc w (.slice ao n c) ds := OwSS.rdc ⟨_, _, _, _, rfl, h⟩
theorem forb_len {d : List (List Int)} (hM : Man d) : (forb d).1.length = flg d ∧ (forb d).2 ≤ flg d ∧ (∀ p, p < flg d → ∃ x : Nat, iget (forb d).1 p = (x : Int) ∧ x < (forb d).2) := labs_allS (autL_leads hM) (aut_sym hM)
set_option maxRecDepth 100000 in
set_option maxHeartbeats 3200000 in
theorem flagOrbits_any (mb n c : Nat) (ao : Option Addr) (d : List (List Int)) (w : World) (hm : Blk w mb 28 #[.slice ao n c]) (h : RdSSc w (.slice ao n c) d) (hM : Man d) :
    Calls Try.prog 46 #[.pointer (some ⟨mb, 0, none⟩)] w fun e w' => ∃ v, e = .returned (.tuple #[v, .int .i64 ((forb d).2 : Nat)]) ∧ OwnS 2 w' w.heap.size w'.heap.size v (forb d).1 ∧ Below w.heap.size w w' := by
  obtain ⟨N, hN⟩ : ∃ N, flg d = N := ⟨_, rfl⟩
  have HN := Lib.hid hN
  have HMM := Lib.hid hM
  have hn1 := hM.n1
  have hnl := h.intss.1
  have hf2 : 2 ≤ N := by rw [← hN]; exact hM.f2
  have hf4 : N ≤ 400 := by rw [← hN]; exact hM.f4
  have HM := Lib.hid hm
  have HR := Lib.hid h
  have HL := Lib.hid (autL_leads hM)
  have HS := Lib.hid (aut_sym hM)
  have HLN := Lib.hid (cvL_len d d N)
  obtain ⟨R, hR⟩ : ∃ R, forb d = R := ⟨_, rfl⟩
  have HRR := Lib.hid (show labs (cvL d d N) N = R by rw [← hN]; exact hR)
  rw [hR]
  have S0 := Lib.hid (show ∀ w', Below w.heap.size w w' → (Below w.heap.size w w' ∧ w'.cell? ⟨mb, 0, none⟩ = some (.slice ao n c)) from fun w' hb => ⟨hb, by have := (hm.belowS hb).cell 0; simpa using this⟩)
  have K0 := Lib.hid (S0.out w.drew (below_drew1 w))
  have kd1 := Lib.hid (hm.drewN 1)
  have HRd := Lib.hid (h.drewN 1)
  clear hm h hM hN hR
  go_enter Try.func46, Try.ntmps46
  go_upto_region 1 with fail
  go_region_held3 (fun w' => Below w.heap.size w w' ∧ w'.cell? ⟨mb, 0, none⟩ = some (.slice ao n c)) (first | exact K0.out | exact K5.out | exact K6.out) (first
    | (go_at_call 58; refine (flagsI_any _ ao n c N d _ kd1.out HRd.out.rd (by omega) HN.out (by omega)).mono ?_; rintro e w5 ⟨rfl, hw⟩; subst hw)
    | (go_at_call 50; refine (coveringsOf_any ao ao n c n c N N d d _ HRd.out.intss HRd.out.intss HMM.out HMM.out HN.out HN.out).mono ?_; rintro e w5 ⟨a5, n5, c5, us5, rfl, or5, b5⟩; have B5 : Below w.heap.size w w5 := below_tr b5 (below_drew1 w); have K5 := Lib.hid (S0.out w5 B5); have HO5 := Lib.hid or5.rdc; have hl5 := or5.len)
    | (go_at_call 72; refine (orbW_anyS (d := cvL d d N) (n := N) w5 HO5.out (by rw [← HN.out]; exact HL.out) (by rw [← HN.out]; exact HS.out) (by omega) (by omega) (by have := HLN.out; omega)).mono ?_; rintro e w6 ⟨v6, rfl, o6, b6⟩; have B6 : Below w.heap.size w w6 := below_tr b6 B5; have K6 := Lib.hid (S0.out w6 B6)))
  all_goals
    rw [HRR.out] at o6 ⊢
    have O6 := Lib.hid (show OwnS 2 w6 w.heap.size w6.heap.size v6 R.1 from ⟨o6.1, o6.2.mono B5.size (Nat.le_refl _)⟩)
    have B6h := Lib.hid B6
    clear o6
    go_wp2_with fail
    exact bodyPost_ret (v := .tuple #[v6, .int .i64 (R.2 : Nat)]) (by simp [results, Try.f46, go_sem]) rfl ⟨v6, rfl, O6.out, B6h.out⟩
noncomputable def irC (d : List (List Int)) : Int := if manB d = true then 0 else 1
noncomputable def irR (d : List (List Int)) : Bool := if manB d = true then decide ((forb d).2 = 1) else false
/-- no move keeps the orbit of a flag -/
def ChOk (d : List (List Int)) : Prop := ∀ g i, g < d.length → i < flg d → iget (forb d).1 i ≠ iget (forb d).1 (bTo d i g)
open Classical in
noncomputable def chR (d : List (List Int)) : Bool := if manB d = true then (if ChOk d then decide ((forb d).2 = 2) else false) else false
set_option maxHeartbeats 1600000 in
theorem api_implIr (ao : Option Addr) (n c : Nat) (d : List (List Int)) (w : World) (hd : RdSSc w (.slice ao n c) d) (fd : FewSS d) :
    Calls Try.prog 15 #[.agg #[.slice ao n c]] w fun r w' => r = .returned (.tuple #[.bool (irR d), .int .i64 (irC d)]) ∧ Below w.heap.size w w' := by
  have b0 := below_alloc1 w (.cells #[.slice ao n c] 28)
  have km : Blk (w.alloc (.cells #[.slice ao n c] 28)) w.heap.size 28 #[.slice ao n c] := blk_at rfl
  have hd1 := Lib.hid (hd.below b0)
  have hz1 := b0.size
  have x0 := km.cell 0
  simp at x0
  have HI := Lib.hid (fun (w : World) (h : RdSSc w (.slice ao n c) d) => implManC h fd)
  obtain ⟨R, hR⟩ : ∃ R, irR d = R := ⟨_, rfl⟩
  obtain ⟨C, hC⟩ : ∃ C, irC d = C := ⟨_, rfl⟩
  rw [hR, hC]
  have HR := Lib.hid hR
  have HC := Lib.hid hC
  clear hR hC
  go_enter Try.func15, Try.ntmps15
  go_wp2_with fail
  generalize w.alloc (.cells #[.slice ao n c] 28) = w1 at *
  refine (HI.out _ hd1.out).mono ?_
  rintro r w2 ⟨rfl, b2⟩
  have KM2 := Lib.hid (km.belowS b2)
  have HB2 := Lib.hid (b0.trans (b2.mono hz1))
  have hd2 := Lib.hid (hd1.out.below b2)
  clear km b0 b2 hd1 hd x0
  cases h1 : manB d with
  | false =>
    have hC0 : C = 1 := by rw [← HC.out]; unfold irC; rw [h1]; rfl
    have hR0 : R = false := by rw [← HR.out]; unfold irR; rw [h1]; rfl
    subst hC0
    subst hR0
    clear HR HC
    go_wp2_with fail
    exact bodyPost_ret (v := .tuple #[.bool false, .int .i64 1]) (by simp [results, Try.f15, go_sem]) rfl ⟨rfl, HB2.out⟩
  | true =>
    have hC0 : C = 0 := by rw [← HC.out]; unfold irC; rw [h1]; rfl
    have HR1 := Lib.hid (show decide ((forb d).2 = 1) = R from by rw [← HR.out]; unfold irR; rw [h1]; rfl)
    subst hC0
    have HM := Lib.hid (manB_iff.1 h1)
    clear h1 HR HC
    have hz2 := HB2.out.size
    go_wp2_with fail
    refine (flagOrbits_any _ n c ao d w2 KM2.out hd2.out HM.out).mono ?_
    rintro r w3 ⟨v3, rfl, o3, b3⟩
    have HB3 := Lib.hid (HB2.out.trans (b3.mono hz2))
    generalize (forb d).2 = m at *
    have HBE := Lib.hid (show ((m : Int) == 1) = R by
      rw [← HR1.out]
      by_cases h : m = 1
      · subst h; rfl
      · rw [decide_eq_false h, beq_eq_false_iff_ne]; omega)
    clear o3 b3 HR1 HM
    go_wp2_with fail
    exact bodyPost_ret (v := .tuple #[.bool ((m : Int) == 1), .int .i64 0]) (by simp [results, Try.f15, go_sem]) rfl ⟨by rw [HBE.out], HB3.out⟩
set_option maxRecDepth 100000 in
set_option maxHeartbeats 3200000 in
theorem api_implCh (ao : Option Addr) (n c : Nat) (d : List (List Int)) (w : World) (hd : RdSSc w (.slice ao n c) d) (fd : FewSS d) :
    Calls Try.prog 14 #[.agg #[.slice ao n c]] w fun r w' => r = .returned (.tuple #[.bool (chR d), .int .i64 (irC d)]) ∧ Below w.heap.size w w' := by
  have b0 := below_alloc1 w (.cells #[.slice ao n c] 28)
  have km : Blk (w.alloc (.cells #[.slice ao n c] 28)) w.heap.size 28 #[.slice ao n c] := blk_at rfl
  have hd1 := Lib.hid (hd.below b0)
  have hz1 := b0.size
  have x0 := km.cell 0
  simp at x0
  have HI := Lib.hid (fun (w : World) (h : RdSSc w (.slice ao n c) d) => implManC h fd)
  obtain ⟨R, hR⟩ : ∃ R, chR d = R := ⟨_, rfl⟩
  obtain ⟨C, hC⟩ : ∃ C, irC d = C := ⟨_, rfl⟩
  rw [hR, hC]
  have HR := Lib.hid hR
  have HC := Lib.hid hC
  clear hR hC
  go_enter Try.func14, Try.ntmps14
  go_wp2_with fail
  generalize w.alloc (.cells #[.slice ao n c] 28) = w1 at *
  refine (HI.out _ hd1.out).mono ?_
  rintro r w2 ⟨rfl, b2⟩
  have KM2 := Lib.hid (km.belowS b2)
  have HB2 := Lib.hid (b0.trans (b2.mono hz1))
  have hd2 := Lib.hid (hd1.out.below b2)
  clear km b0 b2 hd1 hd x0
  cases h1 : manB d with
  | false =>
    have hC0 : C = 1 := by rw [← HC.out]; unfold irC; rw [h1]; rfl
    have hR0 : R = false := by rw [← HR.out]; unfold chR; rw [h1]; rfl
    subst hC0
    subst hR0
    clear HR HC
    go_wp2_with fail
    exact bodyPost_ret (v := .tuple #[.bool false, .int .i64 1]) (by simp [results, Try.f14, go_sem]) rfl ⟨rfl, HB2.out⟩
  | true =>
    have hC0 : C = 0 := by rw [← HC.out]; unfold irC; rw [h1]; rfl
    have HR1 := Lib.hid (show ∀ b, (ChOk d → b = decide ((forb d).2 = 2)) → (¬ ChOk d → b = false) → b = R from fun b hy hn => by
      rw [← HR.out]; unfold chR; rw [h1]
      by_cases h : ChOk d
      · rw [if_pos rfl, if_pos h]; exact hy h
      · rw [if_pos rfl, if_neg h]; exact hn h)
    subst hC0
    have hM := manB_iff.1 h1
    have HM := Lib.hid hM
    clear h1 HR HC
    have hz2 := HB2.out.size
    go_wp2_with fail
    refine (flagOrbits_any _ n c ao d w2 KM2.out hd2.out HM.out).mono ?_
    rintro r w3 ⟨v3, rfl, o3, b3⟩
    have HB3 := Lib.hid (HB2.out.trans (b3.mono hz2))
    have KM3 := Lib.hid (KM2.out.belowS b3)
    have hd3 := Lib.hid (hd2.out.below b3)
    obtain ⟨⟨ol, nl, cl, rfl, ho⟩, -⟩ := o3
    have HFL := Lib.hid (forb_len HM.out)
    have hnl : nl = flg d := by have := ho.len; rw [List.length_map, HFL.out.1] at this; exact this.symm
    have HLI := Lib.hid ho.ints
    have x3 := KM3.out.cell 0
    simp at x3
    obtain ⟨N, hN⟩ : ∃ N, flg d = N := ⟨_, rfl⟩
    rw [hN] at hnl
    subst hnl
    have HN := Lib.hid hN
    have hdl := hd3.out.intss.1
    have hn5 := HM.out.n5
    clear b3 KM2 hd2 HB2 ho hN hM
    obtain ⟨m, hm⟩ : ∃ m, (forb d).2 = m := ⟨_, rfl⟩
    have HMM := Lib.hid hm
    rw [hm]
    clear hm
    go_wp2_with fail
    go_loopw [20] (fun gv wr => ∃ g q : Nat, gv = .int .i64 g ∧ g ≤ n ∧ wr = w3.drewN q ∧ (∀ g' i, g' < g → i < flg d → iget (forb d).1 i ≠ iget (forb d).1 (bTo d i g'))) (fun gv _ => n - (intOf gv).toNat)
    case atStart => exact ⟨0, 0, rfl, Nat.zero_le _, rfl, fun g' i h => absurd h (by omega)⟩
    case round =>
      obtain ⟨g, q, rfl, hg, rfl, hok⟩ := hrel
      by_cases hlt : g < n
      · obtain ⟨b1, off1, a1, n1, c1, rfl, hc1, hi1⟩ := (hd3.out.intss).at_ hlt
        have hn1 : n1 = nl := by rw [← hi1.1, ← HN.out]; exact HM.out.len g (by omega)
        subst hn1
        have hn4 : n1 ≤ 400 := by rw [← HN.out]; exact HM.out.f4
        have HOK := Lib.hid hok
        have HI1 := Lib.hid hi1
        clear hok hi1
        go_wp2_with fail
        go_loopw [26] (fun iv wr => ∃ i q : Nat, iv = .int .i64 i ∧ i ≤ n1 ∧ wr = w3.drewN q ∧ (∀ i', i' < i → iget (forb d).1 i' ≠ iget (forb d).1 (bTo d i' g))) (fun iv _ => n1 - (intOf iv).toNat)
        case atStart => exact ⟨0, q, rfl, Nat.zero_le _, rfl, fun i' h => absurd h (by omega)⟩
        case round =>
          obtain ⟨i, q2, rfl, hi, rfl, hrow⟩ := hrel
          by_cases hlti : i < n1
          · obtain ⟨b2, off2, rfl, hc2⟩ := HI1.out.at_ hlti
            have h1 := bTo_lt (man_leads HM.out) (show i < flg d by rw [HN.out]; exact hlti) (show g < d.length by omega)
            obtain ⟨y, hy⟩ : ∃ y, bTo d i g = y := ⟨_, rfl⟩
            rw [h1.2, hy] at hc2
            have hyN : y < n1 := by rw [← hy, ← HN.out]; exact h1.1
            obtain ⟨b3, off3, rfl, hcl⟩ := HLI.out.2.2 (by omega)
            have hci := hcl i hlti
            have hcy := hcl y hyN
            have HROW := Lib.hid hrow
            have HY := Lib.hid hy
            have hi0 : (i : Int) < (n1 : Int) := by omega
            have hy0 : (y : Int) < (n1 : Int) := by omega
            clear h1 hy hcl hrow
            by_cases heq : iget (forb d).1 i = iget (forb d).1 y
            · have hbe : (iget (forb d).1 i == iget (forb d).1 y) = true := by simp [heq]
              have hR0 : false = R := HR1.out false (fun hch => absurd (by rw [HY.out]; exact heq) (hch g i (by omega) (by rw [HN.out]; exact hlti))) (fun _ => rfl)
              subst hR0
              clear heq
              go_wp2_with fail
              go_quiet (fail)
              go_wp2
              exact bodyPost_ret (v := .tuple #[.bool false, .int .i64 0]) (by simp [results, Try.f14, go_sem]) rfl ⟨rfl, below_drewN (below_drewN HB3.out _) _⟩
            · have hbe : (iget (forb d).1 i == iget (forb d).1 y) = false := by simp [heq]
              have HNE := Lib.hid heq
              clear heq
              go_wp2_with fail
              go_quiet (fail)
              go_wp2
              go_roundw
              case rel => exact ⟨i + 1, _, by go_num, by omega, rfl, fun i' hi' => by
                by_cases e : i' = i
                · subst e; rw [HY.out]; exact HNE.out
                · exact HROW.out i' (by omega)⟩
              case measure => simp [intOf]; omega
          · obtain rfl : i = n1 := by omega
            have HROW := Lib.hid hrow
            clear hrow
            go_wp2_with fail
            go_roundw
            case rel => exact ⟨g + 1, _, by go_num, by omega, rfl, fun g' i' hg' hi' => by
              by_cases e : g' = g
              · subst e; exact HROW.out i' (by rw [← HN.out]; exact hi')
              · exact HOK.out g' i' (by omega) hi'⟩
            case measure => simp [intOf]; omega
      · obtain rfl : g = n := by omega
        have hch : ChOk d := fun g' i hg' hi' => hok g' i (by omega) hi'
        have hbe : ((m : Int) == 2) = decide (m = 2) := by
          by_cases h : m = 2
          · subst h; rfl
          · rw [decide_eq_false h, beq_eq_false_iff_ne]; omega
        have hR0 : decide (m = 2) = R := HR1.out _ (fun _ => by rw [HMM.out]) (fun h => absurd hch h)
        have HBE := Lib.hid hbe
        have HR0 := Lib.hid hR0
        clear hok hch hbe hR0
        go_wp2_with fail
        exact bodyPost_ret (v := .tuple #[.bool ((m : Int) == 2), .int .i64 0]) (by simp [results, Try.f14, go_sem]) rfl ⟨by rw [HBE.out, HR0.out], below_drewN HB3.out _⟩
end Go.Proofs.Ytmdhljleaijkbaa

/- Colourings of maniplexes that have one, the program's. guards: -/
namespace Go.Proofs.Ytmdhljleaijkbaa
open Go.RowKit

/-- the colours are those of a colouring -/
structure Colr (d : List (List Int)) (cl : Nat → Int) : Prop where
  zero : cl 0 = 0
  two : ∀ x, x < flg d → cl x = 0 ∨ cl x = 1
  mov : ∀ g x, g < d.length → x < flg d → cl (bTo d x g) = 1 - cl x
structure ColS (d : List (List Int)) (cl : Nat → Int) (L O : List Int) : Prop where
  len : L.length = flg d
  val : ∀ i, i < flg d → iget L i = -1 ∨ iget L i = cl i
  que : ∀ z ∈ O, ∃ x : Nat, z = (x : Int) ∧ x < flg d ∧ iget L x = cl x
theorem colour1_any (x : Int) (w : World) : Calls Try.prog 75 #[.int .i64 x] w fun e w' => e = .returned (.bool true) ∧ w = w' := by
  go_enter Try.func75, Try.ntmps75
  go_wp2
  go_ret
  exact ⟨rfl, rfl⟩
set_option maxRecDepth 100000 in
set_option maxHeartbeats 6400000 in
theorem coloured_any (mb n c N : Nat) (ao : Option Addr) (d : List (List Int)) (cl : Nat → Int) (w : World) (hm : Blk w mb 28 #[.slice ao n c]) (hd : RdSSc w (.slice ao n c) d) (hM : Man d) (hN : flg d = N) (hcl : Colr d cl) :
    Calls Try.prog 74 #[.pointer (some ⟨mb, 0, none⟩), .func (.func 75) #[] #[]] w fun e w' => ∃ v, e = .returned (.tuple #[v, .bool true]) ∧ Below w.heap.size w w' := by
  have HM := Lib.hid hM
  have HN := Lib.hid hN
  have HC := Lib.hid hcl
  have HD := Lib.hid hd
  have KM := Lib.hid hm
  have hdl := hd.intss.1
  have hd1 := hM.n1
  have hd5 := hM.n5
  have hN2 : 2 ≤ N := by rw [← hN]; exact hM.f2
  have hN4 : N ≤ 400 := by rw [← hN]; exact hM.f4
  have hcf : ∀ (args : Array Value) (w : World), (callFunc 75 args).run Try.prog w = .ok (.enter 75 args) w := fun _ _ => by rfl
  clear hM hN hcl hd hm
  go_enter Try.func74, Try.ntmps74
  have b2 := below_alloc1 w (.cells #[.int .i64 (-1)] 2)
  have HI2 := Lib.hid (show Ints (w.alloc (.cells #[.int .i64 (-1)] 2)) (some ⟨w.heap.size, 0, none⟩) 1 [-1] from Own.ints (zs := [-1]) (own_lit (us := [.int .i64 (-1)]) rfl (Nat.le_refl _) (by simp)))
  have KM2 := Lib.hid (KM.out.belowS b2)
  have HD2 := Lib.hid (HD.out.below b2)
  have B2 := Lib.hid b2
  have hz2 := b2.size
  clear b2 KM HD
  go_wp2_with fail
  generalize w.alloc (.cells #[.int .i64 (-1)] 2) = w2 at *
  refine (flagsI_any _ ao n c N d w2 KM2.out HD2.out.rd (by omega) HN.out (by omega)).mono ?_
  rintro e' w' ⟨rfl, hw⟩
  subst hw
  go_wp2_with fail
  refine (repeat_any _ 1 1 N [-1] w2 HI2.out (by omega) (by omega) (by omega) (by omega)).mono ?_
  rintro e' w3 ⟨ga, gc, rfl, o3, b3⟩
  rw [Nat.one_mul, repL_rep] at o3
  obtain ⟨gl, rfl, hglb, hgll, -, hcell3, hfr3⟩ := o3.form (by omega)
  have x0 : w3.cell? ⟨gl, 0, none⟩ = some (.int .i64 (-1)) := by rw [hcell3 0 (by omega), List.getElem?_map, List.getElem?_replicate, if_pos (by omega)]; rfl
  have f0 := hfr3 0
  obtain ⟨st, sg⟩ := o3.stored 0 (.int .i64 0)
  have B4 := Lib.hid (b3.grown sg b3.size (fun g e => by injection e with e; omega))
  have HS := Lib.hid (show ColS d cl ((List.replicate (flg d) (-1)).set 0 0) [0] from ⟨by simp, fun i hi => by
      rw [iget_setN (by rw [List.length_replicate, HN.out]; omega)]
      split
      · rename_i e; subst e; exact .inr HC.out.zero.symm
      · exact .inl (iget_rep hi), fun z hz => by
      simp at hz; subst hz
      exact ⟨0, rfl, by rw [HN.out]; omega, by rw [iget_setN (by rw [List.length_replicate, HN.out]; omega), if_pos rfl]; exact HC.out.zero.symm⟩⟩)
  have O4 := Lib.hid (show Own (w3.setCell ⟨gl, 0, none⟩ (.int .i64 0)) w2.heap.size 2 (some ⟨gl, 0, none⟩) N gc (((List.replicate (flg d) (-1)).set 0 0).map (Value.int .i64)) from by
    rw [HN.out, List.map_set]
    simpa using st)
  clear st sg o3 b3 hcell3 hfr3
  have hN1 : 0 < N := by omega
  rw [Nat.one_mul]
  go_upto_region 4 with fail
  generalize w3.setCell ⟨gl, 0, none⟩ (.int .i64 0) = w4 at *
  clear x0 f0
  have hz4 := B4.out.size
  have b5 := below_alloc1 w4 (.cells #[.int .i64 0] 2)
  have hQ := (own_lit (w := w4) (base := w4.heap.size) (E := 2) (us := [.int .i64 0]) rfl (Nat.le_refl _) (by simp)).que (by simp)
  have Q5 := Lib.hid hQ
  have O5 := Lib.hid (O4.out.below b5)
  have B5 := Lib.hid (B4.out.trans (b5.mono hz4))
  have hgl4 : gl < w4.heap.size := (O4.out.lt gl rfl).2
  obtain ⟨lq, hlq⟩ : ∃ lq, w4.heap.size = lq := ⟨_, rfl⟩
  have HLQ := Lib.hid hlq
  clear b5 B4 O4 hQ
  go_wp2_with fail
  generalize w4.alloc (.cells #[.int .i64 0] 2) = w5 at *
  rw [hlq] at Q5 hgl4
  have hz5 := B5.out.size
  have hlq5 : lq ≤ w5.heap.size := by exact Nat.le_of_lt (Q5.out.lt Nat.zero_lt_one lq rfl).2
  clear hlq
  go_loopw [7, 8] (fun kv qv wr => ∃ (qn qc : Nat) (qa : Option Addr) (L O : List Int), kv = .bool true ∧ qv = .slice qa qn qc ∧ ColS d cl L O ∧ Own wr w2.heap.size 2 (some ⟨gl, 0, none⟩) N gc (L.map (Value.int .i64)) ∧ Que wr lq 2 qa qn qc (O.map (Value.int .i64)) ∧ Below w2.heap.size w2 wr ∧ lq ≤ wr.heap.size ∧ 2 * unl L + qn ≤ 2 * N) (fun _ qv W => 2 * negs W gl N + slN qv)
  case atStart => exact ⟨1, 1, _, _, [0], rfl, rfl, HS.out, O5.out, Q5.out, B5.out, hlq5, by have := unl_start 0 hN1; rw [HN.out]; simp at this ⊢; omega⟩
  case round =>
    clear O5 Q5 B5 HS hz5 hlq5
    obtain ⟨qn, qc, qa, L, O, rfl, rfl, st, ol, oq, hb, hlw, hfew⟩ := hrel
    obtain ⟨wA, rfl⟩ : ∃ x, x = wr := ⟨_, rfl⟩
    have hqO : O.length = qn := by have := oq.1; simpa using this
    by_cases hq : 0 < qn
    · obtain ⟨gq, off, u, rfl, hu0, hcq, hgq1, hgq2⟩ := oq.head hq
      obtain ⟨z, hz⟩ : ∃ z, O[0]? = some z := ⟨_, List.getElem?_eq_getElem (by omega)⟩
      obtain ⟨x, rfl, hxN, hxl⟩ := st.que z (List.mem_of_getElem? hz)
      have hue : u = .int .i64 (x : Int) := by
        rw [List.getElem?_map, hz] at hu0
        exact (Option.some.inj hu0).symm
      subst hue
      have HST := Lib.hid st
      have HZ := Lib.hid hz
      have HXL := Lib.hid hxl
      have HUN := Lib.hid (negs_own ol)
      have OL := Lib.hid ol
      have OQ := Lib.hid oq
      have HB := Lib.hid hb
      have hgt : (0 : Int) < (qn : Int) := by omega
      have xm := (KM2.out.belowS hb).cell 0
      simp at xm
      clear st ol oq hz hu0 hxl
      go_wp2_with fail
      go_loopw [7, 8, 34] (fun bv qv kv wr => ∃ (k qn' qc' : Nat) (qa : Option Addr) (L' O' : List Int), bv = .bool true ∧ qv = .slice qa qn' qc' ∧ kv = .int .i64 k ∧ k ≤ n ∧ 0 < qn' ∧ ColS d cl L' O' ∧ iget L' x = cl x ∧ O'[0]? = some (x : Int) ∧ Own wr w2.heap.size 2 (some ⟨gl, 0, none⟩) N gc (L'.map (Value.int .i64)) ∧ Que wr lq 2 qa qn' qc' (O'.map (Value.int .i64)) ∧ Below w2.heap.size w2 wr ∧ lq ≤ wr.heap.size ∧ 2 * unl L' + qn' ≤ 2 * unl L + qn) (fun _ _ kv _ => n - (intOf kv).toNat)
      case atStart => exact ⟨0, qn, qc, _, L, O, rfl, rfl, rfl, Nat.zero_le _, hq, HST.out, HXL.out, HZ.out, OL.out, OQ.out, HB.out, hlw, Nat.le_refl _⟩
      case round =>
        clear HST HXL HZ OL OQ HB hb hlw xm
        obtain ⟨k, qn', qc', qa', L', O', rfl, rfl, rfl, hk, hq', hS, hLx, hO0, ol, oq, hb, hlw, hmu⟩ := hrel
        obtain ⟨wC, rfl⟩ : ∃ x, x = wr := ⟨_, rfl⟩
        by_cases hlt : k < n
        · obtain ⟨b1, off1, a1, n1, c1, rfl, hc1, hi1⟩ := (HD2.out.below hb).intss.at_ hlt
          have hn1 : n1 = N := by rw [← hi1.1, ← HN.out]; exact HM.out.len k (by omega)
          subst hn1
          have hto := bTo_lt (man_leads HM.out) hxN (g := k) (by omega)
          obtain ⟨y, hye⟩ : ∃ y, bTo d x k = y := ⟨_, rfl⟩
          rw [hye] at hto
          have hcy0 := HC.out.mov k x (by omega) hxN
          rw [hye] at hcy0
          have h2x := HC.out.two x hxN
          obtain ⟨b2, off2, rfl, hc2⟩ := hi1.at_ (show x < n1 by rw [← HN.out]; exact hxN)
          rw [hto.2] at hc2
          obtain ⟨gl', egl, -, -, -, hcl, hfl⟩ := ol.form (by omega)
          injection egl with egl
          injection egl with egl
          subst egl
          have hLl := hS.len
          have rowL : ∀ j, j < n1 → wC.cell? ⟨gl, j, none⟩ = some (.int .i64 (iget L' j)) := fun j hj => by rw [hcl j hj, List.getElem?_map, List.getElem?_eq_getElem (by rw [hLl, HN.out]; exact hj), iget_lt (by rw [hLl, HN.out]; exact hj)]; rfl
          have hyN : y < n1 := by rw [← HN.out]; exact hto.1
          have hxN' : x < n1 := by rw [← HN.out]; exact hxN
          have hcx := rowL x hxN'
          have hcy := rowL y hyN
          have hfy := hfl y
          rw [hLx] at hcx
          obtain ⟨t, ht⟩ : ∃ t, cl x = t := ⟨_, rfl⟩
          rw [ht] at hcx hcy0 h2x
          have hwr : IntKind.i64.wrap (1 - t) = 1 - t := IntWalk.i64_in _ (by omega)
          have hx0 : (x : Int) < (n1 : Int) := by omega
          have hy0 : (y : Int) < (n1 : Int) := by omega
          have hk0 : (k : Int) < (n : Int) := by omega
          have HSS := Lib.hid hS
          have OL := Lib.hid ol
          have OQ := Lib.hid oq
          have HB := Lib.hid hb
          have HLX := Lib.hid hLx
          have HTX := Lib.hid ht
          have HCY := Lib.hid hcy0
          have HO0 := Lib.hid hO0
          have HVY := Lib.hid (hS.val y hto.1)
          have h2t := Lib.hid h2x
          clear hS ol oq hb hye hto hi1 hcl hfl rowL hO0 hLx ht hcy0 h2x
          by_cases hneg : iget L' y < 0
          · have hdn : decide (iget L' y < 0) = true := decide_eq_true hneg
            go_wp2_with fail
            refine (colour1_any _ wC).mono ?_
            rintro e' w' ⟨rfl, hw⟩
            subst hw
            go_upto_region 17 with fail
            obtain ⟨st, sg⟩ := OL.out.stored y (.int .i64 (1 - t))
            have HUS := Lib.hid (unl_set (L := L') (y := y) (x := 1 - t) (by rw [hLl, HN.out]; exact hyN) hneg (by have := h2t.out; omega))
            have hB4 := Lib.hid (HB.out.grown sg HB.out.size (fun g e => by injection e with e; omega))
            have hcq : 0 < qc' := by have := OQ.out.2.1; omega
            have hQ4 := Lib.hid (OQ.out.same (w' := wC.setCell ⟨gl, y, none⟩ (.int .i64 (1 - t))) fun g eg => sg.block g ((OQ.out.lt hcq g eg).2) (fun e => by injection e with e; have := (OQ.out.lt hcq g eg).1; omega))
            have hO4 := Lib.hid (show Own (wC.setCell ⟨gl, y, none⟩ (.int .i64 (1 - t))) w2.heap.size 2 (some ⟨gl, 0, none⟩) n1 gc ((L'.set y (1 - t)).map (Value.int .i64)) from by rw [List.map_set]; exact st)
            have hlw4 : lq ≤ (wC.setCell ⟨gl, y, none⟩ (.int .i64 (1 - t))).heap.size := by have := sg.size; exact Nat.le_trans hlw this
            have hyl : y < L'.length := by rw [hLl, HN.out]; exact hyN
            have HNW := Lib.hid (show ColS d cl (L'.set y (1 - t)) (O' ++ [(y : Int)]) from ⟨by simp [hLl], fun i hi => by
                rw [iget_setN hyl]
                split
                · rename_i e; subst e; exact .inr HCY.out.symm
                · exact HSS.out.val i hi, fun z hz => by
                rw [List.mem_append] at hz
                rcases hz with hz | hz
                · obtain ⟨v, h1, h2, h3⟩ := HSS.out.que z hz
                  refine ⟨v, h1, h2, ?_⟩
                  rw [iget_setN hyl]
                  split
                  · rename_i e; subst e; exact HCY.out.symm
                  · exact h3
                · simp at hz; subst hz
                  exact ⟨y, rfl, by rw [HN.out]; exact hyN, by rw [iget_setN hyl, if_pos rfl]; exact HCY.out.symm⟩⟩)
            have HLX2 := Lib.hid (show iget (L'.set y (1 - t)) x = cl x by
              rw [iget_setN hyl]
              split
              · rename_i e; subst e; exact HCY.out.symm
              · exact HLX.out)
            clear st sg
            generalize wC.setCell ⟨gl, y, none⟩ (.int .i64 (1 - t)) = w6 at *
            go_wp2_with (at_builtin; refine wpList_apQ etI w6 rfl _ _ rfl lq qa' qn' qc' _ rfl hQ4.out hq' (.int .i64 (y : Int)) rfl rfl (by omega) hlw4 ?_; intro ao7 c7 w7 q7 g7 hat7)
            have Q7 := Lib.hid q7
            have O7 := Lib.hid (hO4.out.same (w' := w7) fun g eg => g7.block g (hO4.out.lt g eg).2 (fun e => by have := (hQ4.out.lt hcq g e.symm).1; have e2 : gl = g := (by simpa [bk] using eg); omega))
            have B7 := Lib.hid (hB4.out.grown g7 hB4.out.size (fun g e => by have := (hQ4.out.lt hcq g e).1; omega))
            have hl7 := g7.size
            clear q7 g7 hat7 hQ4 hO4 hB4
            go_roundw
            case rel => exact ⟨k + 1, qn' + 1, c7, ao7, _, _, rfl, rfl, by go_num, by omega, by omega, HNW.out, HLX2.out, by rw [List.getElem?_append_left (List.getElem?_eq_some_iff.1 HO0.out).1]; exact HO0.out, O7.out, by rw [List.map_append]; exact Q7.out, B7.out, by omega, by have := HUS.out; omega⟩
            case measure => simp [intOf]; omega
          · have hdn : decide (iget L' y < 0) = false := decide_eq_false hneg
            have heq : iget L' y = 1 - t := by have := HVY.out; have := HCY.out; omega
            have hne : (iget L' y != 1 - t) = false := by simp [heq]
            clear heq
            go_wp2_with fail
            refine (colour1_any _ wC).mono ?_
            rintro e' w' ⟨rfl, hw⟩
            subst hw
            go_wp2
            go_roundw
            case rel => exact ⟨k + 1, qn', qc', qa', L', O', rfl, rfl, by go_num, by omega, hq', HSS.out, HLX.out, HO0.out, OL.out, OQ.out, HB.out, hlw, hmu⟩
            case measure => simp [intOf]; omega
        · obtain rfl : k = n := by omega
          have hNX := Lib.hid (show ColS d cl L' (O'.drop 1) from ⟨hS.len, hS.val, fun z hz => hS.que z (List.mem_of_mem_drop hz)⟩)
          obtain ⟨g2, off2, u2, rfl, -, -, -, -⟩ := oq.head hq'
          obtain ⟨q2, rfl⟩ : ∃ q, qn' = q + 1 := ⟨qn' - 1, by omega⟩
          have hqc := oq.2.1
          have hcb := oq.2.2.1
          have OQ := Lib.hid oq
          have OL := Lib.hid ol
          have HB := Lib.hid hb
          have HUA := Lib.hid (negs_own ol)
          clear hS oq ol hb hO0 hLx
          have hge : (1 : Int) ≤ (qc' : Int) := by omega
          have hge2 : (1 : Int) ≤ ((q2 + 1 : Nat) : Int) := by omega
          have hmap : (O'.drop 1).map (Value.int .i64) = (O'.map (Value.int .i64)).drop 1 := List.map_drop
          by_cases hc1 : qc' = 1
          · obtain ⟨hT, hq20⟩ := OQ.out.tail0 (bo := some ⟨g2, off2, none⟩) hc1
            subst hc1
            subst hq20
            have HTQ := Lib.hid hT
            clear hT
            go_wp2
            refine ⟨⟨0, 0, _, _, _, rfl, rfl, hNX.out, OL.out, by rw [hmap]; exact HTQ.out, HB.out, hlw, by omega⟩, ?_⟩
            rw [HUA.out, HUN.out]
            show 2 * unl L' + 0 < 2 * unl L + qn
            omega
          · have HTQ := Lib.hid OQ.out.tail
            go_wp2
            refine ⟨⟨q2, qc' - 1, _, _, _, rfl, rfl, hNX.out, OL.out, by rw [hmap]; exact HTQ.out, HB.out, hlw, by omega⟩, ?_⟩
            rw [HUA.out, HUN.out]
            show 2 * unl L' + q2 < 2 * unl L + qn
            omega
    · obtain rfl : qn = 0 := by omega
      have HB0 := Lib.hid (B2.out.trans (hb.mono hz2))
      clear st ol oq hb
      go_wp2
      exact bodyPost_ret (v := .tuple #[.slice (some ⟨gl, 0, none⟩) N gc, .bool true]) (by simp [results, Try.f74, go_sem]) rfl ⟨_, rfl, HB0.out⟩
end Go.Proofs.Ytmdhljleaijkbaa

/- IsRotation, the program's and the reference's. -/
namespace Go.Proofs.Ytmdhljleaijkbaa
open Go.RowKit

end Go.Proofs.Ytmdhljleaijkbaa

/- Walks in names: bits of masks. No program in sight. -/
namespace Go.Proofs.Ytmdhljleaijkbaa
open Go.RowKit

section
variable {P : Program} {nt : Nat} {S S' S2 : St} {t : Nat} {ty : TypeId} {ps : String} {af : Array Edge} {gd : Option (Nat × Bool)} {x y : Operand} {o : Oper}
/-- a step behind a loss of knowledge -/
theorem Stp.pre (h : Wk S S') (k : Stp P nt o S' S2) : Stp P nt o S S2 :=
  ⟨fun w0 ω0 a w Q hs => k.go w0 ω0 a w Q (h.go _ _ _ _ _ hs)⟩
end
end Go.Proofs.Ytmdhljleaijkbaa

/- A memory of names: a call that turns one vector of the caller's in place; quotients and remainders. No program in sight. -/
namespace Go.Proofs.Ytmdhljleaijkbaa
open Go.RowKit

section
variable {P : Program} {nt : Nat} {S S' S2 : St} {t : Nat} {ty : TypeId} {ps : String} {af : Array Edge} {gd : Option (Nat × Bool)} {x y : Operand} {o : Oper}
theorem stp_quoN {xt yt : TypeId} {a b : Nat} (ht : Nat.blt t nt = true) (hx : S.op x = some (vv (I6 (a : Int)))) (hy : S.op y = some (vv (I6 (b : Int)))) (hb : 0 < b) (ha : a < 1000000000000) :
    Stp P nt ⟨some t, .binOp .quo xt x y yt, ty, ps, af, gd⟩ S (S.put t (vv (I6 ((a / b : Nat) : Int)))) :=
  Stp.pure rfl ht fun _ _ η _ s w hs => by
    refine ⟨I6 ((a / b : Nat) : Int), ?_, rfl⟩
    have hle := Nat.div_le_self a b
    have e : Op.intDiv .quo .i64 (a : Int) (b : Int) = pure (I6 ((a / b : Nat) : Int)) := by
      have h1 : (a : Int).tdiv (b : Int) = ((a / b : Nat) : Int) := rfl
      have h2 : ∀ q : Nat, q ≤ a → IntKind.i64.wrap (q : Int) = (q : Int) := fun q hq => IntWalk.i64_in _ (by omega)
      have h3 : ¬ (b : Int) = 0 := by omega
      unfold Op.intDiv
      rw [if_neg h3]
      show pure (Value.int .i64 (IntKind.i64.wrap ((a : Int).tdiv (b : Int)))) = _
      rw [h1, h2 _ hle]
    simp [execOp, hs.opV hx, hs.opV hy, eqGuard, binOp, e]
theorem stp_remN {xt yt : TypeId} {a b : Nat} (ht : Nat.blt t nt = true) (hx : S.op x = some (vv (I6 (a : Int)))) (hy : S.op y = some (vv (I6 (b : Int)))) (hb : 0 < b) (ha : a < 1000000000000) :
    Stp P nt ⟨some t, .binOp .rem xt x y yt, ty, ps, af, gd⟩ S (S.put t (vv (I6 ((a % b : Nat) : Int)))) :=
  Stp.pure rfl ht fun _ _ η _ s w hs => by
    refine ⟨I6 ((a % b : Nat) : Int), ?_, rfl⟩
    have hle := Nat.mod_le a b
    have e : Op.intDiv .rem .i64 (a : Int) (b : Int) = pure (I6 ((a % b : Nat) : Int)) := by
      have h1 : (a : Int).tmod (b : Int) = ((a % b : Nat) : Int) := rfl
      have h3 : ¬ (b : Int) = 0 := by omega
      unfold Op.intDiv
      rw [if_neg h3]
      show pure (Value.int .i64 ((a : Int).tmod (b : Int))) = _
      rw [h1]
    simp [execOp, hs.opV hx, hs.opV hy, eqGuard, binOp, e]
end
end Go.Proofs.Ytmdhljleaijkbaa

/- ReverseDiagram: the reference's l12Turned, slices.Clone and slices.Reverse at []int64. -/
namespace Go.Proofs.Ytmdhljleaijkbaa
open Go.RowKit

/-- a list the other way round; closed to simp -/
def turned (zs : List Int) : List Int := zs.reverse
end Go.Proofs.Ytmdhljleaijkbaa

/- slices.Reverse at []int64: it turns a row of the call's own round, in place. -/
namespace Go.Proofs.Ytmdhljleaijkbaa
open Go.RowKit

end Go.Proofs.Ytmdhljleaijkbaa

/- Comparisons of lists, the greatest one of an ascending list, the greatest common divisor. -/
namespace Go.Proofs.Ytmdhljleaijkbaa
open Go.RowKit

set_option maxHeartbeats 400000 in
theorem equal_any (a b : Option Addr) (na nb ca cb : Nat) (za zb : List Int) (w : World) (ha : Ints w a na za) (hb : Ints w b nb zb) :
    Calls Try.prog 77 #[.slice a na ca, .slice b nb cb] w fun e w' => e = .returned (.bool (decide (za = zb))) ∧ ∃ m, w' = w.drewN m := by
  have hla := ha.2.1
  have hlb := hb.2.1
  by_cases hl : na = nb
  · subst hl
    have hl' : ((na : Int) != (na:Int)) = false := by simp
    go_enter Try.func77, Try.ntmps77
    go_wp2
    go_loopw [13] (fun i wr => ∃ k : Nat, k ≤ na ∧ i = .int .i64 k ∧ za.take k = zb.take k ∧ ∃ m, wr = w.drewN m) (fun i _ => na - (intOf i).toNat)
    case atStart => exact ⟨0, Nat.zero_le _, rfl, rfl, 0, rfl⟩
    case round =>
      obtain ⟨k, hk, rfl, hpre, m, rfl⟩ := hrel
      have HP := Lib.hid hpre
      clear hpre
      by_cases hlt : k < na
      · obtain ⟨ba, oa, rfl, hca⟩ := ha.at_ hlt
        obtain ⟨bb, ob, rfl, hcb⟩ := hb.at_ hlt
        have h1 := ha.1
        have h2 := hb.1
        have H1 := Lib.hid h1
        have H2 := Lib.hid h2
        clear h1 h2
        by_cases he : iget za k = iget zb k
        · have he' : (iget za k != iget zb k) = false := by simp [he]
          have HE := Lib.hid he
          clear he
          go_wp2_with fail
          go_quiet (fail)
          go_wp2
          go_roundw
          case rel => exact ⟨k + 1, by omega, by go_num, by rw [take_iget (by rw [H1.out]; omega), take_iget (by rw [H2.out]; omega), HP.out, HE.out], _, rfl⟩
          case measure => simp [intOf]; omega
        · have he' : (iget za k != iget zb k) = true := by simp [he]
          have HE := Lib.hid he
          clear he
          go_wp2_with fail
          go_quiet (fail)
          go_wp2
          go_ret
          exact ⟨ret_bool (by symm; rw [decide_eq_false_iff_not]; intro e; exact HE.out (by rw [e])), _, World.drewN_drewN _ _ _⟩
      · obtain rfl : k = na := by omega
        have h1 := ha.1
        have h2 := hb.1
        have hab : za = zb := by have := HP.out; rwa [List.take_of_length_le (by omega), List.take_of_length_le (by omega)] at this
        have HA := Lib.hid hab
        clear h1 h2 hab
        go_wp2
        go_ret
        exact ⟨ret_bool (by symm; simpa using HA.out), _, rfl⟩
  · have hl' : ((na : Int) != (nb:Int)) = true := by simp; omega
    go_enter Try.func77, Try.ntmps77
    go_wp2
    go_ret
    refine ⟨ret_bool ?_, 0, rfl⟩
    symm
    rw [decide_eq_false_iff_not]
    intro e
    exact hl (by rw [← ha.1, ← hb.1, e])


end Go.Proofs.Ytmdhljleaijkbaa

/- A memory of names: a vector takes another name; an append of nothing. No program in sight. -/
namespace Go.Proofs.Ytmdhljleaijkbaa
open Go.RowKit

section
variable {P : Program} {nt : Nat} {S : St} {t : Nat} {ty : TypeId} {ps : String} {af : Array Edge} {gd : Option (Nat × Bool)} {x y : Operand}
end
end Go.Proofs.Ytmdhljleaijkbaa

/- A memory of names: a literal of three rows; the other one of a pair (x ^ 1). No program in sight. -/
namespace Go.Proofs.Ytmdhljleaijkbaa
open Go.RowKit

section
variable {P : Program} {nt : Nat} {S : St} {t : Nat} {ty : TypeId} {ps : String} {af : Array Edge} {gd : Option (Nat × Bool)} {x y : Operand}
theorem stp_lit3R {T E F z0 z1 z2 m0 m1 m2 : Nat} {x0 x1 x2 : Operand} {v0 v1 v2 : List Value} (ht : Nat.blt t nt = true) (hT : elZ P T E 1 = true) (hx0 : S.op x0 = some (o1 (.sl z0 0 m0))) (hx1 : S.op x1 = some (o1 (.sl z1 0 m1))) (hx2 : S.op x2 = some (o1 (.sl z2 0 m2)))
    (hz0 : S.ch z0 = some ⟨true, F, 1, .vals v0⟩) (hz1 : S.ch z1 = some ⟨true, F, 1, .vals v1⟩) (hz2 : S.ch z2 = some ⟨true, F, 1, .vals v2⟩) (hm0 : v0.length = m0) (hm1 : v1.length = m1) (hm2 : v2.length = m2) (h01 : Nat.beq z0 z1 = false) (h02 : Nat.beq z0 z2 = false) (h12 : Nat.beq z1 z2 = false) (hzt : (!(Nat.beq z0 t) && (!(Nat.beq z1 t) && !(Nat.beq z2 t))) = true) :
    Stp P nt ⟨some t, .buildSlice T 3 #[(0, x0), (1, x1), (2, x2)], ty, ps, af, gd⟩ S (((((S.rm z0).rm z1).rm z2).new t ⟨true, E, 1, .rows F [v0, v1, v2] []⟩).put t (o1 (.sl t 0 3))) :=
  Stp.of _ fun w0 ω0 η ω a w hs => by
    have n01 : z0 ≠ z1 := fun e => by rw [e] at h01; simp at h01
    have n02 : z0 ≠ z2 := fun e => by rw [e] at h02; simp at h02
    have n12 : z1 ≠ z2 := fun e => by rw [e] at h12; simp at h12
    subst hm0 hm1 hm2
    obtain ⟨i, zz, k1, k2, k3, k4, k5, k6⟩ := elZ_spec hT
    have d0 : Den1 η (.sl z0 0 v0.length) (a.eval x0) := hs.opv hx0
    have d1 : Den1 η (.sl z1 0 v1.length) (a.eval x1) := hs.opv hx1
    have d2 : Den1 η (.sl z2 0 v2.length) (a.eval x2) := hs.opv hx2
    have o0 : (a.eval x0).oneCell' = true := d0.one fun v hv => by cases hv
    have o1' : (a.eval x1).oneCell' = true := d1.one fun v hv => by cases hv
    have o2 : (a.eval x2).oneCell' = true := d2.one fun v hv => by cases hv
    obtain ⟨e0, p0, q0, r0⟩ := hs.chunk hz0
    obtain ⟨e1, p1, q1, r1⟩ := hs.chunk hz1
    obtain ⟨e2, p2, q2, r2⟩ := hs.chunk hz2
    have q0 : e0.k = 1 := q0
    have q1 : e1.k = 1 := q1
    have q2 : e2.k = 1 := q2
    have r0 : VecO ω w (z0, none) e0 F v0.length (cellsOK η ω w true z0 (.vals v0)) := r0
    have r1 : VecO ω w (z1, none) e1 F v1.length (cellsOK η ω w true z1 (.vals v1)) := r1
    have r2 : VecO ω w (z2, none) e2 F v2.length (cellsOK η ω w true z2 (.vals v2)) := r2
    obtain ⟨a0, ha0, s0, _⟩ := d0.2 e0 p0
    obtain ⟨a1, ha1, s1, _⟩ := d1.2 e1 p1
    obtain ⟨a2, ha2, s2, _⟩ := d2.2 e2 p2
    refine ⟨.slice (some ⟨w.heap.size, 0, none⟩) 3 3, w.alloc (.cells #[a.eval x0, a.eval x1, a.eval x2] E), ?_, ?_⟩
    · simp [execOp, Instr.buildSlice, run_underlying k1, sizeOf, typeInfo, k2, k3, zeroValue, k5, Instr.fill, newRow, cells_one o0, cells_one o1', cells_one o2, range3]
    · let ω' : Own? := fun b => if b = w.heap.size then some (t, none) else if ω b = some (z0, none) then some (t, some 0) else if ω b = some (z1, none) then some (t, some 1) else if ω b = some (z2, none) then some (t, some 2) else ω b
      have g0 : ∀ b, b < w.heap.size → ω b = some (z0, none) → ω' b = some (t, some 0) := fun b hb h => by simp only [ω', if_neg (Nat.ne_of_lt hb), h, if_true]
      have g1 : ∀ b, b < w.heap.size → ω b = some (z1, none) → ω' b = some (t, some 1) := fun b hb h => by
        simp only [ω', if_neg (Nat.ne_of_lt hb), h]
        rw [if_neg (by simp; exact fun e => n01 e.symm)]; simp
      have g2 : ∀ b, b < w.heap.size → ω b = some (z2, none) → ω' b = some (t, some 2) := fun b hb h => by
        simp only [ω', if_neg (Nat.ne_of_lt hb), h]
        rw [if_neg (by simp; exact fun e => n02 e.symm), if_neg (by simp; exact fun e => n12 e.symm)]; simp
      have calm : Calm (((S.rm z0).rm z1).rm z2) ω w ω' (w.alloc (.cells #[a.eval x0, a.eval x1, a.eval x2] E)) := ⟨rfl, rfl, rfl, by simp, fun b hb hl => by
        refine ⟨Below.heap_alloc w _ b hb, ?_⟩
        have hne : ∀ z, (((S.rm z0).rm z1).rm z2).ch z = none → ω b ≠ some (z, none) := fun z hz => by
          rcases hl with h0 | ⟨y, j, c, h0, h1⟩
          · rw [h0]; simp
          · rw [h0]
            intro e
            simp at e; rw [e.1, hz] at h1; cases h1
        have c0 : (((S.rm z0).rm z1).rm z2).ch z0 = none := by simp [ch_rm]
        have c1 : (((S.rm z0).rm z1).rm z2).ch z1 = none := by simp [ch_rm]
        have c2 : (((S.rm z0).rm z1).rm z2).ch z2 = none := by simp [ch_rm]
        simp only [ω', if_neg (Nat.ne_of_lt hb), if_neg (hne _ c0), if_neg (hne _ c1), if_neg (hne _ c2)]⟩
      let R : Nat → Hd := fun j => if j = 0 then e0 else if j = 1 then e1 else e2
      have key : ChIs ((((η.drop z0).drop z1).drop z2).new t ⟨some ⟨w.heap.size, 0, none⟩, 3, 1⟩ R) ω' (w.alloc (.cells #[a.eval x0, a.eval x1, a.eval x2] E)) t ⟨some ⟨w.heap.size, 0, none⟩, 3, 1⟩ ⟨true, E, 1, .rows F [v0, v1, v2] []⟩ := by
        refine ⟨rfl, .inr ⟨w.heap.size, 0, _, rfl, by simp only [ω', if_true], heap_alloc_new w _, ⟨rfl, rfl⟩, by simp [Dat.len], by simp [maxLen], fun j hj => ?_⟩⟩
        match j, hj with
        | 0, _ =>
          refine ⟨a.eval x0, by simp, o0, fun _ vs' hvs' => ?_⟩
          simp at hvs'; subst hvs'
          have hr : ((((η.drop z0).drop z1).drop z2).new t ⟨some ⟨w.heap.size, 0, none⟩, 3, 1⟩ R).r t 0 = e0 := by simp [Env.new, R]
          rw [hr]
          exact ⟨by rw [ha0, s0 rfl, Nat.sub_zero], q0, VecO.give r0 fun b hb hob => ⟨Below.heap_alloc w _ b hb, g0 b hb hob⟩⟩
        | 1, _ =>
          refine ⟨a.eval x1, by simp, o1', fun _ vs' hvs' => ?_⟩
          simp at hvs'; subst hvs'
          have hr : ((((η.drop z0).drop z1).drop z2).new t ⟨some ⟨w.heap.size, 0, none⟩, 3, 1⟩ R).r t 1 = e1 := by simp [Env.new, R]
          rw [hr]
          exact ⟨by rw [ha1, s1 rfl, Nat.sub_zero], q1, VecO.give r1 fun b hb hob => ⟨Below.heap_alloc w _ b hb, g1 b hb hob⟩⟩
        | 2, _ =>
          refine ⟨a.eval x2, by simp, o2, fun _ vs' hvs' => ?_⟩
          simp at hvs'; subst hvs'
          have hr : ((((η.drop z0).drop z1).drop z2).new t ⟨some ⟨w.heap.size, 0, none⟩, 3, 1⟩ R).r t 2 = e2 := by simp [Env.new, R]
          rw [hr]
          exact ⟨by rw [ha2, s2 rfl, Nat.sub_zero], q2, VecO.give r2 fun b hb hob => ⟨Below.heap_alloc w _ b hb, g2 b hb hob⟩⟩
        | j + 3, hj => exact absurd hj (by simp [Dat.len])
      exact ⟨_, _, ((((hs.drop z0).drop z1).drop z2).lay calm key).putV (by simpa using ht) den_newsl⟩
end
end Go.Proofs.Ytmdhljleaijkbaa

/- The map of a rotation, on lists; rotations in names. -/
namespace Go.Proofs.Ytmdhljleaijkbaa
open Go.RowKit

/-- the dart on the other side -/
def othN (d : Nat) : Nat := if d % 2 = 0 then d + 1 else d - 1
structure Tab where
  a : List Int
  b : List Int
  c : List Int
def Tab.rows (T : Tab) : List (List Int) := [T.a, T.b, T.c]
end Go.Proofs.Ytmdhljleaijkbaa

/- A memory of names: a struct of one slice. No program in sight. -/
namespace Go.Proofs.Ytmdhljleaijkbaa
open Go.RowKit

section
variable {P : Program} {nt : Nat} {S : St} {t : Nat} {ty : TypeId} {ps : String} {af : Array Edge} {gd : Option (Nat × Bool)}
/-- a struct of one slice -/
theorem stp_buildS1 {T : TypeId} {x0 : Operand} {b0 : A1} {n0 : Nat} (ht : Nat.blt t nt = true) (hx0 : S.op x0 = some (o1 b0)) (hl0 : b0.len = some n0)
    (hb : ∀ ao n c, P.built T [(0, .slice ao n c)] = some #[.slice ao n c]) :
    Stp P nt ⟨some t, .build T #[(0, x0)], ty, ps, af, gd⟩ S (S.put t (.s (.agg [b0]))) :=
  Stp.of _ fun w0 ω0 η ω a w hs => by
    have d0 : Den1 η b0 (a.eval x0) := hs.opv hx0
    obtain ⟨ao, c, e0⟩ := d0.len_ hl0
    refine ⟨.agg #[a.eval x0], w, ?_, η, ω, hs.putV (by simpa using ht) (⟨_, rfl, by simp, fun j b hb => ?_⟩ : Den2 η (.agg [b0]) _)⟩
    · simp only [execOp]
      have := run_build w T #[(0, .slice ao n0 c)] _ (hb ao n0 c)
      simp [e0, this]
    · match j, hb with
      | 0, hb => simp at hb; subst hb; exact ⟨_, by simp, d0⟩
      | j + 1, hb => simp at hb
end
end Go.Proofs.Ytmdhljleaijkbaa

/- The map of a rotation: the program's. -/
namespace Go.Proofs.Ytmdhljleaijkbaa
open Go.RowKit

theorem oth_bits (d : Nat) (h : d < 1000000) : IntKind.i64.wrap ((BitVec.ofInt 64 (d : Int) ^^^ BitVec.ofInt 64 1).toNat : Int) = ((othN d : Nat) : Int) := by
  have h1 : (BitVec.ofInt 64 (d : Int)).toNat = d := by
    rw [BitVec.ofInt_natCast, BitVec.toNat_ofNat]; exact Nat.mod_eq_of_lt (by omega)
  have h2 : (BitVec.ofInt 64 (1 : Int)).toNat = 1 := rfl
  have h3 : d ^^^ 1 = othN d := by
    unfold othN
    apply Nat.eq_of_testBit_eq
    intro j
    rw [Nat.testBit_xor]
    cases j with
    | zero =>
      by_cases e : d % 2 = 0
      · rw [if_pos e]; simp [Nat.testBit_zero, e]; omega
      · rw [if_neg e]
        have h4 : d % 2 = 1 := by omega
        have h5 : (d - 1) % 2 = 0 := by omega
        simp [Nat.testBit_zero, h4, h5]
    | succ j =>
      rw [Nat.testBit_succ, Nat.testBit_succ, Nat.testBit_succ]
      by_cases e : d % 2 = 0
      · rw [if_pos e, show (d + 1) / 2 = d / 2 by omega]; simp
      · rw [if_neg e, show (d - 1) / 2 = d / 2 by omega]; simp
  rw [BitVec.toNat_xor, h1, h2, h3, IntKind.wrap_i64]
  have : othN d ≤ d + 1 := by unfold othN; split <;> omega
  omega
section
variable {P : Program} {nt : Nat} {S : St} {t : Nat} {ty : TypeId} {ps : String} {af : Array Edge} {gd : Option (Nat × Bool)} {x : Operand}
theorem stp_oth {xt yt : TypeId} {d : Nat} (ht : Nat.blt t nt = true) (hx : S.op x = some (vv (I6 (d : Int)))) (hd : d < 1000000) :
    Stp P nt ⟨some t, .binOp .xor xt x (.const (I6 1)) yt, ty, ps, af, gd⟩ S (S.put t (vv (I6 ((othN d : Nat) : Int)))) :=
  Stp.pure rfl ht fun _ _ η _ s w hs => by
    refine ⟨I6 ((othN d : Nat) : Int), ?_, rfl⟩
    have hb' := oth_bits d hd
    have e : Op.intBits .xor .i64 (d : Int) 1 = pure (I6 ((othN d : Nat) : Int)) := by rw [← hb']; rfl
    have he : s.eval (.const (I6 1)) = I6 1 := rfl
    simp [execOp, hs.opV hx, he, eqGuard, binOp, e]
end
abbrev mBox : Ch := ⟨true, 28, 1, .flat [.val (.slice none 0 0)]⟩
end Go.Proofs.Ytmdhljleaijkbaa

/- Forms of maniplexes, the reference's: l01Back, l02Numbers, l02Renumber, l02Form. -/
namespace Go.Proofs.Ytmdhljleaijkbaa
open Go.RowKit

/-- values put at places -/
def putL (N : Nat) (g : Nat → Nat) (v : Nat → Int) (m : Nat) : List Int := (List.range m).foldl (fun l i => l.set (g i) (v i)) (List.replicate N 0)
theorem putL_zero (N : Nat) (g : Nat → Nat) (v : Nat → Int) : putL N g v 0 = List.replicate N 0 := rfl
theorem putL_succ (N : Nat) (g : Nat → Nat) (v : Nat → Int) (m : Nat) : putL N g v (m + 1) = (putL N g v m).set (g m) (v m) := by unfold putL; rw [List.range_succ, List.foldl_append]; rfl
theorem putL_len (N : Nat) (g : Nat → Nat) (v : Nat → Int) : ∀ m, (putL N g v m).length = N
  | 0 => by simp [putL_zero]
  | m + 1 => by rw [putL_succ, List.length_set]; exact putL_len N g v m
theorem putL_get {N : Nat} {g : Nat → Nat} {v : Nat → Int} {M : Nat} (hg : ∀ i, i < M → g i < N) (hi : ∀ i j, i < M → j < M → g i = g j → i = j) : ∀ m, m ≤ M → ∀ i, i < m → iget (putL N g v m) (g i) = v i
  | 0, _, i, h => by omega
  | m + 1, hm, i, h => by
    rw [putL_succ]
    have hl := putL_len N g v m
    by_cases e : i = m
    · subst e
      simp [iget, hl, hg i (by omega)]
    · have hne : g m ≠ g i := fun h' => e (hi m i (by omega) (by omega) h').symm
      have := putL_get (v := v) hg hi m (by omega) i (by omega)
      rw [← this]
      simp [iget, List.getElem?_set, hne]
def backL (O : List Int) : List Int := putL O.length (fun i => (iget O i).toNat) (fun i => (i : Int)) O.length
def fRow (p r : List Int) : List Int := putL p.length (fun f => (iget p f).toNat) (fun f => iget p (iget r f).toNat) p.length
def formL (T : List (List Int)) (p : List Int) : List (List Int) := T.map (fRow p)
set_option maxRecDepth 100000 in
theorem backS_fc (O : List Int) (N : Nat) (hl : O.length = N) (hin : ∀ i, i < N → 0 ≤ iget O i ∧ iget O i < N) (hN : N ≤ 1000000) :
    FC Try.prog 124 [(1003, wRo O)] [o1 (.sl 1003 0 N)] [(7, leOw (backL O))] (o1 (.sl 7 0 N)) [] := by
  have hO : N ≤ (ivals O).length := by rw [ivals_len, hl]; exact Nat.le_refl _
  unfold backL
  rw [hl]
  refine fc_enter (nt := 22) Try.func124 rfl rfl (by simp) fun w0 ω0 => ?_
  (refine goes_seq ?_; refine goes_region ?_; apply run_step rfl; (exact stp_assign rfl rfl); refine run_nil ?_; refine fin_seq ?_; refine goes_seq ?_; refine goes_region ?_; apply run_step rfl; (exact stp_move rfl rfl); apply run_step rfl; (exact stp_len rfl rfl rfl (by as_aux_lemma => kernel_rfl)); apply run_step rfl; (exact stp_makeI (E := 2) rfl (by as_aux_lemma => kernel_rfl) (by as_aux_lemma => kernel_rfl) rfl rfl rfl rfl (by omega)); apply run_step rfl; (exact stp_assign rfl rfl); refine run_nil ?_; refine fin_seq ?_; refine goes_seq ?_; refine goes_seq ?_; refine goes_region ?_; apply run_step rfl; (exact stp_assign rfl rfl); refine run_nil ?_; refine fin_seq ?_; refine goes_block ?_)
  refine goes_loop (fun i : Nat => St.of [(0, o1 (.sl 1003 0 N)), (3, o1 (.sl 7 0 N)), (4, vv (I6 i))] [(1003, wRo O), (7, leOw (putL N (fun i => (iget O i).toNat) (fun i => (i : Int)) i))]) (fun i => i ≤ N) (fun i => N - i) 0 (Nat.zero_le _) (Wk.of ⟨rfl, rfl, rfl, trivial⟩ ⟨rfl, rfl, trivial⟩ trivial) ?_
  intro i hi
  have hs := putL_succ N (fun i => (iget O i).toNat) (fun i => (i : Int)) i
  have hL := putL_len N (fun i => (iget O i).toNat) (fun i => (i : Int)) i
  obtain ⟨L, hLe⟩ : ∃ L, putL N (fun i => (iget O i).toNat) (fun i => (i : Int)) i = L := ⟨_, rfl⟩
  rw [hLe] at hs hL ⊢
  have hLi : N ≤ (ivals L).length := by rw [ivals_len, hL]; exact Nat.le_refl _
  (refine goes_seq ?_; refine goes_seq ?_; refine goes_region ?_; apply run_step rfl; (exact stp_move rfl rfl); apply run_step rfl; (exact stp_move rfl rfl); apply run_step rfl; (exact stp_len rfl rfl rfl (by as_aux_lemma => kernel_rfl)); apply run_step rfl; (exact stp_bin rfl rfl rfl rfl); refine run_nil ?_; refine fin_seq ?_)
  refine goes_if rfl (fun h => ?_) (fun h => ?_)
  · have hiN : i < N := by omega
    obtain ⟨d, hd⟩ := Int.eq_ofNat_of_zero_le (hin i hiN).1
    have hdN : d < N := by have := (hin i hiN).2; omega
    rw [hd, Int.toNat_natCast] at hs
    have gi : (ivals O)[i]? = some (I6 (d : Int)) := by rw [ivals_get (by omega), hd]
    (refine goes_skip ?_; refine fin_seq ?_; refine goes_seq ?_; refine goes_block ?_; refine goes_region ?_; apply run_step rfl; (exact stp_move rfl rfl); apply run_step rfl; (exact stp_move rfl rfl); apply run_step rfl; (exact stp_move rfl rfl); apply run_step rfl; (first | exact stp_ix (j := i) rfl rfl rfl rfl rfl (by as_aux_lemma => kernel_rfl) rfl hiN hO | exact stp_ix (j := d) rfl rfl rfl rfl rfl (by as_aux_lemma => kernel_rfl) rfl hdN hLi | exact stp_stI rfl rfl rfl rfl rfl (by omega) (by as_aux_lemma => kernel_rfl)); apply run_step rfl; (exact stp_loadV rfl (by as_aux_lemma => kernel_rfl) rfl rfl rfl (by first | assumption | exact ivals_get (by assumption) | exact irows_get (by assumption) | exact ivals_get (by omega) | exact irows_get (by omega) | rfl)); apply run_step rfl; (exact stp_move rfl rfl); apply run_step rfl; (first | exact stp_ix (j := i) rfl rfl rfl rfl rfl (by as_aux_lemma => kernel_rfl) rfl hiN hO | exact stp_ix (j := d) rfl rfl rfl rfl rfl (by as_aux_lemma => kernel_rfl) rfl hdN hLi | exact stp_stI rfl rfl rfl rfl rfl (by omega) (by as_aux_lemma => kernel_rfl)); apply run_step rfl; (first | exact stp_ix (j := i) rfl rfl rfl rfl rfl (by as_aux_lemma => kernel_rfl) rfl hiN hO | exact stp_ix (j := d) rfl rfl rfl rfl rfl (by as_aux_lemma => kernel_rfl) rfl hdN hLi | exact stp_stI rfl rfl rfl rfl rfl (by omega) (by as_aux_lemma => kernel_rfl)); refine run_nil ?_; refine fin_block ?_; refine fin_seq ?_; refine goes_region ?_; apply run_step rfl; (exact stp_move rfl rfl); apply run_step rfl; (exact stp_add rfl rfl rfl (by first | exact IntWalk.i64_in _ (by omega) | rfl)); apply run_step rfl; (exact stp_assign rfl rfl); refine run_nil ?_)
    exact fin_round (i + 1) hiN (by show N - (i + 1) < N - i; omega) (Wk.of ⟨rfl, rfl, rfl, trivial⟩ ⟨rfl, congrArg (fun l => some (leOw l)) hs.symm, trivial⟩ trivial)
  · obtain rfl : i = N := by omega
    rw [hLe]
    (refine goes_exit ?_; refine fin_exit_then ?_; refine fin_exit_then ?_; refine fin_exit_eq ?_; refine fin_seq ?_; refine goes_seq ?_; refine goes_region ?_; apply run_step rfl; (exact stp_move rfl rfl); apply run_step rfl; (exact stp_assign rfl rfl); refine run_nil ?_; refine fin_seq ?_; refine goes_ret ?_)
    exact fin_ret1 (.inl rfl) rfl (.tmp rfl) ⟨rfl, trivial⟩ trivial
set_option maxRecDepth 100000 in
theorem numbS_fc (T : List (List Int)) (N c : Nat) (hT : Leads T N) (hpos : 0 < T.length) (hN : N ≤ 1000000) (hg : T.length ≤ 1000000) (hc : c < N) (hfull : (orb T N c).2.length = N) :
    FC Try.prog 106 [(1003, rowsRo T)] [mA T.length, vv (I6 c)] [(11, leOw (backL (orb T N c).2))] (o1 (.sl 11 0 N)) [] := by
  have hO := (orbS_fc T N c hT hpos hN hg hc).nm [(1003, 1003), (12, 9)] (by kernel_rfl)
  have hO : FC Try.prog 99 [(1003, rowsRo T)] [o1 (.sl 1003 0 T.length), vv (I6 c)] [(9, leOw (orb T N c).2)] (o1 (.sl 9 0 (orb T N c).2.length)) [] := hO
  have hok := orb_ok hT hc
  have hB := (backS_fc (orb T N c).2 N hfull (fun i hi => by obtain ⟨d, e, h, _⟩ := hok.q i (by omega); omega) hN).nm [(1003, 9), (7, 11)] (by kernel_rfl)
  have hB : FC Try.prog 124 [(9, wRo (orb T N c).2)] [o1 (.sl 9 0 N)] [(11, leOw (backL (orb T N c).2))] (o1 (.sl 11 0 N)) [] := hB
  rw [hfull] at hO
  generalize backL (orb T N c).2 = B at *
  generalize (orb T N c).2 = O at *
  refine fc_enter (nt := 12) Try.func106 rfl rfl (by simp) fun w0 ω0 => ?_
  (refine goes_seq ?_; refine goes_region ?_; apply run_step rfl; (exact stp_box rfl rfl rfl rfl); apply run_step rfl; (exact stp_assign rfl rfl); refine run_nil ?_; refine fin_seq ?_; refine goes_seq ?_; refine goes_region ?_; apply run_step rfl; (exact stp_fieldAddr (d := 0) rfl rfl rfl (by as_aux_lemma => kernel_rfl)); apply run_step rfl; (exact stp_loadF rfl (by as_aux_lemma => kernel_rfl) rfl rfl rfl rfl); apply run_step rfl; (exact stp_move rfl rfl); apply run_step rfl; (first | (apply call_gate 99; exact stp_callN hO (by as_aux_lemma => kernel_rfl) rfl rfl ⟨rfl, rfl, trivial⟩ ⟨⟨_, rfl, .inl rfl⟩, trivial⟩ rfl rfl rfl) | (apply call_gate 124; exact stp_callN hB (by as_aux_lemma => kernel_rfl) rfl rfl ⟨rfl, trivial⟩ ⟨⟨_, rfl, .inr rfl⟩, trivial⟩ rfl rfl rfl)); apply run_step rfl; (exact stp_assign rfl rfl); refine run_nil ?_; refine fin_seq ?_; refine goes_seq ?_; refine goes_region ?_; apply run_step rfl; (exact stp_move rfl rfl); apply run_step rfl; (first | (apply call_gate 99; exact stp_callN hO (by as_aux_lemma => kernel_rfl) rfl rfl ⟨rfl, rfl, trivial⟩ ⟨⟨_, rfl, .inl rfl⟩, trivial⟩ rfl rfl rfl) | (apply call_gate 124; exact stp_callN hB (by as_aux_lemma => kernel_rfl) rfl rfl ⟨rfl, trivial⟩ ⟨⟨_, rfl, .inr rfl⟩, trivial⟩ rfl rfl rfl)); apply run_step rfl; (exact stp_assign rfl rfl); refine run_nil ?_; refine fin_seq ?_; refine goes_ret ?_)
  exact fin_ret1 (.inl rfl) rfl (.tmp rfl) ⟨rfl, trivial⟩ trivial
set_option maxRecDepth 100000 in
set_option maxHeartbeats 2000000 in
theorem renS_fc (T : List (List Int)) (P : List Int) (N : Nat) (hT : Leads T N) (hP : P.length = N) (hin : ∀ f, f < N → 0 ≤ iget P f ∧ iget P f < N) (hN : N ≤ 1000000) (hg : T.length ≤ 1000000) :
    FC Try.prog 87 [(1002, wRo P), (1003, rowsRo T)] [mA T.length, o1 (.sl 1002 0 N)] [(1000, imOw (formL T P))] (.s (.agg [.sl 1000 0 T.length])) [] := by
  have hTl : (irows T).length = T.length := irows_len _
  have hPi : N ≤ (ivals P).length := by rw [ivals_len, hP]; exact Nat.le_refl _
  refine fc_enter (nt := 50) Try.func87 rfl rfl (by simp) fun w0 ω0 => ?_
  (refine goes_seq ?_; refine goes_region ?_; apply run_step rfl; (exact stp_box rfl rfl rfl rfl); apply run_step rfl; (exact stp_allocZ [.slice none 0 0] rfl (by as_aux_lemma => kernel_rfl)); refine run_nil ?_; refine fin_seq ?_; refine goes_seq ?_; refine goes_region ?_; apply run_step rfl; (exact stp_buildZ [.slice none 0 0] rfl (by as_aux_lemma => kernel_rfl)))
  refine run_wk (wk_nilA (t := 9) (n := 1000) (k := 1) (E := 32) (d := .rows 2 (irows []) []) 0 rfl rfl rfl rfl) ?_
  (apply run_step rfl; (first | exact stp_allocZ [.slice none 0 0] rfl (by as_aux_lemma => kernel_rfl) | exact stp_storeAgg rfl rfl rfl rfl rfl rfl rfl rfl (by as_aux_lemma => kernel_rfl) rfl); apply run_step rfl; (first | exact stp_allocZ [.slice none 0 0] rfl (by as_aux_lemma => kernel_rfl) | exact stp_storeAgg rfl rfl rfl rfl rfl rfl rfl rfl (by as_aux_lemma => kernel_rfl) rfl); refine run_nil ?_; refine fin_seq ?_; refine goes_seq ?_; refine goes_seq ?_; refine goes_region ?_; apply run_step rfl; (exact stp_assign rfl rfl); refine run_nil ?_; refine fin_seq ?_; refine goes_block ?_)
  refine goes_loop (fun k : Nat => St.of [(1, o1 (.sl 1002 0 N)), (2, o1 (.ptr 2 0)), (4, o1 (.ptr 4 0)), (5, o1 (.ptr 5 0)), (6, vv (I6 k))] [(1002, wRo P), (1003, rowsRo T), (2, ⟨true, 28, 1, .flat [.sl 1003 0 T.length]⟩), (4, mBox), (5, ⟨true, 28, 1, .flat [.sl 1000 0 k]⟩), (1000, imOw (formL (T.take k) P))])
    (fun k => k ≤ T.length) (fun k => T.length - k) 0 (Nat.zero_le _) (Wk.of ⟨rfl, rfl, rfl, rfl, rfl, trivial⟩ ⟨rfl, rfl, rfl, rfl, rfl, rfl, trivial⟩ trivial) ?_
  intro k hk
  (refine goes_seq ?_; refine goes_seq ?_; refine goes_region ?_; apply run_step rfl; (exact stp_move rfl rfl); apply run_step rfl; (exact stp_fieldAddr (d := 0) rfl rfl rfl (by as_aux_lemma => kernel_rfl)); apply run_step rfl; (exact stp_loadF rfl (by as_aux_lemma => kernel_rfl) rfl rfl rfl rfl); apply run_step rfl; (exact stp_len rfl rfl rfl (by as_aux_lemma => kernel_rfl)); apply run_step rfl; (exact stp_bin rfl rfl rfl rfl); refine run_nil ?_; refine fin_seq ?_)
  refine goes_if rfl (fun h => ?_) (fun h => ?_)
  · have hkn : k < T.length := by omega
    have hrow : (irows T)[k]? = some (ivals (lget T k)) := irows_get hkn
    have hil : (ivals (lget T k)).length = N := by rw [ivals_len]; exact hT.len k hkn
    have hrl := hT.len k hkn
    have hrin := hT.within k hkn
    have hnext : formL (T.take (k + 1)) P = formL (T.take k) P ++ [fRow P (lget T k)] := by unfold formL; rw [take_lget hkn, List.map_append]; rfl
    have hfr : fRow P (lget T k) = putL N (fun f => (iget P f).toNat) (fun f => iget P (iget (lget T k) f).toNat) N := by unfold fRow; rw [hP]
    have hkl : (formL (T.take k) P).length = k := by unfold formL; rw [List.length_map, List.length_take]; omega
    generalize formL (T.take k) P = Fk at *
    generalize hr : lget T k = r at *
    (refine goes_skip ?_; refine fin_seq ?_; refine goes_seq ?_; refine goes_block ?_; refine goes_seq ?_; refine goes_region ?_; apply run_step rfl; (exact stp_move rfl rfl); apply run_step rfl; (exact stp_len rfl rfl rfl (by as_aux_lemma => kernel_rfl)); apply run_step rfl; (exact stp_makeI (E := 2) rfl (by as_aux_lemma => kernel_rfl) (by as_aux_lemma => kernel_rfl) rfl rfl rfl rfl (by omega)); apply run_step rfl; (exact stp_assign rfl rfl); refine run_nil ?_; refine fin_seq ?_; refine goes_seq ?_; refine goes_seq ?_; refine goes_region ?_; apply run_step rfl; (exact stp_assign rfl rfl); refine run_nil ?_; refine fin_seq ?_; refine goes_block ?_)
    refine goes_loop (fun f : Nat => St.of [(1, o1 (.sl 1002 0 N)), (2, o1 (.ptr 2 0)), (4, o1 (.ptr 4 0)), (5, o1 (.ptr 5 0)), (6, vv (I6 k)), (7, o1 (.sl 19 0 N)), (8, vv (I6 f))] [(1002, wRo P), (1003, rowsRo T), (2, ⟨true, 28, 1, .flat [.sl 1003 0 T.length]⟩), (4, mBox), (5, ⟨true, 28, 1, .flat [.sl 1000 0 k]⟩), (1000, imOw Fk), (19, leOw (putL N (fun f => (iget P f).toNat) (fun f => iget P (iget r f).toNat) f))])
      (fun f => f ≤ N) (fun f => N - f) 0 (Nat.zero_le _) (Wk.of ⟨rfl, rfl, rfl, rfl, rfl, rfl, rfl, trivial⟩ ⟨rfl, rfl, rfl, rfl, rfl, rfl, rfl, trivial⟩ trivial) ?_
    intro f hf
    have hs := putL_succ N (fun f => (iget P f).toNat) (fun f => iget P (iget r f).toNat) f
    have hL := putL_len N (fun f => (iget P f).toNat) (fun f => iget P (iget r f).toNat) f
    obtain ⟨L, hLe⟩ : ∃ L, putL N (fun f => (iget P f).toNat) (fun f => iget P (iget r f).toNat) f = L := ⟨_, rfl⟩
    rw [hLe] at hs hL ⊢
    have hLi : N ≤ (ivals L).length := by rw [ivals_len, hL]; exact Nat.le_refl _
    (refine goes_seq ?_; refine goes_seq ?_; refine goes_region ?_; apply run_step rfl; (exact stp_move rfl rfl); apply run_step rfl; (exact stp_move rfl rfl); apply run_step rfl; (exact stp_len rfl rfl rfl (by as_aux_lemma => kernel_rfl)); apply run_step rfl; (exact stp_bin rfl rfl rfl rfl); refine run_nil ?_; refine fin_seq ?_)
    refine goes_if rfl (fun h2 => ?_) (fun h2 => ?_)
    · have hfN : f < N := by omega
      obtain ⟨d, hd⟩ := Int.eq_ofNat_of_zero_le (hin f hfN).1
      have hdN : d < N := by have := (hin f hfN).2; omega
      obtain ⟨e, he⟩ := Int.eq_ofNat_of_zero_le (hrin f hfN).1
      have heN : e < N := by have := (hrin f hfN).2; omega
      rw [hd, he, Int.toNat_natCast, Int.toNat_natCast] at hs
      have gf : (ivals P)[f]? = some (I6 (d : Int)) := by rw [ivals_get (by omega), hd]
      have gr : (ivals r)[f]? = some (I6 (e : Int)) := by rw [ivals_get (by omega), he]
      have ge : (ivals P)[e]? = some (I6 (iget P e)) := ivals_get (by omega)
      (refine goes_skip ?_; refine fin_seq ?_; refine goes_seq ?_; refine goes_block ?_)
      apply goes_draw 16 [] [[], [], [], [1, 2], [1, 2, 3], [], [], [6], [], [6, 7, 8], [6, 7, 8, 9], [], [6, 7, 8, 9, 10, 11], [6, 7, 8, 9, 10, 11, 12], [5, 6, 7, 8, 9, 10, 11, 12, 13], [5, 6, 7, 8, 9, 10, 11, 12, 13, 14], [0, 1, 2, 3, 4, 5, 6, 7, 8, 9, 10, 11, 12, 13, 14, 15], [0, 1, 2, 3, 4, 5, 6, 7, 8, 9, 10, 11, 12, 13, 14, 15, 16]] [26, 27, 28, 29, 30, 31, 32, 33, 34, 35, 36, 37, 38, 39, 40, 41] [] (by kernel_rfl) (by kernel_rfl)
      · (apply draw_put rfl; (intro S1 hS; exact stp_move rfl (hS.op rfl)); apply draw_put rfl; (intro S1 hS; exact stp_move rfl (hS.op rfl)); apply draw_put rfl; (intro S1 hS; exact stp_move rfl (hS.op rfl)); (first | (apply draw_put rfl; (focus (intro S1 hS; exact stp_ix (j := f) rfl (hS.op rfl) (hS.op rfl) (hS.ch _ _ rfl) rfl (by as_aux_lemma => kernel_rfl) rfl hfN hPi))) | (apply draw_put rfl; (focus (intro S1 hS; exact stp_ix (j := e) rfl (hS.op rfl) (hS.op rfl) (hS.ch _ _ rfl) rfl (by as_aux_lemma => kernel_rfl) rfl heN hPi))) | (apply draw_put rfl; (focus (intro S1 hS; exact stp_ix (j := k) rfl (hS.op rfl) (hS.op rfl) (hS.ch _ _ rfl) rfl (by as_aux_lemma => kernel_rfl) rfl hkn (Nat.le_of_eq hTl.symm)))) | (apply draw_put rfl; (focus (intro S1 hS; exact stp_loadF rfl (by as_aux_lemma => kernel_rfl) (hS.op rfl) (hS.ch _ _ rfl) rfl rfl))) | (apply draw_put rfl; (focus (intro S1 hS; exact stp_loadR rfl (by as_aux_lemma => kernel_rfl) (hS.op rfl) (hS.ch _ _ rfl) rfl hrow hil))) | (apply draw_put rfl; (focus (intro S1 hS; exact stp_loadV rfl (by as_aux_lemma => kernel_rfl) (hS.op rfl) (hS.ch _ _ rfl) rfl gf))) | (apply draw_put rfl; (focus (intro S1 hS; exact stp_loadV rfl (by as_aux_lemma => kernel_rfl) (hS.op rfl) (hS.ch _ _ rfl) rfl ge))) | (apply draw_put rfl; (focus (intro S1 hS; exact stp_ixE (j := f) rfl (hS.op rfl) (hS.op rfl) (hS.ch _ _ rfl) rfl (by as_aux_lemma => kernel_rfl) hrow rfl hfN (Nat.le_of_eq hil.symm)))) | (apply draw_put rfl; (focus (intro S1 hS; exact stp_loadE' rfl (by as_aux_lemma => kernel_rfl) (hS.op rfl) (hS.ch _ _ rfl) rfl hrow gr)))); (first | (apply draw_put rfl; (focus (intro S1 hS; exact stp_ix (j := f) rfl (hS.op rfl) (hS.op rfl) (hS.ch _ _ rfl) rfl (by as_aux_lemma => kernel_rfl) rfl hfN hPi))) | (apply draw_put rfl; (focus (intro S1 hS; exact stp_ix (j := e) rfl (hS.op rfl) (hS.op rfl) (hS.ch _ _ rfl) rfl (by as_aux_lemma => kernel_rfl) rfl heN hPi))) | (apply draw_put rfl; (focus (intro S1 hS; exact stp_ix (j := k) rfl (hS.op rfl) (hS.op rfl) (hS.ch _ _ rfl) rfl (by as_aux_lemma => kernel_rfl) rfl hkn (Nat.le_of_eq hTl.symm)))) | (apply draw_put rfl; (focus (intro S1 hS; exact stp_loadF rfl (by as_aux_lemma => kernel_rfl) (hS.op rfl) (hS.ch _ _ rfl) rfl rfl))) | (apply draw_put rfl; (focus (intro S1 hS; exact stp_loadR rfl (by as_aux_lemma => kernel_rfl) (hS.op rfl) (hS.ch _ _ rfl) rfl hrow hil))) | (apply draw_put rfl; (focus (intro S1 hS; exact stp_loadV rfl (by as_aux_lemma => kernel_rfl) (hS.op rfl) (hS.ch _ _ rfl) rfl gf))) | (apply draw_put rfl; (focus (intro S1 hS; exact stp_loadV rfl (by as_aux_lemma => kernel_rfl) (hS.op rfl) (hS.ch _ _ rfl) rfl ge))) | (apply draw_put rfl; (focus (intro S1 hS; exact stp_ixE (j := f) rfl (hS.op rfl) (hS.op rfl) (hS.ch _ _ rfl) rfl (by as_aux_lemma => kernel_rfl) hrow rfl hfN (Nat.le_of_eq hil.symm)))) | (apply draw_put rfl; (focus (intro S1 hS; exact stp_loadE' rfl (by as_aux_lemma => kernel_rfl) (hS.op rfl) (hS.ch _ _ rfl) rfl hrow gr)))); apply draw_put rfl; (intro S1 hS; exact stp_move rfl (hS.op rfl)); apply draw_put rfl; (intro S1 hS; exact stp_fieldAddr (d := 0) rfl (hS.op rfl) (hS.ch _ _ rfl) (by as_aux_lemma => kernel_rfl)); (first | (apply draw_put rfl; (focus (intro S1 hS; exact stp_ix (j := f) rfl (hS.op rfl) (hS.op rfl) (hS.ch _ _ rfl) rfl (by as_aux_lemma => kernel_rfl) rfl hfN hPi))) | (apply draw_put rfl; (focus (intro S1 hS; exact stp_ix (j := e) rfl (hS.op rfl) (hS.op rfl) (hS.ch _ _ rfl) rfl (by as_aux_lemma => kernel_rfl) rfl heN hPi))) | (apply draw_put rfl; (focus (intro S1 hS; exact stp_ix (j := k) rfl (hS.op rfl) (hS.op rfl) (hS.ch _ _ rfl) rfl (by as_aux_lemma => kernel_rfl) rfl hkn (Nat.le_of_eq hTl.symm)))) | (apply draw_put rfl; (focus (intro S1 hS; exact stp_loadF rfl (by as_aux_lemma => kernel_rfl) (hS.op rfl) (hS.ch _ _ rfl) rfl rfl))) | (apply draw_put rfl; (focus (intro S1 hS; exact stp_loadR rfl (by as_aux_lemma => kernel_rfl) (hS.op rfl) (hS.ch _ _ rfl) rfl hrow hil))) | (apply draw_put rfl; (focus (intro S1 hS; exact stp_loadV rfl (by as_aux_lemma => kernel_rfl) (hS.op rfl) (hS.ch _ _ rfl) rfl gf))) | (apply draw_put rfl; (focus (intro S1 hS; exact stp_loadV rfl (by as_aux_lemma => kernel_rfl) (hS.op rfl) (hS.ch _ _ rfl) rfl ge))) | (apply draw_put rfl; (focus (intro S1 hS; exact stp_ixE (j := f) rfl (hS.op rfl) (hS.op rfl) (hS.ch _ _ rfl) rfl (by as_aux_lemma => kernel_rfl) hrow rfl hfN (Nat.le_of_eq hil.symm)))) | (apply draw_put rfl; (focus (intro S1 hS; exact stp_loadE' rfl (by as_aux_lemma => kernel_rfl) (hS.op rfl) (hS.ch _ _ rfl) rfl hrow gr)))); apply draw_put rfl; (intro S1 hS; exact stp_move rfl (hS.op rfl)); (first | (apply draw_put rfl; (focus (intro S1 hS; exact stp_ix (j := f) rfl (hS.op rfl) (hS.op rfl) (hS.ch _ _ rfl) rfl (by as_aux_lemma => kernel_rfl) rfl hfN hPi))) | (apply draw_put rfl; (focus (intro S1 hS; exact stp_ix (j := e) rfl (hS.op rfl) (hS.op rfl) (hS.ch _ _ rfl) rfl (by as_aux_lemma => kernel_rfl) rfl heN hPi))) | (apply draw_put rfl; (focus (intro S1 hS; exact stp_ix (j := k) rfl (hS.op rfl) (hS.op rfl) (hS.ch _ _ rfl) rfl (by as_aux_lemma => kernel_rfl) rfl hkn (Nat.le_of_eq hTl.symm)))) | (apply draw_put rfl; (focus (intro S1 hS; exact stp_loadF rfl (by as_aux_lemma => kernel_rfl) (hS.op rfl) (hS.ch _ _ rfl) rfl rfl))) | (apply draw_put rfl; (focus (intro S1 hS; exact stp_loadR rfl (by as_aux_lemma => kernel_rfl) (hS.op rfl) (hS.ch _ _ rfl) rfl hrow hil))) | (apply draw_put rfl; (focus (intro S1 hS; exact stp_loadV rfl (by as_aux_lemma => kernel_rfl) (hS.op rfl) (hS.ch _ _ rfl) rfl gf))) | (apply draw_put rfl; (focus (intro S1 hS; exact stp_loadV rfl (by as_aux_lemma => kernel_rfl) (hS.op rfl) (hS.ch _ _ rfl) rfl ge))) | (apply draw_put rfl; (focus (intro S1 hS; exact stp_ixE (j := f) rfl (hS.op rfl) (hS.op rfl) (hS.ch _ _ rfl) rfl (by as_aux_lemma => kernel_rfl) hrow rfl hfN (Nat.le_of_eq hil.symm)))) | (apply draw_put rfl; (focus (intro S1 hS; exact stp_loadE' rfl (by as_aux_lemma => kernel_rfl) (hS.op rfl) (hS.ch _ _ rfl) rfl hrow gr)))); (first | (apply draw_put rfl; (focus (intro S1 hS; exact stp_ix (j := f) rfl (hS.op rfl) (hS.op rfl) (hS.ch _ _ rfl) rfl (by as_aux_lemma => kernel_rfl) rfl hfN hPi))) | (apply draw_put rfl; (focus (intro S1 hS; exact stp_ix (j := e) rfl (hS.op rfl) (hS.op rfl) (hS.ch _ _ rfl) rfl (by as_aux_lemma => kernel_rfl) rfl heN hPi))) | (apply draw_put rfl; (focus (intro S1 hS; exact stp_ix (j := k) rfl (hS.op rfl) (hS.op rfl) (hS.ch _ _ rfl) rfl (by as_aux_lemma => kernel_rfl) rfl hkn (Nat.le_of_eq hTl.symm)))) | (apply draw_put rfl; (focus (intro S1 hS; exact stp_loadF rfl (by as_aux_lemma => kernel_rfl) (hS.op rfl) (hS.ch _ _ rfl) rfl rfl))) | (apply draw_put rfl; (focus (intro S1 hS; exact stp_loadR rfl (by as_aux_lemma => kernel_rfl) (hS.op rfl) (hS.ch _ _ rfl) rfl hrow hil))) | (apply draw_put rfl; (focus (intro S1 hS; exact stp_loadV rfl (by as_aux_lemma => kernel_rfl) (hS.op rfl) (hS.ch _ _ rfl) rfl gf))) | (apply draw_put rfl; (focus (intro S1 hS; exact stp_loadV rfl (by as_aux_lemma => kernel_rfl) (hS.op rfl) (hS.ch _ _ rfl) rfl ge))) | (apply draw_put rfl; (focus (intro S1 hS; exact stp_ixE (j := f) rfl (hS.op rfl) (hS.op rfl) (hS.ch _ _ rfl) rfl (by as_aux_lemma => kernel_rfl) hrow rfl hfN (Nat.le_of_eq hil.symm)))) | (apply draw_put rfl; (focus (intro S1 hS; exact stp_loadE' rfl (by as_aux_lemma => kernel_rfl) (hS.op rfl) (hS.ch _ _ rfl) rfl hrow gr)))); apply draw_put rfl; (intro S1 hS; exact stp_move rfl (hS.op rfl)); (first | (apply draw_put rfl; (focus (intro S1 hS; exact stp_ix (j := f) rfl (hS.op rfl) (hS.op rfl) (hS.ch _ _ rfl) rfl (by as_aux_lemma => kernel_rfl) rfl hfN hPi))) | (apply draw_put rfl; (focus (intro S1 hS; exact stp_ix (j := e) rfl (hS.op rfl) (hS.op rfl) (hS.ch _ _ rfl) rfl (by as_aux_lemma => kernel_rfl) rfl heN hPi))) | (apply draw_put rfl; (focus (intro S1 hS; exact stp_ix (j := k) rfl (hS.op rfl) (hS.op rfl) (hS.ch _ _ rfl) rfl (by as_aux_lemma => kernel_rfl) rfl hkn (Nat.le_of_eq hTl.symm)))) | (apply draw_put rfl; (focus (intro S1 hS; exact stp_loadF rfl (by as_aux_lemma => kernel_rfl) (hS.op rfl) (hS.ch _ _ rfl) rfl rfl))) | (apply draw_put rfl; (focus (intro S1 hS; exact stp_loadR rfl (by as_aux_lemma => kernel_rfl) (hS.op rfl) (hS.ch _ _ rfl) rfl hrow hil))) | (apply draw_put rfl; (focus (intro S1 hS; exact stp_loadV rfl (by as_aux_lemma => kernel_rfl) (hS.op rfl) (hS.ch _ _ rfl) rfl gf))) | (apply draw_put rfl; (focus (intro S1 hS; exact stp_loadV rfl (by as_aux_lemma => kernel_rfl) (hS.op rfl) (hS.ch _ _ rfl) rfl ge))) | (apply draw_put rfl; (focus (intro S1 hS; exact stp_ixE (j := f) rfl (hS.op rfl) (hS.op rfl) (hS.ch _ _ rfl) rfl (by as_aux_lemma => kernel_rfl) hrow rfl hfN (Nat.le_of_eq hil.symm)))) | (apply draw_put rfl; (focus (intro S1 hS; exact stp_loadE' rfl (by as_aux_lemma => kernel_rfl) (hS.op rfl) (hS.ch _ _ rfl) rfl hrow gr)))); (first | (apply draw_put rfl; (focus (intro S1 hS; exact stp_ix (j := f) rfl (hS.op rfl) (hS.op rfl) (hS.ch _ _ rfl) rfl (by as_aux_lemma => kernel_rfl) rfl hfN hPi))) | (apply draw_put rfl; (focus (intro S1 hS; exact stp_ix (j := e) rfl (hS.op rfl) (hS.op rfl) (hS.ch _ _ rfl) rfl (by as_aux_lemma => kernel_rfl) rfl heN hPi))) | (apply draw_put rfl; (focus (intro S1 hS; exact stp_ix (j := k) rfl (hS.op rfl) (hS.op rfl) (hS.ch _ _ rfl) rfl (by as_aux_lemma => kernel_rfl) rfl hkn (Nat.le_of_eq hTl.symm)))) | (apply draw_put rfl; (focus (intro S1 hS; exact stp_loadF rfl (by as_aux_lemma => kernel_rfl) (hS.op rfl) (hS.ch _ _ rfl) rfl rfl))) | (apply draw_put rfl; (focus (intro S1 hS; exact stp_loadR rfl (by as_aux_lemma => kernel_rfl) (hS.op rfl) (hS.ch _ _ rfl) rfl hrow hil))) | (apply draw_put rfl; (focus (intro S1 hS; exact stp_loadV rfl (by as_aux_lemma => kernel_rfl) (hS.op rfl) (hS.ch _ _ rfl) rfl gf))) | (apply draw_put rfl; (focus (intro S1 hS; exact stp_loadV rfl (by as_aux_lemma => kernel_rfl) (hS.op rfl) (hS.ch _ _ rfl) rfl ge))) | (apply draw_put rfl; (focus (intro S1 hS; exact stp_ixE (j := f) rfl (hS.op rfl) (hS.op rfl) (hS.ch _ _ rfl) rfl (by as_aux_lemma => kernel_rfl) hrow rfl hfN (Nat.le_of_eq hil.symm)))) | (apply draw_put rfl; (focus (intro S1 hS; exact stp_loadE' rfl (by as_aux_lemma => kernel_rfl) (hS.op rfl) (hS.ch _ _ rfl) rfl hrow gr)))); (first | (apply draw_put rfl; (focus (intro S1 hS; exact stp_ix (j := f) rfl (hS.op rfl) (hS.op rfl) (hS.ch _ _ rfl) rfl (by as_aux_lemma => kernel_rfl) rfl hfN hPi))) | (apply draw_put rfl; (focus (intro S1 hS; exact stp_ix (j := e) rfl (hS.op rfl) (hS.op rfl) (hS.ch _ _ rfl) rfl (by as_aux_lemma => kernel_rfl) rfl heN hPi))) | (apply draw_put rfl; (focus (intro S1 hS; exact stp_ix (j := k) rfl (hS.op rfl) (hS.op rfl) (hS.ch _ _ rfl) rfl (by as_aux_lemma => kernel_rfl) rfl hkn (Nat.le_of_eq hTl.symm)))) | (apply draw_put rfl; (focus (intro S1 hS; exact stp_loadF rfl (by as_aux_lemma => kernel_rfl) (hS.op rfl) (hS.ch _ _ rfl) rfl rfl))) | (apply draw_put rfl; (focus (intro S1 hS; exact stp_loadR rfl (by as_aux_lemma => kernel_rfl) (hS.op rfl) (hS.ch _ _ rfl) rfl hrow hil))) | (apply draw_put rfl; (focus (intro S1 hS; exact stp_loadV rfl (by as_aux_lemma => kernel_rfl) (hS.op rfl) (hS.ch _ _ rfl) rfl gf))) | (apply draw_put rfl; (focus (intro S1 hS; exact stp_loadV rfl (by as_aux_lemma => kernel_rfl) (hS.op rfl) (hS.ch _ _ rfl) rfl ge))) | (apply draw_put rfl; (focus (intro S1 hS; exact stp_ixE (j := f) rfl (hS.op rfl) (hS.op rfl) (hS.ch _ _ rfl) rfl (by as_aux_lemma => kernel_rfl) hrow rfl hfN (Nat.le_of_eq hil.symm)))) | (apply draw_put rfl; (focus (intro S1 hS; exact stp_loadE' rfl (by as_aux_lemma => kernel_rfl) (hS.op rfl) (hS.ch _ _ rfl) rfl hrow gr)))); (first | (apply draw_put rfl; (focus (intro S1 hS; exact stp_ix (j := f) rfl (hS.op rfl) (hS.op rfl) (hS.ch _ _ rfl) rfl (by as_aux_lemma => kernel_rfl) rfl hfN hPi))) | (apply draw_put rfl; (focus (intro S1 hS; exact stp_ix (j := e) rfl (hS.op rfl) (hS.op rfl) (hS.ch _ _ rfl) rfl (by as_aux_lemma => kernel_rfl) rfl heN hPi))) | (apply draw_put rfl; (focus (intro S1 hS; exact stp_ix (j := k) rfl (hS.op rfl) (hS.op rfl) (hS.ch _ _ rfl) rfl (by as_aux_lemma => kernel_rfl) rfl hkn (Nat.le_of_eq hTl.symm)))) | (apply draw_put rfl; (focus (intro S1 hS; exact stp_loadF rfl (by as_aux_lemma => kernel_rfl) (hS.op rfl) (hS.ch _ _ rfl) rfl rfl))) | (apply draw_put rfl; (focus (intro S1 hS; exact stp_loadR rfl (by as_aux_lemma => kernel_rfl) (hS.op rfl) (hS.ch _ _ rfl) rfl hrow hil))) | (apply draw_put rfl; (focus (intro S1 hS; exact stp_loadV rfl (by as_aux_lemma => kernel_rfl) (hS.op rfl) (hS.ch _ _ rfl) rfl gf))) | (apply draw_put rfl; (focus (intro S1 hS; exact stp_loadV rfl (by as_aux_lemma => kernel_rfl) (hS.op rfl) (hS.ch _ _ rfl) rfl ge))) | (apply draw_put rfl; (focus (intro S1 hS; exact stp_ixE (j := f) rfl (hS.op rfl) (hS.op rfl) (hS.ch _ _ rfl) rfl (by as_aux_lemma => kernel_rfl) hrow rfl hfN (Nat.le_of_eq hil.symm)))) | (apply draw_put rfl; (focus (intro S1 hS; exact stp_loadE' rfl (by as_aux_lemma => kernel_rfl) (hS.op rfl) (hS.ch _ _ rfl) rfl hrow gr)))); exact Draw.nil)
      · rfl
      ((apply rest_one 16 rfl (by as_aux_lemma => kernel_rfl) rfl rfl; (first | exact stp_ix (j := d) rfl rfl rfl rfl rfl (by as_aux_lemma => kernel_rfl) rfl hdN hLi | exact stp_stI rfl rfl rfl rfl rfl (by omega) (by as_aux_lemma => kernel_rfl))); (apply rest_one 17 rfl (by as_aux_lemma => kernel_rfl) rfl rfl; (first | exact stp_ix (j := d) rfl rfl rfl rfl rfl (by as_aux_lemma => kernel_rfl) rfl hdN hLi | exact stp_stI rfl rfl rfl rfl rfl (by omega) (by as_aux_lemma => kernel_rfl))); (refine rest_done (by as_aux_lemma => kernel_rfl) ?_; skip))
      (refine fin_block ?_; refine fin_seq ?_; refine goes_region ?_; apply run_step rfl; (exact stp_move rfl rfl); apply run_step rfl; (exact stp_add rfl rfl rfl (by first | exact IntWalk.i64_in _ (by omega) | rfl)); apply run_step rfl; (exact stp_assign rfl rfl); refine run_nil ?_)
      exact fin_round (f + 1) hfN (by show N - (f + 1) < N - f; omega) (Wk.of ⟨rfl, rfl, rfl, rfl, rfl, rfl, rfl, trivial⟩ ⟨rfl, rfl, rfl, rfl, rfl, rfl, congrArg (fun l => some (leOw l)) hs.symm, trivial⟩ trivial)
    · obtain rfl : f = N := by omega
      rw [hLe] at hfr
      rw [hfr] at hnext
      (refine goes_exit ?_; refine fin_exit_then ?_; refine fin_exit_then ?_; refine fin_exit_eq ?_; refine fin_seq ?_; refine goes_region ?_; apply run_step rfl; (exact stp_fieldAddr (d := 0) rfl rfl rfl (by as_aux_lemma => kernel_rfl)); apply run_step rfl; (first | exact stp_loadF rfl (by as_aux_lemma => kernel_rfl) rfl rfl rfl rfl | exact stp_lit1 rfl rfl rfl rfl rfl | exact stp_appR (E := 32) (F := 2) rfl (by as_aux_lemma => kernel_rfl) rfl rfl hkl rfl rfl rfl hL rfl (by omega) | exact stp_storeF rfl rfl rfl rfl rfl rfl (by as_aux_lemma => kernel_rfl) rfl); apply run_step rfl; (exact stp_move rfl rfl); apply run_step rfl; (exact stp_lit1 (E := 32) rfl (by as_aux_lemma => kernel_rfl) rfl rfl rfl); apply run_step rfl; (first | exact stp_loadF rfl (by as_aux_lemma => kernel_rfl) rfl rfl rfl rfl | exact stp_lit1 rfl rfl rfl rfl rfl | exact stp_appR (E := 32) (F := 2) rfl (by as_aux_lemma => kernel_rfl) rfl rfl hkl rfl rfl rfl hL rfl (by omega) | exact stp_storeF rfl rfl rfl rfl rfl rfl (by as_aux_lemma => kernel_rfl) rfl); apply run_step rfl; (exact stp_fieldAddr (d := 0) rfl rfl rfl (by as_aux_lemma => kernel_rfl)); apply run_step rfl; (first | exact stp_loadF rfl (by as_aux_lemma => kernel_rfl) rfl rfl rfl rfl | exact stp_lit1 rfl rfl rfl rfl rfl | exact stp_appR (E := 32) (F := 2) rfl (by as_aux_lemma => kernel_rfl) rfl rfl hkl rfl rfl rfl hL rfl (by omega) | exact stp_storeF rfl rfl rfl rfl rfl rfl (by as_aux_lemma => kernel_rfl) rfl); refine run_nil ?_; refine fin_block ?_; refine fin_seq ?_; refine goes_region ?_; apply run_step rfl; (exact stp_move rfl rfl); apply run_step rfl; (exact stp_add rfl rfl rfl (by first | exact IntWalk.i64_in _ (by omega) | rfl)); apply run_step rfl; (exact stp_assign rfl rfl); refine run_nil ?_)
      exact fin_round (k + 1) hkn (by show T.length - (k + 1) < T.length - k; omega) (Wk.of ⟨rfl, rfl, rfl, rfl, rfl, trivial⟩ ⟨rfl, rfl, rfl, rfl, rfl, congrArg (fun l => some (imOw l)) hnext.symm, trivial⟩ trivial)
  · obtain rfl : k = T.length := by omega
    rw [List.take_length]
    (refine goes_exit ?_; refine fin_exit_then ?_; refine fin_exit_then ?_; refine fin_exit_eq ?_; refine fin_seq ?_; refine goes_seq ?_; refine goes_region ?_; apply run_step rfl; (first | exact stp_loadAgg (k := 1) rfl rfl rfl rfl rfl rfl (by as_aux_lemma => kernel_rfl) | exact stp_storeAgg rfl rfl rfl rfl rfl rfl rfl rfl (by as_aux_lemma => kernel_rfl) rfl); apply run_step rfl; (first | exact stp_loadAgg (k := 1) rfl rfl rfl rfl rfl rfl (by as_aux_lemma => kernel_rfl) | exact stp_storeAgg rfl rfl rfl rfl rfl rfl rfl rfl (by as_aux_lemma => kernel_rfl) rfl); refine run_nil ?_; refine fin_seq ?_; refine goes_ret ?_)
    exact fin_ret1 (.inl rfl) rfl (.cell rfl rfl rfl rfl rfl (by as_aux_lemma => kernel_rfl)) ⟨rfl, trivial⟩ trivial
set_option maxRecDepth 100000 in
set_option maxHeartbeats 2000000 in
theorem formS_fc (T : List (List Int)) (N : Nat) (hT : Leads T N) (hpos : 0 < T.length) (hN : N ≤ 1000000) (hg : T.length ≤ 1000000) (hc : 0 < N) (hfull : (orb T N 0).2.length = N) (hin : ∀ f, f < N → 0 ≤ iget (backL (orb T N 0).2) f ∧ iget (backL (orb T N 0).2) f < N) :
    FC Try.prog 68 [(1003, rowsRo T)] [mA T.length, vv (I6 0)] [(9, imOw (formL T (backL (orb T N 0).2)))] (.s (.agg [.sl 9 0 T.length])) [] := by
  have hNum := (numbS_fc T N 0 hT hpos hN hg hc hfull).nm [(1003, 1003), (11, 8)] (by kernel_rfl)
  have hBl : (backL (orb T N 0).2).length = N := by unfold backL; rw [putL_len, hfull]
  have hNum : FC Try.prog 106 [(1003, rowsRo T)] [mA T.length, vv (I6 0)] [(8, leOw (backL (orb T N 0).2))] (o1 (.sl 8 0 N)) [] := hNum
  have hRen := (renS_fc T (backL (orb T N 0).2) N hT hBl hin hN hg).nm [(1002, 8), (1003, 1003), (1000, 9)] (by kernel_rfl)
  have hRen : FC Try.prog 87 [(8, wRo (backL (orb T N 0).2)), (1003, rowsRo T)] [mA T.length, o1 (.sl 8 0 N)] [(9, imOw (formL T (backL (orb T N 0).2)))] (.s (.agg [.sl 9 0 T.length])) [] := hRen
  generalize backL (orb T N 0).2 = B at *
  generalize formL T B = R at *
  generalize hL : T.length = L at *
  refine fc_enter (nt := 10) Try.func68 rfl rfl (by simp) fun w0 ω0 => ?_
  (refine goes_seq ?_; refine goes_region ?_; apply run_step rfl; (exact stp_box rfl rfl rfl rfl); apply run_step rfl; (exact stp_allocZ [.slice none 0 0] rfl (by as_aux_lemma => kernel_rfl)); refine run_nil ?_; refine fin_seq ?_; refine goes_seq ?_)
  refine goes_cut (St.of [(4, o1 (.ptr 4 0))] [(4, ⟨true, 28, 1, .flat [.sl 9 0 L]⟩), (9, imOw R)]) ?_ ?_
  · apply goes_drawF 3 [] 0 [[], [], [], [1, 2], [0, 1, 2, 3], [0, 1, 2, 3, 4]] [5, 6, 7] [] (by kernel_rfl) (by kernel_rfl) (by kernel_rfl)
    · ((first | (apply draw_put rfl; (focus (intro S1 hS; exact stp_loadAgg (k := 1) rfl (hS.op rfl) (hS.ch _ _ rfl) rfl rfl rfl (by as_aux_lemma => kernel_rfl))))); (first | (apply draw_put rfl; (focus (intro S1 hS; exact stp_loadAgg (k := 1) rfl (hS.op rfl) (hS.ch _ _ rfl) rfl rfl rfl (by as_aux_lemma => kernel_rfl))))); apply draw_put rfl; (intro S1 hS; exact stp_move rfl (hS.op rfl)); exact Draw.nil)
    · rfl
    · ((apply rest_one 3 rfl (by as_aux_lemma => kernel_rfl) rfl rfl; (apply call_gate 106; exact stp_callN hNum (by as_aux_lemma => kernel_rfl) rfl rfl ⟨⟨.inl rfl, trivial⟩, rfl, trivial⟩ ⟨⟨_, rfl, .inl rfl⟩, trivial⟩ rfl rfl rfl)); (apply rest_one 4 rfl (by as_aux_lemma => kernel_rfl) rfl rfl; (apply call_gate 87; exact stp_callN hRen (by as_aux_lemma => kernel_rfl) rfl rfl ⟨⟨.inl rfl, trivial⟩, rfl, trivial⟩ ⟨⟨_, rfl, .inr rfl⟩, ⟨_, rfl, .inl rfl⟩, trivial⟩ rfl rfl rfl)); (apply rest_one 5 rfl (by as_aux_lemma => kernel_rfl) rfl rfl; (exact stp_storeAgg rfl rfl rfl rfl rfl rfl rfl rfl (by as_aux_lemma => kernel_rfl) rfl)); (refine rest_done (by as_aux_lemma => kernel_rfl) ?_; exact fin_join (Wk.of ⟨rfl, trivial⟩ ⟨rfl, rfl, trivial⟩ trivial)))
    · ((apply rest_two 0 3 rfl (by as_aux_lemma => kernel_rfl) rfl rfl rfl rfl; (exact stp_loadAgg (k := 1) rfl rfl rfl rfl rfl rfl (by as_aux_lemma => kernel_rfl)); (apply call_gate 106; exact stp_callN hNum (by as_aux_lemma => kernel_rfl) rfl rfl ⟨⟨.inl rfl, trivial⟩, rfl, trivial⟩ ⟨⟨_, rfl, .inl rfl⟩, trivial⟩ rfl rfl rfl); (focus ((apply rest_one 3 rfl (by as_aux_lemma => kernel_rfl) rfl rfl; (apply call_gate 106; exact stp_callN hNum (by as_aux_lemma => kernel_rfl) rfl rfl ⟨⟨.inl rfl, trivial⟩, rfl, trivial⟩ ⟨⟨_, rfl, .inl rfl⟩, trivial⟩ rfl rfl rfl)); (apply rest_one 4 rfl (by as_aux_lemma => kernel_rfl) rfl rfl; (apply call_gate 87; exact stp_callN hRen (by as_aux_lemma => kernel_rfl) rfl rfl ⟨⟨.inl rfl, trivial⟩, rfl, trivial⟩ ⟨⟨_, rfl, .inr rfl⟩, ⟨_, rfl, .inl rfl⟩, trivial⟩ rfl rfl rfl)); (apply rest_one 5 rfl (by as_aux_lemma => kernel_rfl) rfl rfl; (exact stp_storeAgg rfl rfl rfl rfl rfl rfl rfl rfl (by as_aux_lemma => kernel_rfl) rfl)); (refine rest_done (by as_aux_lemma => kernel_rfl) ?_; exact fin_join (Wk.of ⟨rfl, trivial⟩ ⟨rfl, rfl, trivial⟩ trivial)))); (focus ((apply rest_one 0 rfl (by as_aux_lemma => kernel_rfl) rfl rfl; (exact stp_loadAgg (k := 1) rfl rfl rfl rfl rfl rfl (by as_aux_lemma => kernel_rfl))); (apply rest_one 4 rfl (by as_aux_lemma => kernel_rfl) rfl rfl; (apply call_gate 87; exact stp_callN hRen (by as_aux_lemma => kernel_rfl) rfl rfl ⟨⟨.inl rfl, trivial⟩, rfl, trivial⟩ ⟨⟨_, rfl, .inr rfl⟩, ⟨_, rfl, .inl rfl⟩, trivial⟩ rfl rfl rfl)); (apply rest_one 5 rfl (by as_aux_lemma => kernel_rfl) rfl rfl; (exact stp_storeAgg rfl rfl rfl rfl rfl rfl rfl rfl (by as_aux_lemma => kernel_rfl) rfl)); (refine rest_done (by as_aux_lemma => kernel_rfl) ?_; exact fin_join (Wk.of ⟨rfl, trivial⟩ ⟨rfl, rfl, trivial⟩ trivial))))))
  (refine fin_seq ?_; refine goes_ret ?_)
  exact fin_ret1 (.inl rfl) rfl (.cell rfl rfl rfl rfl rfl (by as_aux_lemma => kernel_rfl)) ⟨rfl, trivial⟩ trivial
end Go.Proofs.Ytmdhljleaijkbaa

/- A maniplex that grows, row by row, in a box of its own. -/
namespace Go.Proofs.Ytmdhljleaijkbaa
open Go.RowKit

/-- the box (bx), its rows from block lo on -/
structure MBx (w wr : World) (bx lo : Nat) (ao : Option Addr) (m c : Nat) (us : List Value) (ds : List (List Int)) : Prop where
  box : Blk wr bx 28 #[.slice ao m c]
  row : OwR (OwS 2) wr lo wr.heap.size 32 ao m c us ds
  at_ : w.heap.size ≤ bx ∧ bx < lo ∧ lo ≤ wr.heap.size
  bel : Below w.heap.size w wr
  few : m ≤ 1000
theorem own_nilMx {E1 E : Nat} {w : World} {lo hi : Nat} : OwM E1 E w lo hi (.agg #[.slice none 0 0]) [] := ⟨none, 0, 0, [], rfl, OwR.empty_ (Own.nil_ _ _ _) (fun g hg => by cases hg)⟩
section
variable {w wr w2 w3 w4 : World} {bx lo m c n1 c1 c2 : Nat} {ao a1 ao2 : Option Addr} {us : List Value} {ds : List (List Int)} {zs : List Int}
theorem MBx.below (st : MBx w wr bx lo ao m c us ds) (b : Below wr.heap.size wr w2) : MBx w w2 bx lo ao m c us ds := by
  obtain ⟨h1, h2, h3⟩ := st.at_
  have s := b.size
  exact ⟨st.box.belowS b, (st.row.below (innerS _) b).mono (Nat.le_refl _) s, ⟨h1, h2, by omega⟩, st.bel.trans (b.mono (by omega)), st.few⟩
theorem MBx.start (hb : Below w.heap.size w wr) (k : Blk wr bx 28 #[.slice none 0 0]) (h1 : w.heap.size ≤ bx) : MBx w wr bx (bx + 1) none 0 0 [] [] := by
  have hl := k.lt
  exact ⟨k, OwR.empty_ (Own.nil_ _ _ _) (fun g hg => by cases hg), ⟨h1, by omega, by omega⟩, hb, by omega⟩
theorem MBx.boxG (st : MBx w wr bx lo ao m c us ds) (hg : wr.grownBy w4 (bk ao)) : Blk w4 bx 28 #[.slice ao m c] := by
  obtain ⟨h1, h2, h3⟩ := st.at_
  unfold Blk
  rw [hg.block bx st.box.lt (fun e => by have := (st.row.own.lt _ e.symm).1; omega)]
  exact st.box
/-- a row is laid behind the others -/
theorem MBx.push (st : MBx w wr bx lo ao m c us ds) (hm : m + 1 ≤ 1000) (b2 : Below wr.heap.size wr w2) (o1 : Own w2 wr.heap.size 2 a1 n1 c1 (zs.map (Value.int .i64))) (b3 : Below w2.heap.size w2 w3) (o4 : Own w4 lo 32 ao2 (m + 1) c2 (us ++ [.slice a1 n1 c1]))
    (g4 : w3.grownBy w4 (bk ao)) (hat : bk ao2 = bk ao ∨ ∃ g, bk ao2 = some g ∧ w2.heap.size ≤ g) :
    MBx w (w4.setCell ⟨bx, 0, none⟩ (.slice ao2 (m + 1) c2)) bx lo ao2 (m + 1) c2 (us ++ [.slice a1 n1 c1]) (ds ++ [zs]) := by
  obtain ⟨h1, h2, h3⟩ := st.at_
  have hR := rows_push2 st.row h3 b2 o1 b3 o4 g4 hat
  have s2 := b2.size
  have s3 := b3.size
  have s4 := g4.size
  have hbx := st.box.lt
  have B4 : Below w.heap.size w w4 := (st.bel.trans ((b2.trans (b3.mono s2)).mono (by omega))).grown g4 (by omega) (fun g hg => by have := (st.row.own.lt g hg).1; omega)
  have hh : (w4.setCell ⟨bx, 0, none⟩ (.slice ao2 (m + 1) c2)).heap.size = w4.heap.size := by simp [World.setCell]
  have k : ∀ g, g < wr.heap.size → bk ao ≠ some g → w4.heap[g]? = wr.heap[g]? := fun g hg hne => by
    rw [g4.block g (by omega) (fun e => hne e.symm), b3.block g (by omega), b2.block g hg]
  refine ⟨?_, ?_, ⟨h1, h2, by rw [hh]; omega⟩, B4.setCell (by simp; omega) _, hm⟩
  · have : Blk w4 bx 28 #[.slice ao m c] := by unfold Blk; rw [k bx hbx (fun e => by have := (st.row.own.lt _ e).1; omega)]; exact st.box
    simpa using this.set_ 0 (.slice ao2 (m + 1) c2)
  · rw [hh]
    exact hR.same (innerS _) fun g h1 _ _ => Below.heap_setCell _ _ _ _ (by simp; omega)
theorem MBx.done (st : MBx w wr bx lo ao m c us ds) {p : Addr} (hp : p.block < bx) (u : Value) {lo' : Nat} (hl : lo' ≤ w.heap.size) : OwM 2 32 (wr.setCell p u) lo' (wr.setCell p u).heap.size (.agg #[.slice ao m c]) ds := by
  obtain ⟨h1, h2, h3⟩ := st.at_
  have hh : (wr.setCell p u).heap.size = wr.heap.size := by simp [World.setCell]
  refine ⟨ao, m, c, us, rfl, ?_⟩
  rw [hh]
  exact (st.row.same (innerS _) fun g h1 _ _ => Below.heap_setCell _ _ _ _ (by omega)).mono (by omega) (Nat.le_refl _)
theorem MBx.cell (st : MBx w wr bx lo ao m c us ds) : wr.cell? ⟨bx, 0, none⟩ = some (.slice ao m c) := by
  have := st.box.cell 0
  simpa using this
end
end Go.Proofs.Ytmdhljleaijkbaa

/- Forms of maniplexes, the program's: numberedFrom, formFrom. guards: -/
namespace Go.Proofs.Ytmdhljleaijkbaa
open Go.RowKit

set_option maxRecDepth 100000 in
set_option maxHeartbeats 2000000 in
theorem numI_fc (zss : List (List Int)) (n c : Nat) (hT : Leads zss n) (hpos : 0 < zss.length) (hn : n ≤ 1000000) (hg : zss.length ≤ 1000000) (hc : c < n) :
    FC Try.prog 110 [(1003, rowsRo zss)] [o1 (.sl 1003 0 zss.length), vv (I6 c)] [(20, leOw (orb zss n c).2)] (o1 (.sl 20 0 (orb zss n c).2.length)) [] := by
  have hlen : (irows zss).length = zss.length := irows_len _
  have hr0 : (lget zss 0).length = n := hT.len 0 hpos
  have hrow0 : (irows zss)[0]? = some (ivals (lget zss 0)) := irows_get hpos
  have hil : (ivals (lget zss 0)).length = n := by rw [ivals_len]; exact hr0
  have hrp : (List.replicate n false).length = n := by simp
  have hbl : n ≤ (bvals (List.replicate n false)).length := by rw [bvals_len]; simp
  refine fc_enter (nt := 54) Try.func110 rfl rfl (by simp) fun w0 ω0 => ?_
  (refine goes_seq ?_; refine goes_region ?_; apply run_step rfl; (exact stp_assign rfl rfl); refine run_nil ?_; refine fin_seq ?_; refine goes_seq ?_; refine goes_region ?_; apply run_step rfl; (exact stp_move rfl rfl); apply run_step rfl; (first | exact stp_ix (j := 0) rfl rfl rfl rfl rfl (by as_aux_lemma => kernel_rfl) rfl hpos (Nat.le_of_eq hlen.symm) | exact stp_loadR rfl (by as_aux_lemma => kernel_rfl) rfl rfl rfl hrow0 hil | exact stp_makeB (n := n) (E := 4) rfl (by as_aux_lemma => kernel_rfl) (by as_aux_lemma => kernel_rfl) rfl rfl rfl rfl (by omega) | exact stp_ix (j := c) rfl rfl rfl rfl rfl (by as_aux_lemma => kernel_rfl) rfl hc hbl | exact stp_stB (bs := List.replicate n false) rfl rfl rfl rfl rfl (by rw [hrp]; omega) (by as_aux_lemma => kernel_rfl)); apply run_step rfl; (first | exact stp_ix (j := 0) rfl rfl rfl rfl rfl (by as_aux_lemma => kernel_rfl) rfl hpos (Nat.le_of_eq hlen.symm) | exact stp_loadR rfl (by as_aux_lemma => kernel_rfl) rfl rfl rfl hrow0 hil | exact stp_makeB (n := n) (E := 4) rfl (by as_aux_lemma => kernel_rfl) (by as_aux_lemma => kernel_rfl) rfl rfl rfl rfl (by omega) | exact stp_ix (j := c) rfl rfl rfl rfl rfl (by as_aux_lemma => kernel_rfl) rfl hc hbl | exact stp_stB (bs := List.replicate n false) rfl rfl rfl rfl rfl (by rw [hrp]; omega) (by as_aux_lemma => kernel_rfl)); apply run_step rfl; (exact stp_len rfl rfl rfl (by as_aux_lemma => kernel_rfl)); apply run_step rfl; (first | exact stp_ix (j := 0) rfl rfl rfl rfl rfl (by as_aux_lemma => kernel_rfl) rfl hpos (Nat.le_of_eq hlen.symm) | exact stp_loadR rfl (by as_aux_lemma => kernel_rfl) rfl rfl rfl hrow0 hil | exact stp_makeB (n := n) (E := 4) rfl (by as_aux_lemma => kernel_rfl) (by as_aux_lemma => kernel_rfl) rfl rfl rfl rfl (by omega) | exact stp_ix (j := c) rfl rfl rfl rfl rfl (by as_aux_lemma => kernel_rfl) rfl hc hbl | exact stp_stB (bs := List.replicate n false) rfl rfl rfl rfl rfl (by rw [hrp]; omega) (by as_aux_lemma => kernel_rfl)); apply run_step rfl; (exact stp_assign rfl rfl); refine run_nil ?_; refine fin_seq ?_; refine goes_seq ?_; refine goes_region ?_; apply run_step rfl; (exact stp_move rfl rfl); apply run_step rfl; (exact stp_move rfl rfl); apply run_step rfl; (first | exact stp_ix (j := 0) rfl rfl rfl rfl rfl (by as_aux_lemma => kernel_rfl) rfl hpos (Nat.le_of_eq hlen.symm) | exact stp_loadR rfl (by as_aux_lemma => kernel_rfl) rfl rfl rfl hrow0 hil | exact stp_makeB (n := n) (E := 4) rfl (by as_aux_lemma => kernel_rfl) (by as_aux_lemma => kernel_rfl) rfl rfl rfl rfl (by omega) | exact stp_ix (j := c) rfl rfl rfl rfl rfl (by as_aux_lemma => kernel_rfl) rfl hc hbl | exact stp_stB (bs := List.replicate n false) rfl rfl rfl rfl rfl (by rw [hrp]; omega) (by as_aux_lemma => kernel_rfl)); apply run_step rfl; (first | exact stp_ix (j := 0) rfl rfl rfl rfl rfl (by as_aux_lemma => kernel_rfl) rfl hpos (Nat.le_of_eq hlen.symm) | exact stp_loadR rfl (by as_aux_lemma => kernel_rfl) rfl rfl rfl hrow0 hil | exact stp_makeB (n := n) (E := 4) rfl (by as_aux_lemma => kernel_rfl) (by as_aux_lemma => kernel_rfl) rfl rfl rfl rfl (by omega) | exact stp_ix (j := c) rfl rfl rfl rfl rfl (by as_aux_lemma => kernel_rfl) rfl hc hbl | exact stp_stB (bs := List.replicate n false) rfl rfl rfl rfl rfl (by rw [hrp]; omega) (by as_aux_lemma => kernel_rfl)); refine run_nil ?_; refine fin_seq ?_; refine goes_seq ?_; refine goes_region ?_; apply run_step rfl; (exact stp_move rfl rfl); apply run_step rfl; (exact stp_lit1I (E := 2) rfl (by as_aux_lemma => kernel_rfl) rfl); apply run_step rfl; (exact stp_assign rfl rfl); refine run_nil ?_; refine fin_seq ?_; refine goes_seq ?_; refine goes_seq ?_; refine goes_region ?_; apply run_step rfl; (exact stp_assign rfl rfl); refine run_nil ?_; refine fin_seq ?_; refine goes_block ?_)
  generalize hm : 2 ^ zss.length - 1 = mask
  have hstep : ∀ k, k < zss.length → ∀ c s, mStep zss mask c s k = oStep zss c s k := fun k hk c s => by rw [← hm]; exact oStep_eq hk c s
  have hout : orb zss n c = mLoop zss mask zss.length (n + 1) 0 (oStart n c) := by rw [← hm]; rfl
  rw [hout]
  refine goes_loop (fun q : Nat × MSt => St.of [(0, o1 (.sl 1003 0 zss.length)), (5, o1 (.sl 15 0 n)), (6, o1 (.sl 20 0 q.2.2.length)), (7, vv (I6 q.1))] [(1003, rowsRo zss), (20, leOw q.2.2), (15, boOw q.2.1)])
    (fun q => q.1 ≤ q.2.2.length ∧ MOK n q.2 ∧ mLoop zss mask zss.length (n + 1 - q.1) q.1 q.2 = mLoop zss mask zss.length (n + 1) 0 (oStart n c)) (fun q => n + 1 - q.1) (0, oStart n c) ⟨Nat.zero_le _, oStart_ok hc, rfl⟩ (Wk.of ⟨rfl, rfl, rfl, rfl, trivial⟩ ⟨rfl, rfl, rfl, trivial⟩ trivial) ?_
  rintro ⟨i, s⟩ ⟨hi, hok, hl⟩
  dsimp only at hi hl ⊢
  have hOn : s.2.length ≤ n := hok.le
  (refine goes_seq ?_; refine goes_seq ?_; refine goes_region ?_; apply run_step rfl; (exact stp_move rfl rfl); apply run_step rfl; (exact stp_move rfl rfl); apply run_step rfl; (exact stp_len rfl rfl rfl (by as_aux_lemma => kernel_rfl)); apply run_step rfl; (exact stp_bin rfl rfl rfl rfl); refine run_nil ?_; refine fin_seq ?_)
  refine goes_if rfl (fun h => ?_) (fun h => ?_)
  · have hlt : i < s.2.length := by omega
    have hl' : mLoop zss mask zss.length (n - i) (i + 1) (mRow zss mask zss.length (iget s.2 i).toNat s) = mLoop zss mask zss.length (n + 1) 0 (oStart n c) := by
      rw [← hl, show n + 1 - i = (n - i) + 1 by omega]; exact (mLoop_step hlt).symm
    obtain ⟨e, he1, he2, -⟩ := hok.q i hlt
    rw [he1, Int.toNat_natCast] at hl'
    have hro := fun m hm => mRow_ok (mask := mask) hT rfl he2 hok m hm
    obtain ⟨s0, hs0⟩ : ∃ s0 : MSt, s0 = s := ⟨_, rfl⟩
    rw [← hs0] at hro hl'
    have hi0 : i < s0.2.length := by rw [hs0]; exact hlt
    have he0 : iget s0.2 i = (e : Int) := by rw [hs0]; exact he1
    (refine goes_skip ?_; refine fin_seq ?_; refine goes_seq ?_; refine goes_block ?_; refine goes_seq ?_; refine goes_region ?_; apply run_step rfl; (exact stp_move rfl rfl); apply run_step rfl; (exact stp_len rfl rfl rfl (by as_aux_lemma => kernel_rfl)); apply run_step rfl; (exact stp_move rfl rfl); refine run_nil ?_; refine fin_seq ?_; refine goes_block ?_)
    refine goes_loop (fun q : Nat × MSt => St.of [(0, o1 (.sl 1003 0 zss.length)), (5, o1 (.sl 15 0 n)), (6, o1 (.sl 20 0 q.2.2.length)), (7, vv (I6 i)), (27, o1 (.sl 1003 0 zss.length)), (28, vv (I6 zss.length)), (29, vv (I6 q.1))] [(1003, rowsRo zss), (20, leOw q.2.2), (15, boOw q.2.1)])
      (fun q => q.1 ≤ zss.length ∧ (List.range q.1).foldl (mStep zss mask e) s0 = q.2) (fun q => zss.length - q.1) (0, s) ⟨Nat.zero_le _, hs0⟩ (Wk.of ⟨rfl, rfl, rfl, rfl, rfl, rfl, rfl, trivial⟩ ⟨rfl, rfl, rfl, trivial⟩ trivial) ?_
    clear hl hok hs0 he1 hlt h hi hOn
    rintro ⟨k, s⟩ ⟨hk, hfo⟩
    dsimp only at hk hfo ⊢
    obtain ⟨hok, grw, _⟩ := hro k hk
    rw [hfo] at hok grw
    have hOn : s.2.length ≤ n := hok.le
    have hlt : i < s.2.length := Nat.lt_of_lt_of_le hi0 grw.len
    have hei : iget s.2 i = (e : Int) := (grw.pre i hi0).trans he0
    have hbl : s.1.length = n := hok.l
    (refine goes_seq ?_; refine goes_region ?_; apply run_step rfl; (exact stp_bin rfl rfl rfl rfl); refine run_nil ?_; refine fin_seq ?_; refine goes_seq ?_)
    refine goes_if rfl (fun h2 => ?_) (fun h2 => ?_)
    · have hkn : k < zss.length := by omega
      have hd := bTo_lt hT he2 (g := k) hkn
      have hrl : (lget zss k).length = n := hT.len k hkn
      have hrowk : (irows zss)[k]? = some (ivals (lget zss k)) := irows_get hkn
      have hilk : (ivals (lget zss k)).length = n := by rw [ivals_len]; exact hrl
      obtain ⟨d, hdd⟩ : ∃ d, bTo zss e k = d := ⟨_, rfl⟩
      have hst : (List.range (k + 1)).foldl (mStep zss mask e) s0 = oStep zss e s k := by
        rw [List.range_succ, List.foldl_append, hfo]; exact hstep k hkn e s
      unfold oStep at hst
      rw [hdd] at hd hst
      have hgetd : (ivals (lget zss k))[e]? = some (I6 (d : Int)) := by rw [ivals_get (by omega), hd.2]
      have hgq : (ivals s.2)[i]? = some (I6 (e : Int)) := by rw [ivals_get hlt, hei]
      have hgb : (bvals s.1)[d]? = some (.bool (bat s.1 d)) := bvals_get (by omega)
      have hel : e < (ivals (lget zss k)).length := by rw [hilk]; exact he2
      have hbb : n ≤ (bvals s.1).length := by rw [bvals_len, hbl]; exact Nat.le_refl _
      have hq0 : s.2.length ≤ (ivals s.2).length := by rw [ivals_len]; exact Nat.le_refl _
      (refine goes_skip ?_; refine fin_seq ?_; refine goes_seq ?_; refine goes_block ?_; refine goes_seq ?_; refine goes_region ?_; apply run_step rfl; (first | exact stp_ix (j := k) rfl rfl rfl rfl rfl (by as_aux_lemma => kernel_rfl) rfl hkn (Nat.le_of_eq hlen.symm) | exact stp_loadR rfl (by as_aux_lemma => kernel_rfl) rfl rfl rfl hrowk hilk | exact stp_ix (j := i) rfl rfl rfl rfl rfl (by as_aux_lemma => kernel_rfl) rfl hlt hq0 | exact stp_loadV rfl (by as_aux_lemma => kernel_rfl) rfl rfl rfl hgq | exact stp_ixE (j := e) rfl rfl rfl rfl (by as_aux_lemma => kernel_rfl) hrowk rfl he2 (Nat.le_of_eq hilk.symm) | exact stp_loadE' rfl (by as_aux_lemma => kernel_rfl) rfl rfl rfl hrowk hgetd | exact stp_ix (j := d) rfl rfl rfl rfl rfl (by as_aux_lemma => kernel_rfl) rfl (by omega) hbb | exact stp_loadV rfl (by as_aux_lemma => kernel_rfl) rfl rfl rfl hgb); apply run_step rfl; (first | exact stp_ix (j := k) rfl rfl rfl rfl rfl (by as_aux_lemma => kernel_rfl) rfl hkn (Nat.le_of_eq hlen.symm) | exact stp_loadR rfl (by as_aux_lemma => kernel_rfl) rfl rfl rfl hrowk hilk | exact stp_ix (j := i) rfl rfl rfl rfl rfl (by as_aux_lemma => kernel_rfl) rfl hlt hq0 | exact stp_loadV rfl (by as_aux_lemma => kernel_rfl) rfl rfl rfl hgq | exact stp_ixE (j := e) rfl rfl rfl rfl (by as_aux_lemma => kernel_rfl) hrowk rfl he2 (Nat.le_of_eq hilk.symm) | exact stp_loadE' rfl (by as_aux_lemma => kernel_rfl) rfl rfl rfl hrowk hgetd | exact stp_ix (j := d) rfl rfl rfl rfl rfl (by as_aux_lemma => kernel_rfl) rfl (by omega) hbb | exact stp_loadV rfl (by as_aux_lemma => kernel_rfl) rfl rfl rfl hgb); apply run_step rfl; (exact stp_assign rfl rfl); refine run_nil ?_; refine fin_seq ?_; refine goes_seq ?_; refine goes_region ?_; apply run_step rfl; (exact stp_move rfl rfl); apply run_step rfl; (exact stp_move rfl rfl); apply run_step rfl; (exact stp_move rfl rfl); apply run_step rfl; (first | exact stp_ix (j := k) rfl rfl rfl rfl rfl (by as_aux_lemma => kernel_rfl) rfl hkn (Nat.le_of_eq hlen.symm) | exact stp_loadR rfl (by as_aux_lemma => kernel_rfl) rfl rfl rfl hrowk hilk | exact stp_ix (j := i) rfl rfl rfl rfl rfl (by as_aux_lemma => kernel_rfl) rfl hlt hq0 | exact stp_loadV rfl (by as_aux_lemma => kernel_rfl) rfl rfl rfl hgq | exact stp_ixE (j := e) rfl rfl rfl rfl (by as_aux_lemma => kernel_rfl) hrowk rfl he2 (Nat.le_of_eq hilk.symm) | exact stp_loadE' rfl (by as_aux_lemma => kernel_rfl) rfl rfl rfl hrowk hgetd | exact stp_ix (j := d) rfl rfl rfl rfl rfl (by as_aux_lemma => kernel_rfl) rfl (by omega) hbb | exact stp_loadV rfl (by as_aux_lemma => kernel_rfl) rfl rfl rfl hgb); apply run_step rfl; (first | exact stp_ix (j := k) rfl rfl rfl rfl rfl (by as_aux_lemma => kernel_rfl) rfl hkn (Nat.le_of_eq hlen.symm) | exact stp_loadR rfl (by as_aux_lemma => kernel_rfl) rfl rfl rfl hrowk hilk | exact stp_ix (j := i) rfl rfl rfl rfl rfl (by as_aux_lemma => kernel_rfl) rfl hlt hq0 | exact stp_loadV rfl (by as_aux_lemma => kernel_rfl) rfl rfl rfl hgq | exact stp_ixE (j := e) rfl rfl rfl rfl (by as_aux_lemma => kernel_rfl) hrowk rfl he2 (Nat.le_of_eq hilk.symm) | exact stp_loadE' rfl (by as_aux_lemma => kernel_rfl) rfl rfl rfl hrowk hgetd | exact stp_ix (j := d) rfl rfl rfl rfl rfl (by as_aux_lemma => kernel_rfl) rfl (by omega) hbb | exact stp_loadV rfl (by as_aux_lemma => kernel_rfl) rfl rfl rfl hgb); apply run_step rfl; (exact stp_ixE rfl rfl rfl rfl rfl (by as_aux_lemma => kernel_rfl) (by first | assumption | exact ivals_get (by assumption) | exact irows_get (by assumption) | exact ivals_get (by omega) | exact irows_get (by omega) | rfl) (by first | rfl | exact (Int.toNat_of_nonneg (by omega)).symm) (by first | assumption | omega | (simp; omega)) (by first | exact Nat.le_refl _ | exact Nat.le_of_eq (ivals_len _).symm | exact Nat.le_of_eq (irows_len _).symm | (refine Nat.le_trans ?_ (Nat.le_of_eq (ivals_len _).symm); (first | omega | (simp; done) | (simp; omega))) | (refine Nat.le_trans ?_ (Nat.le_of_eq (irows_len _).symm); (first | omega | (simp; done) | (simp; omega))))); apply run_step rfl; (first | exact stp_ix (j := k) rfl rfl rfl rfl rfl (by as_aux_lemma => kernel_rfl) rfl hkn (Nat.le_of_eq hlen.symm) | exact stp_loadR rfl (by as_aux_lemma => kernel_rfl) rfl rfl rfl hrowk hilk | exact stp_ix (j := i) rfl rfl rfl rfl rfl (by as_aux_lemma => kernel_rfl) rfl hlt hq0 | exact stp_loadV rfl (by as_aux_lemma => kernel_rfl) rfl rfl rfl hgq | exact stp_ixE (j := e) rfl rfl rfl rfl (by as_aux_lemma => kernel_rfl) hrowk rfl he2 (Nat.le_of_eq hilk.symm) | exact stp_loadE' rfl (by as_aux_lemma => kernel_rfl) rfl rfl rfl hrowk hgetd | exact stp_ix (j := d) rfl rfl rfl rfl rfl (by as_aux_lemma => kernel_rfl) rfl (by omega) hbb | exact stp_loadV rfl (by as_aux_lemma => kernel_rfl) rfl rfl rfl hgb); apply run_step rfl; (exact stp_assign rfl rfl); refine run_nil ?_; refine fin_seq ?_; refine goes_seq ?_; refine goes_region ?_; apply run_step rfl; (exact stp_move rfl rfl); apply run_step rfl; (exact stp_move rfl rfl); apply run_step rfl; (first | exact stp_ix (j := k) rfl rfl rfl rfl rfl (by as_aux_lemma => kernel_rfl) rfl hkn (Nat.le_of_eq hlen.symm) | exact stp_loadR rfl (by as_aux_lemma => kernel_rfl) rfl rfl rfl hrowk hilk | exact stp_ix (j := i) rfl rfl rfl rfl rfl (by as_aux_lemma => kernel_rfl) rfl hlt hq0 | exact stp_loadV rfl (by as_aux_lemma => kernel_rfl) rfl rfl rfl hgq | exact stp_ixE (j := e) rfl rfl rfl rfl (by as_aux_lemma => kernel_rfl) hrowk rfl he2 (Nat.le_of_eq hilk.symm) | exact stp_loadE' rfl (by as_aux_lemma => kernel_rfl) rfl rfl rfl hrowk hgetd | exact stp_ix (j := d) rfl rfl rfl rfl rfl (by as_aux_lemma => kernel_rfl) rfl (by omega) hbb | exact stp_loadV rfl (by as_aux_lemma => kernel_rfl) rfl rfl rfl hgb); apply run_step rfl; (first | exact stp_ix (j := k) rfl rfl rfl rfl rfl (by as_aux_lemma => kernel_rfl) rfl hkn (Nat.le_of_eq hlen.symm) | exact stp_loadR rfl (by as_aux_lemma => kernel_rfl) rfl rfl rfl hrowk hilk | exact stp_ix (j := i) rfl rfl rfl rfl rfl (by as_aux_lemma => kernel_rfl) rfl hlt hq0 | exact stp_loadV rfl (by as_aux_lemma => kernel_rfl) rfl rfl rfl hgq | exact stp_ixE (j := e) rfl rfl rfl rfl (by as_aux_lemma => kernel_rfl) hrowk rfl he2 (Nat.le_of_eq hilk.symm) | exact stp_loadE' rfl (by as_aux_lemma => kernel_rfl) rfl rfl rfl hrowk hgetd | exact stp_ix (j := d) rfl rfl rfl rfl rfl (by as_aux_lemma => kernel_rfl) rfl (by omega) hbb | exact stp_loadV rfl (by as_aux_lemma => kernel_rfl) rfl rfl rfl hgb); apply run_step rfl; (exact stp_not rfl rfl); refine run_nil ?_; refine fin_seq ?_)
      refine goes_cond rfl (fun hb => ?_) (fun hb => ?_)
      · have hb : bat s.1 d = false := by simpa using hb
        have hv : (List.range (k + 1)).foldl (mStep zss mask e) s0 = (s.1.set d true, s.2 ++ [(d : Int)]) := by rw [hst, if_pos hb]
        (refine goes_seq ?_; refine goes_region ?_; apply run_step rfl; (exact stp_move rfl rfl); apply run_step rfl; (exact stp_move rfl rfl); apply run_step rfl; (first | exact stp_ix (j := d) rfl rfl rfl rfl rfl (by as_aux_lemma => kernel_rfl) rfl (by omega) hbb | exact stp_stB rfl rfl rfl rfl rfl (by omega) (by as_aux_lemma => kernel_rfl)); apply run_step rfl; (first | exact stp_ix (j := d) rfl rfl rfl rfl rfl (by as_aux_lemma => kernel_rfl) rfl (by omega) hbb | exact stp_stB rfl rfl rfl rfl rfl (by omega) (by as_aux_lemma => kernel_rfl)); refine run_nil ?_; refine fin_seq ?_; refine goes_region ?_; apply run_step rfl; (exact stp_move rfl rfl); apply run_step rfl; (exact stp_move rfl rfl); apply run_step rfl; (exact stp_lit1I (E := 2) rfl (by as_aux_lemma => kernel_rfl) rfl); apply run_step rfl; (exact stp_appI rfl (by as_aux_lemma => kernel_rfl) rfl rfl rfl (by first | rfl | assumption | (simp; done)) rfl rfl (by omega)); apply run_step rfl; (exact stp_assign rfl rfl); refine run_nil ?_; refine fin_block ?_; refine fin_seq ?_; refine goes_region ?_; apply run_step rfl; (exact stp_add rfl rfl rfl (by first | exact IntWalk.i64_in _ (by omega) | rfl)); apply run_step rfl; (exact stp_move rfl rfl); refine run_nil ?_)
        exact fin_round (k + 1, (s.1.set d true, s.2 ++ [(d : Int)])) ⟨hkn, hv⟩ (by show zss.length - (k + 1) < zss.length - k; omega) (Wk.of ⟨rfl, rfl, congrArg (fun x => some (o1 (.sl 20 0 x))) (by simp), rfl, rfl, rfl, rfl, trivial⟩ ⟨rfl, rfl, rfl, trivial⟩ trivial)
      · have hb : bat s.1 d = true := by simpa using hb
        have hv : (List.range (k + 1)).foldl (mStep zss mask e) s0 = s := by rw [hst, if_neg (by rw [hb]; simp)]
        (refine goes_skip ?_; refine fin_block ?_; refine fin_seq ?_; refine goes_region ?_; apply run_step rfl; (exact stp_add rfl rfl rfl (by first | exact IntWalk.i64_in _ (by omega) | rfl)); apply run_step rfl; (exact stp_move rfl rfl); refine run_nil ?_)
        exact fin_round (k + 1, s) ⟨hkn, hv⟩ (by show zss.length - (k + 1) < zss.length - k; omega) (Wk.of ⟨rfl, rfl, rfl, rfl, rfl, rfl, rfl, trivial⟩ ⟨rfl, rfl, rfl, trivial⟩ trivial)
    · obtain rfl : k = zss.length := by omega
      (refine goes_exit ?_; refine fin_exit_then ?_; refine fin_exit_then ?_; refine fin_exit_eq ?_; refine fin_block ?_; refine fin_seq ?_; refine goes_region ?_; apply run_step rfl; (exact stp_move rfl rfl); apply run_step rfl; (exact stp_add rfl rfl rfl (by first | exact IntWalk.i64_in _ (by omega) | rfl)); apply run_step rfl; (exact stp_assign rfl rfl); refine run_nil ?_)
      exact fin_round (i + 1, s) ⟨hlt, hok, by rw [← hl']; show mLoop _ _ _ (n + 1 - (i + 1)) _ _ = _; rw [show n + 1 - (i + 1) = n - i by omega]; unfold mRow; rw [hfo]⟩ (by show n + 1 - (i + 1) < n + 1 - i; omega) (Wk.of ⟨rfl, rfl, rfl, rfl, trivial⟩ ⟨rfl, rfl, rfl, trivial⟩ trivial)
  · have hio : i = s.2.length := by omega
    have hOM : mLoop zss mask zss.length (n + 1) 0 (oStart n c) = s := by
      rw [← hl, show n + 1 - i = (n - i) + 1 by omega, mLoop, if_neg (by omega)]
    rw [hOM]
    (refine goes_exit ?_; refine fin_exit_then ?_; refine fin_exit_then ?_; refine fin_exit_eq ?_; refine fin_seq ?_; refine goes_seq ?_; refine goes_region ?_; apply run_step rfl; (exact stp_move rfl rfl); apply run_step rfl; (exact stp_assign rfl rfl); refine run_nil ?_; refine fin_seq ?_; refine goes_ret ?_)
    exact fin_ret1 (.inl rfl) rfl (.tmp rfl) ⟨rfl, trivial⟩ trivial
theorem numI_any (f : Nat) (d : List (List Int)) (v : Value) (w : World) (h : RdSSc w v d) (hM : Man d) (hf : f < flg d) :
    Calls Try.prog 110 #[v, .int .i64 f] w fun e w' => ∃ v', e = .returned v' ∧ OwnS 2 w' w.heap.size w'.heap.size v' (orb d (flg d) f).2 ∧ Below w.heap.size w w' := by
  obtain ⟨hd, r, rfl, hv⟩ := ofSSc 1003 32 2 h
  have hN : flg d ≤ 400 := hM.f4
  have hn := hM.n5
  have hO := (orb_ok (man_leads hM) hf).le
  exact toS_call rfl (by omega) ((numI_fc d (flg d) f (man_leads hM) (by have := hM.n1; omega) (by omega) (by omega) hf).call (l := [(1003, (rowsRo d, hd, r))]) (us := [_, _]) (fun p hp => by simp at hp; subst hp; exact hv) rfl (denL2 (den_sl (q := (rowsRo d, hd, r)) rfl) rfl))
/-- the flags in the order of their new numbers -/
theorem ordF_full {d : List (List Int)} (hM : Man d) {f : Nat} (hf : f < flg d) : (orb d (flg d) f).2.length = flg d :=
  (orb_full (man_leads hM) hf).2 fun x hx => rch_trans (man_leads hM) hf (by omega) hx (rch_symm (man_leads hM) (man_back hM) (by omega) hf (man_rch hM f hf)) (man_rch hM x hx)
theorem ordF_in {d : List (List Int)} (hM : Man d) {f : Nat} (hf : f < flg d) {i : Nat} (hi : i < flg d) : ∃ x : Nat, iget (orb d (flg d) f).2 i = (x : Int) ∧ x < flg d := by
  obtain ⟨x, h1, h2, _⟩ := (orb_ok (man_leads hM) hf).q i (by rw [ordF_full hM hf]; exact hi)
  exact ⟨x, h1, h2⟩
def ordN (d : List (List Int)) (f i : Nat) : Nat := (iget (orb d (flg d) f).2 i).toNat
def numN (d : List (List Int)) (f : Nat) : List Int := putL (flg d) (fun i => ordN d f i) (fun i => (i : Int)) (flg d)
def frmRow (d : List (List Int)) (f g k : Nat) : List Int := (List.range k).map fun i => iget (numN d f) (bTo d (ordN d f i) g)
/-- the form from a flag -/
def frmL (d : List (List Int)) (f : Nat) : List (List Int) := (List.range d.length).map fun g => frmRow d f g (flg d)
theorem frmRow_succ (d : List (List Int)) (f g k : Nat) : frmRow d f g (k + 1) = frmRow d f g k ++ [iget (numN d f) (bTo d (ordN d f k) g)] := by simp [frmRow, List.range_succ]
theorem frmL_take {d : List (List Int)} {f g : Nat} (h : g < d.length) : (frmL d f).take (g + 1) = (frmL d f).take g ++ [frmRow d f g (flg d)] := by
  rw [List.take_succ_eq_append_getElem (by simpa [frmL] using h)]
  congr 1
  simp [frmL]
set_option maxRecDepth 100000 in
set_option maxHeartbeats 6400000 in
theorem formFrom_any (ao : Option Addr) (n c f : Nat) (d : List (List Int)) (w : World) (hd : RdSSc w (.slice ao n c) d) (hM : Man d) (hf : f < flg d) :
    Calls Try.prog 78 #[.slice ao n c, .int .i64 f] w fun e w' => ∃ r, e = .returned r ∧ OwM 2 32 w' w.heap.size w'.heap.size r (frmL d f) ∧ Below w.heap.size w w' := by
  have HD := Lib.hid hd
  have HM := Lib.hid hM
  have HF := Lib.hid hf
  obtain ⟨N, hN⟩ : ∃ N, flg d = N := ⟨_, rfl⟩
  have HN := Lib.hid hN
  have HOF := Lib.hid (ordF_full hM hf)
  have HOI := Lib.hid (fun (i : Nat) (hi : i < flg d) => ordF_in hM hf hi)
  have hdl := hd.intss.1
  have hd1 := hM.n1
  have hd5 := hM.n5
  have hN2 : 2 ≤ N := by rw [← hN]; exact hM.f2
  have hN4 : N ≤ 400 := by rw [← hN]; exact hM.f4
  clear hd hM hf hN
  have b1 := below_alloc1 w (.cells #[.slice none 0 0] 28)
  have kr1 : Blk (w.alloc (.cells #[.slice none 0 0] 28)) w.heap.size 28 #[.slice none 0 0] := blk_at rfl
  have hz1 : w.heap.size < (w.alloc (.cells #[.slice none 0 0] 28)).heap.size := by simp
  go_enter Try.func78, Try.ntmps78
  go_upto_region 1 with fail
  generalize w.alloc (.cells #[.slice none 0 0] 28) = w1 at *
  have HD1 := Lib.hid (HD.out.below b1)
  have B1 := Lib.hid b1
  have KR1 := Lib.hid kr1
  clear b1 kr1 HD
  go_wp2_with fail
  refine (numI_any f d _ w1 HD1.out HM.out HF.out).mono ?_
  rintro e w2 ⟨v2, rfl, o2, b2⟩
  obtain ⟨⟨oa, on, oc, rfl, ho⟩, -⟩ := o2
  have hon : on = N := by have := ho.len; rw [List.length_map, HOF.out, HN.out] at this; exact this.symm
  subst hon
  have HO2 := Lib.hid ho.ints
  have hz12 : w.heap.size < w2.heap.size := Nat.lt_of_lt_of_le hz1 b2.size
  have B2 := Lib.hid (B1.out.trans (b2.mono (Nat.le_of_lt hz1)))
  have KR2 := Lib.hid (KR1.out.belowS b2)
  have HD2 := Lib.hid (HD1.out.below b2)
  clear ho b2 B1 KR1 HD1
  obtain ⟨b0, off0, a0, n0, c0, rfl, hc0, hi0⟩ := HD2.out.intss.at_ (k := 0) (by omega)
  have hn0 : n0 = on := by rw [← hi0.1, ← HN.out]; rfl
  subst hn0
  rw [Nat.add_zero] at hc0
  clear hi0
  go_wp2_with (at_make; refine wpList_mk etI _ rfl _ _ rfl w2.heap.size _ _ _ _ n0 rfl rfl rfl rfl (by omega) (Nat.le_refl _) ?_; intro w3 o3 g3 s3)
  have b3 : Below w2.heap.size w2 w3 := (Below.refl _ _).grown g3 (Nat.le_refl _) (by simp)
  have B3 := Lib.hid b3
  have hg3 : w2.heap.size < w3.heap.size := (o3.lt w2.heap.size rfl).2
  obtain ⟨gn, hgn⟩ : ∃ gn, w2.heap.size = gn := ⟨_, rfl⟩
  have HGN := Lib.hid hgn
  have O3 := Lib.hid (show Own w3 w2.heap.size 2 (some ⟨gn, 0, none⟩) n0 n0 ((putL n0 (fun i => ordN d f i) (fun i => (i : Int)) 0).map (Value.int .i64)) by rw [← hgn, putL_zero]; simpa using o3)
  clear o3 g3 s3 b3 hc0
  rw [hgn]
  have hz2 := B2.out.size
  have hgn2 : gn < w3.heap.size := by rw [← hgn]; exact hg3
  clear hgn
  go_wp2_with fail
  go_loopw [25] (fun kv wr => ∃ k : Nat, kv = .int .i64 k ∧ k ≤ n0 ∧ Own wr w2.heap.size 2 (some ⟨gn, 0, none⟩) n0 n0 ((putL n0 (fun i => ordN d f i) (fun i => (i : Int)) k).map (Value.int .i64)) ∧ Below w2.heap.size w2 wr) (fun kv _ => n0 - (intOf kv).toNat)
  case atStart => exact ⟨0, rfl, Nat.zero_le _, O3.out, B3.out⟩
  case round =>
    clear O3 B3 hg3
    obtain ⟨k, rfl, hk, ho, hb⟩ := hrel
    have hl3 := putL_len n0 (fun i => ordN d f i) (fun i => (i : Int)) k
    by_cases hlt : k < n0
    · obtain ⟨x, hx1, hx2⟩ := HOI.out k (by rw [HN.out]; exact hlt)
      rw [HN.out] at hx2
      obtain ⟨b1, off1, rfl, hc1⟩ := (HO2.out.below hb).at_ hlt
      rw [hx1] at hc1
      have hxo : ordN d f k = x := by unfold ordN; rw [hx1, Int.toNat_natCast]
      obtain ⟨g', eg, -, hgl, -, hcell, hfr⟩ := ho.form (by omega)
      injection eg with eg
      injection eg with eg
      subst eg
      have hcx : wr.cell? ⟨gn, x, none⟩ = some (.int .i64 (iget (putL n0 (fun i => ordN d f i) (fun i => (i : Int)) k) x)) := by rw [hcell x hx2, List.getElem?_map, List.getElem?_eq_getElem (by omega), iget_lt (by omega)]; rfl
      have hfx := hfr x
      obtain ⟨st1, st2⟩ := ho.stored x (.int .i64 (k : Int))
      have ST1 := Lib.hid (show Own (wr.setCell ⟨gn, x, none⟩ (.int .i64 (k : Int))) w2.heap.size 2 (some ⟨gn, 0, none⟩) n0 n0 ((putL n0 (fun i => ordN d f i) (fun i => (i : Int)) (k + 1)).map (Value.int .i64)) by rw [putL_succ, hxo, List.map_set]; exact st1)
      have BW := Lib.hid (hb.grown st2 hb.size (fun g e => by injection e with e; rw [← e, HGN.out]; exact Nat.le_refl _))
      have hx0 : (x : Int) < (n0 : Int) := by omega
      clear st1 st2 ho hb hcell hfr hxo hl3 hx1
      go_wp2
      go_roundw
      case rel => exact ⟨k + 1, by go_num, by omega, ST1.out, BW.out⟩
      case measure => simp [intOf]; omega
    · obtain rfl : k = n0 := by omega
      obtain ⟨wB, rfl⟩ : ∃ x, x = wr := ⟨_, rfl⟩
      have HO := Lib.hid ho
      have HB := Lib.hid hb
      have hzB := hb.size
      have b7 := (Below.refl wB.heap.size wB).alloc (Nat.le_refl _) (.cells #[.slice none 0 0] 28)
      have ST := Lib.hid (MBx.start (w := wB) b7 (Blk.new wB 28 #[.slice none 0 0]) (Nat.le_refl _))
      have hz7 : wB.heap.size < (wB.alloc (.cells #[.slice none 0 0] 28)).heap.size := by simp
      clear b7 hb ho
      go_upto_region 9 with fail
      generalize wB.alloc (.cells #[.slice none 0 0] 28) = w7 at *
      obtain ⟨bx, hbx⟩ : ∃ bx, wB.heap.size = bx := ⟨_, rfl⟩
      have HBX := Lib.hid hbx
      rw [hbx] at ST hz7 ⊢
      clear hbx
      go_wp2_with fail
      go_loopw [37] (fun kv wr => ∃ (q : Nat) (am : Option Addr) (c : Nat) (us : List Value), kv = .int .i64 q ∧ q ≤ n ∧ MBx wB wr bx (bx + 1) am q c us ((frmL d f).take q)) (fun kv _ => n - (intOf kv).toNat)
      case atStart => exact ⟨0, none, 0, [], rfl, Nat.zero_le _, ST.out⟩
      case round =>
        clear ST hz7
        obtain ⟨q, am, cm, um, rfl, hq, st⟩ := hrel
        obtain ⟨wA, rfl⟩ : ∃ x, x = wr := ⟨_, rfl⟩
        by_cases hlt : q < n
        · have ST := Lib.hid st
          have hbw := Lib.hid st.bel
          have hzr := hbw.out.size
          have HBA := Lib.hid (HB.out.trans (hbw.out.mono hzB))
          obtain ⟨b2, off2, a2, n2, c2, e2, hc2, hi2⟩ := (HD2.out.intss.below HBA.out).at_ hlt
          injection e2 with e2
          injection e2 with e21 e22
          subst e21 e22
          have hn2 : n2 = k := by rw [← hi2.1, ← HN.out]; exact HM.out.len q (by omega)
          subst hn2
          have HI2 := Lib.hid hi2
          have hE : Own wA wA.heap.size 2 none 0 0 [] := Own.nil_ _ _ _
          clear st hi2
          go_wp2_with fail
          go_loopw [12, 43] (fun sv iv w8 => ∃ (i : Nat) (a : Option Addr) (cc : Nat), i ≤ n2 ∧ sv = .slice a i cc ∧ iv = .int .i64 i ∧ Own w8 wA.heap.size 2 a i cc ((frmRow d f q i).map (Value.int .i64)) ∧ Below wA.heap.size wA w8) (fun _ iv _ => n2 - (intOf iv).toNat)
          case atStart => exact ⟨0, _, _, Nat.zero_le _, rfl, rfl, by simpa [frmRow] using hE, Below.refl _ _⟩
          case round =>
            clear hE hc2
            obtain ⟨i, a, cc, hi, rfl, rfl, ho, hb8⟩ := hrel
            obtain ⟨w8, rfl⟩ : ∃ x, x = wr := ⟨_, rfl⟩
            have HBW := Lib.hid (hbw.out.trans (hb8.mono hzr))
            have HB2W := Lib.hid (HB.out.trans (HBW.out.mono hzB))
            have HO8 := Lib.hid ho
            have hz8 := hb8.size
            clear ho
            by_cases hlti : i < n2
            · obtain ⟨x, hx1, hx2⟩ := HOI.out i (by rw [HN.out]; exact hlti)
              have hxo : ordN d f i = x := by unfold ordN; rw [hx1, Int.toNat_natCast]
              obtain ⟨b1, off1, rfl, hc1⟩ := (HO2.out.below HB2W.out).at_ hlti
              rw [hx1] at hc1
              have hy := bTo_lt (man_leads HM.out) hx2 (g := q) (by omega)
              rw [HN.out] at hx2
              obtain ⟨b4, off4, rfl, hc4⟩ := (HI2.out.below hb8).at_ hx2
              obtain ⟨y, hye⟩ : ∃ y, bTo d x q = y := ⟨_, rfl⟩
              rw [hy.2, hye] at hc4
              have hyN : y < n2 := by rw [← hye, ← HN.out]; exact hy.1
              obtain ⟨b5, off5, e5, hc5⟩ := ((HO.out.below HBW.out).ints).at_ hyN
              injection e5 with e5
              injection e5 with e51 e52
              subst e51 e52
              rw [Nat.zero_add] at hc5
              have hrw := frmRow_succ d f q i
              rw [hxo, hye] at hrw
              have hnum : iget (numN d f) y = iget (putL n2 (fun i => ordN d f i) (fun i => (i : Int)) n2) y := by unfold numN; rw [HN.out]
              rw [hnum] at hrw
              have HRW := Lib.hid hrw
              have hx0 : (x : Int) < (n2 : Int) := by omega
              have hy0 : (y : Int) < (n2 : Int) := by omega
              clear hrw hnum hy hye hxo hx1
              go_wp2_with (at_builtin; refine wpList_ap1 etI _ rfl _ _ rfl wA.heap.size a i cc _ rfl HO8.out _ rfl rfl (by omega) hz8 ?_; intro ao2 c2' w4 ho2 hg2 hblk)
              have HO2' := Lib.hid ho2
              have hb12 := hb8.grown hg2 hz8 (fun g hg => (HO8.out.lt g hg).1)
              clear ho2 hblk hg2
              go_roundw
              case rel => exact ⟨i + 1, ao2, c2', by omega, rfl, by go_num, by rw [HRW.out, List.map_append]; exact HO2'.out, hb12⟩
              case measure => simp [intOf]; omega
            · obtain rfl : i = n2 := by omega
              have hzs : (frmL d f).take (q + 1) = (frmL d f).take q ++ [frmRow d f q i] := by rw [frmL_take (by omega), HN.out]
              have HZS := Lib.hid hzs
              have STB := Lib.hid (ST.out.below hb8)
              have xb := STB.out.cell
              have hlo8 := STB.out.at_.2.2
              clear hzs
              go_wp2_with (at_builtin; refine wpList_ap1 etSS _ rfl _ _ rfl (bx + 1) am q cm _ rfl STB.out.row.own (.slice a i cc) rfl rfl (by omega) hlo8 ?_; intro ao2 c2' w4 ho2 hg2 hat; have x4 := (STB.out.boxG hg2).cell 0; have f4 := (STB.out.boxG hg2).frozen 0)
              have SP := Lib.hid (ST.out.push (by omega) hb8 HO8.out (Below.refl _ _) ho2 hg2 (hat.imp id fun e => ⟨_, e, Nat.le_succ _⟩))
              clear ho2 hg2 hat STB ST
              go_roundw
              case rel => exact ⟨q + 1, ao2, c2', _, by go_num, by omega, by rw [HZS.out]; exact SP.out⟩
              case measure => simp [intOf]; omega
        · obtain rfl : q = n := by omega
          have hall : (frmL d f).take q = frmL d f := List.take_of_length_le (by simp [frmL]; omega)
          rw [hall] at st
          have xb := st.cell
          have HBA := Lib.hid (HB.out.trans (st.bel.mono hzB))
          have KRr := KR2.out.belowS HBA.out
          have xr := KRr.cell 0
          have fr := KRr.frozen 0
          have BF := Lib.hid (B2.out.trans (HBA.out.mono hz2))
          have ST := Lib.hid st
          have hwb : w.heap.size ≤ wB.heap.size := by omega
          simp at xr
          clear st
          go_wp2
          have hfl : w.heap.size < bx := by rw [← HBX.out]; omega
          exact bodyPost_ret (v := .agg #[.slice am q cm]) (by simp [results, Try.f78, go_sem, xr]) rfl ⟨_, rfl, ST.out.done hfl _ hwb, BF.out.setCell (by simp) _⟩
end Go.Proofs.Ytmdhljleaijkbaa

/- Groups of permutations, on lists: the search for the elements, ascending lists of lists. No program in sight. -/
namespace Go.Proofs.Ytmdhljleaijkbaa

/-- one list comes before another one -/
def ltL : List Int → List Int → Bool
  | [], [] => false
  | [], _ :: _ => true
  | _ :: _, [] => false
  | a :: r, b :: s => if a < b then true else if b < a then false else ltL r s
theorem ltL_irr : ∀ a : List Int, ltL a a = false
  | [] => rfl
  | a :: r => by unfold ltL; rw [if_neg (by omega), if_neg (by omega)]; exact ltL_irr r
theorem ltL_tri : ∀ a b : List Int, ltL a b = true ∨ a = b ∨ ltL b a = true
  | [], [] => .inr (.inl rfl)
  | [], _ :: _ => .inl rfl
  | _ :: _, [] => .inr (.inr rfl)
  | a :: r, b :: s => by
    unfold ltL
    by_cases h1 : a < b
    · left; rw [if_pos h1]
    · by_cases h2 : b < a
      · right; right; rw [if_pos h2]
      · obtain rfl : a = b := by omega
        rw [if_neg h1, if_neg h1]
        rcases ltL_tri r s with h | h | h
        · exact .inl h
        · exact .inr (.inl (by rw [h]))
        · right; right; rw [if_neg h1, if_neg h1]; exact h
theorem ltL_trans : ∀ {a b c : List Int}, ltL a b = true → ltL b c = true → ltL a c = true
  | [], [], _, h, _ => by simp [ltL] at h
  | [], _ :: _, [], _, h => by simp [ltL] at h
  | [], _ :: _, _ :: _, _, _ => rfl
  | _ :: _, [], _, h, _ => by simp [ltL] at h
  | _ :: _, _ :: _, [], _, h => by simp [ltL] at h
  | a :: r, b :: s, c :: t, h1, h2 => by
    unfold ltL at h1 h2 ⊢
    by_cases hab : a < b
    · by_cases hbc : b < c
      · rw [if_pos (by omega)]
      · rw [if_neg hbc] at h2
        by_cases hcb : c < b
        · rw [if_pos hcb] at h2; cases h2
        · rw [if_pos (by omega)]
    · rw [if_neg hab] at h1
      by_cases hba : b < a
      · rw [if_pos hba] at h1; cases h1
      · rw [if_neg hba] at h1
        by_cases hbc : b < c
        · rw [if_pos (by omega)]
        · rw [if_neg hbc] at h2
          by_cases hcb : c < b
          · rw [if_pos hcb] at h2; cases h2
          · rw [if_neg hcb] at h2
            rw [if_neg (by omega), if_neg (by omega)]
            exact ltL_trans h1 h2
theorem ltL_asym {a b : List Int} (h : ltL a b = true) : ltL b a = false := by
  cases h2 : ltL b a with
  | false => rfl
  | true => have := ltL_trans h h2; rw [ltL_irr] at this; cases this
end Go.Proofs.Ytmdhljleaijkbaa

/- Groups of permutations: the reference's l01Less, l01Same, l01Then, l01Put. guards: -/
namespace Go.Proofs.Ytmdhljleaijkbaa
open Go.RowKit

theorem iget_cons_drop {x : List Int} {k : Nat} (h : k < x.length) : x.drop k = iget x k :: x.drop (k + 1) := by rw [List.drop_eq_getElem_cons h, iget_lt h]
theorem ltL_step {x y : List Int} {n k : Nat} (hx : x.length = n) (hy : y.length = n) (hk : k < n) : ltL (x.drop k) (y.drop k) = if iget x k < iget y k then true else if iget y k < iget x k then false else ltL (x.drop (k + 1)) (y.drop (k + 1)) := by
  rw [iget_cons_drop (by omega : k < x.length), iget_cons_drop (by omega : k < y.length)]; rfl
/-- the lists of a spine: each in a block of numbers that nothing writes any more -/
structure SpF (w : World) (lo : Nat) (ao : Option Addr) (n c : Nat) (us : List Value) (ds : List (List Int)) : Prop where
  own : Own w lo 32 ao n c us
  len : ds.length = n
  row : ∀ (j : Nat) (u : Value) (d : List Int), us[j]? = some u → ds[j]? = some d → ∃ a m k, u = .slice a m k ∧ Own w lo 2 a m k (d.map (Value.int .i64))
theorem Own.typG {w : World} {lo E n c : Nat} {ao : Option Addr} {xs : List Value} (h : Own w lo E ao n c xs) {g : Nat} (hg : bk ao = some g) : ∃ cs, w.heap[g]? = some (.cells cs E (0, 0)) := by
  rcases h.1.2 with h2 | ⟨g', cap, cur, hv, _, hh, _⟩
  · have h2 := h2.1
    injection h2 with h3; subst h3; cases hg
  · injection hv with h3; subst h3
    obtain rfl := Option.some.inj hg
    exact ⟨cur, hh⟩
theorem own_neT {w : World} {lo lo' E E' n n' c c' : Nat} {ao ao' : Option Addr} {xs xs' : List Value} (h : Own w lo E ao n c xs) (h' : Own w lo' E' ao' n' c' xs') (hE : E ≠ E') {g : Nat} (hg : bk ao = some g) : bk ao' ≠ some g := fun e => by
  obtain ⟨cs, h1⟩ := h.typG hg
  obtain ⟨cs', h2⟩ := h'.typG e
  rw [h1] at h2
  injection h2 with h2
  injection h2 with _ h2
  exact hE h2
section
variable {w w' : World} {lo : Nat} {ao : Option Addr} {n c : Nat} {us : List Value} {ds : List (List Int)}
theorem SpF.at_ (h : SpF w lo ao n c us ds) {j : Nat} (hj : j < n) : ∃ g a m k, ao = some ⟨g, 0, none⟩ ∧ w.cell? ⟨g, j, none⟩ = some (.slice a m k) ∧ us[j]? = some (.slice a m k) ∧ Own w lo 2 a m k ((lget ds j).map (Value.int .i64)) := by
  have hl := h.own.len
  have hd := h.len
  obtain ⟨g, rfl, -, -, -, hc, -⟩ := h.own.form (by omega)
  have hu := List.getElem?_eq_getElem (by omega : j < us.length)
  obtain ⟨a, m, k, e, ho⟩ := h.row j _ _ hu (get?_lget (by omega))
  exact ⟨g, a, m, k, rfl, by rw [hc j hj, hu, e], by rw [hu, e], ho⟩
/-- another spine has grown -/
theorem SpF.far (h : SpF w lo ao n c us ds) {b : Option Addr} {nb cb : Nat} {vs : List Value} {lob : Nat} (hb : Own w lob 32 b nb cb vs) (hg : w.grownBy w' (bk b)) (hne : ∀ g, bk ao = some g → bk b ≠ some g) : SpF w' lo ao n c us ds :=
  ⟨h.own.same fun g e => hg.block g (h.own.lt g e).2 (fun q => hne g e q.symm), h.len, fun j u d hu hd => by
    obtain ⟨a, m, k, e, ho⟩ := h.row j u d hu hd
    exact ⟨a, m, k, e, ho.same fun g eg => hg.block g (ho.lt g eg).2 (fun q => own_neT ho hb (by decide) eg q.symm)⟩⟩
theorem SpF.below (h : SpF w lo ao n c us ds) (hb : Below w.heap.size w w') : SpF w' lo ao n c us ds :=
  ⟨h.own.below hb, h.len, fun j u d hu hd => by
    obtain ⟨a, m, k, e, ho⟩ := h.row j u d hu hd
    exact ⟨a, m, k, e, ho.below hb⟩⟩
theorem SpF.push (h : SpF w lo ao n c us ds) {a' : Option Addr} {m' k' c' : Nat} {a2 : Option Addr} {d : List Int} (ho : Own w lo 2 a' m' k' (d.map (Value.int .i64))) (hg : w.grownBy w' (bk ao)) (hown : Own w' lo 32 a2 (n + 1) c' (us ++ [.slice a' m' k'])) : SpF w' lo a2 (n + 1) c' (us ++ [.slice a' m' k']) (ds ++ [d]) := by
  have hl := h.own.len
  have hd := h.len
  have keep : ∀ {a m k} {x : List Int}, Own w lo 2 a m k (x.map (Value.int .i64)) → Own w' lo 2 a m k (x.map (Value.int .i64)) := fun ho => ho.same fun g eg => hg.block g (ho.lt g eg).2 (fun q => own_neT ho h.own (by decide) eg q.symm)
  refine ⟨hown, by rw [List.length_append, hd]; rfl, fun j u x hu hx => ?_⟩
  by_cases hj : j < n
  · rw [List.getElem?_append_left (by omega)] at hu hx
    obtain ⟨a, m, k, e, ho⟩ := h.row j u x hu hx
    exact ⟨a, m, k, e, keep ho⟩
  · have hj2 : j = n := by have := (List.getElem?_eq_some_iff.1 hx).1; rw [List.length_append] at this; simp at this; omega
    subst hj2
    rw [List.getElem?_append_right (by omega), hl, Nat.sub_self] at hu
    rw [List.getElem?_append_right (by omega), hd, Nat.sub_self] at hx
    simp at hu hx
    subst hu hx
    exact ⟨_, _, _, rfl, keep ho⟩
end
end Go.Proofs.Ytmdhljleaijkbaa

/- Groups of permutations, the program's: slices.Compare at two lists of one length. guards: -/
namespace Go.Proofs.Ytmdhljleaijkbaa
open Go.RowKit

def cmpI (x y : Int) : Int := if x < y then -1 else if y < x then 1 else 0
def cmpL (a b : List Int) : Int := if ltL a b = true then -1 else if ltL b a = true then 1 else 0
theorem isNaN_any (x : Int) (w : World) : Calls Try.prog 144 #[.int .i64 x] w fun e w' => e = .returned (.bool false) ∧ ∃ m, w' = w.drewN m := by
  have h : (x != x) = false := by simp
  go_enter Try.func144, Try.ntmps144
  go_wp2
  go_ret
  exact ⟨rfl, 0, rfl⟩
set_option maxHeartbeats 1600000 in
theorem cmpInt_any (x y : Int) (w : World) : Calls Try.prog 127 #[.int .i64 x, .int .i64 y] w fun e w' => e = .returned (.int .i64 (cmpI x y)) ∧ ∃ m, w' = w.drewN m := by
  obtain ⟨V, hV⟩ : ∃ V, V = cmpI x y := ⟨_, rfl⟩
  rw [← hV]
  have HV := Lib.hid hV
  clear hV
  rcases Int.lt_trichotomy x y with h | h | h
  · have e : V = -1 := by rw [HV.out]; unfold cmpI; rw [if_pos h]
    subst e
    have h1 : decide (x < y) = true := by simp [h]
    go_enter Try.func127, Try.ntmps127
    go_wp2_with (go_at_call 144; refine (isNaN_any _ _).mono ?_; rintro e w' ⟨rfl, m, rfl⟩)
    go_ret
    exact ⟨rfl, _, rfl⟩
  · subst h
    have e : V = 0 := by rw [HV.out]; unfold cmpI; rw [if_neg (by omega), if_neg (by omega)]
    subst e
    have h1 : decide (x < x) = false := by simp
    go_enter Try.func127, Try.ntmps127
    go_wp2_with (go_at_call 144; refine (isNaN_any _ _).mono ?_; rintro e w' ⟨rfl, m, rfl⟩)
    go_ret
    exact ⟨rfl, _, rfl⟩
  · have e : V = 1 := by rw [HV.out]; unfold cmpI; rw [if_neg (by omega), if_pos h]
    subst e
    have h1 : decide (x < y) = false := by simp; omega
    have h2 : decide (y < x) = true := by simp [h]
    go_enter Try.func127, Try.ntmps127
    go_wp2_with (go_at_call 144; refine (isNaN_any _ _).mono ?_; rintro e w' ⟨rfl, m, rfl⟩)
    go_ret
    exact ⟨rfl, _, rfl⟩
theorem cmpL_step {x y : List Int} {n k : Nat} (hx : x.length = n) (hy : y.length = n) (hk : k < n) : cmpL (x.drop k) (y.drop k) = if iget x k = iget y k then cmpL (x.drop (k + 1)) (y.drop (k + 1)) else cmpI (iget x k) (iget y k) := by
  unfold cmpL
  rw [ltL_step hx hy hk, ltL_step hy hx hk]
  unfold cmpI
  rcases Int.lt_trichotomy (iget x k) (iget y k) with h | h | h
  · simp [h, show ¬ iget x k = iget y k by omega]
  · rw [h]; simp
  · simp [h, show ¬ iget x k = iget y k by omega, show ¬ iget x k < iget y k by omega]
theorem cmpI_ne {x y : Int} (h : x ≠ y) : (cmpI x y != 0) = true := by
  unfold cmpI
  split
  · rfl
  · split
    · rfl
    · exact absurd (by omega : x = y) h
set_option maxHeartbeats 1600000 in
theorem compare_any (a b : Option Addr) (n ca cb : Nat) (x y : List Int) (w : World) (ha : Ints w a n x) (hb : Ints w b n y) :
    Calls Try.prog 112 #[.slice a n ca, .slice b n cb] w fun e w' => e = .returned (.int .i64 (cmpL x y)) ∧ ∃ m, w' = w.drewN m := by
  have hla := ha.2.1
  have hx := ha.1
  have hy := hb.1
  obtain ⟨V, hV⟩ : ∃ V, V = cmpL x y := ⟨_, rfl⟩
  have H0 : V = cmpL (x.drop 0) (y.drop 0) := by rw [hV]; rfl
  rw [← hV]
  clear hV
  go_enter Try.func112, Try.ntmps112
  go_wp2
  go_loopw [11] (fun i wr => ∃ k m : Nat, k ≤ n ∧ i = .int .i64 k ∧ wr = w.drewN m ∧ V = cmpL (x.drop k) (y.drop k)) (fun i _ => n - (intOf i).toNat)
  case atStart => exact ⟨0, 0, Nat.zero_le _, rfl, rfl, H0⟩
  case round =>
    clear H0
    obtain ⟨k, m, hk, rfl, rfl, hv⟩ := hrel
    by_cases hlt : k < n
    · obtain ⟨ba, oa, rfl, hca⟩ := ha.at_ hlt
      obtain ⟨bb, ob, rfl, hcb⟩ := hb.at_ hlt
      rw [cmpL_step hx hy hlt] at hv
      have HV := Lib.hid hv
      clear hv ha hb
      generalize iget x k = p at *
      generalize iget y k = q at *
      by_cases hpq : p = q
      · have HV2 := Lib.hid (show V = cmpL (x.drop (k + 1)) (y.drop (k + 1)) by rw [HV.out, if_pos hpq])
        subst hpq
        have hc : cmpI p p = 0 := by unfold cmpI; rw [if_neg (by omega), if_neg (by omega)]
        have HC := Lib.hid hc
        clear hc
        go_wp2_with (go_at_call 127; refine (cmpInt_any _ _ _).mono ?_; rw [HC.out]; rintro e w' ⟨rfl, m2, rfl⟩)
        go_roundw
        case rel => exact ⟨k + 1, _, by omega, by go_num, rfl, HV2.out⟩
        case measure => first | (simp [intOf]; done) | (simp [intOf]; omega)
      · have HV2 := Lib.hid (show V = cmpI p q by rw [HV.out, if_neg hpq])
        have hne := cmpI_ne hpq
        go_wp2_with (go_at_call 127; refine (cmpInt_any _ _ _).mono ?_; rw [← HV2.out] at hne ⊢; rintro e w' ⟨rfl, m2, rfl⟩)
        go_ret
        exact ⟨rfl, _, rfl⟩
    · obtain rfl : k = n := by omega
      have hv2 : V = 0 := by rw [hv, List.drop_of_length_le (by omega), List.drop_of_length_le (by omega)]; rfl
      subst hv2
      clear hv
      go_wp2
      go_ret
      exact ⟨rfl, _, rfl⟩
end Go.Proofs.Ytmdhljleaijkbaa

/- Maniplexes compared, the program's: slices.CompareFunc at rows, compareManiplexes; sameManiplex. guards: -/
namespace Go.Proofs.Ytmdhljleaijkbaa
open Go.RowKit

def cmpM : List (List Int) → List (List Int) → Int
  | a :: A, b :: B => if cmpL a b = 0 then cmpM A B else cmpL a b
  | _, _ => 0
theorem lget_drop {A : List (List Int)} {k : Nat} (h : k < A.length) : A.drop k = lget A k :: A.drop (k + 1) := by rw [List.drop_eq_getElem_cons h, lget_lt h]
theorem lget_ext2 {A B : List (List Int)} (hl : A.length = B.length) (h : ∀ j, j < A.length → lget A j = lget B j) : A = B :=
  List.ext_getElem hl fun j h1 h2 => by have := h j h1; rw [lget_lt h1, lget_lt h2] at this; exact this
theorem cmpM_step {A B : List (List Int)} {n k : Nat} (hA : A.length = n) (hB : B.length = n) (hk : k < n) : cmpM (A.drop k) (B.drop k) = if cmpL (lget A k) (lget B k) = 0 then cmpM (A.drop (k + 1)) (B.drop (k + 1)) else cmpL (lget A k) (lget B k) := by
  rw [lget_drop (by omega), lget_drop (A := B) (by omega), cmpM]
set_option maxRecDepth 100000 in
set_option maxHeartbeats 1600000 in
theorem compareF_any (a b : Option Addr) (n ca cb : Nat) (A B : List (List Int)) (w : World) (ha : Intss w a n A) (hb : Intss w b n B) (hl : ∀ k, k < n → (lget A k).length = (lget B k).length) :
    Calls Try.prog 111 #[.slice a n ca, .slice b n cb, .func (.func 112) #[] #[]] w fun e w' => e = .returned (.int .i64 (cmpM A B)) ∧ ∃ m, w' = w.drewN m := by
  have hla := ha.2.1
  have hx := ha.1
  have hy := hb.1
  have HA := Lib.hid ha
  have HB := Lib.hid hb
  have HL := Lib.hid hl
  clear ha hb hl
  have hcf : ∀ (args : Array Value) (w : World), (callFunc 112 args).run Try.prog w = .ok (.enter 112 args) w := fun _ _ => by rfl
  obtain ⟨V, hV⟩ : ∃ V, V = cmpM A B := ⟨_, rfl⟩
  have H0 : V = cmpM (A.drop 0) (B.drop 0) := by rw [hV]; rfl
  rw [← hV]
  clear hV
  go_enter Try.func111, Try.ntmps111
  go_wp2
  go_loopw [13] (fun i wr => ∃ k m : Nat, k ≤ n ∧ i = .int .i64 k ∧ wr = w.drewN m ∧ V = cmpM (A.drop k) (B.drop k)) (fun i _ => n - (intOf i).toNat)
  case atStart => exact ⟨0, 0, Nat.zero_le _, rfl, rfl, H0⟩
  case round =>
    clear H0
    obtain ⟨k, m, hk, rfl, rfl, hv⟩ := hrel
    by_cases hlt : k < n
    · obtain ⟨ba, oa, a1, n1, c1, rfl, hca, hia⟩ := (HA.out).at_ hlt
      obtain ⟨bb, ob, a2, n2, c2, rfl, hcb, hib⟩ := (HB.out).at_ hlt
      have hn12 : n2 = n1 := by rw [← hia.1, ← hib.1, HL.out k hlt]
      subst hn12
      rw [cmpM_step hx hy hlt] at hv
      have HV := Lib.hid hv
      have HIA := Lib.hid hia
      have HIB := Lib.hid hib
      clear hv hia hib
      by_cases hpq : cmpL (lget A k) (lget B k) = 0
      · have HV2 := Lib.hid (show V = cmpM (A.drop (k + 1)) (B.drop (k + 1)) by rw [HV.out, if_pos hpq])
        have HC := Lib.hid hpq
        clear hpq
        go_wp2_with fail
        refine (compare_any a1 a2 n2 c1 c2 (lget A k) (lget B k) (w.drewN m) HIA.out HIB.out).mono ?_
        rw [HC.out]
        rintro e w' ⟨rfl, m2, rfl⟩
        go_wp2
        go_roundw
        case rel => exact ⟨k + 1, _, by omega, by go_num, rfl, HV2.out⟩
        case measure => first | (simp [intOf]; done) | (simp [intOf]; omega)
      · have HV2 := Lib.hid (show V = cmpL (lget A k) (lget B k) by rw [HV.out, if_neg hpq])
        have hne : (V != 0) = true := by rw [HV2.out]; simpa using hpq
        clear hpq
        go_wp2_with fail
        refine (compare_any a1 a2 n2 c1 c2 (lget A k) (lget B k) (w.drewN m) HIA.out HIB.out).mono ?_
        rw [← HV2.out]
        rintro e w' ⟨rfl, m2, rfl⟩
        go_wp2
        go_ret
        exact ⟨rfl, _, rfl⟩
    · obtain rfl : k = n := by omega
      have hv2 : V = 0 := by rw [hv, List.drop_of_length_le (by omega), List.drop_of_length_le (by omega)]; rfl
      subst hv2
      clear hv
      go_wp2
      go_ret
      exact ⟨rfl, _, rfl⟩
set_option maxRecDepth 100000 in
set_option maxHeartbeats 1600000 in
theorem compareMan_any (a b : Option Addr) (n ca cb : Nat) (A B : List (List Int)) (w : World) (ha : Intss w a n A) (hb : Intss w b n B) (hl : ∀ k, k < n → (lget A k).length = (lget B k).length) :
    Calls Try.prog 79 #[.agg #[.slice a n ca], .agg #[.slice b n cb]] w fun e w' => e = .returned (.int .i64 (cmpM A B)) ∧ Below w.heap.size w w' := by
  have b0 := below_alloc2 w (.cells #[.slice a n ca] 28) (.cells #[.slice b n cb] 28)
  have km : Blk ((w.alloc (.cells #[.slice a n ca] 28)).alloc (.cells #[.slice b n cb] 28)) w.heap.size 28 #[.slice a n ca] := (blk_at rfl).alloc _
  have kk : Blk ((w.alloc (.cells #[.slice a n ca] 28)).alloc (.cells #[.slice b n cb] 28)) (w.heap.size + 1) 28 #[.slice b n cb] := blk_at (by simp)
  have HA := Lib.hid (ha.below b0)
  have HB := Lib.hid (hb.below b0)
  have HL := Lib.hid hl
  clear ha hb hl
  go_enter Try.func79, Try.ntmps79
  go_upto_region 1 with fail
  generalize (w.alloc (.cells #[.slice a n ca] 28)).alloc (.cells #[.slice b n cb] 28) = w1 at *
  have x0 := km.cell 0
  have x1 := kk.cell 0
  simp at x0 x1
  have B0 := Lib.hid b0
  clear km kk b0
  generalize cmpM A B = V at *
  go_wp2_with fail
  refine (compareF_any a b n ca cb A B w1 HA.out HB.out HL.out).mono ?_
  rintro e w' ⟨rfl, m, rfl⟩
  go_wp2
  go_ret
  exact ⟨rfl, below_drewN B0.out m⟩
set_option maxRecDepth 100000 in
set_option maxHeartbeats 1600000 in
theorem equalF_any (a b : Option Addr) (n m ca cb : Nat) (A B : List (List Int)) (w : World) (ha : Intss w a n A) (hb : Intss w b m B) :
    Calls Try.prog 76 #[.slice a n ca, .slice b m cb, .func (.func 77) #[] #[]] w fun e w' => e = .returned (.bool (decide (A = B))) ∧ ∃ m, w' = w.drewN m := by
  have hla := ha.2.1
  have hlb := hb.2.1
  have hx := ha.1
  have hy := hb.1
  have HA := Lib.hid ha
  have HB := Lib.hid hb
  clear ha hb
  have hcf : ∀ (args : Array Value) (w : World), (callFunc 77 args).run Try.prog w = .ok (.enter 77 args) w := fun _ _ => by rfl
  obtain ⟨V, hV⟩ : ∃ V, V = decide (A = B) := ⟨_, rfl⟩
  rw [← hV]
  have HV := Lib.hid hV
  clear hV
  by_cases hnm : n = m
  · subst hnm
    have hne : ((n : Int) != (n : Int)) = false := by simp
    go_enter Try.func76, Try.ntmps76
    go_wp2
    go_loopw [17] (fun i wr => ∃ k q : Nat, k ≤ n ∧ i = .int .i64 k ∧ wr = w.drewN q ∧ ∀ j, j < k → lget A j = lget B j) (fun i _ => n - (intOf i).toNat)
    case atStart => exact ⟨0, 0, Nat.zero_le _, rfl, rfl, fun j h => absurd h (by omega)⟩
    case round =>
      obtain ⟨k, q, hk, rfl, rfl, hv⟩ := hrel
      have HP := Lib.hid hv
      clear hv
      by_cases hlt : k < n
      · obtain ⟨ba, oa, a1, n1, c1, rfl, hca, hia⟩ := (HA.out).at_ hlt
        obtain ⟨bb, ob, a2, n2, c2, rfl, hcb, hib⟩ := (HB.out).at_ hlt
        have HIA := Lib.hid hia
        have HIB := Lib.hid hib
        clear hia hib
        by_cases heq : lget A k = lget B k
        · have HE := Lib.hid heq
          clear heq
          go_wp2_with fail
          refine (equal_any a1 a2 n1 n2 c1 c2 (lget A k) (lget B k) (w.drewN q) HIA.out HIB.out).mono ?_
          rw [decide_eq_true HE.out]
          rintro e w' ⟨rfl, m2, rfl⟩
          go_wp2
          go_roundw
          case rel => exact ⟨k + 1, _, by omega, by go_num, rfl, fun j hj => by
            by_cases e : j = k
            · subst e; exact HE.out
            · exact HP.out j (by omega)⟩
          case measure => first | (simp [intOf]; done) | (simp [intOf]; omega)
        · have HE := Lib.hid heq
          have hv2 : V = false := by rw [HV.out]; exact decide_eq_false fun e => HE.out (by rw [e])
          subst hv2
          clear heq
          go_wp2_with fail
          refine (equal_any a1 a2 n1 n2 c1 c2 (lget A k) (lget B k) (w.drewN q) HIA.out HIB.out).mono ?_
          rw [decide_eq_false HE.out]
          rintro e w' ⟨rfl, m2, rfl⟩
          go_wp2
          go_ret
          exact ⟨rfl, _, rfl⟩
      · obtain rfl : k = n := by omega
        have hv2 : V = true := by rw [HV.out]; exact decide_eq_true (lget_ext2 (by omega) fun j hj => HP.out j (by omega))
        subst hv2
        go_wp2
        go_ret
        exact ⟨rfl, _, rfl⟩
  · have hne : ((n : Int) != (m : Int)) = true := by simp; omega
    have hv2 : V = false := by rw [HV.out]; exact decide_eq_false fun e => hnm (by rw [← hx, ← hy, e])
    subst hv2
    go_enter Try.func76, Try.ntmps76
    go_wp2
    go_ret
    exact ⟨rfl, 0, rfl⟩
set_option maxRecDepth 100000 in
set_option maxHeartbeats 1600000 in
theorem sameMan_any (a b : Option Addr) (n m ca cb : Nat) (A B : List (List Int)) (w : World) (ha : Intss w a n A) (hb : Intss w b m B) :
    Calls Try.prog 43 #[.agg #[.slice a n ca], .agg #[.slice b m cb]] w fun e w' => e = .returned (.bool (decide (A = B))) ∧ Below w.heap.size w w' := by
  have b0 := below_alloc2 w (.cells #[.slice a n ca] 28) (.cells #[.slice b m cb] 28)
  have km : Blk ((w.alloc (.cells #[.slice a n ca] 28)).alloc (.cells #[.slice b m cb] 28)) w.heap.size 28 #[.slice a n ca] := (blk_at rfl).alloc _
  have kk : Blk ((w.alloc (.cells #[.slice a n ca] 28)).alloc (.cells #[.slice b m cb] 28)) (w.heap.size + 1) 28 #[.slice b m cb] := blk_at (by simp)
  have HA := Lib.hid (ha.below b0)
  have HB := Lib.hid (hb.below b0)
  clear ha hb
  obtain ⟨V, hV⟩ : ∃ V, decide (A = B) = V := ⟨_, rfl⟩
  rw [hV]
  have HV := Lib.hid hV
  clear hV
  go_enter Try.func43, Try.ntmps43
  go_upto_region 1 with fail
  generalize (w.alloc (.cells #[.slice a n ca] 28)).alloc (.cells #[.slice b m cb] 28) = w1 at *
  have x0 := km.cell 0
  have x1 := kk.cell 0
  simp at x0 x1
  have B0 := Lib.hid b0
  have HE := Lib.hid (equalF_any a b n m ca cb A B w1 HA.out HB.out)
  rw [HV.out] at HE
  clear km kk b0
  go_wp2_with fail
  refine HE.out.mono ?_
  rintro e w' ⟨rfl, q, rfl⟩
  go_wp2
  go_ret
  exact ⟨rfl, below_drewN B0.out q⟩
end Go.Proofs.Ytmdhljleaijkbaa

/- Least forms of maniplexes, the program's: leastForm, LeastForm. guards: -/
namespace Go.Proofs.Ytmdhljleaijkbaa
open Go.RowKit

/-- the least of the forms from the flag 0 and from those below k -/
def lstTo (d : List (List Int)) : Nat → List (List Int)
  | 0 => frmL d 0
  | k + 1 => if cmpM (frmL d k) (lstTo d k) < 0 then frmL d k else lstTo d k
theorem frm_len (d : List (List Int)) (f : Nat) : (frmL d f).length = d.length := by simp [frmL]
theorem frm_row {d : List (List Int)} {f g : Nat} (h : g < d.length) : lget (frmL d f) g = frmRow d f g (flg d) := by
  rw [lget_lt (by rw [frm_len]; exact h)]; simp [frmL]
theorem frmRow_len (d : List (List Int)) (f g k : Nat) : (frmRow d f g k).length = k := by simp [frmRow]
theorem lst_is {d : List (List Int)} (h0 : 0 < flg d) : ∀ k, k ≤ flg d → ∃ f, f < flg d ∧ lstTo d k = frmL d f
  | 0, _ => ⟨0, h0, rfl⟩
  | k + 1, h => by
    rw [lstTo]
    split
    · exact ⟨k, by omega, rfl⟩
    · exact lst_is h0 k (by omega)
set_option maxRecDepth 100000 in
set_option maxHeartbeats 6400000 in
theorem leastForm_any (ao : Option Addr) (n c : Nat) (d : List (List Int)) (w : World) (hd : RdSSc w (.slice ao n c) d) (hM : Man d) :
    Calls Try.prog 44 #[.agg #[.slice ao n c]] w fun e w' => ∃ r, e = .returned r ∧ OwM 2 32 w' w.heap.size w'.heap.size r (lstTo d (flg d)) ∧ Below w.heap.size w w' := by
  have b1 := below_alloc2 w (.cells #[.slice ao n c] 28) (.cells #[.slice none 0 0] 28)
  have km : Blk ((w.alloc (.cells #[.slice ao n c] 28)).alloc (.cells #[.slice none 0 0] 28)) w.heap.size 28 #[.slice ao n c] := (blk_at rfl).alloc _
  have kr : Blk ((w.alloc (.cells #[.slice ao n c] 28)).alloc (.cells #[.slice none 0 0] 28)) (w.heap.size + 1) 28 #[.slice none 0 0] := blk_at (by simp)
  have HD1 := Lib.hid (hd.below b1)
  have HM := Lib.hid hM
  obtain ⟨N, hN⟩ : ∃ N, flg d = N := ⟨_, rfl⟩
  rw [hN]
  have HN := Lib.hid hN
  have hdl := hd.intss.1
  have hd1 := hM.n1
  have hd5 := hM.n5
  have hN2 : 2 ≤ N := by rw [← hN]; exact hM.f2
  have hN4 : N ≤ 400 := by rw [← hN]; exact hM.f4
  clear hd hM hN
  go_enter Try.func44, Try.ntmps44
  go_upto_region 1 with fail
  generalize (w.alloc (.cells #[.slice ao n c] 28)).alloc (.cells #[.slice none 0 0] 28) = w1 at *
  have x1 := km.cell 0
  simp at x1
  have KM1 := Lib.hid km
  have KR1 := Lib.hid kr
  have B1 := Lib.hid b1
  have hz1 : w.heap.size < w1.heap.size := km.lt
  have hr1 : w.heap.size + 1 < w1.heap.size := kr.lt
  clear km kr b1
  go_wp2_with fail
  refine (formFrom_any ao n c 0 d w1 HD1.out HM.out (by rw [HN.out]; omega)).mono ?_
  rintro e w2 ⟨r2, rfl, ⟨a2, n2, c2, us2, rfl, o2⟩, b2⟩
  have hn2 : n2 = n := by have := o2.len; rw [frm_len] at this; omega
  subst hn2
  have hz2 := b2.size
  have O2 := Lib.hid o2
  have B2 := Lib.hid b2
  clear x1 o2 b2
  have b3 := below_alloc1 w2 (.cells #[.slice a2 n2 c2] 28)
  have k3 : Blk (w2.alloc (.cells #[.slice a2 n2 c2] 28)) w2.heap.size 28 #[.slice a2 n2 c2] := blk_at rfl
  have hz4 : (w2.alloc (.cells #[.slice a2 n2 c2] 28)).heap.size = w2.heap.size + 1 := by simp
  have o4 := (O2.out.below (innerS _) b3).mono (Nat.le_refl _) (Nat.le_of_lt (Nat.lt_of_lt_of_eq (Nat.lt_succ_self _) hz4.symm))
  have B4 := Lib.hid (B2.out.trans (b3.mono hz2))
  have K4 := Lib.hid k3
  have O4 := Lib.hid o4
  go_upto_region 2 with fail
  generalize w2.alloc (.cells #[.slice a2 n2 c2] 28) = w4 at *
  obtain ⟨bl, hbl⟩ : ∃ b3, w2.heap.size = b3 := ⟨_, rfl⟩
  rw [hbl] at hz2 K4 hz4 ⊢
  have hl4 : bl < w4.heap.size := by omega
  clear k3 b3 hz4 o4 hbl
  have KM4 := Lib.hid (KM1.out.belowS B4.out)
  have HD4 := Lib.hid (HD1.out.below B4.out)
  go_wp2_with fail
  refine (flagsI_any _ ao n2 c N d w4 KM4.out HD4.out.rd (by omega) HN.out (by omega)).mono ?_
  rintro e w5 ⟨rfl, hw⟩
  subst hw
  have hz14 := B4.out.size
  have HLI := Lib.hid (fun (k : Nat) (hk : k ≤ N) => lst_is (d := d) (by rw [HN.out]; omega) k (by rw [HN.out]; exact hk))
  go_wp2_with fail
  go_loopw [10] (fun kv wr => ∃ (k : Nat) (a3 : Option Addr) (c3 : Nat) (us : List Value) (hi : Nat), kv = .int .i64 k ∧ k ≤ N ∧ Blk wr bl 28 #[.slice a3 n2 c3] ∧ OwR (OwS 2) wr w1.heap.size hi 32 a3 n2 c3 us (lstTo d k) ∧ hi ≤ wr.heap.size ∧ Below w1.heap.size w1 wr) (fun kv _ => N - (intOf kv).toNat)
  case atStart => exact ⟨0, a2, c2, us2, _, rfl, Nat.zero_le _, K4.out, O4.out, Nat.le_refl _, B4.out⟩
  case round =>
    clear K4 O4 B4 KM4 HD4 hl4
    obtain ⟨k, a3, c3, us, hi, rfl, hk, hbk, hor, hhi, hb⟩ := hrel
    obtain ⟨wA, rfl⟩ : ∃ x, x = wr := ⟨_, rfl⟩
    have KM := Lib.hid (KM1.out.belowS hb)
    have HDA := Lib.hid (HD1.out.below hb)
    have HB := Lib.hid hb
    have OR := Lib.hid hor
    have HBK := Lib.hid hbk
    have hzA := hb.size
    have hlA := hbk.lt
    clear hb hor hbk
    by_cases hlt : k < N
    · have xm := KM.out.cell 0
      simp at xm
      go_wp2_with fail
      refine (formFrom_any ao n2 c k d wA HDA.out HM.out (by rw [HN.out]; omega)).mono ?_
      rintro e w6 ⟨r6, rfl, ⟨a6, n6, c6, us6, rfl, o6⟩, b6⟩
      have hn6 : n6 = n2 := by have := o6.len; rw [frm_len] at this; omega
      subst hn6
      have hz6 := b6.size
      have O6 := Lib.hid o6
      have B6 := Lib.hid b6
      have b7 := below_alloc1 w6 (.cells #[.slice a6 n6 c6] 28)
      have k7 : Blk (w6.alloc (.cells #[.slice a6 n6 c6] 28)) w6.heap.size 28 #[.slice a6 n6 c6] := blk_at rfl
      have hz7 : w6.heap.size < (w6.alloc (.cells #[.slice a6 n6 c6] 28)).heap.size := by simp
      have O7 := Lib.hid ((o6.below (innerS _) b7).mono (Nat.le_refl _) (Nat.le_of_lt hz7))
      have B7 := Lib.hid (b6.trans (b7.mono hz6))
      have K7 := Lib.hid k7
      clear o6 b6 b7 k7 O6 B6 xm
      go_upto_region 6 with fail
      generalize w6.alloc (.cells #[.slice a6 n6 c6] 28) = w7 at *
      have KB7 := Lib.hid (HBK.out.belowS B7.out)
      have OR7 := Lib.hid (OR.out.below (innerS _) B7.out)
      have HB7 := Lib.hid (HB.out.trans (B7.out.mono hzA))
      have x7 := K7.out.cell 0
      have x8 := KB7.out.cell 0
      have f8 := KB7.out.frozen 0
      have f7 := K7.out.frozen 0
      simp at x7 x8
      clear HBK OR HDA KM
      obtain ⟨j, hj1, hj2⟩ := HLI.out k (by omega)
      have HJ := Lib.hid hj2
      have HLN := Lib.hid (show ∀ g, g < n6 → (lget (frmL d k) g).length = (lget (lstTo d k) g).length from fun g hg => by
        rw [hj2, frm_row (by omega), frm_row (by omega), frmRow_len, frmRow_len])
      have HNX := Lib.hid (show lstTo d (k + 1) = if cmpM (frmL d k) (lstTo d k) < 0 then frmL d k else lstTo d k from rfl)
      clear hj2
      go_wp2_with fail
      refine (compareMan_any a6 a3 n6 c6 c3 (frmL d k) (lstTo d k) w7 O7.out.intss OR7.out.intss HLN.out).mono ?_
      rintro e w8 ⟨rfl, b8⟩
      have hz8 := b8.size
      have K8 := K7.out.belowS b8
      have KB8 := KB7.out.belowS b8
      have O8 := Lib.hid ((O7.out.below (innerS _) b8).mono (Nat.le_refl _) hz8)
      have OR8 := Lib.hid ((OR7.out.below (innerS _) b8).mono (Nat.le_refl _) (Nat.le_refl _))
      have HB8 := Lib.hid (HB7.out.trans (b8.mono HB7.out.size))
      clear x7 x8 f7 f8 O7 OR7 K7 KB7 HB7 b8
      have x7 := K8.cell 0
      have x8 := KB8.cell 0
      have f8 := KB8.frozen 0
      have hl8 := KB8.lt
      simp at x7 x8
      have KB := Lib.hid KB8
      clear K8 KB8
      by_cases hc : cmpM (frmL d k) (lstTo d k) < 0
      · have hdc : decide (cmpM (frmL d k) (lstTo d k) < 0) = true := decide_eq_true hc
        have HN1 := Lib.hid (show lstTo d (k + 1) = frmL d k by rw [HNX.out, if_pos hc])
        generalize cmpM (frmL d k) (lstTo d k) = V at *
        clear HNX hc
        go_upto_region 8 with fail
        have k9 : Blk (w8.setCell ⟨bl, 0, none⟩ (.slice a6 n6 c6)) bl 28 #[.slice a6 n6 c6] := by simpa using KB.out.set_ 0 (.slice a6 n6 c6)
        have K9 := Lib.hid k9
        have hz9 : (w8.setCell ⟨bl, 0, none⟩ (.slice a6 n6 c6)).heap.size = w8.heap.size := by simp [World.setCell]
        have O9 := Lib.hid ((O8.out.same (innerS _) (w' := w8.setCell ⟨bl, 0, none⟩ (.slice a6 n6 c6)) fun g h1 h2 _ => Below.heap_setCell _ _ _ _ (by simp; omega)).mono hzA (Nat.le_of_eq hz9.symm))
        have HB9 := Lib.hid (HB8.out.setCell (p := ⟨bl, 0, none⟩) hz2 (.slice a6 n6 c6))
        generalize w8.setCell ⟨bl, 0, none⟩ (.slice a6 n6 c6) = w9 at *
        clear k9 hz9
        go_wp2
        go_roundw
        case rel => exact ⟨k + 1, a6, c6, us6, _, by go_num, by omega, K9.out, by rw [HN1.out]; exact O9.out, Nat.le_refl _, HB9.out⟩
        case measure => simp [intOf]; omega
      · have hdc : decide (cmpM (frmL d k) (lstTo d k) < 0) = false := decide_eq_false hc
        have HN1 := Lib.hid (show lstTo d (k + 1) = lstTo d k by rw [HNX.out, if_neg hc])
        generalize cmpM (frmL d k) (lstTo d k) = V at *
        clear HNX hc
        go_wp2
        go_roundw
        case rel => exact ⟨k + 1, a3, c3, us, hi, by go_num, by omega, KB.out, by rw [HN1.out]; exact OR8.out, by omega, HB8.out⟩
        case measure => simp [intOf]; omega
    · obtain rfl : k = N := by omega
      have x3 := HBK.out.cell 0
      have KRA := KR1.out.belowS HB.out
      have xr := KRA.cell 0
      have fr := KRA.frozen 0
      simp at x3 xr
      have BF := Lib.hid (B1.out.trans (HB.out.mono B1.out.size))
      clear KRA
      go_wp2
      have hzz : (wA.setCell ⟨w.heap.size + 1, 0, none⟩ (.slice a3 n2 c3)).heap.size = wA.heap.size := by simp [World.setCell]
      exact bodyPost_ret (v := .agg #[.slice a3 n2 c3]) (by simp [results, Try.f44, go_sem, xr]) rfl ⟨_, rfl, ⟨a3, n2, c3, us, rfl, by rw [hzz]; exact (OR.out.same (innerS _) fun g h1 _ _ => Below.heap_setCell _ _ _ _ (by simp; omega)).mono (by omega) hhi⟩, BF.out.setCell (by simp) _⟩
/-- what LeastForm answers -/
noncomputable def lfR (d : List (List Int)) : List (List Int) := if manB d = true then lstTo d (flg d) else []
end Go.Proofs.Ytmdhljleaijkbaa

/- LeastForm, IsSelfDual, the program's. guards: -/
namespace Go.Proofs.Ytmdhljleaijkbaa
open Go.RowKit

set_option maxRecDepth 100000 in
set_option maxHeartbeats 3200000 in
theorem api_implLf (ao : Option Addr) (n c : Nat) (d : List (List Int)) (w : World) (hd : RdSSc w (.slice ao n c) d) (fd : FewSS d) :
    Calls Try.prog 48 #[.agg #[.slice ao n c]] w fun e w' => ∃ r, e = .returned (.tuple #[r, .int .i64 (irC d)]) ∧ OwM 2 32 w' w.heap.size w'.heap.size r (lfR d) ∧ Below w.heap.size w w' := by
  have b0 := below_alloc2 w (.cells #[.slice ao n c] 28) (.cells #[.slice none 0 0] 28)
  have km : Blk ((w.alloc (.cells #[.slice ao n c] 28)).alloc (.cells #[.slice none 0 0] 28)) w.heap.size 28 #[.slice ao n c] := (blk_at rfl).alloc _
  have kr : Blk ((w.alloc (.cells #[.slice ao n c] 28)).alloc (.cells #[.slice none 0 0] 28)) (w.heap.size + 1) 28 #[.slice none 0 0] := blk_at (by simp)
  have hd1 := Lib.hid (hd.below b0)
  have hz1 := b0.size
  have HI := Lib.hid (fun (w : World) (h : RdSSc w (.slice ao n c) d) => implManC h fd)
  obtain ⟨R, hR⟩ : ∃ R, lfR d = R := ⟨_, rfl⟩
  obtain ⟨C, hC⟩ : ∃ C, irC d = C := ⟨_, rfl⟩
  rw [hR, hC]
  have HR := Lib.hid hR
  have HC := Lib.hid hC
  clear hR hC
  go_enter Try.func48, Try.ntmps48
  go_upto_region 1 with fail
  generalize (w.alloc (.cells #[.slice ao n c] 28)).alloc (.cells #[.slice none 0 0] 28) = w1 at *
  have x0 := km.cell 0
  simp at x0
  go_wp2_with fail
  refine (HI.out _ hd1.out).mono ?_
  rintro r w2 ⟨rfl, b2⟩
  have KM2 := Lib.hid (km.belowS b2)
  have KR2 := Lib.hid (kr.belowS b2)
  have HB2 := Lib.hid (b0.trans (b2.mono hz1))
  have hd2 := Lib.hid (hd1.out.below b2)
  have hr1 := kr.lt
  have hz12 := b2.size
  clear km kr b0 b2 hd1 hd x0
  cases h1 : manB d with
  | false =>
    have hC0 : C = 1 := by rw [← HC.out]; unfold irC; rw [h1]; rfl
    have hR0 : R = [] := by rw [← HR.out]; unfold lfR; rw [h1]; rfl
    subst hC0
    subst hR0
    clear HR HC
    have x2 := KR2.out.cell 0
    have f2 := KR2.out.frozen 0
    simp at x2
    go_wp2
    exact bodyPost_ret (v := .tuple #[.agg #[.slice none 0 0], .int .i64 1]) (by simp [results, Try.f48, go_sem, x2]) rfl ⟨_, rfl, own_nilMx, HB2.out.setCell (by simp) _⟩
  | true =>
    have hC0 : C = 0 := by rw [← HC.out]; unfold irC; rw [h1]; rfl
    have hR0 : R = lstTo d (flg d) := by rw [← HR.out]; unfold lfR; rw [h1]; rfl
    subst hC0
    subst hR0
    have HM := Lib.hid (manB_iff.1 h1)
    clear h1 HR HC
    have x2 := KM2.out.cell 0
    simp at x2
    go_wp2_with fail
    refine (leastForm_any ao n c d w2 hd2.out HM.out).mono ?_
    rintro e w9 ⟨r9, rfl, o9, b9⟩
    have KR9 := Lib.hid (KR2.out.belowS b9)
    have x9 := KR9.out.cell 0
    have f9 := KR9.out.frozen 0
    have BF := Lib.hid (HB2.out.trans (b9.mono HB2.out.size))
    obtain ⟨a9, n9, c9, us9, rfl, or9⟩ := o9
    have OR9 := Lib.hid or9
    simp at x9
    clear b9 or9 x2
    go_wp2
    have hzz : (w9.setCell ⟨w.heap.size + 1, 0, none⟩ (.slice a9 n9 c9)).heap.size = w9.heap.size := by simp [World.setCell]
    exact bodyPost_ret (v := .tuple #[.agg #[.slice a9 n9 c9], .int .i64 0]) (by simp [results, Try.f48, go_sem, x9]) rfl ⟨_, rfl, ⟨a9, n9, c9, us9, rfl, by rw [hzz]; exact (OR9.out.same (innerS _) fun g h1 _ _ => Below.heap_setCell _ _ _ _ (by simp; omega)).mono (by omega) (Nat.le_refl _)⟩, BF.out.setCell (by simp) _⟩
end Go.Proofs.Ytmdhljleaijkbaa

/- Duals, the program's: slices.Reverse at [][]int64, dualOf. guards: -/
namespace Go.Proofs.Ytmdhljleaijkbaa
open Go.RowKit

theorem own_val {w : World} {base E : Nat} {g n c : Nat} {us : List Value} (h : Own w base E (some ⟨g, 0, none⟩) n c us) {k : Nat} (hk : k < n) : w.cell? ⟨g, k, none⟩ = us[k]? := by
  obtain ⟨g', hg, _, _, _, hc, _⟩ := h.form (by omega)
  obtain rfl : g = g' := by injection hg with hg; injection hg
  exact hc k hk
set_option maxHeartbeats 800000 in
theorem reverseV_any (ao : Option Addr) (n c : Nat) (us : List Value) (w : World) (base : Nat) (h : Own w base 32 ao n c us) (hs : ∀ j, j < n → ∃ a m q, us[j]? = some (.slice a m q)) :
    Calls Try.prog 81 #[.slice ao n c] w fun e w' => e = .returned (.tuple #[]) ∧ Own w' base 32 ao n c us.reverse ∧ w.grownBy w' (bk ao) := by
  have hn := h.2
  have HL := Lib.hid h.len
  have HS := Lib.hid hs
  clear hs
  go_enter Try.func81, Try.ntmps81
  go_wp2
  go_loopw [2, 3] (fun i j wr => ∃ (k : Nat) (cur : List Value), k ≤ n ∧ i = .int .i64 k ∧ j = .int .i64 ((n : Int) - 1 - k) ∧ cur.length = n ∧ (∀ x, x < n → cur[x]? = if x < k ∨ n < x + 1 + k then us[n - 1 - x]? else us[x]?) ∧ Own wr base 32 ao n c cur ∧ w.grownBy wr (bk ao)) (fun i _ _ => n - (intOf i).toNat)
  case atStart => exact ⟨0, us, by omega, rfl, by simp, HL.out, fun x hx => by rw [if_neg (by omega)], h, World.grownBy.refl _ _⟩
  case round =>
    obtain ⟨k, cur, hk, rfl, rfl, hcl, hcur, ho, hg⟩ := hrel
    have HC := Lib.hid hcl
    have HU := Lib.hid hcur
    clear hcl hcur
    by_cases hlt : k + k + 1 < n
    · obtain ⟨j, hj⟩ : ∃ j : Nat, j + k + 1 = n := ⟨n - 1 - k, by omega⟩
      have HJ := Lib.hid hj
      have ej : (n : Int) - 1 - k = j := by omega
      have hjn : j < n := by omega
      have hkn : k < n := by omega
      have hkj : k < j := by omega
      rw [ej]
      clear hj ej
      obtain ⟨g, rfl, -, hgl, -, -, -⟩ := ho.form (by omega)
      obtain ⟨aj, mj, qj, hej⟩ := HS.out j hjn
      obtain ⟨ak, mk, qk, hek⟩ := HS.out k hkn
      have huj : cur[j]? = some (.slice aj mj qj) := by rw [HU.out j hjn, if_neg (by have := HJ.out; omega)]; exact hej
      have huk : cur[k]? = some (.slice ak mk qk) := by rw [HU.out k hkn, if_neg (by have := HJ.out; omega)]; exact hek
      have hc1 := own_val ho hjn
      have hc2 := own_val ho hkn
      rw [huj] at hc1
      rw [huk] at hc2
      have hf1 := ho.1.frozenAt j
      have hf2 := ho.1.frozenAt k
      have ho1 : Own wr.drew base 32 (some ⟨g, 0, none⟩) n c cur := ho
      obtain ⟨s1, t1⟩ := ho1.stored k (.slice aj mj qj)
      obtain ⟨s2, t2⟩ := s1.stored j (.slice ak mk qk)
      have S2 := Lib.hid s2
      have T1 := Lib.hid t1
      have T2 := Lib.hid t2
      have HUJ := Lib.hid huj
      have HUK := Lib.hid huk
      have HEJ := Lib.hid hej
      have HEK := Lib.hid hek
      clear s1 t1 s2 t2 ho1 ho huj huk hej hek
      go_wp2
      go_region
      go_wp2
      go_roundw
      case rel =>
        refine ⟨k + 1, (cur.set k (.slice aj mj qj)).set j (.slice ak mk qk), by omega, by go_num, ?_, by simp [HC.out], ?_, S2.out, grown_tr hg (grown_tr (⟨rfl, rfl, rfl, Nat.le_refl _, fun _ _ _ => rfl⟩ : wr.grownBy wr.drew _) (grown_tr T1.out T2.out))⟩
        · congr 1; have := HJ.out; omega
        · intro x hx
          have hcl := HC.out
          have hjn' := HJ.out
          by_cases h1 : x = j
          · subst h1
            rw [List.getElem?_set_self (by simp; omega), if_pos (by omega), ← HEK.out]
            congr 1; omega
          · rw [List.getElem?_set_ne (fun e => h1 e.symm)]
            by_cases h2 : x = k
            · subst h2
              rw [List.getElem?_set_self (by omega), if_pos (by omega), ← HEJ.out]
              congr 1; omega
            · rw [List.getElem?_set_ne (fun e => h2 e.symm), HU.out x hx]
              by_cases h3 : x < k ∨ n < x + 1 + k
              · rw [if_pos h3, if_pos (by omega)]
              · rw [if_neg h3, if_neg (by omega)]
      case measure => simp [intOf]; omega
    · have hle : (n : Int) - 1 - k ≤ k := by omega
      go_wp2
      go_end0
      refine ⟨rfl, ?_, hg⟩
      have hcl := HC.out
      have hzl := HL.out
      have e : cur = us.reverse := by
        apply List.ext_getElem?
        intro x
        by_cases hx : x < n
        · rw [List.getElem?_reverse (by omega), HU.out x hx, hzl]
          by_cases h3 : x < k ∨ n < x + 1 + k
          · rw [if_pos h3]
          · rw [if_neg h3]; congr 1; omega
        · rw [List.getElem?_eq_none (by omega), List.getElem?_eq_none (by simp; omega)]
      rw [← e]; exact ho
theorem lget_rev {zss : List (List Int)} {j : Nat} (hj : j < zss.length) : lget zss.reverse j = lget zss (zss.length - 1 - j) := by
  rw [lget_lt (by simpa using hj), lget_lt (by omega), List.getElem_reverse]
theorem RwV.rev {w : World} {us : List Value} {zss : List (List Int)} (h : RwV w us zss) : RwV w us.reverse zss.reverse := by
  have h0 := h.1
  refine ⟨by simpa using h0, fun j hj => ?_⟩
  rw [List.length_reverse] at hj
  rw [lget_rev hj, List.getElem?_reverse (by omega), h0]
  exact h.2 _ (by omega)
set_option maxRecDepth 100000 in
set_option maxHeartbeats 3200000 in
theorem dualOf_any (ao : Option Addr) (n c : Nat) (d : List (List Int)) (w : World) (hd : RdSSc w (.slice ao n c) d) (hM : Man d.reverse) :
    Calls Try.prog 45 #[.agg #[.slice ao n c]] w fun e w' => ∃ r, e = .returned r ∧ OwM 2 32 w' w.heap.size w'.heap.size r (frmL d.reverse 0) ∧ Below w.heap.size w w' := by
  have hdl := hd.intss.1
  have hd1 : 1 ≤ d.length := by have := hM.n1; simpa using this
  have hd5 : d.length ≤ 5 := by have := hM.n5; simpa using this
  have hf2 := hM.f2
  have b1 := below_alloc2 w (.cells #[.slice ao n c] 28) (.cells #[.slice none 0 0] 28)
  have km : Blk ((w.alloc (.cells #[.slice ao n c] 28)).alloc (.cells #[.slice none 0 0] 28)) w.heap.size 28 #[.slice ao n c] := (blk_at rfl).alloc _
  have kr : Blk ((w.alloc (.cells #[.slice ao n c] 28)).alloc (.cells #[.slice none 0 0] 28)) (w.heap.size + 1) 28 #[.slice none 0 0] := blk_at (by simp)
  have hd1' := hd.below b1
  have HM := Lib.hid hM
  have HF2 := Lib.hid hf2
  clear hM hd hf2
  go_enter Try.func45, Try.ntmps45
  go_upto_region 1 with fail
  generalize (w.alloc (.cells #[.slice ao n c] 28)).alloc (.cells #[.slice none 0 0] 28) = w1 at *
  obtain ⟨ao', c', us, e, hv, hr, hcc⟩ := hd1'.rows
  injection e with e1 e2 e3
  subst e1 e3
  rw [hdl] at hv hcc
  have x1 := km.cell 0
  simp at x1
  have HV := Lib.hid hv
  have HR := Lib.hid hr
  have KR := Lib.hid kr
  have B1 := Lib.hid b1
  have hz1 := b1.size
  have hr1 := kr.lt
  clear hv hr km kr b1 hd1' hcc e2
  go_wp2_with fail
  refine (cloneSS_any ao n c us w1 HV.out (by omega) (by omega) HR.out.one).mono ?_
  rintro e w2 ⟨g, c2, rfl, o2, b2⟩
  obtain ⟨g', hg', hg1, hg2, hnc, _, _⟩ := o2.form (by omega)
  injection hg' with hg'
  injection hg' with hg'
  subst hg'
  have O2 := Lib.hid o2
  have R2 := Lib.hid (HR.out.below b2)
  have B2 := Lib.hid b2
  clear x1 o2 b2
  go_wp2_with fail
  refine (reverseV_any (some ⟨g, 0, none⟩) n c2 us w2 w1.heap.size O2.out (fun j hj => by obtain ⟨a, q, h1, _⟩ := R2.out.2 j (by omega); exact ⟨_, _, _, h1⟩)).mono ?_
  rintro e w3 ⟨rfl, o3, g3⟩
  have B3 := Lib.hid (B2.out.grown g3 B2.out.size (fun k hk => by simp [bk] at hk; omega))
  have R3 := Lib.hid ((HR.out.below B3.out).rev)
  have hg3 : g < w3.heap.size := (o3.lt g rfl).2
  have hlen : d.reverse.length = n := by simpa using hdl
  have RD := Lib.hid (rdc_of (g := g) (c := c2) hlen hnc (by omega) hg3 (fun j hj => own_val o3 hj) R3.out)
  clear o3 g3 hlen
  go_wp2_with fail
  refine (formFrom_any _ n c2 0 d.reverse w3 RD.out HM.out (by have := HF2.out; unfold flg; omega)).mono ?_
  rintro e w9 ⟨r9, rfl, o9, b9⟩
  have hb9 := Lib.hid (B3.out.trans (b9.mono B3.out.size))
  have KR9 := Lib.hid (KR.out.belowS hb9.out)
  have x9 := KR9.out.cell 0
  have f9 := KR9.out.frozen 0
  have BF := Lib.hid (B1.out.trans (hb9.out.mono hz1))
  have hz13 := B3.out.size
  obtain ⟨a9, n9, c9, us9, rfl, or9⟩ := o9
  have OR9 := Lib.hid or9
  simp at x9
  clear b9 or9
  go_wp2
  have hzz : (w9.setCell ⟨w.heap.size + 1, 0, none⟩ (.slice a9 n9 c9)).heap.size = w9.heap.size := by simp [World.setCell]
  exact bodyPost_ret (v := .agg #[.slice a9 n9 c9]) (by simp [results, Try.f45, go_sem, x9]) rfl ⟨_, rfl, ⟨a9, n9, c9, us9, rfl, by rw [hzz]; exact (OR9.out.same (innerS _) fun g h1 _ _ => Below.heap_setCell _ _ _ _ (by simp; omega)).mono (by omega) (Nat.le_refl _)⟩, BF.out.setCell (by simp) _⟩
end Go.Proofs.Ytmdhljleaijkbaa

/- Lists that are permutations. No program in sight. -/
namespace Go.Proofs.Ytmdhljleaijkbaa

theorem nodup_iget {zs : List Int} (h : ∀ i j, i < zs.length → j < zs.length → iget zs i = iget zs j → i = j) : zs.Nodup := by
  rw [List.nodup_iff_pairwise_ne, List.pairwise_iff_getElem]
  intro i j hi hj hij e
  have := h i j hi hj (by rw [iget_lt hi, iget_lt hj]; exact e)
  omega
theorem permGo_ok {n : Nat} : ∀ (zs : List Int) (seen : List Bool), seen.length = n → (∀ z ∈ zs, 0 ≤ z ∧ z < n) → zs.Nodup → (∀ z ∈ zs, seen.getD z.toNat false = false) → permGo n seen zs = true
  | [], _, _, _, _, _ => rfl
  | z :: r, seen, hs, hz, hn, hf => by
    rw [List.nodup_cons] at hn
    have h0 := hz z (by simp)
    unfold permGo
    rw [Bool.and_eq_true, Bool.and_eq_true]
    refine ⟨⟨inB_true.2 (by omega), by rw [hf z (by simp)]; rfl⟩, permGo_ok r _ (by rw [List.length_set]; exact hs) (fun x hx => hz x (by simp [hx])) hn.2 fun x hx => ?_⟩
    have hx0 := hz x (by simp [hx])
    have hne : z ≠ x := fun e => hn.1 (e ▸ hx)
    have := hf x (by simp [hx])
    rw [List.getD_eq_getElem?_getD] at this ⊢
    rw [List.getElem?_set_ne (by omega)]
    exact this
theorem isPerm_ok {zs : List Int} (hl : zs.length ≤ 400) (hz : ∀ k, k < zs.length → 0 ≤ iget zs k ∧ iget zs k < zs.length) (hi : ∀ i j, i < zs.length → j < zs.length → iget zs i = iget zs j → i = j) : isPerm zs = true := by
  unfold isPerm
  rw [Bool.and_eq_true]
  refine ⟨decide_eq_true hl, permGo_ok zs _ (by simp) (fun z hzm => ?_) (nodup_iget hi) fun z hzm => ?_⟩
  · obtain ⟨j, hj, rfl⟩ := List.getElem_of_mem hzm
    rw [← iget_lt hj]; exact hz j hj
  · rw [List.getD_eq_getElem?_getD, List.getElem?_replicate]
    split <;> rfl
end Go.Proofs.Ytmdhljleaijkbaa

/- Forms of maniplexes and isomorphisms, plain. -/
namespace Go.Proofs.Ytmdhljleaijkbaa

theorem man_mk {d : List (List Int)} {N : Nat} (h1 : 1 ≤ d.length) (h5 : d.length ≤ 5) (hN2 : 2 ≤ N) (hN4 : N ≤ 400) (hT : Leads d N) (hB : Back2 d N) (hF : ∀ g, g < d.length → ∀ x, x < N → bTo d x g ≠ x) (hC : ∀ i k, i + 2 ≤ k → k < d.length → ∀ x, x < N → commAt d i k x)
    (hconn : ∀ p : Nat → Prop, p 0 → (∀ x, x < N → p x → ∀ g, g < d.length → p (bTo d x g)) → ∀ x, x < N → p x) : Man d := by
  have h0 : (lget d 0).length = N := hT.len 0 (by omega)
  have hto : ∀ g, g < d.length → ∀ x, x < N → iget (lget d g) x = (bTo d x g : Int) ∧ bTo d x g < N := fun g hg x hx => ⟨(bTo_lt hT hx hg).2, (bTo_lt hT hx hg).1⟩
  refine ⟨h1, h5, by omega, by omega, fun i hi => by rw [hT.len i hi, h0], fun i hi => ?_, fun i hi => ?_, fun i k hik hk f hf => hC i k hik hk f (by omega), ?_⟩
  · have hl := hT.len i hi
    refine isPerm_ok (by omega) (fun k hk => ?_) fun a b ha hb e => ?_
    · have := hto i hi k (by omega); omega
    · have ea := hto i hi a (by omega)
      have eb := hto i hi b (by omega)
      have e2 : bTo d a i = bTo d b i := by rw [ea.1, eb.1] at e; omega
      rw [← hB i hi a (by omega), ← hB i hi b (by omega), e2]
  · have hl := hT.len i hi
    refine isFreeL_yes fun x hx => ?_
    have ex := hto i hi x (by omega)
    have eb := hB i hi x (by omega)
    have ef := hF i hi x (by omega)
    rw [ex.1, Int.toNat_natCast]
    refine ⟨by omega, ?_⟩
    rw [(hto i hi _ ex.2).1, eb]
  · rw [h0]
    refine (orb_full hT (by omega)).2 (hconn (fun x => rch d N 0 x = true) (rch_refl hT (by omega)) fun x hx h g hg => rch_on hT (by omega) hx h hg)
theorem man_free {d : List (List Int)} (h : Man d) {g x : Nat} (hg : g < d.length) (hx : x < flg d) : bTo d x g ≠ x := by
  have hT := man_leads h
  have := (isFreeL_at (h.free g hg) (i := x) (by rw [hT.len g hg]; exact hx)).1
  rw [(bTo_lt hT hx hg).2] at this
  omega
theorem man_comm {d : List (List Int)} (h : Man d) {i k x : Nat} (hik : i + 2 ≤ k) (hk : k < d.length) (hx : x < flg d) : commAt d i k x := h.comm i k hik hk x hx
theorem lget_revT {d : List (List Int)} {g x : Nat} (hg : g < d.length) : bTo d.reverse x g = bTo d x (d.length - 1 - g) := by unfold bTo; rw [lget_rev hg]
theorem man_rev {d : List (List Int)} (h : Man d) : Man d.reverse := by
  have h1 := h.n1
  have hT := man_leads h
  have hb := man_back h
  have hT' : Leads d.reverse (flg d) := ⟨fun k hk => by rw [List.length_reverse] at hk; rw [lget_rev hk]; exact hT.len _ (by omega), fun k hk x hx => by rw [List.length_reverse] at hk; rw [lget_rev hk]; exact hT.within _ (by omega) x hx⟩
  refine man_mk (N := flg d) (by simpa using h1) (by simpa using h.n5) h.f2 h.f4 hT' (fun g hg c hc => ?_) (fun g hg x hx => ?_) (fun i k hik hk x hx => ?_) fun p p0 hp => ?_
  · rw [List.length_reverse] at hg
    rw [lget_revT hg, lget_revT hg]
    exact hb _ (by omega) c hc
  · rw [List.length_reverse] at hg
    rw [lget_revT hg]
    exact man_free h (by omega) hx
  · rw [List.length_reverse] at hk
    have := man_comm h (i := d.length - 1 - k) (k := d.length - 1 - i) (x := x) (by omega) (by omega) hx
    unfold commAt at this ⊢
    have ri : ∀ y, bTo d.reverse y i = bTo d y (d.length - 1 - i) := fun y => lget_revT (by omega)
    have rk : ∀ y, bTo d.reverse y k = bTo d y (d.length - 1 - k) := fun y => lget_revT hk
    rw [ri x, rk, rk x, ri]
    exact ⟨this.1.symm, fun e => this.2 e.symm⟩
  · refine man_ind h p0 fun i hi hpi g hg => ?_
    have := hp i hi hpi (d.length - 1 - g) (by simp; omega)
    rw [lget_revT (by omega)] at this
    rwa [show d.length - 1 - (d.length - 1 - g) = g by omega] at this

/-- the order of a form meets each flag once -/
theorem ordN_lt {d : List (List Int)} (hM : Man d) {f : Nat} (hf : f < flg d) {i : Nat} (hi : i < flg d) : ordN d f i < flg d ∧ iget (orb d (flg d) f).2 i = (ordN d f i : Int) := by
  obtain ⟨x, h1, h2⟩ := ordF_in hM hf hi
  unfold ordN
  rw [h1]; exact ⟨by omega, by omega⟩
theorem ordN_onto {d : List (List Int)} (hM : Man d) {f : Nat} (hf : f < flg d) {y : Nat} (hy : y < flg d) : ∃ i, i < flg d ∧ ordN d f i = y := by
  have hr : rch d (flg d) f y = true := rch_trans (man_leads hM) hf (by omega) hy (rch_symm (man_leads hM) (man_back hM) (by omega) hf (man_rch hM f hf)) (man_rch hM y hy)
  obtain ⟨k, h1, h2⟩ := (orb_ok (man_leads hM) hf).cov y hy hr
  exact ⟨k, by rw [ordF_full hM hf] at h1; exact h1, by unfold ordN; rw [h2]; omega⟩
theorem ordN_inj {d : List (List Int)} (hM : Man d) {f : Nat} (hf : f < flg d) {i j : Nat} (hi : i < flg d) (hj : j < flg d) (e : ordN d f i = ordN d f j) : i = j :=
  onto_inj (fun _ h => (ordN_lt hM hf h).1) (fun _ h => ordN_onto hM hf h) hi hj e
theorem ordN_zero {d : List (List Int)} (hM : Man d) {f : Nat} (hf : f < flg d) : ordN d f 0 = f := by
  have := (mLoop_ok (mask := 2 ^ d.length - 1) (man_leads hM) rfl (flg d + 1) 0 _ (oStart_ok hf)).2.pre 0 (by simp [oStart])
  have e : iget (orb d (flg d) f).2 0 = (f : Int) := by unfold orb; rw [this]; rfl
  unfold ordN
  rw [e]; omega
theorem numN_ord {d : List (List Int)} (hM : Man d) {f : Nat} (hf : f < flg d) {i : Nat} (hi : i < flg d) : iget (numN d f) (ordN d f i) = (i : Int) :=
  putL_get (N := flg d) (g := fun i => ordN d f i) (v := fun i => (i : Int)) (M := flg d) (fun i h => (ordN_lt hM hf h).1) (fun i j h k e => ordN_inj hM hf h k e) (flg d) (Nat.le_refl _) i hi
theorem frm_get {d : List (List Int)} {f g i : Nat} (hg : g < d.length) (hi : i < flg d) : iget (lget (frmL d f) g) i = iget (numN d f) (bTo d (ordN d f i) g) := by
  rw [frm_row hg, iget_lt (by rw [frmRow_len]; exact hi)]
  simp [frmRow]
theorem frm_to {d : List (List Int)} (hM : Man d) {f g i : Nat} (hf : f < flg d) (hg : g < d.length) (hi : i < flg d) : bTo (frmL d f) i g < flg d ∧ iget (lget (frmL d f) g) i = (bTo (frmL d f) i g : Int) ∧ ordN d f (bTo (frmL d f) i g) = bTo d (ordN d f i) g := by
  have h1 := bTo_lt (man_leads hM) (ordN_lt hM hf hi).1 hg
  obtain ⟨k, hk, hke⟩ := ordN_onto hM hf h1.1
  have h2 := frm_get (d := d) (f := f) hg hi
  rw [← hke, numN_ord hM hf hk] at h2
  have h3 : bTo (frmL d f) i g = k := by unfold bTo; rw [h2]; omega
  rw [h3]
  exact ⟨hk, h2, hke⟩
theorem frm_flg {d : List (List Int)} (hM : Man d) {f : Nat} : flg (frmL d f) = flg d := by
  unfold flg
  rw [frm_row (by have := hM.n1; omega), frmRow_len]; rfl
theorem man_form {d : List (List Int)} (hM : Man d) {f : Nat} (hf : f < flg d) : Man (frmL d f) := by
  have hl := frm_len d f
  have h1 := hM.n1
  have h2 := hM.f2
  refine man_mk (N := flg d) (by omega) (by have := hM.n5; omega) hM.f2 hM.f4 ⟨fun k hk => ?_, fun k hk x hx => ?_⟩ (fun g hg c hc => ?_) (fun g hg x hx => ?_) (fun i k hik hk x hx => ?_) fun p p0 hp => ?_
  · rw [hl] at hk
    rw [frm_row hk, frmRow_len]
  · rw [hl] at hk
    have := frm_to hM hf hk hx
    omega
  · rw [hl] at hg
    obtain ⟨a1, a2, a3⟩ := frm_to hM hf hg hc
    obtain ⟨b1, b2, b3⟩ := frm_to hM hf hg a1
    refine ordN_inj hM hf b1 hc ?_
    rw [b3, a3]
    exact man_back hM g hg _ (ordN_lt hM hf hc).1
  · rw [hl] at hg
    intro e
    obtain ⟨a1, a2, a3⟩ := frm_to hM hf hg hx
    rw [e] at a3
    exact man_free hM hg (ordN_lt hM hf hx).1 a3.symm
  · rw [hl] at hk
    obtain ⟨a1, a2, a3⟩ := frm_to hM hf (g := i) (by omega) hx
    obtain ⟨b1, b2, b3⟩ := frm_to hM hf hk hx
    obtain ⟨c1, c2, c3⟩ := frm_to hM hf hk a1
    obtain ⟨e1, e2, e3⟩ := frm_to hM hf (g := i) (by omega) b1
    have hc := man_comm hM hik hk (ordN_lt hM hf hx).1
    refine ⟨ordN_inj hM hf c1 e1 ?_, fun e => hc.2 ?_⟩
    · rw [c3, a3, e3, b3]; exact hc.1
    · rw [← a3, ← b3, e]
  · have key : ∀ y, y < flg d → ∀ i, i < flg d → ordN d f i = y → p i := by
      have h0 := ordN_zero hM hf
      have base : ∀ i, i < flg d → ordN d f i = f → p i := fun i hi e => by
        rw [ordN_inj hM hf hi (j := 0) (by unfold flg; omega) (by rw [e, h0])]; exact p0
      refine fun y hy => rch_in (man_leads hM) hf (p := fun y => ∀ i, i < flg d → ordN d f i = y → p i) base (fun z hz hpz g hg i hi e => ?_) y hy (rch_trans (man_leads hM) hf (by omega) hy (rch_symm (man_leads hM) (man_back hM) (by omega) hf (man_rch hM f hf)) (man_rch hM y hy))
      obtain ⟨j, hj, hje⟩ := ordN_onto hM hf hz
      obtain ⟨a1, a2, a3⟩ := frm_to hM hf hg hj
      have := hp j hj (hpz j hj hje) g (by rw [hl]; exact hg)
      rw [hje] at a3
      rw [ordN_inj hM hf hi a1 (by rw [a3, e])]
      exact this
    exact fun x hx => key _ (ordN_lt hM hf hx).1 x hx rfl
end Go.Proofs.Ytmdhljleaijkbaa
