/- The walk of FnDiagramTexts: true, whatever the code. -/
import Derived.Test.YtljimlejcecleaaGreatDoorPart2
import Derived.Test.YtljimlejcecleaaGreatDoorPart3
import Derived.Test.YtljimlejcecleaaGreatDoorPart4
import Derived.Test.YtljimlejcecleaaGreatDoorRows
import Derived.Test.YtljimlejcecleaaGreatDoorPart1
import Derived.ProofKit
import Derived.LaidMore
import Derived.LaidHandle
import Derived.LaidLaws
import Derived.MakeChecks
import Derived.Handed
namespace Go.Proofs.YtljimlejcecleaaGreatDoor
open Go.RowKit

theorem prR_txt {zs : List Int} (h : isDiag zs = true) : prR (dgS zs) = zs ∧ prC (dgS zs) = 0 := by
  have h1 := (pr_of h rfl).1
  have h2 := prR_yes (t := dgS zs) (by rw [h1]; exact ⟨h, rfl⟩)
  rw [h1] at h2; exact h2
theorem prR_back {t : ByteArray} (h : prC t = 0) : isDiag (prR t) = true ∧ dgS (prR t) = t := by
  by_cases hc : isDiag (pnL (midL t.data.toList)) = true ∧ dgS (pnL (midL t.data.toList)) = t
  · rw [(prR_yes hc).1]; exact hc
  · rw [(prR_no hc).2] at h; cases h
theorem likeS_any {E E' : Nat} {lo hi lo' hi' : Nat} {v v' : Value} {zs : List Int} {w : World} (h : OwnS E w lo hi v zs) (h' : OwnS E' w lo' hi' v' zs) : Calls Tryz.prog 12 #[v, v'] w fun e w' => e = .returned (.bool true) ∧ Below w.heap.size w w' := by
  obtain ⟨⟨a, n, c, rfl, o⟩, _⟩ := h
  obtain ⟨⟨a', n', c', rfl, o'⟩, _⟩ := h'
  have h1 : zs.length = n := by have := o.len; simpa using this
  have h2 : zs.length = n' := by have := o'.len; simpa using this
  obtain rfl : n = n' := by omega
  refine (likeInts_any a a' n c c' zs w o.ints o'.ints).mono ?_
  rintro e w' ⟨rfl, m, rfl⟩
  exact ⟨rfl, below_drewN (Below.refl _ _) m⟩
theorem dgTxt_any {E lo hi : Nat} {v : Value} {zs : List Int} {w : World} (h : OwnS E w lo hi v zs) : Calls Tryz.prog 6 #[v] w fun e w' => e = .returned (.tuple #[.string (dgR zs), .int .i64 (dgC zs)]) ∧ Below w.heap.size w w' := by
  obtain ⟨⟨a, n, c, rfl, o⟩, _⟩ := h
  exact implDiagramText_any a n c zs w o.ints
theorem dgTxtS_any {E lo hi : Nat} {v : Value} {zs : List Int} {w : World} (h : OwnS E w lo hi v zs) : Calls Tryz.prog 7 #[v] w fun e w' => e = .returned (.tuple #[.string (dgR zs), .int .i64 (dgC zs)]) ∧ Below w.heap.size w w' := by
  obtain ⟨⟨a, n, c, rfl, o⟩, _⟩ := h
  exact specDiagramText_any a n c zs w o.ints
theorem isDg_any {E lo hi : Nat} {v : Value} {zs : List Int} {w : World} (h : OwnS E w lo hi v zs) : Calls Tryz.prog 8 #[v] w fun e w' => e = .returned (.bool (isDiag zs)) ∧ Below w.heap.size w w' := by
  obtain ⟨⟨a, n, c, rfl, o⟩, _⟩ := h
  exact implIsDiagram_any a n c zs w o.ints
theorem revR_yes {zs : List Int} (h : isDiag zs = true) : revR zs = zs.reverse ∧ revC zs = 0 := by unfold revR revC; rw [if_pos h, if_pos h]; exact ⟨by unfold turned; rfl, rfl⟩
theorem Bts.later {w w' : World} {ao : Option Addr} {n : Nat} (h : Bts w ao n w.heap.size) (hb : Below w.heap.size w w') : Bts w' ao n w'.heap.size := by
  refine ⟨h.1, fun hn => ?_⟩
  obtain ⟨b, off, e, hlt, hc⟩ := h.2 hn
  refine ⟨b, off, e, Nat.lt_of_lt_of_le hlt hb.size, fun j hj => ?_⟩
  obtain ⟨x, hx, hcx⟩ := hc j hj
  exact ⟨x, hx, (World.cell?_of_block (hb.block b hlt)).trans hcx⟩
set_option maxRecDepth 100000 in
set_option maxHeartbeats 6400000 in
theorem walkDiagramTexts (ao : Option Addr) (n c : Nat) (w : World) (h : Bts w ao n w.heap.size) (hL : LF w) :
    Calls Tryz.prog 3 #[.slice ao n c] w fun e w' => e = .returned (.bool true) ∧ Below w.heap.size w w' := by
  by_cases hbig : 4096 < n
  · have e0 : decide (4096 < n) = true := by simp; omega
    go_enter Tryz.func3, Tryz.ntmps3
    go_wp2_with (go_at_call 4; refine (big_any ao n c w).mono ?_; rintro e w1 ⟨rfl, hw⟩; rw [hw, e0]; clear hw w1)
    go_ret
    exact ⟨rfl, Below.refl _ _⟩
  · have e0 : decide (4096 < n) = false := by simp; omega
    go_enter Tryz.func3, Tryz.ntmps3
    go_wp2_with (go_at_call 4; refine (big_any ao n c w).mono ?_; rintro e w1 ⟨rfl, hw⟩; rw [hw, e0]; clear hw w1)
    refine (drawTextD_any ao n c w h).mono ?_
    rintro e w1 ⟨a1, n1, c1, zs, rfl, hz, o1, b1⟩
    have o1 : OwnS 2 w1 w.heap.size w1.heap.size (.slice a1 n1 c1) zs := OwnS.of o1
    generalize Value.slice a1 n1 c1 = v1 at *
    clear hbig e0
    go_wp2_with fail
    refine (dgTxt_any o1).mono ?_
    rintro e w2 ⟨rfl, b2⟩
    have o2 := o1.below b2
    have B2 := b1.trans (b2.mono b1.size)
    clear o1 b1 b2
    go_wp2_with fail
    refine (dgTxtS_any o2).mono ?_
    rintro e w3 ⟨rfl, b3⟩
    have o3 := o2.below b3
    have B3 := B2.trans (b3.mono B2.size)
    clear o2 B2 b3
    have ee : ((dgR zs).toList == (dgR zs).toList) = true := by simp
    have ec : (dgC zs != dgC zs) = false := by simp
    cases hd : isDiag zs with
    | false =>
      have hc := (dgR_no hd).2
      have HD := Lib.hid hd
      rw [hc] at ec
      rw [hc]
      clear hd
      go_wp2_with (go_at_call 8; refine (isDg_any o3).mono ?_; rintro e w4 ⟨rfl, b4⟩; rw [HD.out])
      have B4 := B3.trans (b4.mono B3.size)
      clear b4
      refine (drawParse_any ao n c _ (h.later B4)).mono ?_
      rintro e y1 ⟨u, rfl, hu, d1⟩
      have D1 := B4.trans (d1.mono B4.size)
      clear d1
      go_wp2_with fail
      refine (implParseDiagram_any u y1 (hL.below D1) (by omega)).mono ?_
      rintro e y2 ⟨v2, rfl, p2, d2⟩
      have D2 := D1.trans (d2.mono D1.size)
      clear D1 d2
      go_wp2_with fail
      refine (specParse_any u y2 (by omega)).mono ?_
      rintro e y3 ⟨v3, rfl, p3, d3⟩
      have D3 := D2.trans (d3.mono D2.size)
      have p2 := p2.below d3
      have eu : (prC u != prC u) = false := by simp
      clear D2 d3
      have eu6 : prC u = 0 ∨ (prC u = 6 ∧ prR u = []) := by
        unfold prC prR
        split
        · exact .inl rfl
        · exact .inr ⟨rfl, rfl⟩
      rcases eu6 with e6 | ⟨e6, e7⟩
      · obtain ⟨q1, q2⟩ := prR_back e6
        have HD := Lib.hid (dgR_yes q1)
        have HQ := Lib.hid q2
        rw [e6] at eu
        rw [e6]
        clear e6 q1 q2
        go_wp2_with (go_at_call 12; refine (likeS_any p2 p3).mono ?_; rintro e y4 ⟨rfl, d4⟩; have D4 := D3.trans (d4.mono D3.size); have p4 := p2.below d4; clear d4)
        refine (dgTxt_any p4).mono ?_
        rintro e y5 ⟨rfl, d5⟩
        rw [HD.out.1, HD.out.2, HQ.out]
        have eq : (u.toList == u.toList) = true := by simp
        go_wp2
        go_ret
        exact ⟨rfl, D4.trans (d5.mono D4.size)⟩
      · have HE := Lib.hid e7
        rw [e6] at eu
        rw [e6]
        clear e6 e7
        go_wp2_with (go_at_call 12; refine (likeS_any p2 p3).mono ?_; rintro e y4 ⟨rfl, d4⟩; have D4 := D3.trans (d4.mono D3.size); clear d4; obtain ⟨⟨ax, nx, cx, rfl, ox⟩, _⟩ := p2; have hx := ox.len; rw [HE.out] at hx; obtain rfl : nx = 0 := by simpa using hx.symm)
        go_ret
        exact ⟨rfl, D4⟩
    | true =>
      have hc := (dgR_yes hd).2
      have ht := (dgR_yes hd).1
      have HD := Lib.hid hd
      rw [hc] at ec
      rw [hc]
      rw [ht] at ee
      rw [ht]
      have HP := Lib.hid (prR_txt hd)
      have hfew := (dgS_few hd).2.1
      have HR := Lib.hid (revR_yes hd)
      have HRR := Lib.hid (show revR (revR zs) = zs ∧ revC (revR zs) = 0 by
        have h1 := (revR_yes hd).1
        have h2 := revR_yes (zs := zs.reverse) (by rw [isDiag_rev]; exact hd)
        rw [h1]; rw [List.reverse_reverse] at h2; exact h2)
      have HK := Lib.hid (show kindR (revR zs) = kindR zs by rw [(revR_yes hd).1]; exact kindR_rev zs)
      have HC := Lib.hid (show kindC zs = 0 ∧ kindC (revR zs) = 0 by
        rw [(revR_yes hd).1, kindC_rev]; unfold kindC; rw [if_pos hd]; exact ⟨rfl, rfl⟩)
      clear hd ht hc
      go_wp2_with (go_at_call 8; refine (isDg_any o3).mono ?_; rintro e w4 ⟨rfl, b4⟩; rw [HD.out])
      have o4 := o3.below b4
      have B4 := B3.trans (b4.mono B3.size)
      clear o3 B3 b4 ee
      generalize dgS zs = tx at *
      refine (implParseDiagram_any tx _ (hL.below B4) (by omega)).mono ?_
      rintro e w5 ⟨v5, rfl, p5, b5⟩
      rw [HP.out.2]
      rw [HP.out.1] at p5
      have o5 := o4.below b5
      have B5 := B4.trans (b5.mono B4.size)
      clear o4 B4 b5
      go_wp2_with fail
      refine (api_implReverse _ o5.rd (by omega)).mono ?_
      rintro e w6 ⟨v6, rfl, p6, b6⟩
      rw [HR.out.2]
      have o6 := o5.below b6
      have p5 := p5.below b6
      have B6 := B5.trans (b6.mono B5.size)
      clear o5 B5 b6
      go_wp2_with fail
      refine (api_implReverse _ p6.rd (by rw [HR.out.1, List.length_reverse]; omega)).mono ?_
      rintro e w7 ⟨v7, rfl, p7, b7⟩
      rw [HRR.out.2]
      rw [HRR.out.1] at p7
      have o7 := o6.below b7
      have p5 := p5.below b7
      have p6 := p6.below b7
      have B7 := B6.trans (b7.mono B6.size)
      clear o6 B6 b7
      go_wp2_with fail
      refine (api_implKind _ o7).mono ?_
      rintro e w8 ⟨rfl, b8⟩
      rw [HC.out.1]
      have o8 := o7.below b8
      have p5 := p5.below b8
      have p6 := p6.below b8
      have p7 := p7.below b8
      have B8 := B7.trans (b8.mono B7.size)
      clear o7 B7 b8
      go_wp2_with fail
      refine (api_implKind _ p6).mono ?_
      rintro e w9 ⟨rfl, b9⟩
      rw [HC.out.2, HK.out]
      have o9 := o8.below b9
      have p5 := p5.below b9
      have p7 := p7.below b9
      have B9 := B8.trans (b9.mono B8.size)
      have ek : (kindR zs != kindR zs) = false := by simp
      clear o8 B8 b9 p6
      generalize kindR zs = kd at *
      go_upto_region 16 with (go_at_call 12; first | (refine (likeS_any p10 o10).mono ?_; rintro e w11 ⟨rfl, b11⟩; have B11 := B10.trans (b11.mono B10.size)) | (refine (likeS_any p5 o9).mono ?_; rintro e w10 ⟨rfl, b10⟩; have o10 := o9.below b10; have p10 := p7.below b10; have B10 := B9.trans (b10.mono B9.size)))
      clear B9 B10 b10 b11 o9 p5 p7 o10 p10 HP HR HRR HK HC HD
      go_wp2_with fail
      refine (drawParse_any ao n c _ (h.later B11)).mono ?_
      rintro e y1 ⟨u, rfl, hu, d1⟩
      have D1 := B11.trans (d1.mono B11.size)
      clear d1
      go_wp2_with fail
      refine (implParseDiagram_any u y1 (hL.below D1) (by omega)).mono ?_
      rintro e y2 ⟨v2, rfl, p2, d2⟩
      have D2 := D1.trans (d2.mono D1.size)
      clear D1 d2
      go_wp2_with fail
      refine (specParse_any u y2 (by omega)).mono ?_
      rintro e y3 ⟨v3, rfl, p3, d3⟩
      have D3 := D2.trans (d3.mono D2.size)
      have p2 := p2.below d3
      have eu : (prC u != prC u) = false := by simp
      clear D2 d3
      have eu6 : prC u = 0 ∨ (prC u = 6 ∧ prR u = []) := by
        unfold prC prR
        split
        · exact .inl rfl
        · exact .inr ⟨rfl, rfl⟩
      rcases eu6 with e6 | ⟨e6, e7⟩
      · obtain ⟨q1, q2⟩ := prR_back e6
        have HD := Lib.hid (dgR_yes q1)
        have HQ := Lib.hid q2
        rw [e6] at eu
        rw [e6]
        clear e6 q1 q2
        go_wp2_with (go_at_call 12; refine (likeS_any p2 p3).mono ?_; rintro e y4 ⟨rfl, d4⟩; have D4 := D3.trans (d4.mono D3.size); have p4 := p2.below d4; clear d4)
        refine (dgTxt_any p4).mono ?_
        rintro e y5 ⟨rfl, d5⟩
        rw [HD.out.1, HD.out.2, HQ.out]
        have eq : (u.toList == u.toList) = true := by simp
        go_wp2
        go_ret
        exact ⟨rfl, D4.trans (d5.mono D4.size)⟩
      · have HE := Lib.hid e7
        rw [e6] at eu
        rw [e6]
        clear e6 e7
        go_wp2_with (go_at_call 12; refine (likeS_any p2 p3).mono ?_; rintro e y4 ⟨rfl, d4⟩; have D4 := D3.trans (d4.mono D3.size); clear d4; obtain ⟨⟨ax, nx, cx, rfl, ox⟩, _⟩ := p2; have hx := ox.len; rw [HE.out] at hx; obtain rfl : nx = 0 := by simpa using hx.symm)
        go_ret
        exact ⟨rfl, D4⟩
end Go.Proofs.YtljimlejcecleaaGreatDoor

/- What the listed variables hold, out of the row's condition. -/
namespace Go.Proofs.YtljimlejcecleaaGreatDoor
open Go.ChangeShapes Go.WideShapes Go.ChangeAt Go.RowKit Go.WideElems

/-- an array of integers, told as data -/
theorem open_nums {H : Type} {enc : TypeId × Value → H} {P : Program} {W : World} {base f : Nat} {sp : Nat → Bool} {held : Bool} {t e : TypeId} {n : Nat} {q : IntKind} {cs : List Value} {zs : List Int} {p : List MemPlace} (ht : P.underlying t = some (.array n e)) (he : P.underlying e = some (.int q)) (hc : P.cellsOf e = 1)
    (hd : DataW.trod enc P W base sp held f t cs = some (.agg (zs.map fun z => .lit (.int q z)), p)) (ct : P.cellsOf t = n) (hzn : zs.length = n) : cs = zs.map (Value.int q) := by
  obtain ⟨xs, m, rfl, ex, hlen, hl, hel⟩ := DataW.trod_array ht hd
  rw [ct] at hlen
  have e3 : xs.map (·.1) = zs.map fun z => (DataW.lit (.int q z) : DataW H) := (DataW.agg.inj (Prod.mk.inj ex).1).symm
  refine List.ext_getElem? fun i => ?_
  by_cases hi : i < n
  · have hE := hel i hi
    rw [hc, Nat.mul_one, List.getElem?_eq_getElem (by omega)] at hE
    obtain ⟨z, e1, e2, _⟩ := DataW.trod_int he hE
    have e4 : (xs.map (·.1))[i]? = (zs.map fun z => (DataW.lit (.int q z) : DataW H))[i]? := by rw [e3]
    rw [List.getElem?_map, List.getElem?_map, List.getElem?_eq_getElem (by omega : i < xs.length), List.getElem?_eq_getElem (by omega : i < zs.length), e2] at e4
    have hz : z = zs[i] := by
      simpa using e4
    have h0 : ((cs.drop i).take 1)[0]? = some (.int q z) := by rw [e1]; rfl
    have h1 : cs[i]? = some (.int q z) := by simpa using h0
    rw [h1, List.getElem?_map, List.getElem?_eq_getElem (by omega : i < zs.length), hz]; rfl
  · rw [List.getElem?_eq_none (by omega), List.getElem?_eq_none (by rw [List.length_map]; omega)]
theorem pow_laid {H : Type} : (Rows.laid_internal_strconv_uint64pow10 : DataW H) = .agg (Lib.pow10Tab.map fun z => .lit (.int .u64 z)) := rfl
theorem lf_of {W : World} (h : laidMetH Tryz.prog Rows.fnDiagramTextsRow.laid W) (hsh : W.ShapedOpen Tryz.prog) : LF W := by
  refine ⟨Tryz.laysM146.s1_3 W hsh, ?_, ?_, ?_⟩
  all_goals
    rw [MakeChecks.laidMetH_plain _ _ _ (by kernel_rfl)] at h
    obtain ⟨ps, ⟨g0, t0, cs0, f0, p0, q0, hg0, ht0, hv0, hd0, ⟨g1, t1, cs1, f1, p1, q1, hg1, ht1, hv1, hd1, ⟨g2, t2, cs2, f2, p2, q2, hg2, ht2, hv2, hd2, ⟨g3, t3, cs3, f3, p3, q3, hg3, ht3, hv3, hd3, ⟨g4, t4, cs4, f4, p4, q4, hg4, ht4, hv4, hd4, ⟨g5, t5, cs5, f5, p5, q5, hg5, ht5, hv5, hd5, -⟩, -⟩, -⟩, -⟩, -⟩, -⟩, -⟩ := h
  · obtain rfl := Option.some.inj ((show (Tryz.prog.globalNamed "internal/strconv.uint64pow10").bind (fun g => (Tryz.prog.globals[g]?).map (·.type)) = some 119 by kernel_rfl).symm.trans (by rw [hg2]; exact ht2))
    rw [pow_laid] at hd2
    have := open_nums Tryz.underlying119 Tryz.underlying67 (by kernel_rfl) hd2 (by kernel_rfl) (by kernel_rfl)
    unfold Lib.TabIs
    rw [hv2, ← this]
  · obtain rfl := Option.some.inj ((show (Tryz.prog.globalNamed "strconv.ErrSyntax").bind (fun g => (Tryz.prog.globals[g]?).map (·.type)) = some 80 by kernel_rfl).symm.trans (by rw [hg5]; exact ht5))
    obtain ⟨f, u, v, hcs, _⟩ := iface_of_trod Tryz.underlying80 hd5
    exact ⟨u, v, by rw [hv5]; exact congrArg some (Array.eq_one_of_toList hcs)⟩
  · obtain rfl := Option.some.inj ((show (Tryz.prog.globalNamed "strconv.ErrRange").bind (fun g => (Tryz.prog.globals[g]?).map (·.type)) = some 80 by kernel_rfl).symm.trans (by rw [hg4]; exact ht4))
    obtain ⟨f, u, v, hcs, _⟩ := iface_of_trod Tryz.underlying80 hd4
    exact ⟨u, v, by rw [hv4]; exact congrArg some (Array.eq_one_of_toList hcs)⟩

section
variable {H : Type} {enc : TypeId × Value → H}
/-- as returnsInHanded_of_change_and, the world's shape at hand -/
theorem returnsInHanded_shaped {a : Assume} {C : Checked} {os : Os} {f : FuncId} {fn : Func} {s : ChangeSpec} {conds : List PathCond} {apart fresh handsOn again : Bool} {X : World → Array Value → Prop}
    (hX : ∀ (w w' : World) (args : Array Value), w.heap = w'.heap → X w args → X w' args)
    (own : ownKnob C.prog.godebug = none) (started : os.Started) (noInit : C.prog.inits.idxOf? f = none) (hfn : C.prog.funcs[f]? = some fn)
    (witness : ∃ (w : World) (tape : Tape) (i : Input), w.os = os ∧ (w.forCall tape i).Shaped C.prog ∧ i.vars = [] ∧ Input.okWide C.prog (w.forCall tape i) .any w.heap.size f i ∧
      ((s.pre enc C.prog fn conds apart (w.forCall tape i).memory i.args ∧ X (w.forCall tape i).memory i.args) ∧ sizedMet enc C.prog fn (OpenSpec.ofChange s) apart (w.forCall tape i).memory i.args) ∧ a.holds C.prog (lone (Frame.enter C.prog f i.args .normal) [] (w.forCall tape i)))
    (contract : ∀ (W : World) (base : Nat) (args : Array Value) (ds gs : List (DataW H)) (before : List MemPlace),
      (∀ (j : Nat) t v, fn.params[j]? = some t → args[j]? = some v → Value.okWide C.prog W .any base t v) →
      DataW.Whole enc C.prog fn.params.toList s.vars apart W args.toList ds gs before →
      (DataW.weightsEach C.prog (fn.params.toList ++ s.plain.varTypes C.prog) (ds ++ gs)).all (· ≤ reachBytes) = true → X W args → W.ShapedOpen C.prog →
      Calls C.prog f args W fun e W' => ∃ v, e = .returned v ∧ s.post enc C.prog fn apart fresh handsOn again W args v W') :
    ReturnsInHanded a C os f .any (fun w args => (s.pre enc C.prog fn conds apart w args ∧ X w args) ∧ sizedMet enc C.prog fn (OpenSpec.ofChange s) apart w args) (s.post enc C.prog fn apart fresh handsOn again) := by
  refine returnsInHanded_of_calls own started noInit witness ?_
  intro w tape i _ hsh _ hok hpre _
  obtain ⟨_, _, _, fn', hfn', _, _, _, _, hval⟩ := hok
  have e : fn' = fn := Option.some.inj (hfn'.symm.trans hfn)
  subst e
  obtain ⟨⟨⟨ds, gs, before, hw, _⟩, hx⟩, hz⟩ := hpre
  have hw' := DataW.Whole.of_heap (w' := w.forCall tape i) (by rfl) hw
  refine (contract (w.forCall tape i) w.heap.size i.args ds gs before hval hw' (hz.weights hw) (hX _ _ _ (by rfl) hx) hsh).mono fun e W' ⟨v, he, hp⟩ => ?_
  subst he
  exact ChangeSpec.post_blind hp
end
end Go.Proofs.YtljimlejcecleaaGreatDoor
