/- For every start in which the listed variable holds what the program's text lays there, the Go function laws.FnExactPolytopeNames returns true, and the variable reads as before: the row, and the tied card (Rows.FnExactPolytopeNamesCardSaid). -/
import Derived.Test.YtidkbhpgjmhidaaDoorPart1
import Derived.Test.YtidkbhpgjmhidaaDoorTie
import Derived.Test.YtidkbhpgjmhidaaDoorCards
import Derived.LaidMore
import Derived.LaidHandle
import Derived.MakeChecks
import Derived.SevenTiedAt
import Derived.Stop.Joined
namespace Go.Proofs.YtidkbhpgjmhidaaDoor.fnExactPolytopeNamesCard
open Go.ChangeShapes Go.WideShapes Go.ChangeAt Go.RowKit Go.WideElems
set_option linter.unusedVariables false

theorem own : ownKnob Tryd.prog.godebug = none := by kernel_rfl
theorem laidOut : laidOutB Tryd.prog = true := by kernel_rfl
theorem gN : Tryd.prog.globalNamed "loop.example/g01108/impl.polytopeNames" = some 0 := by kernel_rfl
theorem tN : (Tryd.prog.globals[0]?).map (·.type) = some 42 := by kernel_rfl
theorem rN : Tryd.prog.readableRec 42 = true ∧ 42 < Tryd.prog.types.size := ⟨by kernel_rfl, of_decide_eq_true (by kernel_rfl)⟩
theorem cS : Tryd.prog.cellsOf 9 = 1 := by kernel_rfl

/-- an array of strings, told as data, cell by cell -/
theorem open_strs {H : Type} {enc : TypeId × Value → H} {P : Program} {W : World} {base f : Nat} {sp : Nat → Bool} {held : Bool} {t e : TypeId} {n : Nat} {cs : List Value} {ss : List ByteArray} {p : List MemPlace} (ht : P.underlying t = some (.array n e)) (he : P.underlying e = some .string) (hc : P.cellsOf e = 1)
    (hd : DataW.trod enc P W base sp held f t cs = some (.agg (ss.map fun s => .lit (.string s.data.toList)), p)) (i : Nat) (hi : i < n) : ∃ s : ByteArray, cs[i]? = some (.string s) ∧ ss[i]? = some s := by
  obtain ⟨xs, m, rfl, hx, hlen, hn, hel⟩ := DataW.trod_array ht hd
  have h0 := hel i hi
  rw [hc, Nat.mul_one] at h0
  have hy : xs[i]? = some xs[i] := List.getElem?_eq_getElem (by omega)
  rw [hy] at h0
  obtain ⟨s, e1, e2, _⟩ := DataW.trod_string he h0
  have hx1 : ss.map (fun s : ByteArray => (DataW.lit (.string s.data.toList) : DataW H)) = xs.map (·.1) := by
    have := congrArg Prod.fst hx
    simpa using this
  have h2 : (ss.map (fun s : ByteArray => (DataW.lit (.string s.data.toList) : DataW H)))[i]? = (xs.map (·.1))[i]? := by rw [hx1]
  rw [List.getElem?_map, List.getElem?_map, hy, Option.map_some, e2] at h2
  refine ⟨s, ?_, ?_⟩
  · have : ((cs.drop i).take 1)[0]? = some (.string s) := by rw [e1]; rfl
    simpa [List.getElem?_take, List.getElem?_drop] using this
  · cases hs : ss[i]? with
    | none => rw [hs] at h2; cases h2
    | some s' =>
      rw [hs] at h2
      simp at h2
      cases s'; cases s; simp_all [← Array.toList_inj]

theorem laid_eq : (Rows.laid_loop_example_g01108_impl_polytopeNames : DataW Unit) = .agg (pNames.map fun s => .lit (.string s.data.toList)) := rfl

/-- The door's own heap meets the condition: closed facts. -/
theorem door_met (os : Os) (args : Array Value) : laidMetH Tryd.prog Rows.fnExactPolytopeNamesRow.laid ((World.doorLaid Tryd.prog 29 os).forCall (fun _ _ => 0) ⟨#[], args, []⟩).memory :=
  laidMetH_of_parts3 (fuel := 8) (laidMet_of_run' 8 (by kernel_rfl) (by kernel_rfl)) (by kernel_rfl) (by kernel_rfl)

theorem of_laid {W : World} (h : laidMetH Tryd.prog Rows.fnExactPolytopeNamesRow.laid W) : Strs W (some ⟨0, 0, none⟩) 12 pNames := by
  rw [MakeChecks.laidMetH_plain _ _ _ (by kernel_rfl)] at h
  obtain ⟨ps, ⟨g0, t0, cs0, f0, p0, q0, hg0, ht0, hv0, hd0, _, _⟩, _, _⟩ := h
  obtain rfl := Option.some.inj (gN.symm.trans hg0)
  obtain rfl := Option.some.inj (tN.symm.trans ht0)
  rw [laid_eq] at hd0
  refine ⟨rfl, by omega, fun _ => ⟨0, 0, rfl, fun j u hu => ?_⟩⟩
  have hj : j < 12 := by have := (List.getElem?_eq_some_iff.1 hu).1; simpa [lpNames] using this
  obtain ⟨s, e1, e2⟩ := open_strs Tryd.underlying42 Tryd.underlying9 cS hd0 j hj
  rw [List.getElem?_map, e2] at hu
  obtain rfl := Option.some.inj hu
  have := World.var?_cell hg0 hv0 j
  rw [Nat.zero_add, this]
  rw [← e1]; simp

set_option maxRecDepth 100000 in
theorem lifted (os : Os) (started : os.Started) (H : Type) (enc : TypeId × Value → H) :
    ReturnsInHanded {} Tryd.checked os 3 .any (fun w args => (Rows.fnExactPolytopeNamesSpec.pre enc Tryd.prog Tryd.f3 [] false w args ∧ laidMetH Tryd.prog Rows.fnExactPolytopeNamesRow.laid w) ∧ sizedMet enc Tryd.prog Tryd.f3 (OpenSpec.ofChange Rows.fnExactPolytopeNamesSpec) false w args)
      (Rows.fnExactPolytopeNamesSpec.post enc Tryd.prog Tryd.f3 false true false false) := by
  refine returnsInHanded_of_change_and (C := Tryd.checked) (X := fun w _ => laidMetH Tryd.prog Rows.fnExactPolytopeNamesRow.laid w) (fun _ _ _ hh h => h.of_heap hh) own started (by kernel_rfl) Tryd.func3
    (ChangeSpec.witness_shaped (enc := enc) (C := Tryd.checked) (os := os) (X := fun w _ => laidMetH Tryd.prog Rows.fnExactPolytopeNamesRow.laid w) false (World.doorLaid Tryd.prog 29 os) #[] 8 rfl (World.shaped_of_RefB (by kernel_rfl) (by kernel_rfl)) (by kernel_rfl) (by kernel_rfl) (by kernel_rfl) (door_met os _)) ?_
  intro W base args ds gs before hval0 hW _ _ hL _
  have hW' := hW
  obtain ⟨p, q, hA0, hV, hbf, hfz, hnd⟩ := hW
  have hA : DataW.TrodAll enc Tryd.prog W 0 (fun _ => true) true Tryd.f3.params.toList args.toList ds p := hA0
  rw [Tryd.params3] at hA
  obtain ⟨ha, rfl, rfl⟩ := trodAll_nil hA
  obtain rfl : args = #[] := by cases args; simp_all
  obtain ⟨g, t, cs, fuel, d, p1, rfl, h1, h2, h3, h4, hq⟩ := trodVars_one hV
  obtain rfl := Option.some.inj (gN.symm.trans h1)
  obtain rfl := Option.some.inj (tN.symm.trans h2)
  refine (walkPolytopeNames W (of_laid hL)).mono fun e W' ⟨he, hb⟩ => ?_
  subst he
  have hlt : ∀ x ∈ before, x.block < W.heap.size := fun x hx => hW'.lt x hx
  have hg : 0 < W.heap.size := by
    have h5 := h3
    unfold World.var? at h5
    rw [h1, Option.bind_some] at h5
    cases hh : W.heap[0]? with
    | none => rw [hh] at h5; cases h5
    | some o => exact (Array.getElem?_eq_some_iff.1 hh).1
  have h3' : W'.var? Tryd.prog "loop.example/g01108/impl.polytopeNames" = some cs := by
    unfold World.var? at h3 ⊢
    rw [h1] at h3
    rw [gN]
    simp only [Option.bind_some] at h3 ⊢
    rw [hb.block 0 hg]; exact h3
  have hpb : ∀ x ∈ p1, x ∈ before := fun x hx => by rw [hbf, hq]; simp [hx]
  exact ⟨_, rfl, post_of_below (pa := []) (pv := q) hW' (fun _ _ _ => trodAll_cons_mk (shut_bool Tryd.underlying4 _) trodAll_mk0) (fun sp hsp => by rw [Tryd.params3]; exact trodAll_mk0)
    (fun sp hsp => by
      rw [hq]
      exact trodVars_mk1 h1 h2 h3' (DataW.trod_stays (kids_book laidOut rN.1) (book_sized rN.1) (fun h => by cases h) ⟨rN.2, book_self _⟩ h4 (fun x hx => hb.same (hlt x (hpb x hx))) (fun x hx => hsp x (hpb x hx))))
    (by simpa using hbf) hb (ok_one (by kernel_rfl) rfl (okWide_bool_mk Tryd.underlying4 _))⟩

theorem and_tt {a b : Bool} (h : a = true) (h' : b = true) : (a && b) = true := by rw [h, h']; rfl
set_option maxHeartbeats 4000000 in
theorem closed : joinedFacts Tryd.pinned.checked.prog 3 Tryd.f3 Rows.fnExactPolytopeNamesSpec Rows.fnExactPolytopeNamesRow = true := by
  unfold joinedFacts
  repeat' (with_reducible apply and_tt)
  all_goals (as_aux_lemma => kernel_rfl)
theorem over : Rows.FnExactPolytopeNamesSaid :=
  OpenClaim.holds_of_wide 3 Tryd.f3 rfl rfl rfl rfl rfl rfl rfl ⟨rfl, rfl, rfl, rfl, rfl⟩ rfl rfl rfl rfl rfl (by as_aux_lemma => kernel_rfl) Tryd.func3 closed
    (of_decide_eq_true (by as_aux_lemma => kernel_rfl)) (by unfold Func.isWrapper; first | (rw [if_pos (by decide +kernel)]; kernel_rfl) | (rw [if_neg (by decide +kernel)]; exact ⟨rfl, rfl⟩))
    (fun os started H enc _ => lifted os started H enc)

theorem proved : Rows.FnExactPolytopeNamesCardSaid :=
  Claim7.holds_tied_plain_at .later [] [.widerDeep] true (true, "265adce6a076b801eedd97a2baa33b9f7792e16e754b5ca9082f519130321de1") false
    over (fun _ h => by cases h) (by kernel_rfl) (fun _ h => by cases h) fnExactPolytopeNames_row_tie rfl ⟨rfl, rfl⟩ (by kernel_rfl) rfl
    (fun f fn hf hfn => by
      obtain rfl : f = 3 := Option.some.inj ((show Tryd.prog.funcNamed "loop.example/g01108/laws.FnExactPolytopeNames" = some 3 by kernel_rfl).symm.trans hf) |>.symm
      obtain rfl : fn = Tryd.f3 := (Option.some.inj (Tryd.func3.symm.trans hfn)).symm
      exact ⟨by kernel_rfl, fun j t ht => by rw [Tryd.params3] at ht; simp at ht⟩)
    (by kernel_rfl)
#print axioms proved
end Go.Proofs.YtidkbhpgjmhidaaDoor.fnExactPolytopeNamesCard
