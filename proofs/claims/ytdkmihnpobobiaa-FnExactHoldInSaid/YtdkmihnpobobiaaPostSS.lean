/- Arguments of nested slices and structs opened to the words of Nest. -/
import Derived.Test.YtdkmihnpobobiaaPost
import Derived.Test.YtdkmihnpobobiaaNest
import Derived.Deep.Matrix
import Derived.Lib.SmallJoins
namespace Go.Proofs.Ytdkmihnpobobiaa
open Go.ChangeShapes Go.WideShapes Go.ChangeAt Go.RowKit Go.Deep Go.Joins

section
variable {H : Type} {enc : TypeId × Value → H} {P : Program}
theorem weights_le {ts : List TypeId} {ds : List (DataW H)} (h : (DataW.weightsEach P ts ds).all (· ≤ reachBytes) = true) {j : Nat} {t : TypeId} {d : DataW H} (ht : ts[j]? = some t) (hd : ds[j]? = some d) : ∀ m ∈ d.weights P t, m ≤ reachBytes := by
  intro m hm
  have := List.all_eq_true.1 h _ (DataW.weights_mem_each ht hd m hm)
  simpa using this
theorem mem_weightsAll {e : TypeId} : ∀ {ds : List (DataW H)} {d : DataW H} {m : Nat}, d ∈ ds → m ∈ d.weights P e → m ∈ DataW.weightsAll P e ds
  | [], d, m, h, _ => by cases h
  | x :: r, d, m, h, hm => by
    rw [DataW.weightsAll, List.mem_append]
    rcases List.mem_cons.1 h with rfl | h
    · exact .inl hm
    · exact .inr (mem_weightsAll h hm)

/-- a slice of slices of integers, as it is read -/
theorem open_intss {W : World} {t e q : TypeId} {fuel : Nat} {cs : List Value} {x : DataW H × List MemPlace} (ht : P.underlying t = some (.slice e)) (he : P.underlying e = some (.slice q)) (hq : P.underlying q = some (.int .i64))
    (ce : P.cellsOf e = 1) (cq : P.cellsOf q = 1) (be : P.bytesOf e = 24) (bq : P.bytesOf q = 8) (h : DataW.trod enc P W 0 (fun _ => true) true fuel t cs = some x) (hw : ∀ m ∈ x.1.weights P t, m ≤ reachBytes) :
    ∃ ao n c zss, cs = [.slice ao n c] ∧ Intss W ao n zss := by
  rcases open_int_rows ht he hq ce cq h with ⟨rfl, rfl⟩ | ⟨a, len, cap, A, L, C, Z, rfl, _, hl, hm, rfl, hx⟩
  · exact ⟨_, _, _, [], rfl, Intss.nil_ _ _⟩
  · have hlen : (len + (cap - len)) * 24 ≤ reachBytes := by
      have := hw ((len + (cap - len)) * P.bytesOf e) (by simp [DataW.weights, ht])
      rwa [be] at this
    simp only [reachBytes] at hlen
    refine ⟨_, _, _, (List.range len).map (fun r => (Z r).take (L r)), rfl, ⟨by simp, by omega, fun hn => ?_⟩⟩
    obtain ⟨b, off, spot⟩ := a
    have hspot : spot = none := by simpa [Addr.add] using World.cell?_spot (hx 0 (by omega)).1
    subst hspot
    refine ⟨b, off, rfl, fun j hj => ?_⟩
    obtain ⟨h1, h2, h3, h4, _, h6, h7⟩ := hx j (by omega)
    rw [Addr.add_lit] at h1
    refine ⟨_, h1, ?_⟩
    have hz : lget ((List.range len).map (fun r => (Z r).take (L r))) j = (Z j).take (L j) := by simp [lget, hj]
    rw [hz]
    refine ⟨_, _, _, rfl, ?_⟩
    cases hA : A j with
    | none =>
      have := h6 hA
      have h0 : L j = 0 := by omega
      rw [h0]
      exact ⟨by simp, by omega, fun h => absurd h (by omega)⟩
    | some a' =>
      have hin : intRow .i64 (A j) (L j) (Z j) ∈ (List.range len).map fun r => intRow (H := H) .i64 (A r) (L r) (Z r) := List.mem_map.2 ⟨j, List.mem_range.2 hj, rfl⟩
      have hwj : ((Z j).length) * 8 ≤ reachBytes := by
        have hmem : ((lits (H := H) .i64 ((Z j).take (L j))).length + (lits (H := H) .i64 ((Z j).drop (L j))).length) * P.bytesOf q ∈ (intRow (H := H) .i64 (A j) (L j) (Z j)).weights P e := by
          rw [hA]; simp [intRow, DataW.weights, he]
        have := hw _ (by
          simp only [DataW.weights, ht]
          exact List.mem_cons_of_mem _ (List.mem_append_left _ (mem_weightsAll hin hmem)))
        rw [bq] at this
        simp only [lits, List.length_map, List.length_take, List.length_drop] at this
        simp only [reachBytes] at this ⊢
        omega
      simp only [reachBytes] at hwj
      refine ⟨by simp; omega, by omega, fun hn0 => ?_⟩
      obtain ⟨b', off', spot'⟩ := a'
      obtain ⟨_, hc⟩ := h7 _ hA
      have hspot : spot' = none := by simpa [Addr.add] using World.cell?_spot (hc 0 (by omega))
      subst hspot
      refine ⟨b', off', rfl, fun i hi => ?_⟩
      have := hc i (by omega)
      rw [Addr.add_lit] at this
      rw [this, iget]
      simp [hi]

/-- an argument of type [][]int64 -/
theorem openSS {W : World} {base : Nat} {t e q : TypeId} {v : Value} {d : DataW H} {p : List MemPlace} (ht : P.underlying t = some (.slice e)) (he : P.underlying e = some (.slice q)) (hq : P.underlying q = some (.int .i64))
    (ce : P.cellsOf e = 1) (cq : P.cellsOf q = 1) (be : P.bytesOf e = 24) (bq : P.bytesOf q = 8) (hv : Value.okWide P W .any base t v) (h : DataW.Trod enc P W 0 (fun _ => true) true t v d p) (hw : ∀ m ∈ d.weights P t, m ≤ reachBytes) :
    ∃ zss, RdSS W v zss := by
  obtain ⟨a0, len, cap, rfl⟩ := okWide_slice ht hv
  obtain ⟨fuel, hf⟩ := h
  obtain ⟨ao, n, c, zss, hcs, hi⟩ := open_intss ht he hq ce cq be bq hf hw
  simp [Value.cells] at hcs
  obtain ⟨rfl, rfl, rfl⟩ := hcs
  exact ⟨zss, _, _, _, rfl, hi⟩

/-- an argument that is a struct of an integer and a slice of slices -/
theorem openP {W : World} {base : Nat} {s t e q : TypeId} {f0 f1 : Field} {v : Value} {d : DataW H} {p : List MemPlace} (hs : P.underlying s = some (.struct #[f0, f1])) (hone : oneCellFields P #[f0, f1] = true) (hC : P.cellsOf s = 2)
    (hf0 : f0.type = q) (hf1 : f1.type = t) (ht : P.underlying t = some (.slice e)) (he : P.underlying e = some (.slice q)) (hq : P.underlying q = some (.int .i64))
    (ce : P.cellsOf e = 1) (cq : P.cellsOf q = 1) (be : P.bytesOf e = 24) (bq : P.bytesOf q = 8) (hv : Value.okWide P W .any base s v) (h : DataW.Trod enc P W 0 (fun _ => true) true s v d p) (hw : ∀ m ∈ d.weights P s, m ≤ reachBytes) :
    ∃ dd : PresD, RdP W v dd ∧ (Lit.int .i64 dd.1).wf = true := by
  obtain ⟨v0, v1, y0, y1, n, rfl, rfl, rfl, h0, h1⟩ := open_agg2 hs hone hC hv h
  rw [hf0] at h0
  rw [hf1] at h1
  obtain ⟨z, e0, _, hwf⟩ := DataW.trod_int hq h0
  obtain ⟨ao, n, c, zss, hcs, hi⟩ := open_intss ht he hq ce cq be bq h1 (by
    intro m hm
    refine hw m ?_
    simp only [DataW.weights, hs]
    refine DataW.weights_mem_each (j := 1) (t := t) (d := y1.1) ?_ rfl m hm
    simp [hf1])
  simp at e0 hcs
  subst e0 hcs
  exact ⟨(z, zss), ⟨ao, n, c, rfl, hi⟩, hwf⟩
end
end Go.Proofs.Ytdkmihnpobobiaa
