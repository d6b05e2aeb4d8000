/- The mix of a maniplex with one that it covers, plain: whom the search meets; the search's start. -/
import Derived.Test.YtmdhljleaijkbaaGreatDoorPart3
import Derived.Test.YtmdhljleaijkbaaGreatDoorPart4
import Derived.Test.YtmdhljleaijkbaaGreatDoorPart1
import Derived.Lib.LazyBuf
import Derived.Lib.SliceRun
import Derived.RegionTactic
import Derived.Deep.RegionHeld3
import Derived.Shelf.RegionOpenPlain
import Derived.Deep.RegionLaw
import Derived.Laws.IdiomCopy
import Derived.Lib.EndianMore
import Derived.Deep.DeepCutAuto
import Derived.BigQuiet
import Derived.Test.YtmdhljleaijkbaaGreatDoorPart2
import Derived.Deep.QuietTactic
import Derived.Laws.BitsAllLaws
import Derived.Laws.BitsLemmas
namespace Go.Proofs.YtmdhljleaijkbaaGreatDoor
open Go.RowKit

def xget (L : List Nat) (k : Nat) : Nat := L.getD k 0
theorem xget_lt {L : List Nat} {k : Nat} (h : k < L.length) : xget L k = L[k] := by unfold xget; rw [List.getD_eq_getElem?_getD, List.getElem?_eq_getElem h]; rfl
theorem xget_app {L : List Nat} {x k : Nat} (h : k < L.length) : xget (L ++ [x]) k = xget L k := by rw [xget_lt h, xget_lt (by simp; omega), List.getElem_append_left h]
theorem xget_mem {L : List Nat} {k : Nat} (h : k < L.length) : xget L k ∈ L := by rw [xget_lt h]; exact List.getElem_mem h
/-- the pairs -/
def mxP (r : List Int) (L : List Nat) : List (List Int) := L.map fun (x : Nat) => [(x : Int), (at_ r x : Int)]
def mxK (r : List Int) (L : List Nat) : List (Int × Int) := L.map fun (x : Nat) => ((x : Int), (at_ r x : Int))
section
variable {r : List Int} {L : List Nat} {x j : Nat}
theorem mxP_get (h : j < L.length) : lget (mxP r L) j = [(xget L j : Int), (at_ r (xget L j) : Int)] := by
  rw [lget_lt (by simp [mxP]; exact h)]; simp [mxP, xget_lt h]
theorem mxP_app : mxP r (L ++ [x]) = mxP r L ++ [[(x : Int), (at_ r x : Int)]] := by simp [mxP]
theorem mxK_app : mxK r (L ++ [x]) = mxK r L ++ [((x : Int), (at_ r x : Int))] := by simp [mxK]
theorem fndM_none : ∀ {L : List Nat} {i : Nat}, fndK ((x : Int), (at_ r x : Int)) (mxK r L) i = none → x ∉ L
  | [], _, _ => by simp
  | y :: L, i, h => by
    have h : (if ((x : Int), (at_ r x : Int)) = ((y : Int), (at_ r y : Int)) then some i else fndK ((x : Int), (at_ r x : Int)) (mxK r L) (i + 1)) = none := h
    split at h
    · cases h
    · rename_i hne
      have := fndM_none h
      intro hm
      rcases List.mem_cons.1 hm with e | e
      · subst e; exact hne rfl
      · exact this e
theorem fndM_some (h : fndK ((x : Int), (at_ r x : Int)) (mxK r L) 0 = some j) : j < L.length ∧ x ∈ L := by
  obtain ⟨h1, h2⟩ := fndK_lt _ _ _ h
  have h1' : j < L.length := by simpa [mxK] using h1
  refine ⟨h1', ?_⟩
  unfold mxK at h2
  rw [List.getElem?_map, List.getElem?_eq_getElem h1'] at h2
  simp at h2
  have : L[j] = x := by omega
  rw [← this]; exact List.getElem_mem h1'
end
/-- the flags met: closed behind the first a of them, and behind the moves below i of the next -/
structure MPl (d : List (List Int)) (a i : Nat) (L : List Nat) : Prop where
  nod : L.Nodup
  lt : ∀ x ∈ L, x < flg d
  zer : 0 ∈ L
  clo : ∀ j g, (j < a ∧ g < d.length) ∨ (j = a ∧ g < i) → bTo d (xget L j) g ∈ L
section
variable {d : List (List Int)} {a i : Nat} {L : List Nat}
theorem nodup_few {K : Nat} : ∀ {L : List Nat}, L.Nodup → (∀ x ∈ L, x < K) → L.length ≤ K := fun {L} hn hl =>
  holes K L.length (fun k => xget L k) (fun k hk => hl _ (xget_mem hk)) fun p q hp hq e => by
    rw [xget_lt hp, xget_lt hq] at e
    exact (List.getElem_inj hn).1 e
theorem MPl.few (h : MPl d a i L) : L.length ≤ flg d := nodup_few h.nod h.lt
theorem MPl.start (hd : Man d) : MPl d 0 0 [0] := ⟨by simp, fun x hx => by simp at hx; have := hd.f2; unfold flg; omega, by simp, fun j g hj => by rcases hj with ⟨q, _⟩ | ⟨_, q⟩ <;> omega⟩
theorem MPl.old (h : MPl d a i L) (hm : bTo d (xget L a) i ∈ L) : MPl d a (i + 1) L := ⟨h.nod, h.lt, h.zer, fun j g hj => by
  rcases hj with q | ⟨q1, q2⟩
  · exact h.clo j g (.inl q)
  · subst q1
    rcases Nat.lt_or_ge g i with z | z
    · exact h.clo _ g (.inr ⟨rfl, z⟩)
    · obtain rfl : g = i := by omega
      exact hm⟩
theorem MPl.new (h : MPl d a i L) (hd : Man d) (ha : a < L.length) (hi : i < d.length) (hm : bTo d (xget L a) i ∉ L) : MPl d a (i + 1) (L ++ [bTo d (xget L a) i]) := by
  have hx := h.lt _ (xget_mem ha)
  have hy := (bTo_lt (man_leads hd) hx hi).1
  refine ⟨?_, fun x hx => ?_, List.mem_append_left _ h.zer, fun j g hj => ?_⟩
  · rw [List.nodup_append]
    refine ⟨h.nod, by simp, fun p hp q hq => ?_⟩
    simp at hq; subst hq
    intro e; subst e; exact hm hp
  · rcases List.mem_append.1 hx with q | q
    · exact h.lt x q
    · simp at q; subst q; exact hy
  · rcases hj with ⟨q1, q2⟩ | ⟨q1, q2⟩
    · rw [xget_app (by omega)]; exact List.mem_append_left _ (h.clo j g (.inl ⟨q1, q2⟩))
    · subst q1
      rw [xget_app ha]
      rcases Nat.lt_or_ge g i with z | z
      · exact List.mem_append_left _ (h.clo _ g (.inr ⟨rfl, z⟩))
      · obtain rfl : g = i := by omega
        exact List.mem_append_right _ (by simp)
theorem MPl.next (h : MPl d a d.length L) : MPl d (a + 1) 0 L := ⟨h.nod, h.lt, h.zer, fun j g hj => by
  rcases hj with ⟨q1, q2⟩ | ⟨_, q2⟩
  · rcases Nat.lt_or_ge j a with z | z
    · exact h.clo j g (.inl ⟨z, q2⟩)
    · obtain rfl : j = a := by omega
      exact h.clo _ g (.inr ⟨rfl, q2⟩)
  · omega⟩
theorem MPl.done (h : MPl d a 0 L) (hd : Man d) (ha : L.length ≤ a) : L.length = flg d := by
  have hall : ∀ x, x < flg d → x ∈ L := man_ind hd (p := fun x => x ∈ L) h.zer fun x _ hx g hg => by
    obtain ⟨j, hj, e⟩ := List.getElem_of_mem hx
    have := h.clo j g (.inl ⟨by omega, hg⟩)
    rwa [xget_lt hj, e] at this
  obtain ⟨f, hf⟩ : ∃ f : Nat → Nat, ∀ x, x < flg d → f x < L.length ∧ xget L (f x) = x := by
    refine Classical.axiomOfChoice (r := fun x j => x < flg d → j < L.length ∧ xget L j = x) fun x => ?_
    by_cases hx : x < flg d
    · obtain ⟨j, hj, e⟩ := List.getElem_of_mem (hall x hx)
      exact ⟨j, fun _ => ⟨hj, by rw [xget_lt hj]; exact e⟩⟩
    · exact ⟨0, fun q => absurd q hx⟩
  have h1 := h.few
  have h2 := holes L.length (flg d) f (fun x hx => (hf x hx).1) (fun x y hx hy e => by rw [← (hf x hx).2, ← (hf y hy).2, e])
  omega
end
/-- the rows of the mix: one longer below i -/
def MRw (n a i : Nat) (R : List (List Int)) : Prop := R.length = n ∧ ∀ g, g < n → (lget R g).length = if g < i then a + 1 else a
theorem MRw.start (n : Nat) : MRw n 0 0 (List.replicate n []) := ⟨by simp, fun g hg => by rw [lget_lt (by simp; exact hg)]; simp⟩
theorem MRw.put {n a i : Nat} {R : List (List Int)} (h : MRw n a i R) (hi : i < n) {z : Int} : MRw n a (i + 1) (R.set i (lget R i ++ [z])) := by
  refine ⟨by rw [List.length_set]; exact h.1, fun g hg => ?_⟩
  have hl := h.1
  rw [lget_lt (by rw [List.length_set]; omega), List.getElem_set]
  by_cases e : i = g
  · subst e
    have := h.2 i hg
    rw [if_neg (by omega)] at this
    rw [if_pos rfl, if_pos (by omega)]; simp [this]
  · rw [if_neg e, ← lget_lt (by omega), h.2 g hg]
    by_cases q : g < i
    · rw [if_pos q, if_pos (by omega)]
    · rw [if_neg q, if_neg (by omega)]
theorem MRw.next {n a : Nat} {R : List (List Int)} (h : MRw n a n R) : MRw n (a + 1) 0 R := ⟨h.1, fun g hg => by rw [h.2 g hg, if_pos hg, if_neg (by omega)]⟩
/-- the search's start -/
theorem MX.init {w w5 w8 w9 : World} {p4 p6 p8 lo mb n : Nat} {v4 v6 : Value} {ks : List (Int × Int)} (k4 : Blk w5 p4 26 #[v4]) (k6 : Blk w5 p6 26 #[v6]) (k8 : Blk w5 p8 26 #[.slice none 0 0])
    (hp : (w.heap.size ≤ p4 ∧ p4 < lo) ∧ (w.heap.size ≤ p6 ∧ p6 < lo) ∧ (w.heap.size ≤ p8 ∧ p8 < lo)) (hlo : w5.heap.size = lo) (hmb : lo + 2 = mb) (kb : Below w.heap.size w w5)
    (o8 : Only mb (mb + 1) (((w5.alloc (.cells #[.int .i64 0, .int .i64 0] 2)).alloc (.cells #[.slice (some ⟨lo, 0, none⟩) 2 2] 38)).alloc (.map #[] 0)) w8) (m8 : MapK w8 mb ks)
    (h9 : Own w9 lo 38 (some ⟨w8.heap.size, 0, none⟩) n n (List.replicate n (.slice none 0 0))) (g9 : w8.grownBy w9 none) :
    MX w (w9.alloc (.cells #[.slice (some ⟨w8.heap.size, 0, none⟩) n n] 26)) p4 p6 p8 w9.heap.size lo mb v4 v6 (some ⟨lo + 1, 0, none⟩) 1 1 [.slice (some ⟨lo, 0, none⟩) 2 2] [[0, 0]] ks w8.heap.size n (List.replicate n (.slice none 0 0)) (List.replicate n []) := by
  subst hlo hmb
  have hz1 : (w5.alloc (.cells #[.int .i64 0, .int .i64 0] 2)).heap.size = w5.heap.size + 1 := by simp
  have hz2 : ((w5.alloc (.cells #[.int .i64 0, .int .i64 0] 2)).alloc (.cells #[.slice (some ⟨w5.heap.size, 0, none⟩) 2 2] 38)).heap.size = w5.heap.size + 2 := by simp
  have o1 : Own (w5.alloc (.cells #[.int .i64 0, .int .i64 0] 2)) w5.heap.size 2 (some ⟨w5.heap.size, 0, none⟩) 2 2 (([0, 0] : List Int).map (Value.int .i64)) := own_lit (us := [.int .i64 0, .int .i64 0]) rfl (Nat.le_refl _) (by simp)
  have hR : OwR (OwS 2) ((w5.alloc (.cells #[.int .i64 0, .int .i64 0] 2)).alloc (.cells #[.slice (some ⟨w5.heap.size, 0, none⟩) 2 2] 38)) w5.heap.size (w5.heap.size + 2) 38 (some ⟨w5.heap.size + 1, 0, none⟩) 1 1 [.slice (some ⟨w5.heap.size, 0, none⟩) 2 2] [[0, 0]] := by
    have := OwR.lit (E := 38) (us := [.slice (some ⟨w5.heap.size, 0, none⟩) 2 2]) (ds := [[0, 0]]) (n := 1) (lo := w5.heap.size) (hi := w5.heap.size + 1) (w := w5.alloc (.cells #[.int .i64 0, .int .i64 0] 2)) (innerS 2) (by omega) (by omega) rfl rfl (by omega) (fun j u d hu hd => by
        match j, hu, hd with
        | 0, hu, hd => simp at hu hd; subst hu hd; exact ⟨_, _, _, rfl, o1.mono (Nat.zero_le _)⟩
        | j + 1, hu, _ => simp at hu) (fun j u hu => by
        match j, hu with
        | 0, hu => simp at hu; subst hu; exact in_slice fun g hg => by simp [bk] at hg; omega
        | j + 1, hu => simp at hu) (fun i j u u' g hij hu hu' _ => by
        match i, j, hu, hu' with
        | 0, 0, _, _ => exact absurd rfl hij
        | 0, j + 1, _, hu' => simp at hu'
        | i + 1, _, hu, _ => simp at hu)
    rw [hz1] at this
    exact this
  have b6 : Below w5.heap.size w5 ((w5.alloc (.cells #[.int .i64 0, .int .i64 0] 2)).alloc (.cells #[.slice (some ⟨w5.heap.size, 0, none⟩) 2 2] 38)) := below_alloc2 w5 _ _
  generalize (w5.alloc (.cells #[.int .i64 0, .int .i64 0] 2)).alloc (.cells #[.slice (some ⟨w5.heap.size, 0, none⟩) 2 2] 38) = w6 at *
  have b7 : Below w6.heap.size w6 (w6.alloc (.map #[] 0)) := below_alloc1 w6 _
  have hz7 : (w6.alloc (.map #[] 0)).heap.size = w6.heap.size + 1 := by simp
  have s8 := o8.size
  have b8 : Below w6.heap.size w6 w8 := b7.trans (o8.below (by omega) (by omega))
  have b9' : Below w8.heap.size w8 w9 := ⟨g9.os, g9.tape, g9.output, g9.size, fun k hk => g9.block k hk (by simp)⟩
  have s9 := b9'.size
  have b9 : Below w6.heap.size w6 (w9.alloc (.cells #[.slice (some ⟨w8.heap.size, 0, none⟩) n n] 26)) := (b8.trans (b9'.mono (by omega))).trans ((below_alloc1 w9 _).mono (by omega))
  have hl9 := (h9.lt w8.heap.size rfl).2
  have b5 : Below w5.heap.size w5 (w9.alloc (.cells #[.slice (some ⟨w8.heap.size, 0, none⟩) n n] 26)) := b6.trans (b9.mono (by omega))
  have hz9 : (w9.alloc (.cells #[.slice (some ⟨w8.heap.size, 0, none⟩) n n] 26)).heap.size = w9.heap.size + 1 := by simp
  refine ⟨k4.belowS b5, k6.belowS b5, k8.belowS b5, blk_at rfl, ?_, ?_, ?_, ?_, ⟨hp.1, hp.2.1, hp.2.2, by omega, by omega⟩, kb.trans (b5.mono kb.size)⟩
  · exact (hR.below (innerS _) (by rw [hz2] at b9 ⊢; exact b9)).mono (Nat.le_refl _) (by omega)
  · exact (m8.same (b9'.block _ m8.lt)).same (Below.heap_alloc _ _ _ (by have := m8.lt; omega))
  · refine (OwR.below (innerS _) (OwR.blank (hi := w9.heap.size) rfl h9 ⟨none, 0, 0, rfl, Own.nil_ _ _ _⟩ fun g hg => (h9.lt g hg).2) (below_alloc1 w9 _)).mono (Nat.le_refl _) (by omega)
  · intro g hg hg2
    have h1 : g < w5.heap.size + 2 := (hR.ob hg).1.2.1
    rcases hg2 with e | ⟨j, u, hu, e⟩
    · simp [bk] at e; omega
    · rw [List.getElem?_replicate] at hu
      split at hu
      · injection hu with hu; subst hu; simp [Value.ownBlock] at e
      · cases hu
end Go.Proofs.YtmdhljleaijkbaaGreatDoor

/- Coverings of maniplexes, the reference's. -/
namespace Go.Proofs.YtmdhljleaijkbaaGreatDoor
open Go.RowKit

end Go.Proofs.YtmdhljleaijkbaaGreatDoor

/- Maniplexes that are read, whatever shares their rows: the test. -/
namespace Go.Proofs.YtmdhljleaijkbaaGreatDoor
open Go.RowKit

theorem RdSSc.intss {w : World} {ao : Option Addr} {n c : Nat} {d : List (List Int)} (h : RdSSc w (.slice ao n c) d) : Intss w ao n d := by
  obtain ⟨a1, n1, c1, e, hi⟩ := h.rd
  injection e with e1 e2 e3
  subst e1 e2 e3
  exact hi
theorem callMc {f : FuncId} {outs : List (Nm × Ch)} {res : AV} {d : List (List Int)} (hf : FC Tryz.prog f [(1003, rowsRo d)] [mA d.length] outs res []) {w : World} {v : Value} (h : RdSSc w v d) :
    Calls Tryz.prog f #[.agg #[v]] w fun e w' => ∃ v η ω, e = .returned v ∧ Den η res v ∧ Mem η ω w' (fun x => lk x outs) ∧ Below w.heap.size w w' ∧ ∀ b, b < w.heap.size → ω b = none := by
  obtain ⟨hd, r, rfl, hv⟩ := ofSSc 1003 38 2 h
  exact hf.call (l := [(1003, (rowsRo d, hd, r))]) (us := [_]) (fun p hp => by simp at hp; subst hp; exact hv) rfl (denL1 (denM (den_sl (q := (rowsRo d, hd, r)) rfl)))
/-- lists of a size that laws let pass -/
def FewSS (d : List (List Int)) : Prop := d.length ≤ 1048576 ∧ ∀ i, i < d.length → (lget d i).length ≤ 1048576
theorem specManC {w : World} {v : Value} {d : List (List Int)} (h : RdSSc w v d) (hf : FewSS d) :
    Calls Tryz.prog 24 #[.agg #[v]] w fun e w' => e = .returned (.bool (manB d)) ∧ Below w.heap.size w w' := one_val (callMc (manS_fc d hf.1 hf.2) h)
theorem implManC {w : World} {v : Value} {d : List (List Int)} (h : RdSSc w v d) (hf : FewSS d) :
    Calls Tryz.prog 20 #[.agg #[v]] w fun e w' => e = .returned (.bool (manB d)) ∧ Below w.heap.size w w' := one_val (callMc (manI_fc d hf.1 hf.2) h)
theorem man_few {d : List (List Int)} (h : Man d) : FewSS d := ⟨by have := h.n5; omega, fun i hi => by have := h.len i hi; have := h.f4; omega⟩
end Go.Proofs.YtmdhljleaijkbaaGreatDoor

/- All coverings, the reference's; CoveringOf, both sides; CountCoverings, AreCovered. -/
namespace Go.Proofs.YtmdhljleaijkbaaGreatDoor
open Go.RowKit

end Go.Proofs.YtmdhljleaijkbaaGreatDoor

/- CoveringOf, both sides; CountCoverings, AreCovered. guards: -/
namespace Go.Proofs.YtmdhljleaijkbaaGreatDoor
open Go.RowKit

noncomputable def ccC (d e : List (List Int)) : Int := if manB d = true then (if manB e = true then 0 else 1) else 1
noncomputable def ccR (d e : List (List Int)) : Int := if ccC d e = 0 then (cvL d e (flg e)).length else 0
noncomputable def acR (d e : List (List Int)) : Bool := if ccC d e = 0 then decide (0 < (cvL d e (flg e)).length) else false
section
variable {d e : List (List Int)}
theorem cc_bad (h : manB d = false ∨ manB e = false) : ccC d e = 1 ∧ ccR d e = 0 ∧ acR d e = false := by
  have : ccC d e = 1 := by unfold ccC; rcases h with h | h <;> rw [h] <;> simp
  exact ⟨this, by unfold ccR; rw [this]; rfl, by unfold acR; rw [this]; rfl⟩
theorem cc_ok (h1 : manB d = true) (h2 : manB e = true) : ccC d e = 0 ∧ ccR d e = (cvL d e (flg e)).length ∧ acR d e = decide (0 < (cvL d e (flg e)).length) := by
  have : ccC d e = 0 := by unfold ccC; rw [h1, h2]; rfl
  exact ⟨this, by unfold ccR; rw [this]; rfl, by unfold acR; rw [this]; rfl⟩
end
set_option maxRecDepth 100000 in
set_option maxHeartbeats 3200000 in
theorem api_implAc (ao bo : Option Addr) (n c m c' : Nat) (d e : List (List Int)) (w : World) (hd : RdSSc w (.slice ao n c) d) (he : RdSSc w (.slice bo m c') e) (fd : FewSS d) (fe : FewSS e) :
    Calls Tryz.prog 13 #[.agg #[.slice ao n c], .agg #[.slice bo m c']] w fun r w' => r = .returned (.tuple #[.bool (acR d e), .int .i64 (ccC d e)]) ∧ Below w.heap.size w w' := by
  have b0 := below_alloc2 w (.cells #[.slice ao n c] 26) (.cells #[.slice bo m c'] 26)
  have km : Blk ((w.alloc (.cells #[.slice ao n c] 26)).alloc (.cells #[.slice bo m c'] 26)) w.heap.size 26 #[.slice ao n c] := (blk_at rfl).alloc _
  have kk : Blk ((w.alloc (.cells #[.slice ao n c] 26)).alloc (.cells #[.slice bo m c'] 26)) (w.heap.size + 1) 26 #[.slice bo m c'] := blk_at (by simp)
  have hd1 := Lib.hid (hd.below b0)
  have he1 := Lib.hid (he.below b0)
  have hz1 := b0.size
  obtain ⟨C, hC⟩ : ∃ C, ccC d e = C := ⟨_, rfl⟩
  obtain ⟨R, hR⟩ : ∃ R, acR d e = R := ⟨_, rfl⟩
  rw [hC, hR]
  have HC := Lib.hid hC
  have HR := Lib.hid hR
  clear hC hR hd he
  have x0 := km.cell 0
  simp at x0
  go_enter Tryz.func13, Tryz.ntmps13
  go_wp2_with fail
  generalize (w.alloc (.cells #[.slice ao n c] 26)).alloc (.cells #[.slice bo m c'] 26) = w1 at *
  have KM := Lib.hid km
  have KK := Lib.hid kk
  have HB0 := Lib.hid b0
  clear km kk b0 x0
  refine (implManC hd1.out fd).mono ?_
  rintro r w2 ⟨rfl, b2⟩
  have x1 := (KK.out.belowS b2).cell 0
  simp at x1
  have HB2 := Lib.hid (HB0.out.trans (b2.mono hz1))
  have hz2 := b2.size
  have he2 := Lib.hid (he1.out.below b2)
  have hd2 := Lib.hid (hd1.out.below b2)
  have KM2 := Lib.hid (KM.out.belowS b2)
  have KK2 := Lib.hid (KK.out.belowS b2)
  clear b2 KM KK HB0 hd1 he1
  cases h1 : manB d with
  | false =>
    have hb := cc_bad (e := e) (.inl h1)
    obtain rfl := hb.1.symm.trans HC.out
    obtain rfl := hb.2.2.symm.trans HR.out
    clear hb HC HR h1
    go_wp2_with fail
    exact bodyPost_ret (v := .tuple #[.bool false, .int .i64 1]) (by simp [results, Tryz.f13, go_sem]) rfl ⟨rfl, HB2.out⟩
  | true =>
    have H1 := Lib.hid h1
    clear h1
    go_wp2_with fail
    refine (implManC he2.out fe).mono ?_
    rintro r w3 ⟨rfl, b3⟩
    have hzw2 := HB2.out.size
    have HB3 := Lib.hid (HB2.out.trans (b3.mono hzw2))
    have he3 := Lib.hid (he2.out.below b3)
    have hd3 := Lib.hid (hd2.out.below b3)
    have KM3 := Lib.hid (KM2.out.belowS b3)
    have KK3 := Lib.hid (KK2.out.belowS b3)
    clear b3 KM2 KK2 HB2 hd2 he2
    cases h2 : manB e with
    | false =>
      have hb := cc_bad (d := d) (.inr h2)
      obtain rfl := hb.1.symm.trans HC.out
      obtain rfl := hb.2.2.symm.trans HR.out
      clear hb HC HR h2
      go_wp2_with fail
      exact bodyPost_ret (v := .tuple #[.bool false, .int .i64 1]) (by simp [results, Tryz.f13, go_sem]) rfl ⟨rfl, HB3.out⟩
    | true =>
      have H2 := Lib.hid h2
      have y0 := KM3.out.cell 0
      have y1 := KK3.out.cell 0
      simp at y0 y1
      have hz3 := HB3.out.size
      clear h2
      go_wp2_with fail
      refine (coveringsOf_any ao bo n c m c' _ _ d e w3 hd3.out.intss he3.out.intss (manB_iff.1 H1.out) (manB_iff.1 H2.out) rfl rfl).mono ?_
      rintro r w4 ⟨a, k, cc, us, rfl, or4, b4⟩
      have HB4 := Lib.hid (HB3.out.trans (b4.mono hz3))
      have hl := or4.len
      have hb := cc_ok H1.out H2.out
      obtain rfl := hb.1.symm.trans HC.out
      have hR := hb.2.2.symm.trans HR.out
      rw [hl] at hR
      subst hR
      clear hb HC HR or4 b4
      have hdd : decide ((0 : Int) < (k : Int)) = decide (0 < k) := by simp
      go_wp2_with fail
      exact bodyPost_ret (v := .tuple #[.bool (decide (0 < k)), .int .i64 0]) (by simp [results, Tryz.f13, go_sem, hdd]) rfl ⟨rfl, HB4.out⟩
end Go.Proofs.YtmdhljleaijkbaaGreatDoor

/- Walks in names: bits of masks. No program in sight. -/
namespace Go.Proofs.YtmdhljleaijkbaaGreatDoor
open Go.RowKit

section
variable {P : Program} {nt : Nat} {S S' S2 : St} {t : Nat} {ty : TypeId} {ps : String} {af : Array Edge} {gd : Option (Nat × Bool)} {x y : Operand} {o : Oper}
/-- a step behind a loss of knowledge -/
theorem Stp.pre (h : Wk S S') (k : Stp P nt o S' S2) : Stp P nt o S S2 :=
  ⟨fun w0 ω0 a w Q hs => k.go w0 ω0 a w Q (h.go _ _ _ _ _ hs)⟩
end
end Go.Proofs.YtmdhljleaijkbaaGreatDoor

/- A memory of names: a call that turns one vector of the caller's in place; quotients and remainders. No program in sight. -/
namespace Go.Proofs.YtmdhljleaijkbaaGreatDoor
open Go.RowKit

section
variable {P : Program} {nt : Nat} {S S' S2 : St} {t : Nat} {ty : TypeId} {ps : String} {af : Array Edge} {gd : Option (Nat × Bool)} {x y : Operand} {o : Oper}
end
end Go.Proofs.YtmdhljleaijkbaaGreatDoor

/- ReverseDiagram: the reference's l12Turned, slices.Clone and slices.Reverse at []int64. -/
namespace Go.Proofs.YtmdhljleaijkbaaGreatDoor
open Go.RowKit

/-- a list the other way round; closed to simp -/
def turned (zs : List Int) : List Int := zs.reverse
end Go.Proofs.YtmdhljleaijkbaaGreatDoor

/- slices.Reverse at []int64: it turns a row of the call's own round, in place. -/
namespace Go.Proofs.YtmdhljleaijkbaaGreatDoor
open Go.RowKit

end Go.Proofs.YtmdhljleaijkbaaGreatDoor

/- Comparisons of lists, the greatest one of an ascending list, the greatest common divisor. -/
namespace Go.Proofs.YtmdhljleaijkbaaGreatDoor
open Go.RowKit

set_option maxHeartbeats 400000 in
theorem same_any (a b : Option Addr) (na nb ca cb : Nat) (za zb : List Int) (w : World) (ha : Ints w a na za) (hb : Ints w b nb zb) :
    Calls Tryz.prog 28 #[.slice a na ca, .slice b nb cb] w fun e w' => e = .returned (.bool (decide (za = zb))) ∧ ∃ m, w' = w.drewN m := by
  have hla := ha.2.1
  have hlb := hb.2.1
  by_cases hl : na = nb
  · subst hl
    have hl' : ((na : Int) != (na:Int)) = false := by simp
    go_enter Tryz.func28, Tryz.ntmps28
    go_wp2
    go_loopw [5] (fun i wr => ∃ k : Nat, k ≤ na ∧ i = .int .i64 k ∧ za.take k = zb.take k ∧ ∃ m, wr = w.drewN m) (fun i _ => na - (intOf i).toNat)
    case atStart => exact ⟨0, Nat.zero_le _, rfl, rfl, 0, rfl⟩
    case round =>
      obtain ⟨k, hk, rfl, hpre, m, rfl⟩ := hrel
      have HP := Lib.hid hpre
      clear hpre
      by_cases hlt : k < na
      · obtain ⟨ba, oa, rfl, hca⟩ := ha.at_ hlt
        obtain ⟨bb, ob, rfl, hcb⟩ := hb.at_ hlt
        have h1 := ha.1
        have h2 := hb.1
        have H1 := Lib.hid h1
        have H2 := Lib.hid h2
        clear h1 h2
        by_cases he : iget za k = iget zb k
        · have he' : (iget za k != iget zb k) = false := by simp [he]
          have HE := Lib.hid he
          clear he
          go_wp2_with fail
          go_quiet (fail)
          go_wp2
          go_roundw
          case rel => exact ⟨k + 1, by omega, by go_num, by rw [take_iget (by rw [H1.out]; omega), take_iget (by rw [H2.out]; omega), HP.out, HE.out], _, rfl⟩
          case measure => simp [intOf]; omega
        · have he' : (iget za k != iget zb k) = true := by simp [he]
          have HE := Lib.hid he
          clear he
          go_wp2_with fail
          go_quiet (fail)
          go_wp2
          go_ret
          exact ⟨ret_bool (by symm; rw [decide_eq_false_iff_not]; intro e; exact HE.out (by rw [e])), _, World.drewN_drewN _ _ _⟩
      · obtain rfl : k = na := by omega
        have h1 := ha.1
        have h2 := hb.1
        have hab : za = zb := by have := HP.out; rwa [List.take_of_length_le (by omega), List.take_of_length_le (by omega)] at this
        have HA := Lib.hid hab
        clear h1 h2 hab
        go_wp2
        go_ret
        exact ⟨ret_bool (by symm; simpa using HA.out), _, rfl⟩
  · have hl' : ((na : Int) != (nb:Int)) = true := by simp; omega
    go_enter Tryz.func28, Tryz.ntmps28
    go_wp2
    go_ret
    refine ⟨ret_bool ?_, 0, rfl⟩
    symm
    rw [decide_eq_false_iff_not]
    intro e
    exact hl (by rw [← ha.1, ← hb.1, e])

end Go.Proofs.YtmdhljleaijkbaaGreatDoor

/- Coverings, the program's: isCovering, coveringCode, at coverings. guards: -/
namespace Go.Proofs.YtmdhljleaijkbaaGreatDoor
open Go.RowKit

set_option maxHeartbeats 1600000 in
theorem hasFlag_any (mb : Nat) (ao : Option Addr) (n c N x : Nat) (d : List (List Int)) (z : Int) (hz : z = (x : Int)) (w : World) (hm : Blk w mb 26 #[.slice ao n c]) (h : RdSS w (.slice ao n c) d) (hn : 0 < n) (hl : (lget d 0).length = N) (hN : 1 ≤ N) (hN4 : N ≤ 1000000) (hx : x < N) :
    Calls Tryz.prog 63 #[.pointer (some ⟨mb, 0, none⟩), .int .i64 z] w fun e w' => e = .returned (.bool true) ∧ w = w' := by
  subst hz
  have HM := Lib.hid hm
  have HR := Lib.hid h
  have hw1 : IntKind.i64.wrap ((N : Int) - 1) = (N : Int) - 1 := IntWalk.i64_in _ (by omega)
  have hB : inB (x : Int) 0 ((N : Int) - 1) = true := by unfold inB; simp; omega
  clear hm h
  go_enter Tryz.func63, Tryz.ntmps63
  go_wp2_with (first | (go_at_call 22; refine (flagsI_any mb ao n c N d _ HM.out HR.out hn hl hN4).mono ?_; rintro e w' ⟨rfl, hw⟩; subst hw) | (go_at_call 41; refine (within_any _ _ _ _).mono ?_; rintro e w' ⟨rfl, hw⟩; rw [hw, hB]; clear hw w'))
  go_ret
  exact ⟨rfl, rfl⟩
end Go.Proofs.YtmdhljleaijkbaaGreatDoor

/- slices.Delete of one element, slices.Clone, at [][]int64; what the program and the reference leave out of a maniplex. -/
namespace Go.Proofs.YtmdhljleaijkbaaGreatDoor
open Go.RowKit

end Go.Proofs.YtmdhljleaijkbaaGreatDoor

/- What the program and the reference leave out of a maniplex: without, l02Others; flags. -/
namespace Go.Proofs.YtmdhljleaijkbaaGreatDoor
open Go.RowKit

/-- values that read as lists, each within its capacity -/
def RwV (w : World) (us : List Value) (zss : List (List Int)) : Prop := us.length = zss.length ∧ ∀ j, j < zss.length → ∃ a' c', us[j]? = some (.slice a' (lget zss j).length c') ∧ (lget zss j).length ≤ c' ∧ Ints w a' (lget zss j).length (lget zss j)
theorem RwV.below {w w' : World} {us : List Value} {zss : List (List Int)} (h : RwV w us zss) (hb : Below w.heap.size w w') : RwV w' us zss :=
  ⟨h.1, fun j hj => by obtain ⟨a, c, h1, h2, h3⟩ := h.2 j hj; exact ⟨a, c, h1, h2, h3.below hb⟩⟩
theorem RwV.one {w : World} {us : List Value} {zss : List (List Int)} (h : RwV w us zss) : ∀ u ∈ us, u.oneCell' = true := fun u hu => by
  obtain ⟨j, hj, rfl⟩ := List.getElem_of_mem hu
  obtain ⟨a, c, h1, _, _⟩ := h.2 j (by rw [← h.1]; exact hj)
  rw [List.getElem?_eq_getElem hj] at h1
  rw [Option.some.inj h1]; rfl
theorem RdSSc.rows {w : World} {v : Value} {zss : List (List Int)} (h : RdSSc w v zss) : ∃ ao c us, v = .slice ao zss.length c ∧ Vals w ao zss.length us ∧ RwV w us zss ∧ (0 < zss.length → zss.length ≤ c) := by
  obtain ⟨ao, c, rfl, hn, hc⟩ := h
  rcases Nat.eq_zero_or_pos zss.length with h0 | h0
  · refine ⟨ao, c, [], rfl, ⟨by rw [h0]; rfl, hn, fun h => by omega⟩, ⟨by rw [h0]; rfl, fun j hj => by omega⟩, fun h => by omega⟩
  · obtain ⟨h1, b, off, e, hlt, h2⟩ := hc h0
    have hget : ∀ j, j < zss.length → ((List.range zss.length).map fun j => (w.cell? ⟨b, off + j, none⟩).getD (.slice none 0 0))[j]? = some ((w.cell? ⟨b, off + j, none⟩).getD (.slice none 0 0)) := fun j hj => by simp [hj]
    refine ⟨ao, c, (List.range zss.length).map fun j => (w.cell? ⟨b, off + j, none⟩).getD (.slice none 0 0), rfl, ⟨by simp, hn, fun _ => ⟨b, off, e, fun j u hu => ?_⟩⟩, ⟨by simp, fun j hj => ?_⟩, fun _ => h1⟩
    · have hj : j < zss.length := by have := (List.getElem?_eq_some_iff.1 hu).1; simpa using this
      obtain ⟨a', c', h3, _, _⟩ := h2 j hj
      rw [hget j hj, h3] at hu
      rw [h3]; exact hu
    · obtain ⟨a', c', h3, h4, h5⟩ := h2 j hj
      exact ⟨a', c', by rw [hget j hj, h3]; rfl, h4, h5⟩
end Go.Proofs.YtmdhljleaijkbaaGreatDoor

/- IsPresentation: words, presentations, the program's and the reference's. -/
namespace Go.Proofs.YtmdhljleaijkbaaGreatDoor
open Go.RowKit

end Go.Proofs.YtmdhljleaijkbaaGreatDoor

/- isPresentation, the program's: areWithin, isLetters, slices.ContainsFunc at [][]int64. -/
namespace Go.Proofs.YtmdhljleaijkbaaGreatDoor
open Go.RowKit

theorem areWithinFn_any (z lo hi : Int) (b1 b2 : Nat) (w : World) (h1 : w.cell? ⟨b1, 0, none⟩ = some (.int .i64 lo)) (h2 : w.cell? ⟨b2, 0, none⟩ = some (.int .i64 hi)) :
    Calls Tryz.prog 81 #[.int .i64 z, .pointer (some ⟨b1, 0, none⟩), .pointer (some ⟨b2, 0, none⟩)] w fun e w' => e = .returned (.bool (!inB z lo hi)) ∧ w' = w := by
  go_enter Tryz.func81, Tryz.ntmps81
  go_wp2_with (go_at_call 41; refine (within_any _ _ _ _).mono ?_; rintro e w' ⟨rfl, rfl⟩)
  go_ret
  exact ⟨rfl, rfl⟩

set_option maxHeartbeats 400000 in
set_option maxRecDepth 100000 in
theorem areWithin_any (ao : Option Addr) (n c : Nat) (zs : List Int) (lo hi : Int) (w : World) (h : Ints w ao n zs) :
    Calls Tryz.prog 59 #[.slice ao n c, .int .i64 lo, .int .i64 hi] w fun e w' => e = .returned (.bool (zs.all (fun z => inB z lo hi))) ∧ Below w.heap.size w w' := by
  have hmf : ∀ (fn : Fn) (first cap : Array Value) (w : World), (Instr.makeFunc fn first cap).run Tryz.prog w = .ok (.func fn first cap) w := fun _ _ _ _ => rfl
  have hany : zs.any (fun z => !inB z lo hi) = !(zs.all (fun z => inB z lo hi)) := by rw [List.any_eq_not_all_not]; simp
  have HA := Lib.hid hany
  clear hany
  have hb := below_alloc2 w (.cells #[.int .i64 lo] 2) (.cells #[.int .i64 hi] 2)
  have k1 : Blk ((w.alloc (.cells #[.int .i64 lo] 2)).alloc (.cells #[.int .i64 hi] 2)) w.heap.size 2 #[.int .i64 lo] := (blk_at rfl).alloc _
  have k2 : Blk ((w.alloc (.cells #[.int .i64 lo] 2)).alloc (.cells #[.int .i64 hi] 2)) (w.heap.size + 1) 2 #[.int .i64 hi] := blk_at (by simp)
  go_enter Tryz.func59, Tryz.ntmps59
  go_wp2_with fail
  refine (containsFunc_any 81 #[.pointer (some ⟨w.heap.size, 0, none⟩), .pointer (some ⟨w.heap.size + 1, 0, none⟩)] (fun z => !inB z lo hi) ao n c zs _ (h.below hb) (fun _ _ => by rfl)
    (fun j hj w' hb' => (areWithinFn_any _ lo hi w.heap.size (w.heap.size + 1) w' ((k1.belowS hb').cell 0) ((k2.belowS hb').cell 0)).mono ?_)).mono ?_
  · rintro e w1 ⟨rfl, rfl⟩; exact ⟨rfl, Below.refl _ _⟩
  rintro e w1 ⟨rfl, hb1⟩
  go_wp2
  go_ret
  exact ⟨ret_bool (by rw [HA.out]; simp), hb.trans (hb1.mono hb.size)⟩

end Go.Proofs.YtmdhljleaijkbaaGreatDoor

/- Words that lead points through a table: l11Lead, applied; what a presentation's words are. -/
namespace Go.Proofs.YtmdhljleaijkbaaGreatDoor
open Go.RowKit

end Go.Proofs.YtmdhljleaijkbaaGreatDoor

/- One list of numbers behind another. No program in sight. -/
namespace Go.Proofs.YtmdhljleaijkbaaGreatDoor

def thenL (p q : List Int) : List Int := p.map fun x => iget q x.toNat
theorem length_thenL (p q : List Int) : (thenL p q).length = p.length := by simp [thenL]
theorem iget_thenL {p q : List Int} {k : Nat} (h : k < p.length) : iget (thenL p q) k = iget q (iget p k).toNat := by
  rw [iget_lt (by rw [length_thenL]; exact h), iget_lt h]; simp [thenL]
end Go.Proofs.YtmdhljleaijkbaaGreatDoor

/- Words that lead points through permutations: l11Lead, applied, then, isIdentity, arePermutations. -/
namespace Go.Proofs.YtmdhljleaijkbaaGreatDoor
open Go.RowKit

end Go.Proofs.YtmdhljleaijkbaaGreatDoor

/- holdIn: whether permutations hold a presentation. -/
namespace Go.Proofs.YtmdhljleaijkbaaGreatDoor
open Go.RowKit

end Go.Proofs.YtmdhljleaijkbaaGreatDoor

/- A region that draws its order, whose operations only read and whose callees make new memory alone: one walk, in the order of the text. (The steps are printed by fill.py out of the mark CALM.) -/
namespace Go.Proofs.YtmdhljleaijkbaaGreatDoor
open Go.RowKit

section
variable {P : Program} {ops : Array Oper} {C : World → Prop} {o : Oper} {a : Act} {K : Act → Prop}
theorem quiet_val {u : Value} (h : ∀ w, C w → (execOp a.eval o).run P w = .ok (.value u) w) (hk : K (a.put o.dst u)) : o.quiet P a C K :=
  ⟨u, fun w hw => by unfold Oper.quietAt; rw [h w hw]; exact ⟨rfl, rfl⟩, hk⟩
theorem quiet_call {f : FuncId} {args : Array Value} {v : Value} (h : ∀ w, C w → (execOp a.eval o).run P w = .ok (.enter f args) w) (hc : ∀ w, C w → Calls P f args w (fun e w'' => e = .returned v ∧ C w'')) (hk : K (a.put o.dst v)) : o.quiet P a C K :=
  ⟨v, fun w hw => by unfold Oper.quietAt; rw [h w hw]; exact ⟨rfl, hc w hw⟩, hk⟩
theorem wp_region_calm {id : Nat} {Q : Exit → Act → World → Prop} {w : World} {l : List Oper} (hm : P.follows .mixedOrders = true) (hB : Region.lexB .any l.toArray = true)
    (h : wpQuiet P l.toArray (fun w' => Below w.heap.size w w') (fun a' => ∀ w', Below w.heap.size w w' → Q .normal a' w') l a) : (Code.region id l.toArray true).wp P Q a w :=
  wp_region_quiet (C := fun w' => Below w.heap.size w w') hm hB (below_drew1 w) (by simpa using h)
end

end Go.Proofs.YtmdhljleaijkbaaGreatDoor

/- HoldIn, the reference's. -/
namespace Go.Proofs.YtmdhljleaijkbaaGreatDoor
open Go.RowKit

end Go.Proofs.YtmdhljleaijkbaaGreatDoor

/- HoldIn, the program's, and both doors. -/
namespace Go.Proofs.YtmdhljleaijkbaaGreatDoor
open Go.RowKit

end Go.Proofs.YtmdhljleaijkbaaGreatDoor

/- What the reference leaves out of a maniplex: l02Others; numbers of flags. -/
namespace Go.Proofs.YtmdhljleaijkbaaGreatDoor
open Go.RowKit

end Go.Proofs.YtmdhljleaijkbaaGreatDoor

/- Coset enumeration: what it computes, on lists. No program in sight. -/
namespace Go.Proofs.YtmdhljleaijkbaaGreatDoor

/-- where a coset is after all identifications -/
def toRoot (less : List Int) : Nat → Nat → Nat
  | 0, c => c
  | f + 1, c => if iget less c = c then c else toRoot less f (iget less c).toNat
/-- each coset points to itself or to a lesser one -/
def Down (less : List Int) : Prop := ∀ c, c < less.length → 0 ≤ iget less c ∧ iget less c ≤ c
def root (less : List Int) (c : Nat) : Nat := toRoot less (c + 1) c
theorem toRoot_more {less : List Int} (hd : Down less) : ∀ (f f' c : Nat), c < less.length → c < f → c < f' → toRoot less f c = toRoot less f' c := by
  intro f
  induction f with
  | zero => intro f' c _ h; omega
  | succ f ih =>
    intro f' c hc h h'
    cases f' with
    | zero => omega
    | succ f' =>
      unfold toRoot
      by_cases e : iget less c = c
      · rw [if_pos e, if_pos e]
      · rw [if_neg e, if_neg e]
        have h1 := hd c hc
        exact ih f' _ (by omega) (by omega) (by omega)
theorem root_of {less : List Int} {c : Nat} (h : iget less c = c) : root less c = c := by unfold root toRoot; rw [if_pos h]
theorem root_step {less : List Int} (hd : Down less) {c : Nat} (hc : c < less.length) (h : iget less c ≠ c) : root less c = root less (iget less c).toNat := by
  have h1 := hd c hc
  unfold root
  rw [show toRoot less (c + 1) c = toRoot less c (iget less c).toNat by rw [toRoot, if_neg h]]
  exact toRoot_more hd _ _ _ (by omega) (by omega) (by omega)
theorem root_fix {less : List Int} (hd : Down less) : ∀ c, c < less.length → iget less (root less c) = root less c ∧ root less c ≤ c := by
  intro c
  induction c using Nat.strongRecOn with
  | _ c ih =>
    intro hc
    by_cases e : iget less c = c
    · rw [root_of e]; exact ⟨e, Nat.le_refl _⟩
    · have h1 := hd c hc
      rw [root_step hd hc e]
      have := ih (iget less c).toNat (by omega) (by omega)
      exact ⟨this.1, by omega⟩
theorem root_lt {less : List Int} (hd : Down less) {c : Nat} (hc : c < less.length) : root less c < less.length := Nat.lt_of_le_of_lt (root_fix hd c hc).2 hc

def ent (im : List (List Int)) (c g : Nat) : Int := iget (lget im c) g
def image (im : List (List Int)) (less : List Int) (c g : Nat) : Int := if ent im c g < 0 then -1 else root less (ent im c g).toNat

theorem iget_set {zs : List Int} {i j : Nat} {z : Int} : iget (zs.set i z) j = if i = j ∧ i < zs.length then z else iget zs j := by
  simp only [iget, List.getD_eq_getElem?_getD, List.getElem?_set]
  by_cases h : i = j
  · subst h
    by_cases h2 : i < zs.length
    · simp [h2]
    · simp [h2]
  · simp [h]
theorem lget_set {zss : List (List Int)} {i j : Nat} {z : List Int} : lget (zss.set i z) j = if i = j ∧ i < zss.length then z else lget zss j := by
  simp only [lget, List.getD_eq_getElem?_getD, List.getElem?_set]
  by_cases h : i = j
  · subst h
    by_cases h2 : i < zss.length
    · simp [h2]
    · simp [h2]
  · simp [h]
theorem rset_len (im : List (List Int)) (c g : Nat) (z : Int) : (rset im c g z).length = im.length := by simp [rset]
theorem rset_row (im : List (List Int)) (c g : Nat) (z : Int) (k : Nat) : (lget (rset im c g z) k).length = (lget im k).length := by
  unfold rset
  rw [lget_set]
  split
  · rename_i h; rw [← h.1]; simp
  · rfl
theorem ent_rset {im : List (List Int)} {c g k j : Nat} {z : Int} (hc : c < im.length) (hg : g < (lget im c).length) : ent (rset im c g z) k j = if c = k ∧ g = j then z else ent im k j := by
  unfold ent rset
  rw [lget_set]
  by_cases h : c = k
  · subst h
    rw [if_pos ⟨rfl, hc⟩, iget_set]
    by_cases h2 : g = j
    · subst h2; rw [if_pos ⟨rfl, hg⟩, if_pos ⟨rfl, rfl⟩]
    · rw [if_neg (fun e => h2 e.1), if_neg (fun e => h2 e.2)]
  · rw [if_neg (fun e => h e.1), if_neg (fun e => h e.1)]

/-- one generator of two cosets that are identified -/
def stepG (lo hi g : Nat) (s : List (List Int) × List (Int × Int)) : List (List Int) × List (Int × Int) :=
  if ent s.1 hi g < 0 then s else if 0 ≤ ent s.1 lo g then (s.1, s.2 ++ [(ent s.1 hi g, ent s.1 lo g)]) else (rset s.1 lo g (ent s.1 hi g), s.2)
def mergeUp (lo hi : Nat) (s : List (List Int) × List (Int × Int)) : Nat → List (List Int) × List (Int × Int)
  | 0 => s
  | g + 1 => stepG lo hi g (mergeUp lo hi s g)

structure WF (ng : Nat) (im : List (List Int)) (less : List Int) : Prop where
  len : im.length = less.length
  row : ∀ c, c < im.length → (lget im c).length = ng
  down : Down less
  ent : ∀ c g, c < im.length → g < ng → ent im c g < less.length
theorem WF.set_im {ng : Nat} {im : List (List Int)} {less : List Int} (h : WF ng im less) {c g : Nat} {z : Int} (hc : c < im.length) (hg : g < ng) (hz : z < less.length) : WF ng (rset im c g z) less :=
  { len := by rw [rset_len]; exact h.len
    row := fun k hk => by rw [rset_row]; exact h.row k (by rwa [rset_len] at hk)
    down := h.down
    ent := fun k j hk hj => by
      rw [ent_rset hc (by rw [h.row c hc]; exact hg)]
      split
      · exact hz
      · exact h.ent k j (by rwa [rset_len] at hk) hj }
/-- the identifications, one after the other -/
def identLoop (ng : Nat) : Nat → List (List Int) → List Int → List (Int × Int) → List (List Int) × List Int
  | 0, im, less, _ => (im, less)
  | _ + 1, im, less, [] => (im, less)
  | f + 1, im, less, p :: q =>
    let c := root less p.1.toNat
    let d := root less p.2.toNat
    if c = d then identLoop ng f im less q
    else identLoop ng f (mergeUp (min c d) (max c d) (im, q) ng).1 (less.set (max c d) (min c d : Nat)) (mergeUp (min c d) (max c d) (im, q) ng).2
def alive (less : List Int) : Nat := ((List.range less.length).filter fun c => iget less c == (c : Int)).length
def fuel (ng : Nat) (less : List Int) (q : List (Int × Int)) : Nat := alive less * (ng + 1) + q.length
def ident (ng : Nat) (im : List (List Int)) (less : List Int) (q : List (Int × Int)) : List (List Int) × List Int := identLoop ng (fuel ng less q) im less q
end Go.Proofs.YtmdhljleaijkbaaGreatDoor

/- Coset enumeration: new cosets and words that are closed, on lists. No program in sight. -/
namespace Go.Proofs.YtmdhljleaijkbaaGreatDoor

/-- a new coset, the image of c under g -/
def addC (ng : Nat) (im : List (List Int)) (n c g : Nat) : List (List Int) := rset (rset (im ++ [List.replicate ng (-1)]) c g n) n g c
/-- the image of c under g, which is defined if there is none; whether it fails -/
def nextC (ng : Nat) (im : List (List Int)) (less : List Int) (c g : Nat) : List (List Int) × List Int × Bool × Nat :=
  if 0 ≤ ent im c g then (im, less, false, root less (ent im c g).toNat)
  else if less.length = 2000 then (im, less, true, 0)
  else (addC ng im less.length c g, less ++ [(less.length : Int)], false, less.length)

theorem WF.app {ng : Nat} {im : List (List Int)} {less : List Int} (h : WF ng im less) : WF ng (im ++ [List.replicate ng (-1)]) (less ++ [(less.length : Int)]) :=
  { len := by simp [h.len]
    row := fun c hc => by
      by_cases e : c < im.length
      · rw [lget_app_lt e]; exact h.row c e
      · obtain rfl : c = im.length := by simp at hc; omega
        rw [lget_app_eq]; simp
    down := fun c hc => by
      by_cases e : c < less.length
      · rw [iget_app_lt e]; exact h.down c e
      · obtain rfl : c = less.length := by simp at hc; omega
        rw [iget_app_eq]; omega
    ent := fun c g hc hg => by
      unfold Proofs.YtmdhljleaijkbaaGreatDoor.ent
      by_cases e : c < im.length
      · rw [lget_app_lt e]
        have := h.ent c g e hg
        unfold Proofs.YtmdhljleaijkbaaGreatDoor.ent at this
        simp; omega
      · obtain rfl : c = im.length := by simp at hc; omega
        rw [lget_app_eq, iget_rep hg]; omega }
theorem WF.addC {ng : Nat} {im : List (List Int)} {less : List Int} {c g : Nat} (h : WF ng im less) (hc : c < less.length) (hg : g < ng) : WF ng (addC ng im less.length c g) (less ++ [(less.length : Int)]) := by
  have h1 := h.app
  have hl := h.len
  unfold Proofs.YtmdhljleaijkbaaGreatDoor.addC
  refine (h1.set_im (c := c) (g := g) (z := (less.length : Int)) (by simp; omega) hg (by simp; omega)).set_im (c := less.length) (g := g) (z := (c : Int)) ?_ hg ?_
  · rw [rset_len]; simp; omega
  · simp; omega
/-- the letters of a word, one after the other: the state, whether it failed, the coset -/
def goC (ng : Nat) (s : List (List Int) × List Int × Bool × Nat) : List Nat → List (List Int) × List Int × Bool × Nat
  | [] => s
  | g :: r => if s.2.2.1 = true then s else goC ng (nextC ng s.1 s.2.1 s.2.2.2 g) r
/-- a word w (its letters) is closed at c -/
def closeC (ng : Nat) (im : List (List Int)) (less : List Int) (c : Nat) (w : List Nat) : List (List Int) × List Int × Bool :=
  match w.getLast? with
  | none => (im, less, false)
  | some g =>
    let s := goC ng (im, less, false, c) w.dropLast
    if s.2.2.1 = true then (s.1, s.2.1, true)
    else
      let e := image s.1 s.2.1 s.2.2.2 g
      let f := image s.1 s.2.1 c g
      if 0 ≤ e then ((ident ng s.1 s.2.1 [(e, (c : Int))]).1, (ident ng s.1 s.2.1 [(e, (c : Int))]).2, false)
      else if 0 ≤ f then ((ident ng s.1 s.2.1 [(f, (s.2.2.2 : Int))]).1, (ident ng s.1 s.2.1 [(f, (s.2.2.2 : Int))]).2, false)
      else (rset (rset s.1 s.2.2.2 g c) c g s.2.2.2, s.2.1, false)
structure GoOK (ng n0 : Nat) (s : List (List Int) × List Int × Bool × Nat) : Prop where
  wf : WF ng s.1 s.2.1
  lo : n0 ≤ s.2.1.length
  hi : s.2.1.length ≤ 2000
  d : s.2.2.2 < s.2.1.length
structure CloseOK (ng n0 : Nat) (s : List (List Int) × List Int × Bool) : Prop where
  wf : WF ng s.1 s.2.1
  lo : n0 ≤ s.2.1.length
  hi : s.2.1.length ≤ 2000
end Go.Proofs.YtmdhljleaijkbaaGreatDoor

/- Coset enumeration: the whole procedure, on lists. No program in sight. -/
namespace Go.Proofs.YtmdhljleaijkbaaGreatDoor

/-- images, the smaller cosets, whether it has failed -/
abbrev CSt := List (List Int) × List Int × Bool
def liveC (s : CSt) (c : Nat) : Bool := decide (iget s.2.1 c = (c : Int)) && !s.2.2
def close1 (ng c : Nat) (s : CSt) (w : List Int) : CSt := if liveC s c = true then closeC ng s.1 s.2.1 c (w.map Int.toNat) else s
def next1 (ng c : Nat) (s : CSt) (g : Nat) : CSt := if liveC s c = true then ((nextC ng s.1 s.2.1 c g).1, (nextC ng s.1 s.2.1 c g).2.1, (nextC ng s.1 s.2.1 c g).2.2.1) else s
def coset1 (ng : Nat) (rels : List (List Int)) (c : Nat) (s : CSt) : CSt := (List.range ng).foldl (next1 ng c) (rels.foldl (close1 ng c) s)
def outer (ng : Nat) (rels : List (List Int)) : Nat → Nat → CSt → CSt
  | 0, _, s => s
  | f + 1, c, s => if c < s.2.1.length ∧ s.2.2 = false then outer ng rels f (c + 1) (coset1 ng rels c s) else s
theorem CloseOK.refl {ng : Nat} {s : CSt} (h : WF ng s.1 s.2.1) (hi : s.2.1.length ≤ 2000) : CloseOK ng s.2.1.length s := ⟨h, Nat.le_refl _, hi⟩
theorem CloseOK.le {ng n m : Nat} {s : CSt} (h : CloseOK ng n s) (hm : m ≤ n) : CloseOK ng m s := ⟨h.wf, Nat.le_trans hm h.lo, h.hi⟩
end Go.Proofs.YtmdhljleaijkbaaGreatDoor

/- Coset enumeration: images are never lost; the table is complete at the end. No program in sight. -/
namespace Go.Proofs.YtmdhljleaijkbaaGreatDoor

structure Grow (ng : Nat) (im : List (List Int)) (less : List Int) (im' : List (List Int)) (less' : List Int) : Prop where
  len : less.length ≤ less'.length
  ent : ∀ c g, c < less.length → g < ng → 0 ≤ ent im c g → 0 ≤ ent im' c g
  dead : ∀ c, c < less.length → iget less c ≠ c → iget less' c ≠ c
theorem Grow.refl (ng : Nat) (im : List (List Int)) (less : List Int) : Grow ng im less im less := ⟨Nat.le_refl _, fun _ _ _ _ h => h, fun _ _ h => h⟩
theorem Grow.trans {ng : Nat} {a b c : List (List Int)} {x y z : List Int} (h : Grow ng a x b y) (k : Grow ng b y c z) : Grow ng a x c z :=
  ⟨Nat.le_trans h.len k.len, fun i g hi hg h1 => k.ent i g (Nat.lt_of_lt_of_le hi h.len) hg (h.ent i g hi hg h1), fun i hi h1 => k.dead i (Nat.lt_of_lt_of_le hi h.len) (h.dead i hi h1)⟩
end Go.Proofs.YtmdhljleaijkbaaGreatDoor

/- Coset enumeration: cosets numbered anew, and the table. No program in sight. -/
namespace Go.Proofs.YtmdhljleaijkbaaGreatDoor

/-- the order in which cosets are met, and the number of each (-1: not met) -/
abbrev NSt := List Int × List Int
def visit (s : NSt) (d : Nat) : NSt := if iget s.2 d < 0 then (s.1 ++ [(d : Int)], s.2.set d (s.1.length : Int)) else s
def visitG (im : List (List Int)) (less : List Int) (i : Nat) (s : NSt) (g : Nat) : NSt := visit s (image im less (iget s.1 i).toNat g).toNat
def tabRow (ng : Nat) (im : List (List Int)) (less : List Int) (i : Nat) (s : NSt) : NSt := (List.range ng).foldl (visitG im less i) s
def tabLoop (ng : Nat) (im : List (List Int)) (less : List Int) : Nat → Nat → NSt → NSt
  | 0, _, s => s
  | f + 1, i, s => if i < s.1.length then tabLoop ng im less f (i + 1) (tabRow ng im less i s) else s
def tabStart (n : Nat) : NSt := ([0], (List.replicate n (-1)).set 0 0)
def numbered (ng : Nat) (im : List (List Int)) (less : List Int) : NSt := tabLoop ng im less (less.length + 1) 0 (tabStart less.length)
/-- how many have a number -/
def cnt (l : List Int) : Nat := (l.filter fun z => decide (0 ≤ z)).length
theorem cnt_le (l : List Int) : cnt l ≤ l.length := List.length_filter_le _ _
theorem cnt_set : ∀ (l : List Int) (d : Nat) (z : Int), d < l.length → iget l d < 0 → 0 ≤ z → cnt (l.set d z) = cnt l + 1
  | [], d, z, h, _, _ => by simp at h
  | x :: r, 0, z, _, h, hz => by
    have h : x < 0 := by simpa [iget] using h
    simp [cnt, show ¬ 0 ≤ x by omega, hz]
  | x :: r, d + 1, z, hd, h, hz => by
    have ih := cnt_set r d z (by simpa using hd) (by simpa [iget] using h) hz
    unfold cnt at ih ⊢
    simp only [List.set_cons_succ, List.filter_cons]
    split
    · simp only [List.length_cons]; omega
    · exact ih

/-- complete: live cosets have all images -/
structure Full (ng : Nat) (im : List (List Int)) (less : List Int) : Prop where
  wf : WF ng im less
  pos : 0 < less.length
  full : ∀ c, c < less.length → iget less c = (c : Int) → ∀ g, g < ng → 0 ≤ ent im c g
theorem Full.zero {ng : Nat} {im : List (List Int)} {less : List Int} (h : Full ng im less) : iget less 0 = ((0 : Nat) : Int) := by
  have := h.wf.down 0 h.pos; omega
theorem Full.image {ng : Nat} {im : List (List Int)} {less : List Int} (h : Full ng im less) {c g : Nat} (hc : c < less.length) (hl : iget less c = (c : Int)) (hg : g < ng) :
    ∃ d : Nat, image im less c g = (d : Int) ∧ d < less.length ∧ iget less d = (d : Int) := by
  have h1 := h.full c hc hl g hg
  have h2 := h.wf.ent c g (by rw [h.wf.len]; exact hc) hg
  refine ⟨root less (ent im c g).toNat, by unfold Proofs.YtmdhljleaijkbaaGreatDoor.image; rw [if_neg (by omega)], root_lt h.wf.down (by omega), ?_⟩
  exact (root_fix h.wf.down _ (by omega)).1

structure TOK (n : Nat) (less : List Int) (s : NSt) : Prop where
  len : s.2.length = n
  cnt : cnt s.2 = s.1.length
  live : ∀ k, k < s.1.length → ∃ d : Nat, iget s.1 k = (d : Int) ∧ d < n ∧ iget less d = (d : Int) ∧ iget s.2 d = (k : Int)
  num : ∀ d, d < n → 0 ≤ iget s.2 d → iget s.2 d < s.1.length
theorem TOK.le {n : Nat} {less : List Int} {s : NSt} (h : TOK n less s) : s.1.length ≤ n := by
  have := cnt_le s.2; rw [h.cnt, h.len] at this; exact this
theorem visit_ok {n : Nat} {less : List Int} {s : NSt} {d : Nat} (h : TOK n less s) (hd : d < n) (hl : iget less d = (d : Int)) : TOK n less (visit s d) := by
  unfold visit
  split
  · rename_i hn
    refine ⟨by rw [List.length_set]; exact h.len, ?_, fun k hk => ?_, fun e he h0 => ?_⟩
    · dsimp only; rw [cnt_set _ _ _ (by rw [h.len]; exact hd) hn (by omega), h.cnt]; simp
    · dsimp only at hk ⊢
      by_cases e : k < s.1.length
      · obtain ⟨d', h1, h2, h3, h4⟩ := h.live k e
        refine ⟨d', by rw [iget_app_lt e]; exact h1, h2, h3, ?_⟩
        rw [iget_set]
        split
        · rename_i e2; rw [e2.1] at hn; omega
        · exact h4
      · obtain rfl : k = s.1.length := by simp at hk; omega
        exact ⟨d, iget_app_eq, hd, hl, by rw [iget_set, if_pos ⟨rfl, by rw [h.len]; exact hd⟩]⟩
    · dsimp only at h0 ⊢
      rw [iget_set] at h0 ⊢
      rw [List.length_append]
      split
      · simp; omega
      · rename_i hne
        rw [if_neg hne] at h0
        have := h.num e he h0
        simp; omega
  · exact h
/-- numbers are kept -/
structure NGrow (s s' : NSt) : Prop where
  pre : ∀ k, k < s.1.length → iget s'.1 k = iget s.1 k
  len : s.1.length ≤ s'.1.length
  num : ∀ d, 0 ≤ iget s.2 d → iget s'.2 d = iget s.2 d
theorem NGrow.refl (s : NSt) : NGrow s s := ⟨fun _ _ => rfl, Nat.le_refl _, fun _ _ => rfl⟩
theorem NGrow.trans {a b c : NSt} (h : NGrow a b) (k : NGrow b c) : NGrow a c :=
  ⟨fun i hi => (k.pre i (Nat.lt_of_lt_of_le hi h.len)).trans (h.pre i hi), Nat.le_trans h.len k.len, fun d hd => (k.num d (by rw [h.num d hd]; exact hd)).trans (h.num d hd)⟩
theorem visit_grow (s : NSt) (d : Nat) : NGrow s (visit s d) := by
  unfold visit
  split
  · rename_i hn
    refine ⟨fun k hk => iget_app_lt hk, by simp, fun e he => ?_⟩
    dsimp only
    rw [iget_set, if_neg]
    rintro ⟨rfl, _⟩
    omega
  · exact NGrow.refl s
theorem visit_num {n : Nat} {less : List Int} {s : NSt} {d : Nat} (h : TOK n less s) (hd : d < n) : 0 ≤ iget (visit s d).2 d := by
  unfold visit
  split
  · dsimp only; rw [iget_set, if_pos ⟨rfl, by rw [h.len]; exact hd⟩]; omega
  · rename_i hn; omega
theorem visitG_ok {ng : Nat} {im : List (List Int)} {less : List Int} (hF : Full ng im less) {i g : Nat} {s : NSt} (h : TOK less.length less s) (hi : i < s.1.length) (hg : g < ng) :
    TOK less.length less (visitG im less i s g) ∧ NGrow s (visitG im less i s g) ∧ 0 ≤ iget (visitG im less i s g).2 (image im less (iget s.1 i).toNat g).toNat := by
  obtain ⟨d, h1, h2, h3, _⟩ := h.live i hi
  obtain ⟨e, e1, e2, e3⟩ := hF.image h2 h3 hg
  unfold visitG
  rw [h1, Int.toNat_natCast, e1, Int.toNat_natCast]
  exact ⟨visit_ok h e2 e3, visit_grow s e, visit_num h e2⟩
theorem tabRow_ok {ng : Nat} {im : List (List Int)} {less : List Int} (hF : Full ng im less) {i : Nat} {s : NSt} (h : TOK less.length less s) (hi : i < s.1.length) : ∀ m, m ≤ ng →
    TOK less.length less ((List.range m).foldl (visitG im less i) s) ∧ NGrow s ((List.range m).foldl (visitG im less i) s) ∧ ∀ g, g < m → 0 ≤ iget ((List.range m).foldl (visitG im less i) s).2 (image im less (iget s.1 i).toNat g).toNat
  | 0, _ => ⟨h, NGrow.refl s, fun g hg => by omega⟩
  | m + 1, hm => by
    obtain ⟨h1, h2, h3⟩ := tabRow_ok hF h hi m (by omega)
    rw [List.range_succ, List.foldl_append]
    generalize (List.range m).foldl (visitG im less i) s = t at *
    obtain ⟨k1, k2, k3⟩ := visitG_ok hF (i := i) (g := m) h1 (Nat.lt_of_lt_of_le hi h2.len) (by omega)
    rw [h2.pre i hi] at k3
    refine ⟨k1, h2.trans k2, fun g hg => ?_⟩
    by_cases e : g = m
    · subst e; exact k3
    · have := h3 g (by omega)
      show 0 ≤ iget (visitG im less i t m).2 _
      rw [k2.num _ this]; exact this
/-- all images of the first i cosets have numbers -/
def Seen (ng : Nat) (im : List (List Int)) (less : List Int) (i : Nat) (s : NSt) : Prop := ∀ k, k < i → ∀ g, g < ng → 0 ≤ iget s.2 (image im less (iget s.1 k).toNat g).toNat
theorem Seen.row {ng : Nat} {im : List (List Int)} {less : List Int} (hF : Full ng im less) {i : Nat} {s : NSt} (h : TOK less.length less s) (hi : i < s.1.length) (hs : Seen ng im less i s) : Seen ng im less (i + 1) (tabRow ng im less i s) := by
  obtain ⟨_, h2, h3⟩ := tabRow_ok hF h hi ng (Nat.le_refl _)
  intro k hk g hg
  show 0 ≤ iget (tabRow ng im less i s).2 _
  have e : iget (tabRow ng im less i s).1 k = iget s.1 k := h2.pre k (by omega)
  rw [e]
  by_cases e2 : k = i
  · subst e2; exact h3 g hg
  · have := hs k (by omega) g hg
    have e3 := h2.num _ this
    unfold tabRow
    rw [e3]; exact this
end Go.Proofs.YtmdhljleaijkbaaGreatDoor

/- Coset enumeration: each generator leads back; words lead back after some times. No program in sight. -/
namespace Go.Proofs.YtmdhljleaijkbaaGreatDoor

theorem root_root {less : List Int} (h : Down less) {c : Nat} (hc : c < less.length) : root less (root less c) = root less c := root_of (root_fix h c hc).1
theorem root_app {less : List Int} (h : Down less) : ∀ c, c < less.length → root (less ++ [(less.length : Int)]) c = root less c := by
  have hd : Down (less ++ [(less.length : Int)]) := fun c hc => by
    by_cases e : c < less.length
    · rw [iget_app_lt e]; exact h c e
    · obtain rfl : c = less.length := by simp at hc; omega
      rw [iget_app_eq]; omega
  intro c
  induction c using Nat.strongRecOn with
  | _ c ih =>
    intro hc
    have h1 : iget (less ++ [(less.length : Int)]) c = iget less c := iget_app_lt hc
    by_cases e : iget less c = (c : Int)
    · rw [root_of e, root_of (h1.trans e)]
    · have hb := h c hc
      rw [root_step hd (by simp; omega) (by rw [h1]; exact e), h1, root_step h hc e]
      exact ih _ (by omega) (by omega)

/-- equal, as far as the identifications and the queue say -/
inductive Eqv (less : List Int) (q : List (Int × Int)) : Nat → Nat → Prop where
  | refl (a : Nat) : Eqv less q a a
  | symm {a b : Nat} (h : Eqv less q a b) : Eqv less q b a
  | trans {a b c : Nat} (h : Eqv less q a b) (k : Eqv less q b c) : Eqv less q a c
  | root (a : Nat) (h : a < less.length) : Eqv less q a (root less a)
  | pair (p : Int × Int) (h : p ∈ q) : Eqv less q p.1.toNat p.2.toNat
theorem Eqv.mono {less less' : List Int} {q q' : List (Int × Int)} (h1 : ∀ a, a < less.length → Eqv less' q' a (Proofs.YtmdhljleaijkbaaGreatDoor.root less a)) (h2 : ∀ p ∈ q, Eqv less' q' p.1.toNat p.2.toNat) {a b : Nat} (h : Eqv less q a b) : Eqv less' q' a b := by
  induction h with
  | refl a => exact .refl a
  | symm _ ih => exact .symm ih
  | trans _ _ ih1 ih2 => exact .trans ih1 ih2
  | root a h => exact h1 a h
  | pair p h => exact h2 p h
theorem Eqv.root_eq {less : List Int} (hd : Down less) {a b : Nat} (h : Eqv less [] a b) : Proofs.YtmdhljleaijkbaaGreatDoor.root less a = Proofs.YtmdhljleaijkbaaGreatDoor.root less b := by
  induction h with
  | refl a => rfl
  | symm _ ih => exact ih.symm
  | trans _ _ ih1 ih2 => exact ih1.trans ih2
  | root a h => exact (root_root hd h).symm
  | pair p h => simp at h
/-- where a live coset leads, there its generator leads back -/
def Back (ng : Nat) (im : List (List Int)) (less : List Int) (q : List (Int × Int)) : Prop :=
  ∀ c g, c < less.length → iget less c = (c : Int) → g < ng → 0 ≤ ent im c g → 0 ≤ ent im (root less (ent im c g).toNat) g ∧ Eqv less q (ent im (root less (ent im c g).toNat) g).toNat c
section
variable {ng : Nat} {im : List (List Int)} {less : List Int}
theorem Back.fix (hB : Back ng im less []) (h : WF ng im less) {c g : Nat} (hc : c < less.length) (hl : iget less c = (c : Int)) (hg : g < ng) (h0 : 0 ≤ ent im c g) : 0 ≤ ent im (root less (ent im c g).toNat) g ∧ root less (ent im (root less (ent im c g).toNat) g).toNat = c := by
  obtain ⟨k1, k2⟩ := hB c g hc hl hg h0
  exact ⟨k1, (k2.root_eq h.down).trans (root_of hl)⟩
theorem Back.of (h : ∀ c g, c < less.length → iget less c = (c : Int) → g < ng → 0 ≤ ent im c g → 0 ≤ ent im (root less (ent im c g).toNat) g ∧ root less (ent im (root less (ent im c g).toNat) g).toNat = c) (hw : WF ng im less) : Back ng im less [] := fun c g hc hl hg h0 => by
  obtain ⟨k1, k2⟩ := h c g hc hl hg h0
  refine ⟨k1, ?_⟩
  have he := hw.ent c g (by rw [hw.len]; exact hc) hg
  have hrl := root_lt hw.down (c := (ent im c g).toNat) (by omega)
  have he2 := hw.ent (root less (ent im c g).toNat) g (by rw [hw.len]; exact hrl) hg
  have := Eqv.root (less := less) (q := []) (ent im (root less (ent im c g).toNat) g).toNat (by omega)
  rwa [k2] at this
/-- two cosets become images of each other -/
theorem Back.link (hB : Back ng im less []) (hw : WF ng im less) {c d g : Nat} (hc : c < less.length) (hd : d < less.length) (hlc : iget less c = (c : Int)) (hld : iget less d = (d : Int)) (hg : g < ng) (h1 : ent im c g < 0) (h2 : ent im d g < 0) : Back ng (rset (rset im d g (c : Int)) c g (d : Int)) less [] := by
  have hl := hw.len
  have w1 := hw.set_im (c := d) (g := g) (z := (c : Int)) (by omega) hg (by omega)
  have w2 := w1.set_im (c := c) (g := g) (z := (d : Int)) (by rw [rset_len]; omega) hg (by omega)
  have ee : ∀ a k, ent (rset (rset im d g (c : Int)) c g (d : Int)) a k = if c = a ∧ g = k then (d : Int) else if d = a ∧ g = k then (c : Int) else ent im a k := fun a k => by
    rw [ent_rset (by rw [rset_len]; omega) (by rw [rset_row, hw.row c (by omega)]; exact hg), ent_rset (by omega) (by rw [hw.row d (by omega)]; exact hg)]
  refine Back.of (fun a k ha hla hk h0 => ?_) w2
  have e0 := ee a k
  by_cases e1 : c = a ∧ g = k
  · obtain ⟨rfl, rfl⟩ := e1
    rw [if_pos ⟨rfl, rfl⟩] at e0
    rw [e0, Int.toNat_natCast, root_of hld]
    have e3 := ee d g
    by_cases e2 : c = d
    · subst e2; rw [if_pos ⟨rfl, rfl⟩] at e3; rw [e3, Int.toNat_natCast]; exact ⟨by omega, root_of hlc⟩
    · rw [if_neg (fun h => e2 h.1), if_pos ⟨rfl, rfl⟩] at e3; rw [e3, Int.toNat_natCast]; exact ⟨by omega, root_of hlc⟩
  · rw [if_neg e1] at e0
    by_cases e2 : d = a ∧ g = k
    · obtain ⟨rfl, rfl⟩ := e2
      rw [if_pos ⟨rfl, rfl⟩] at e0
      rw [e0, Int.toNat_natCast, root_of hlc]
      have e3 := ee c g
      rw [if_pos ⟨rfl, rfl⟩] at e3
      rw [e3, Int.toNat_natCast]; exact ⟨by omega, root_of hld⟩
    · rw [if_neg e2] at e0
      rw [e0] at h0 ⊢
      obtain ⟨k1, k2⟩ := hB.fix hw ha hla hk h0
      have n1 : ¬ (c = root less (ent im a k).toNat ∧ g = k) := fun h => by rw [← h.1, ← h.2] at k1; omega
      have n2 : ¬ (d = root less (ent im a k).toNat ∧ g = k) := fun h => by rw [← h.1, ← h.2] at k1; omega
      have e3 := ee (root less (ent im a k).toNat) k
      rw [if_neg n1, if_neg n2] at e3
      rw [e3]
      exact ⟨k1, k2⟩
theorem Back.app (hB : Back ng im less []) (hw : WF ng im less) : Back ng (im ++ [List.replicate ng (-1)]) (less ++ [(less.length : Int)]) [] := by
  have hl := hw.len
  have hra := root_app hw.down
  refine Back.of (fun a k ha hla hk h0 => ?_) hw.app
  by_cases e : a < less.length
  · have e1 : ∀ b, b < less.length → ent (im ++ [List.replicate ng (-1)]) b k = ent im b k := fun b hb => by unfold ent; rw [lget_app_lt (by omega)]
    rw [e1 a e] at h0 ⊢
    rw [iget_app_lt e] at hla
    obtain ⟨k1, k2⟩ := hB.fix hw e hla hk h0
    have he := hw.ent a k (by omega) hk
    have hrl := root_lt hw.down (c := (ent im a k).toNat) (by omega)
    have he2 := hw.ent (root less (ent im a k).toNat) k (by omega) hk
    rw [hra _ (by omega), e1 _ hrl, hra _ (by omega)]
    exact ⟨k1, k2⟩
  · obtain rfl : a = less.length := by simp at ha; omega
    exfalso
    unfold ent at h0
    rw [← hl, lget_app_eq, iget_rep hk] at h0
    omega
theorem Back.next (hB : Back ng im less []) (hw : WF ng im less) {c g : Nat} (hc : c < less.length) (hlc : iget less c = (c : Int)) (hg : g < ng) (hn : less.length ≤ 2000) :
    Back ng (nextC ng im less c g).1 (nextC ng im less c g).2.1 [] ∧ ((nextC ng im less c g).2.2.1 = false → iget (nextC ng im less c g).2.1 (nextC ng im less c g).2.2.2 = ((nextC ng im less c g).2.2.2 : Int)) ∧ (∀ a, a < less.length → iget (nextC ng im less c g).2.1 a = iget less a) := by
  unfold nextC
  split
  · rename_i h0
    have he := hw.ent c g (by rw [hw.len]; exact hc) hg
    exact ⟨hB, fun _ => (root_fix hw.down _ (by omega)).1, fun _ _ => rfl⟩
  · rename_i h0
    split
    · exact ⟨hB, (fun h => nomatch h), fun _ _ => rfl⟩
    · have hl := hw.len
      have b1 := hB.app hw
      have w1 := hw.app
      refine ⟨?_, fun _ => iget_app_eq, fun a ha => iget_app_lt ha⟩
      have hcc : c < (less ++ [(less.length : Int)]).length := by simp; omega
      have := b1.link w1 (c := less.length) (d := c) (g := g) (by simp) hcc iget_app_eq (by rw [iget_app_lt hc]; exact hlc) hg (by unfold ent; rw [← hl, lget_app_eq, iget_rep hg]; omega) (by unfold ent at h0 ⊢; rw [lget_app_lt (by omega)]; omega)
      exact this
end
end Go.Proofs.YtmdhljleaijkbaaGreatDoor

/- The numbers of orbits, the reference's: l01Orbits; sizes of orbits, the program's: orbitSizes; the greatest number. -/
namespace Go.Proofs.YtmdhljleaijkbaaGreatDoor
open Go.RowKit

section
variable {T : List (List Int)} {n : Nat}
end
end Go.Proofs.YtmdhljleaijkbaaGreatDoor

/- Sizes of orbits, the program's: orbitSizes; the greatest number, the reference's: l02Greatest. -/
namespace Go.Proofs.YtmdhljleaijkbaaGreatDoor
open Go.RowKit

end Go.Proofs.YtmdhljleaijkbaaGreatDoor

/- IsMap. guards: -/
namespace Go.Proofs.YtmdhljleaijkbaaGreatDoor
open Go.RowKit

end Go.Proofs.YtmdhljleaijkbaaGreatDoor

/- Sizes of faces of a map: sizesOf, l14Sizes, FaceSizes. -/
namespace Go.Proofs.YtmdhljleaijkbaaGreatDoor
open Go.RowKit

section
variable {T : List (List Int)} {n : Nat}
/-- all points have labels below the number of labels; the last one stands somewhere -/
theorem labs_allS (hT : Leads T n) (hB : SymR T n) : (labs T n).1.length = n ∧ (labs T n).2 ≤ n ∧ (∀ p, p < n → ∃ d : Nat, iget (labs T n).1 p = (d : Int) ∧ d < (labs T n).2) := by
  have h := labTo_okS hT hB n (Nat.le_refl _)
  have hk : ∀ j, (labTo T n j).2 ≤ j := fun j => by
    induction j with
    | zero => exact Nat.le_refl _
    | succ j ih => rw [labTo_succ]; unfold labStep; split; omega; show (labTo T n j).2 + 1 ≤ j + 1; omega
  refine ⟨h.len, hk n, fun p hp => ?_⟩
  have h0 := (h.met p hp).2 ⟨p, hp, rch_refl hT hp⟩
  have h1 := h.low p hp
  exact ⟨(iget (labTo T n n).1 p).toNat, by unfold labs; omega, by unfold labs; omega⟩
end
theorem toS_call {f : FuncId} {args : Array Value} {w : World} {x m : Nat} {zs : List Int} (hm : zs.length = m) (hm4 : m ≤ 1000000)
    (h : Calls Tryz.prog f args w fun e w' => ∃ v η ω, e = .returned v ∧ Den η (o1 (.sl x 0 m)) v ∧ Mem η ω w' (fun y => lk y [(x, leOw zs)]) ∧ Below w.heap.size w w' ∧ ∀ b, b < w.heap.size → ω b = none) :
    Calls Tryz.prog f args w fun e w' => ∃ v, e = .returned v ∧ OwnS 2 w' w.heap.size w'.heap.size v zs ∧ Below w.heap.size w w' := by
  refine h.mono ?_
  rintro e w' ⟨v, η, ω, rfl, hd, hmem, hb, hlo⟩
  subst hm
  exact ⟨v, rfl, toS hmem hlo (by simp [lk]) hd (by omega), hb⟩
end Go.Proofs.YtmdhljleaijkbaaGreatDoor

/- Faces of a maniplex: labels and numbers (the program's FaceLabels, FaceCounts). -/
namespace Go.Proofs.YtmdhljleaijkbaaGreatDoor
open Go.RowKit

theorem orbW_anyS {d : List (List Int)} {n : Nat} {v : Value} (w : World) (h : RdSSc w v d) (hT : Leads d n) (hB : SymR d n) (hn0 : 0 < n) (hn : n ≤ 1000) (hd : d.length ≤ 1000) :
    Calls Tryz.prog 45 #[.int .i64 n, v] w fun e w' => ∃ v', e = .returned (.tuple #[v', .int .i64 ((labs d n).2 : Nat)]) ∧ OwnS 2 w' w.heap.size w'.heap.size v' (labs d n).1 ∧ Below w.heap.size w w' := by
  have hl := (labs_allS hT hB).1
  refine (callNR (orbI_fcS d n d.length rfl hT hB hn0 (by omega) (by omega)) h).mono ?_
  rintro e w' ⟨v, η, ω, rfl, hde, hm, hb, hlo⟩
  obtain ⟨u, u', rfl, h1, h2⟩ := den_tup2 hde
  have h1 : Den1 η (.sl 16 0 n) u := h1
  have h2 : u' = .int .i64 ((labs d n).2 : Nat) := h2
  subst h2
  have := toS (x := 16) (E := 2) (zs := (labs d n).1) hm hlo rfl (by rw [hl]; exact h1) (by omega)
  exact ⟨u, rfl, this, hb⟩
theorem OwM.rdcM {E1 E : Nat} {w : World} {lo hi : Nat} {ao : Option Addr} {n c : Nat} {d : List (List Int)} (h : OwM E1 E w lo hi (.agg #[.slice ao n c]) d) : RdSSc w (.slice ao n c) d ∧ d.length = n := by
  obtain ⟨a', n', c', us, e, hor⟩ := h
  have e2 : Value.slice ao n c = .slice a' n' c' := by
    injection e with e
    have := congrArg (fun x : Array Value => x[0]?) e
    simpa using this
  injection e2 with e3 e4 e5
  subst e3 e4 e5
  exact ⟨OwSS.rdc (⟨_, _, _, _, rfl, hor⟩ : OwSS E1 E w lo hi _ d), hor.len⟩
end Go.Proofs.YtmdhljleaijkbaaGreatDoor

/- Orbits of flags, IsRegular, IsChiral, the program's. -/
namespace Go.Proofs.YtmdhljleaijkbaaGreatDoor
open Go.RowKit

theorem OwR.rdc {w : World} {lo hi n c : Nat} {ao : Option Addr} {us : List Value} {ds : List (List Int)} (h : OwR (OwS 2) w lo hi 38 ao n c us ds) : RdSSc w (.slice ao n c) ds := OwSS.rdc ⟨_, _, _, _, rfl, h⟩
set_option maxRecDepth 100000 in
set_option maxHeartbeats 3200000 in
theorem flagOrbits_any (mb n c : Nat) (ao : Option Addr) (d : List (List Int)) (w : World) (hm : Blk w mb 26 #[.slice ao n c]) (h : RdSSc w (.slice ao n c) d) (hM : Man d) :
    Calls Tryz.prog 31 #[.pointer (some ⟨mb, 0, none⟩)] w fun e w' => ∃ v, e = .returned (.tuple #[v, .int .i64 ((forb d).2 : Nat)]) ∧ OwnS 2 w' w.heap.size w'.heap.size v (forb d).1 ∧ Below w.heap.size w w' := by
  obtain ⟨N, hN⟩ : ∃ N, flg d = N := ⟨_, rfl⟩
  have HN := Lib.hid hN
  have HMM := Lib.hid hM
  have hn1 := hM.n1
  have hnl := h.intss.1
  have hf2 : 2 ≤ N := by rw [← hN]; exact hM.f2
  have hf4 : N ≤ 400 := by rw [← hN]; exact hM.f4
  have HM := Lib.hid hm
  have HR := Lib.hid h
  have HL := Lib.hid (autL_leads hM)
  have HS := Lib.hid (aut_sym hM)
  have HLN := Lib.hid (cvL_len d d N)
  obtain ⟨R, hR⟩ : ∃ R, forb d = R := ⟨_, rfl⟩
  have HRR := Lib.hid (show labs (cvL d d N) N = R by rw [← hN]; exact hR)
  rw [hR]
  have S0 := Lib.hid (show ∀ w', Below w.heap.size w w' → (Below w.heap.size w w' ∧ w'.cell? ⟨mb, 0, none⟩ = some (.slice ao n c)) from fun w' hb => ⟨hb, by have := (hm.belowS hb).cell 0; simpa using this⟩)
  have K0 := Lib.hid (S0.out w.drew (below_drew1 w))
  have kd1 := Lib.hid (hm.drewN 1)
  have HRd := Lib.hid (h.drewN 1)
  clear hm h hM hN hR
  go_enter Tryz.func31, Tryz.ntmps31
  go_upto_region 1 with fail
  go_region_held3 (fun w' => Below w.heap.size w w' ∧ w'.cell? ⟨mb, 0, none⟩ = some (.slice ao n c)) (first | exact K0.out | exact K5.out | exact K6.out) (first
    | (go_at_call 22; refine (flagsI_any _ ao n c N d _ kd1.out HRd.out.rd (by omega) HN.out (by omega)).mono ?_; rintro e w5 ⟨rfl, hw⟩; subst hw)
    | (go_at_call 32; refine (coveringsOf_any ao ao n c n c N N d d _ HRd.out.intss HRd.out.intss HMM.out HMM.out HN.out HN.out).mono ?_; rintro e w5 ⟨a5, n5, c5, us5, rfl, or5, b5⟩; have B5 : Below w.heap.size w w5 := below_tr b5 (below_drew1 w); have K5 := Lib.hid (S0.out w5 B5); have HO5 := Lib.hid or5.rdc; have hl5 := or5.len)
    | (go_at_call 45; refine (orbW_anyS (d := cvL d d N) (n := N) w5 HO5.out (by rw [← HN.out]; exact HL.out) (by rw [← HN.out]; exact HS.out) (by omega) (by omega) (by have := HLN.out; omega)).mono ?_; rintro e w6 ⟨v6, rfl, o6, b6⟩; have B6 : Below w.heap.size w w6 := below_tr b6 B5; have K6 := Lib.hid (S0.out w6 B6)))
  all_goals
    rw [HRR.out] at o6 ⊢
    have O6 := Lib.hid (show OwnS 2 w6 w.heap.size w6.heap.size v6 R.1 from ⟨o6.1, o6.2.mono B5.size (Nat.le_refl _)⟩)
    have B6h := Lib.hid B6
    clear o6
    go_wp2_with fail
    exact bodyPost_ret (v := .tuple #[v6, .int .i64 (R.2 : Nat)]) (by simp [results, Tryz.f31, go_sem]) rfl ⟨v6, rfl, O6.out, B6h.out⟩
noncomputable def irC (d : List (List Int)) : Int := if manB d = true then 0 else 1
noncomputable def irR (d : List (List Int)) : Bool := if manB d = true then decide ((forb d).2 = 1) else false
set_option maxHeartbeats 1600000 in
theorem api_implIr (ao : Option Addr) (n c : Nat) (d : List (List Int)) (w : World) (hd : RdSSc w (.slice ao n c) d) (fd : FewSS d) :
    Calls Tryz.prog 12 #[.agg #[.slice ao n c]] w fun r w' => r = .returned (.tuple #[.bool (irR d), .int .i64 (irC d)]) ∧ Below w.heap.size w w' := by
  have b0 := below_alloc1 w (.cells #[.slice ao n c] 26)
  have km : Blk (w.alloc (.cells #[.slice ao n c] 26)) w.heap.size 26 #[.slice ao n c] := blk_at rfl
  have hd1 := Lib.hid (hd.below b0)
  have hz1 := b0.size
  have x0 := km.cell 0
  simp at x0
  have HI := Lib.hid (fun (w : World) (h : RdSSc w (.slice ao n c) d) => implManC h fd)
  obtain ⟨R, hR⟩ : ∃ R, irR d = R := ⟨_, rfl⟩
  obtain ⟨C, hC⟩ : ∃ C, irC d = C := ⟨_, rfl⟩
  rw [hR, hC]
  have HR := Lib.hid hR
  have HC := Lib.hid hC
  clear hR hC
  go_enter Tryz.func12, Tryz.ntmps12
  go_wp2_with fail
  generalize w.alloc (.cells #[.slice ao n c] 26) = w1 at *
  refine (HI.out _ hd1.out).mono ?_
  rintro r w2 ⟨rfl, b2⟩
  have KM2 := Lib.hid (km.belowS b2)
  have HB2 := Lib.hid (b0.trans (b2.mono hz1))
  have hd2 := Lib.hid (hd1.out.below b2)
  clear km b0 b2 hd1 hd x0
  cases h1 : manB d with
  | false =>
    have hC0 : C = 1 := by rw [← HC.out]; unfold irC; rw [h1]; rfl
    have hR0 : R = false := by rw [← HR.out]; unfold irR; rw [h1]; rfl
    subst hC0
    subst hR0
    clear HR HC
    go_wp2_with fail
    exact bodyPost_ret (v := .tuple #[.bool false, .int .i64 1]) (by simp [results, Tryz.f12, go_sem]) rfl ⟨rfl, HB2.out⟩
  | true =>
    have hC0 : C = 0 := by rw [← HC.out]; unfold irC; rw [h1]; rfl
    have HR1 := Lib.hid (show decide ((forb d).2 = 1) = R from by rw [← HR.out]; unfold irR; rw [h1]; rfl)
    subst hC0
    have HM := Lib.hid (manB_iff.1 h1)
    clear h1 HR HC
    have hz2 := HB2.out.size
    go_wp2_with fail
    refine (flagOrbits_any _ n c ao d w2 KM2.out hd2.out HM.out).mono ?_
    rintro r w3 ⟨v3, rfl, o3, b3⟩
    have HB3 := Lib.hid (HB2.out.trans (b3.mono hz2))
    generalize (forb d).2 = m at *
    have HBE := Lib.hid (show ((m : Int) == 1) = R by
      rw [← HR1.out]
      by_cases h : m = 1
      · subst h; rfl
      · rw [decide_eq_false h, beq_eq_false_iff_ne]; omega)
    clear o3 b3 HR1 HM
    go_wp2_with fail
    exact bodyPost_ret (v := .tuple #[.bool ((m : Int) == 1), .int .i64 0]) (by simp [results, Tryz.f12, go_sem]) rfl ⟨by rw [HBE.out], HB3.out⟩
end Go.Proofs.YtmdhljleaijkbaaGreatDoor

/- Draws of words: l11DrawWord, l11Power. -/
namespace Go.Proofs.YtmdhljleaijkbaaGreatDoor
open Go.RowKit

theorem only_grown {lo hi : Nat} {a w w' : World} {row : Option Nat} (h : Only lo hi a w) (hg : w.grownBy w' row) (hr : ∀ g, row = some g → a.heap.size ≤ g) : Only lo hi a w' :=
  ⟨hg.os.trans h.os, hg.tape.trans h.tape, hg.output.trans h.output, Nat.le_trans h.size hg.size, fun k hk hd => (hg.block k (Nat.lt_of_lt_of_le hk h.size) (fun e => by have := hr k e.symm; omega)).trans (h.block k hk hd)⟩
theorem Src.grown {w w' : World} {sb : Nat} {row : Option Nat} (h : Src w sb) (hg : w.grownBy w' row) (hr : ∀ g, row = some g → sb < g) : Src w' sb := by
  obtain ⟨ao, n, c, k, hh, h1, h2, h3, h4⟩ := h.box
  have hlt := h1.lt
  refine ⟨ao, n, c, k, hh, (hg.block sb hlt (fun e => by have := hr sb e.symm; omega)).trans h1, h2, h3, h4.1, fun hn => ?_⟩
  obtain ⟨b, off, e, hb, hc⟩ := h4.2 hn
  refine ⟨b, off, e, hb, fun j hj => ?_⟩
  obtain ⟨x, hx, hcx⟩ := hc j hj
  exact ⟨x, hx, (World.cell?_of_block (hg.block b (World.block_lt_of_cell? w _ hcx) (fun e => by have := hr b e.symm; omega))).trans hcx⟩
/-- a word whose letters lie below n -/
def Low (n : Int) (zs : List Int) : Prop := ∀ z ∈ zs, 0 ≤ z ∧ z < n

set_option maxHeartbeats 3200000 in
theorem pick_any (sb : Nat) (ao : Option Addr) (n c : Nat) (zs : List Int) (w : World) (h : Src w sb) (hz : Ints w ao n zs) (hn : 1 ≤ n) (hn2 : n ≤ 100) (hne : bk ao ≠ some sb) :
    Calls Tryz.prog 83 #[.pointer (some ⟨sb, 0, none⟩), .slice ao n c] w fun e w' => ∃ r : Nat, r < n ∧ e = .returned (.int .i64 (iget zs r)) ∧ Src w' sb ∧ Only sb (sb + 1) w w' := by
  go_enter Tryz.func83, Tryz.ntmps83
  go_wp2_with fail
  refine (next_any sb _ _ h (by omega)).mono ?_
  rintro e w2 ⟨r, rfl, -, r2, s2, o2⟩
  have hr := r2 (by omega)
  have hr2 : r < n := by omega
  have hz2 : Ints w2 ao n zs := hz.same fun g hg hlt => o2.block g hlt (by
    have : g ≠ sb := fun e => by subst e; exact hne hg
    omega)
  obtain ⟨b, off, rfl, hc⟩ := hz2.at_ hr2
  clear r2 hz hz2
  go_wp2
  go_ret
  exact ⟨r, hr2, rfl, s2, o2⟩
end Go.Proofs.YtmdhljleaijkbaaGreatDoor

/- The identity of n points: the reference's l01Unit. -/
namespace Go.Proofs.YtmdhljleaijkbaaGreatDoor
open Go.RowKit

set_option maxHeartbeats 3200000 in
theorem unit_any (m : Nat) (w : World) (hm : m ≤ 1000) :
    Calls Tryz.prog 54 #[.int .i64 m] w fun e w' => ∃ ao c, e = .returned (.slice ao m c) ∧ Own w' w.heap.size 2 ao m c (((List.range m).map fun (i : Nat) => (i : Int)).map (Value.int .i64)) ∧ Below w.heap.size w w' := by
  have hE := Own.empty_ w 2 (base := w.heap.size) (Nat.le_refl _)
  have hB := below_alloc1 w (.cells #[] 2)
  go_enter Tryz.func54, Tryz.ntmps54
  go_wp2_with fail
  go_loopw [3, 4] (fun sv iv wr => ∃ (k : Nat) (ao : Option Addr) (c : Nat), k ≤ m ∧ sv = .slice ao k c ∧ iv = .int .i64 k ∧ Own wr w.heap.size 2 ao k c (((List.range k).map fun (i : Nat) => (i : Int)).map (Value.int .i64)) ∧ Below w.heap.size w wr) (fun _ i _ => m - (intOf i).toNat)
  case atStart => exact ⟨0, _, _, Nat.zero_le _, rfl, rfl, by simpa using hE, hB⟩
  case round =>
    clear hE hB
    obtain ⟨k, ao, c, hk, rfl, rfl, ho, hb⟩ := hrel
    by_cases hlt : k < m
    · have HO := Lib.hid ho
      have hlo := fun g hg => (ho.lt g hg).1
      have hsz := hb.size
      clear ho
      go_wp2_with (at_builtin; refine wpList_ap1 etI _ rfl _ _ rfl w.heap.size ao k c _ rfl HO.out (.int .i64 (k : Int)) rfl rfl (by omega) hsz ?_; intro ao2 c2 w4 ho2 hg2 hblk)
      have HO2 := Lib.hid ho2
      have hb2 := hb.grown hg2 hsz hlo
      clear ho2 hblk hg2 hb
      go_wp2
      go_roundw
      case rel => exact ⟨k + 1, ao2, c2, by omega, rfl, by go_num, by rw [List.range_succ, List.map_append, List.map_append]; exact HO2.out, hb2⟩
      case measure => simp [intOf]; omega
    · obtain rfl : k = m := by omega
      go_wp2_with fail
      go_ret
      exact ⟨ao, c, rfl, ho, hb⟩
end Go.Proofs.YtmdhljleaijkbaaGreatDoor

/- Draws: a source far from what turns, rows written out, and the reference's l01Draw. -/
namespace Go.Proofs.YtmdhljleaijkbaaGreatDoor
open Go.RowKit

theorem own_rowL {w : World} {zs : List Int} {us : List Value} {g k : Nat} (hg : w.heap.size = g) (hu : us = zs.map (Value.int .i64)) (hk : zs.length = k) (hk2 : k ≤ 1000) : Own (w.alloc (.cells us.toArray 2)) w.heap.size 2 (some ⟨g, 0, none⟩) k k (zs.map (Value.int .i64)) := by
  subst hu hk
  have := own_lit (w := w) (base := w.heap.size) (E := 2) (us := zs.map (Value.int .i64)) hg (Nat.le_refl _) (by simp; omega)
  simpa using this
theorem src_farL {w w' : World} {sb : Nat} (h : Src w sb) (hs : ∀ g, g ≤ sb → w'.heap[g]? = w.heap[g]?) : Src w' sb := by
  obtain ⟨ao, n, c, k, hh, h1, h2, h3, h4⟩ := h.box
  refine ⟨ao, n, c, k, hh, (hs sb (Nat.le_refl _)).trans h1, h2, h3, h4.1, fun hn => ?_⟩
  obtain ⟨b, off, e, hb, hc⟩ := h4.2 hn
  refine ⟨b, off, e, hb, fun j hj => ?_⟩
  obtain ⟨x, hx, hcx⟩ := hc j hj
  exact ⟨x, hx, (World.cell?_of_block (hs b (by omega))).trans hcx⟩
theorem src_belowL {w w2 : World} {sb : Nat} (h : Src w sb) (hs : sb < w.heap.size) (b2 : Below w.heap.size w w2) : Src w2 sb := src_farL h fun g hg => b2.block g (by omega)
theorem low_set {n : Int} {zs : List Int} (h : Low n zs) {k : Nat} {x : Int} (hx : 0 ≤ x ∧ x < n) : Low n (zs.set k x) := fun z hz => by
  rcases List.mem_or_eq_of_mem_set hz with h1 | h1
  · exact h z h1
  · rw [h1]; exact hx
theorem low_get {n : Int} {zs : List Int} (h : Low n zs) {k : Nat} (hk : k < zs.length) : 0 ≤ iget zs k ∧ iget zs k < n := by
  rw [iget_lt hk]; exact h _ (List.getElem_mem hk)
theorem own_int {w : World} {base E g n c : Nat} {zs : List Int} (h : Own w base E (some ⟨g, 0, none⟩) n c (zs.map (Value.int .i64))) {k : Nat} (hk : k < n) : w.cell? ⟨g, k, none⟩ = some (.int .i64 (iget zs k)) := by
  have hl := h.len
  rw [List.length_map] at hl
  obtain ⟨g', e, -, -, -, hc, -⟩ := h.form (by omega)
  injection e with e; injection e with e; subst e
  rw [hc k hk, List.getElem?_map, List.getElem?_eq_getElem (by omega), iget_lt (by omega)]; rfl
set_option maxHeartbeats 3200000 in
theorem perm_any (sb m : Nat) (w : World) (h : Src w sb) (hsb : sb < w.heap.size) (hm : m ≤ 1000) :
    Calls Tryz.prog 71 #[.pointer (some ⟨sb, 0, none⟩), .int .i64 m] w fun e w' => ∃ (ao : Option Addr) (c : Nat) (zs : List Int), e = .returned (.slice ao m c) ∧ zs.length = m ∧ Low m zs ∧ Own w' w.heap.size 2 ao m c (zs.map (Value.int .i64)) ∧ Src w' sb ∧ Only sb (sb + 1) w w' := by
  go_enter Tryz.func71, Tryz.ntmps71
  go_wp2_with fail
  refine (unit_any m w hm).mono ?_
  rintro e w2 ⟨ao, c, rfl, o2, b2⟩
  have s2 : Src w2 sb := src_farL h fun g hg => b2.block g (by omega)
  have q2 : Only sb (sb + 1) w w2 := ⟨b2.os, b2.tape, b2.output, b2.size, fun k hk _ => b2.block k hk⟩
  have l2 : Low m ((List.range m).map fun (i : Nat) => (i : Int)) := fun z hz => by
    obtain ⟨i, hi, rfl⟩ := List.mem_map.1 hz
    rw [List.mem_range] at hi; omega
  have n2 : ((List.range m).map fun (i : Nat) => (i : Int)).length = m := by simp
  generalize (List.range m).map (fun (i : Nat) => (i : Int)) = zs0 at *
  clear b2 h
  go_wp2_with fail
  go_loopw [6] (fun iv wr => ∃ (k : Int) (zs : List Int), -1 ≤ k ∧ k < m ∧ iv = .int .i64 k ∧ zs.length = m ∧ Low m zs ∧ Own wr w.heap.size 2 ao m c (zs.map (Value.int .i64)) ∧ Src wr sb ∧ Only sb (sb + 1) w wr) (fun i _ => (intOf i).toNat)
  case atStart => exact ⟨(m : Int) - 1, zs0, by omega, by omega, by go_num, n2, l2, o2, s2, q2⟩
  case round =>
    clear n2 l2 o2 s2 q2
    obtain ⟨k, zs, hk0, hkm, rfl, hlen, hlow, ho, hs, hq⟩ := hrel
    by_cases hlt : 0 < k
    · obtain ⟨j, rfl⟩ := Int.eq_ofNat_of_zero_le (show 0 ≤ k by omega)
      go_wp2_with fail
      refine (next_any sb _ _ hs (by omega)).mono ?_
      rintro e w3 ⟨r, rfl, -, r3, s3, o3⟩
      have hr := r3 (by omega)
      have hsz := hq.size
      have ho3 := ho.only o3 (lo' := w.heap.size) (hi' := wr.heap.size) (fun g hg => ho.lt g hg) (.inr (by omega))
      have hq3 := hq.trans o3
      clear r3 hs ho hq o3
      obtain ⟨g, rfl, hgl, hgh, -, hc, hf⟩ := ho3.form (by omega)
      have hcj := own_int ho3 (k := j) (by omega)
      have hcr := own_int ho3 (k := r) (by omega)
      have hfj := hf j
      have hfr := hf r
      obtain ⟨st1, gr1⟩ := ho3.stored j (.int .i64 (iget zs r))
      rw [← List.map_set] at st1
      have ho4 := st1
      obtain ⟨g4, e4, -, -, -, -, hf4⟩ := st1.form (by omega)
      injection e4 with e4; injection e4 with e4; subst e4
      have hc4 := own_int ho4 (k := r) (by omega)
      have hfr4 := hf4 r
      obtain ⟨st2, gr2⟩ := ho4.stored r (.int .i64 (iget zs j))
      rw [← List.map_set] at st2
      have hlj := low_get hlow (k := j) (by omega)
      have hlr := low_get hlow (k := r) (by omega)
      have hl2 := low_set (k := r) (low_set (k := j) hlow hlr) hlj
      have hlen2 : ((zs.set j (iget zs r)).set r (iget zs j)).length = m := by rw [List.length_set, List.length_set]; exact hlen
      have s4 : Src ((w3.setCell ⟨g, j, none⟩ (.int .i64 (iget zs r))).setCell ⟨g, r, none⟩ (.int .i64 (iget zs j))) sb := src_farL s3 fun x hx => (Below.heap_setCell _ _ _ x (by show x ≠ g; omega)).trans (Below.heap_setCell _ _ _ x (by show x ≠ g; omega))
      have hq4 : Only sb (sb + 1) w ((w3.setCell ⟨g, j, none⟩ (.int .i64 (iget zs r))).setCell ⟨g, r, none⟩ (.int .i64 (iget zs j))) :=
        only_grown (only_grown hq3 gr1 (fun x hx => by injection hx with hx; omega)) gr2 (fun x hx => by injection hx with hx; omega)
      have ST2 := Lib.hid st2
      have HL2 := Lib.hid hl2
      have HN2 := Lib.hid hlen2
      clear st1 gr1 ho4 st2 gr2 hl2 hlen2 hlow hc hf ho3 hq3 hlj hlr hf4
      generalize iget zs j = zj at *
      generalize iget zs r = zr at *
      generalize hzz : iget (zs.set j zr) r = zr2 at *
      clear hzz
      go_wp2_with fail
      go_roundw
      case rel => exact ⟨(j : Int) - 1, _, by omega, by omega, by go_num, HN2.out, HL2.out, ST2.out, s4, hq4⟩
      case measure => simp [intOf]; omega
    · go_wp2_with fail
      go_ret
      exact ⟨ao, c, rfl, zs, hlen, hlow, ho, hs, hq⟩
theorem only_of_below {sb : Nat} {w w2 : World} (b : Below w.heap.size w w2) : Only sb (sb + 1) w w2 := ⟨b.os, b.tape, b.output, b.size, fun k hk _ => b.block k hk⟩
end Go.Proofs.YtmdhljleaijkbaaGreatDoor

/- Lists of numbers below a bound that grow, side by side. No program in sight. -/
namespace Go.Proofs.YtmdhljleaijkbaaGreatDoor
open Go.RowKit

theorem low_app {n : Int} {zs : List Int} (h : Low n zs) {x : Int} (hx : 0 ≤ x ∧ x < n) : Low n (zs ++ [x]) := fun z hz => by
  rcases List.mem_append.1 hz with h1 | h1
  · exact h z h1
  · simp at h1; subst h1; exact hx
/-- a list of the call's own of k numbers below N -/
def Gl (w : World) (lo : Nat) (a : Option Addr) (k c N : Nat) : Prop := ∃ zs : List Int, zs.length = k ∧ Low N zs ∧ Own w lo 2 a k c (zs.map (Value.int .i64))
/-- no block in common -/
def Ap (a b : Option Addr) : Prop := ∀ g, bk a = some g → bk b ≠ some g
theorem Ap.symm {a b : Option Addr} (h : Ap a b) : Ap b a := fun g e e' => h g e' e
section
variable {w w' : World} {lo k c N : Nat} {a b : Option Addr}
theorem Gl.below (h : Gl w lo a k c N) (hb : Below w.heap.size w w') : Gl w' lo a k c N := by
  obtain ⟨zs, h1, h2, h3⟩ := h
  exact ⟨zs, h1, h2, h3.below hb⟩
theorem Gl.side (h : Gl w lo b k c N) (hg : w.grownBy w' (bk a)) (ha : Ap a b) : Gl w' lo b k c N := by
  obtain ⟨zs, h1, h2, h3⟩ := h
  exact ⟨zs, h1, h2, h3.same fun g e => hg.block g (h3.lt g e).2 fun q => ha g q.symm e⟩
theorem Gl.only {sb : Nat} (h : Gl w lo b k c N) (ho : Only sb (sb + 1) w w') (hs : sb < lo) : Gl w' lo b k c N := by
  obtain ⟨zs, h1, h2, h3⟩ := h
  exact ⟨zs, h1, h2, h3.same fun g e => ho.block g (h3.lt g e).2 (.inr (by have := (h3.lt g e).1; omega))⟩
theorem Gl.empty_ (w : World) (lo N : Nat) (hl : lo ≤ w.heap.size) {g : Nat} (hg : w.heap.size = g) : Gl (w.alloc (.cells #[] 2)) lo (some ⟨g, 0, none⟩) 0 0 N := by subst hg; exact ⟨[], rfl, fun z hz => by simp at hz, Own.empty_ w 2 hl⟩
theorem Gl.nil_ (w : World) (lo N : Nat) : Gl w lo none 0 0 N := ⟨[], rfl, fun z hz => by simp at hz, Own.nil_ _ _ _⟩
theorem Gl.lt (h : Gl w lo a k c N) : ∀ g, bk a = some g → lo ≤ g ∧ g < w.heap.size := by
  obtain ⟨zs, h1, h2, h3⟩ := h
  exact h3.lt
/-- the list has grown by one number -/
theorem Gl.app {zs : List Int} {x : Int} {a2 : Option Addr} {c2 : Nat} (h1 : zs.length = k) (h2 : Low N zs) (h3 : Own w' lo 2 a2 (k + 1) c2 (zs.map (Value.int .i64) ++ [.int .i64 x])) (hx : 0 ≤ x ∧ x < N) : Gl w' lo a2 (k + 1) c2 N :=
  ⟨zs ++ [x], by rw [List.length_append, h1]; rfl, low_app h2 hx, by rw [List.map_append]; exact h3⟩
theorem Ap.grown {a2 : Option Addr} (h : Ap a b) (hat : bk a2 = bk a ∨ bk a2 = some (w.heap.size + 1)) (hb : ∀ g, bk b = some g → g < w.heap.size) : Ap a2 b := fun g e e' => by
  rcases hat with q | q
  · rw [q] at e; exact h g e e'
  · rw [q] at e; have := Option.some.inj e; have := hb g e'; omega
theorem Gl.ints (h : Gl w lo a k c N) : ∃ zs : List Int, Low N zs ∧ zs.length = k ∧ Ints w a k zs := by
  obtain ⟨zs, h1, h2, h3⟩ := h
  exact ⟨zs, h2, h1, h3.ints⟩
theorem Gl.ows (h : Gl w lo a k c N) : ∃ zs : List Int, zs.length = k ∧ Low N zs ∧ OwS 2 w (.slice a k c) zs := by
  obtain ⟨zs, h1, h2, h3⟩ := h
  exact ⟨zs, h1, h2, _, _, _, rfl, h3.mono (Nat.zero_le _)⟩
end
/-- rows of N numbers below N -/
def Sq (d : List (List Int)) (N : Nat) : Prop := ∀ r ∈ d, r.length = N ∧ Low N r
theorem Sq.leads {d : List (List Int)} {N : Nat} (h : Sq d N) : Leads d N :=
  ⟨fun k hk => by rw [lget_lt hk]; exact (h _ (List.getElem_mem hk)).1, fun k hk x hx => by
    rw [lget_lt hk]
    obtain ⟨h1, h2⟩ := h _ (List.getElem_mem hk)
    exact low_get h2 (by omega)⟩
theorem Sq.app {d : List (List Int)} {N : Nat} (h : Sq d N) {r : List Int} (h1 : r.length = N) (h2 : Low N r) : Sq (d ++ [r]) N := fun x hx => by
  rcases List.mem_append.1 hx with q | q
  · exact h x q
  · simp at q; subst q; exact ⟨h1, h2⟩
theorem sq_nil (N : Nat) : Sq [] N := fun r hr => by simp at hr
/-- the result's box lies ahead of what grows -/
theorem gl_blk {w w' : World} {bx n c : Nat} {a : Option Addr} {xs : List Value} {t : TypeId} {cs : Array Value} (h : Blk w bx t cs) (o : Own w (bx + 1) 2 a n c xs) (hg : w.grownBy w' (bk a)) : Blk w' bx t cs := by
  unfold Blk
  rw [hg.block _ h.lt (fun e => by have := (o.lt _ e.symm).1; omega)]
  exact h
theorem Gl.setBox {w : World} {lo bx k c N : Nat} {a : Option Addr} (h : Gl w lo a k c N) (hb : bx < lo) (u : Value) : Gl (w.setCell ⟨bx, 0, none⟩ u) lo a k c N := by
  obtain ⟨zs, h1, h2, h3⟩ := h
  exact ⟨zs, h1, h2, h3.same fun g e => Below.heap_setCell _ _ _ _ (by show g ≠ bx; have := (h3.lt g e).1; omega)⟩
/-- three lists are laid into a maniplex, the result's box is at bx -/
theorem gl3_box {wr : World} {lo k c1 c2 c3 N : Nat} {a1 a2 a3 : Option Addr} (h1 : Gl wr lo a1 k c1 N) (h2 : Gl wr lo a2 k c2 N) (h3 : Gl wr lo a3 k c3 N) (p12 : Ap a1 a2) (p13 : Ap a1 a3) (p23 : Ap a2 a3) (hlo : lo ≤ wr.heap.size) {g : Nat} (hg : wr.heap.size = g) {lo' : Nat} (hl : lo' ≤ lo) (hN : k = N) :
    ∃ d, d.length = 3 ∧ Sq d N ∧ OwM 2 38 (wr.alloc (.cells #[.slice a1 k c1, .slice a2 k c2, .slice a3 k c3] 38)) lo' (wr.alloc (.cells #[.slice a1 k c1, .slice a2 k c2, .slice a3 k c3] 38)).heap.size (.agg #[.slice (some ⟨g, 0, none⟩) 3 3]) d := by
  subst hg
  have l1 := h1.lt
  have l2 := h2.lt
  have l3 := h3.lt
  obtain ⟨z1, n1, m1, o1⟩ := h1.ows
  obtain ⟨z2, n2, m2, o2⟩ := h2.ows
  obtain ⟨z3, n3, m3, o3⟩ := h3.ows
  subst hN
  have hR : OwR (OwS 2) (wr.alloc (.cells [.slice a1 k c1, .slice a2 k c2, .slice a3 k c3].toArray 38)) lo (wr.heap.size + 1) 38 (some ⟨wr.heap.size, 0, none⟩) 3 3 [.slice a1 k c1, .slice a2 k c2, .slice a3 k c3] [z1, z2, z3] := by
    refine OwR.lit (innerS _) hlo (Nat.le_refl _) rfl rfl (by omega) ?_ ?_ ?_
    · intro j u d hu hd
      match j, hu, hd with
      | 0, hu, hd => simp at hu hd; subst hu hd; exact o1
      | 1, hu, hd => simp at hu hd; subst hu hd; exact o2
      | 2, hu, hd => simp at hu hd; subst hu hd; exact o3
    · intro j u hu
      match j, hu with
      | 0, hu => simp at hu; subst hu; exact in_slice l1
      | 1, hu => simp at hu; subst hu; exact in_slice l2
      | 2, hu => simp at hu; subst hu; exact in_slice l3
    · intro i j u u' g hij hu hu' hg
      match i, j, hu, hu' with
      | 0, 0, _, _ => exact absurd rfl hij
      | 0, 1, hu, hu' => simp at hu hu'; subst hu hu'; rw [ownBlock_slice] at hg ⊢; exact p12 g hg
      | 0, 2, hu, hu' => simp at hu hu'; subst hu hu'; rw [ownBlock_slice] at hg ⊢; exact p13 g hg
      | 1, 0, hu, hu' => simp at hu hu'; subst hu hu'; rw [ownBlock_slice] at hg ⊢; exact p12.symm g hg
      | 1, 1, _, _ => exact absurd rfl hij
      | 1, 2, hu, hu' => simp at hu hu'; subst hu hu'; rw [ownBlock_slice] at hg ⊢; exact p23 g hg
      | 2, 0, hu, hu' => simp at hu hu'; subst hu hu'; rw [ownBlock_slice] at hg ⊢; exact p13.symm g hg
      | 2, 1, hu, hu' => simp at hu hu'; subst hu hu'; rw [ownBlock_slice] at hg ⊢; exact p23.symm g hg
      | 2, 2, _, _ => exact absurd rfl hij
      | 0, j + 3, _, hu' => simp at hu'
      | 1, j + 3, _, hu' => simp at hu'
      | 2, j + 3, _, hu' => simp at hu'
      | i + 3, _, hu, _ => simp at hu
  refine ⟨[z1, z2, z3], rfl, fun r hr => ?_, some ⟨wr.heap.size, 0, none⟩, 3, 3, _, rfl, hR.mono hl (by simp)⟩
  simp at hr
  rcases hr with rfl | rfl | rfl
  · exact ⟨n1, m1⟩
  · exact ⟨n2, m2⟩
  · exact ⟨n3, m3⟩
end Go.Proofs.YtmdhljleaijkbaaGreatDoor

/- A number at the end of a list, in a region that draws its order. -/
namespace Go.Proofs.YtmdhljleaijkbaaGreatDoor
open Go.RowKit

/-- a number at the end of a list, in a region that draws its order -/
theorem gl_step {P : Program} {S : TypeId} {z : Value} {bytes : Nat} (et : ET P S 2 z bytes) {ops : Array Oper} {o : Oper} {a : Act} {Q : Exit → Act → World → Prop} {w0 : World} {K : Act → World → Prop} {X : Prop} (hg : o.guard = none) (s x : Operand) (ho : o.op = .call { callee := .builtin .append, args := #[s, x], argTypes := #[S, S] })
    (lo : Nat) (ao : Option Addr) (n c N : Nat) (hs : a.eval s = .slice ao n c) (hG : Gl w0 lo ao n c N) (y : Int) (hx : a.eval x = .slice (some ⟨w0.heap.size, 0, none⟩) 1 1) (hy : 0 ≤ y ∧ y < N) (hn : n + 1 ≤ 4398046511104) (hlo : lo ≤ w0.heap.size)
    (h : ∀ ao' c' w', Gl w' lo ao' (n + 1) c' N → Below lo w0 w' → w0.grownBy w' (bk ao) → (bk ao' = bk ao ∨ bk ao' = some (w0.heap.size + 1)) → K (a.put o.dst (.slice ao' (n + 1) c')) w') : if Region.wanted o (yielded ops a.tmps) = true then Oper.wp P o a (w0.drew.alloc (.cells #[.int .i64 y] 2)) K Q else X := by
  obtain ⟨zs, h1, h2, h3⟩ := hG
  have h3' : Own w0.drew lo 2 ao n c (zs.map (Value.int .i64)) := h3
  refine step_ap1 et hg s x ho lo ao n c _ hs (h3'.alloc (.cells #[.int .i64 y] 2)) (.int .i64 y) w0.heap.size 1 hx ?_ rfl hn ?_ ?_
  · exact (blk_at (w := w0.drew) (t := 2) (cs := #[.int .i64 y]) (k := w0.heap.size) rfl).cell 0
  · have : (w0.drew.alloc (.cells #[.int .i64 y] 2)).heap.size = w0.heap.size + 1 := by simp
    omega
  · intro ao' c' w' o' g' hat
    have e1 : (w0.drew.alloc (.cells #[.int .i64 y] 2)).heap.size = w0.heap.size + 1 := by simp
    have g0 : w0.grownBy w' (bk ao) := by
      refine grown_tr ?_ g'
      have := World.grownBy_alloc w0.drew (.cells #[.int .i64 y] 2) (bk ao)
      exact ⟨this.os, this.tape, this.output, this.size, this.block⟩
    refine h ao' c' w' (Gl.app h1 h2 o' hy) ((Below.refl _ _).grown g0 hlo fun g e => (h3.lt g e).1) g0 ?_
    rw [e1] at hat
    exact hat
/-- the same behind a call -/
theorem gl_step0 {P : Program} {S : TypeId} {z : Value} {bytes : Nat} (et : ET P S 2 z bytes) {ops : Array Oper} {o : Oper} {a : Act} {Q : Exit → Act → World → Prop} {w0 : World} {K : Act → World → Prop} {X : Prop} (hg : o.guard = none) (s x : Operand) (ho : o.op = .call { callee := .builtin .append, args := #[s, x], argTypes := #[S, S] })
    (lo : Nat) (ao : Option Addr) (n c N : Nat) (hs : a.eval s = .slice ao n c) (hG : Gl w0 lo ao n c N) (y : Int) (hx : a.eval x = .slice (some ⟨w0.heap.size, 0, none⟩) 1 1) (hy : 0 ≤ y ∧ y < N) (hn : n + 1 ≤ 4398046511104) (hlo : lo ≤ w0.heap.size)
    (h : ∀ ao' c' w', Gl w' lo ao' (n + 1) c' N → Below lo w0 w' → w0.grownBy w' (bk ao) → (bk ao' = bk ao ∨ bk ao' = some (w0.heap.size + 1)) → K (a.put o.dst (.slice ao' (n + 1) c')) w') : if Region.wanted o (yielded ops a.tmps) = true then Oper.wp P o a (w0.alloc (.cells #[.int .i64 y] 2)) K Q else X := by
  obtain ⟨zs, h1, h2, h3⟩ := hG
  refine step_ap1 et hg s x ho lo ao n c _ hs (h3.alloc (.cells #[.int .i64 y] 2)) (.int .i64 y) w0.heap.size 1 hx ?_ rfl hn ?_ ?_
  · exact (blk_at (w := w0) (t := 2) (cs := #[.int .i64 y]) (k := w0.heap.size) rfl).cell 0
  · have : (w0.alloc (.cells #[.int .i64 y] 2)).heap.size = w0.heap.size + 1 := by simp
    omega
  · intro ao' c' w' o' g' hat
    have e1 : (w0.alloc (.cells #[.int .i64 y] 2)).heap.size = w0.heap.size + 1 := by simp
    have g0 : w0.grownBy w' (bk ao) := by
      exact grown_tr (World.grownBy_alloc w0 (.cells #[.int .i64 y] 2) (bk ao)) g'
    refine h ao' c' w' (Gl.app h1 h2 o' hy) ((Below.refl _ _).grown g0 hlo fun g e => (h3.lt g e).1) g0 ?_
    rw [e1] at hat
    exact hat
theorem own_baseL {w : World} {lo E n c : Nat} {ao : Option Addr} {xs : List Value} (h : Own w 0 E ao n c xs) (hl : ∀ g, bk ao = some g → lo ≤ g) : Own w lo E ao n c xs := by
  refine ⟨⟨h.1.1, ?_⟩, h.2⟩
  rcases h.1.2 with ⟨h1, h2⟩ | ⟨g, cap, cur, hv, hb, hh, hc, hcm, hs, ht⟩
  · exact .inl ⟨h1, h2⟩
  · injection hv with h1 h2 h3
    subst h1
    exact .inr ⟨g, cap, cur, by rw [h3], hl g rfl, hh, hc, hcm, hs, ht⟩
/-- a number is put at a place of a list -/
theorem Gl.put {w : World} {lo k c N g : Nat} (h : Gl w lo (some ⟨g, 0, none⟩) k c N) (j : Nat) {y : Int} (hy : 0 ≤ y ∧ y < N) : Gl (w.setCell ⟨g, j, none⟩ (.int .i64 y)) lo (some ⟨g, 0, none⟩) k c N ∧ w.grownBy (w.setCell ⟨g, j, none⟩ (.int .i64 y)) (some g) := by
  obtain ⟨zs, h1, h2, h3⟩ := h
  obtain ⟨s1, s2⟩ := h3.stored j (.int .i64 y)
  rw [← List.map_set] at s1
  exact ⟨⟨zs.set j y, by rw [List.length_set, h1], low_set h2 hy, s1⟩, s2⟩
/-- what stands at a place of a list -/
theorem Gl.cell {w : World} {lo k c N : Nat} {a : Option Addr} (h : Gl w lo a k c N) {j : Nat} (hj : j < k) : ∃ (g z : Nat), a = some ⟨g, 0, none⟩ ∧ z < N ∧ w.cell? ⟨g, j, none⟩ = some (.int .i64 z) ∧ w.frozen? ⟨g, j, none⟩ = false ∧ lo ≤ g ∧ g < w.heap.size := by
  obtain ⟨zs, h1, h2, h3⟩ := h
  obtain ⟨g, rfl, hl, hh, -, hc, hf⟩ := h3.form (by omega)
  have hv := low_get h2 (k := j) (by omega)
  obtain ⟨z, hz⟩ := Int.eq_ofNat_of_zero_le hv.1
  exact ⟨g, z, rfl, by omega, by rw [own_int h3 hj, hz], hf j, hl, hh⟩
theorem gl_made {w : World} {lo k N g : Nat} (hl : lo ≤ w.heap.size) (hg : w.heap.size = g) (hk : k ≤ 1000000) (hN : 0 < N) {w' : World} (h : Own w' lo 2 (some ⟨g, 0, none⟩) k k (List.replicate k (.int .i64 0))) : Gl w' lo (some ⟨g, 0, none⟩) k k N :=
  ⟨List.replicate k 0, by simp, fun z hz => by rw [(List.mem_replicate.1 hz).2]; omega, by rw [List.map_replicate]; exact h⟩
end Go.Proofs.YtmdhljleaijkbaaGreatDoor

/- Draws of maniplexes: l01Matching. guards: -/
namespace Go.Proofs.YtmdhljleaijkbaaGreatDoor
open Go.RowKit

/-- a list drawn beside a source -/
structure GlS (w wx : World) (sb : Nat) (a : Option Addr) (k c N : Nat) : Prop where
  gl : Gl wx w.heap.size a k c N
  src : Src wx sb
  only : Only sb (sb + 1) w wx
theorem Gl.mono {w : World} {lo lo' k c N : Nat} {a : Option Addr} (h : Gl w lo a k c N) (hl : lo' ≤ lo) : Gl w lo' a k c N := by
  obtain ⟨zs, h1, h2, h3⟩ := h
  exact ⟨zs, h1, h2, h3.mono hl⟩
theorem only_below {sb : Nat} {w wx w2 : World} (h : Only sb (sb + 1) w wx) (b : Below wx.heap.size wx w2) : Only sb (sb + 1) w w2 := h.trans (only_of_below b)
theorem GlS.below {w wx w2 : World} {sb k c N : Nat} {a : Option Addr} (h : GlS w wx sb a k c N) (hs : sb < w.heap.size) (b : Below wx.heap.size wx w2) : GlS w w2 sb a k c N :=
  ⟨h.gl.below b, src_belowL h.src (by have := h.only.size; omega) b, only_below h.only b⟩
theorem draw_any (sb m : Nat) (w : World) (h : Src w sb) (hsb : sb < w.heap.size) (hm : m ≤ 1000) :
    Calls Tryz.prog 71 #[.pointer (some ⟨sb, 0, none⟩), .int .i64 m] w fun e w' => ∃ (ao : Option Addr) (c : Nat), e = .returned (.slice ao m c) ∧ GlS w w' sb ao m c m := by
  refine (perm_any sb m w h hsb hm).mono ?_
  rintro e w' ⟨ao, c, zs, rfl, h1, h2, h3, h4, h5⟩
  exact ⟨ao, c, rfl, ⟨zs, h1, h2, h3⟩, h4, h5⟩
set_option maxRecDepth 100000 in
set_option maxHeartbeats 6400000 in
theorem matching_any (sb m : Nat) (w : World) (h : Src w sb) (hsb : sb < w.heap.size) (hm : m ≤ 1000) (hm1 : 1 ≤ m) :
    Calls Tryz.prog 64 #[.pointer (some ⟨sb, 0, none⟩), .int .i64 m] w fun e w' => ∃ (ao : Option Addr) (c : Nat), e = .returned (.slice ao m c) ∧ GlS w w' sb ao m c m := by
  have HMK := Lib.hid (run_mk etI .i64 .i64 (m : Int) m rfl (by omega))
  have HS := Lib.hid h
  clear h
  go_enter Tryz.func64, Tryz.ntmps64
  go_upto_region 1 with fail
  go_cut [5, 6] (fun s5 s6 wx => ∃ (a : Option Addr) (c g : Nat), s5 = .slice a m c ∧ s6 = .slice (some ⟨g, 0, none⟩) m m ∧ GlS w wx sb a m c m ∧ Gl wx w.heap.size (some ⟨g, 0, none⟩) m m m ∧ Ap a (some ⟨g, 0, none⟩))
  case first =>
    have hmk := HMK.out
    go_region_law (go_simp; go_at_call 71; first | (refine (draw_any sb m _ (src_belowL HS.out hsb (below_drew1 w)) hsb hm).mono ?_; rintro e w3 ⟨a, c, rfl, g3⟩) | (refine (draw_any sb m _ (src_belowL HS.out hsb ((below_drew1 w).alloc (Nat.le_refl _) _)) (by simp; omega) hm).mono ?_; rintro e w3 ⟨a, c, rfl, g3⟩))
    all_goals go_wp2_with fail
    all_goals go_meet
    · have o1 := own_made etI (w := w3) (base := w.heap.size) (n := m) (g := w3.heap.size) rfl (by omega) (by have := g3.only.size; exact this)
      have g1 : GlS w w3 sb a m c m := ⟨g3.gl, g3.src, (only_of_below (below_drew1 w)).trans g3.only⟩
      have g2 := g1.below hsb (below_alloc1 w3 (.cells (madeCells #[.int .i64 0] m) 2))
      have gm : Gl (w3.alloc (.cells (madeCells #[.int .i64 0] m) 2)) w.heap.size (some ⟨w3.heap.size, 0, none⟩) m m m := gl_made (w := w3) g1.only.size rfl (by omega) (by omega) o1
      exact ⟨a, c, w3.heap.size, rfl, rfl, g2, gm, fun g e e' => by have := (g1.gl.lt g e).2; simp [bk] at e'; omega⟩
    · have o1 := own_made etI (w := w.drew) (base := w.heap.size) (n := m) (g := w.heap.size) rfl (by omega) (Nat.le_refl _)
      have gm : Gl (w.drew.alloc (.cells (madeCells #[.int .i64 0] m) 2)) w.heap.size (some ⟨w.heap.size, 0, none⟩) m m m := gl_made (w := w) (Nat.le_refl _) rfl (by omega) (by omega) o1
      have hsz : (w.drew.alloc (.cells (madeCells #[.int .i64 0] m) 2)).heap.size = w.heap.size + 1 := by simp
      have g1 : GlS w w3 sb a m c m := ⟨g3.gl.mono (by omega), g3.src, (only_of_below ((below_drew1 w).alloc (Nat.le_refl _) _)).trans g3.only⟩
      exact ⟨a, c, w.heap.size, rfl, rfl, g1, gm.only g3.only hsb, fun g e e' => by have := (g3.gl.lt g e).1; simp [bk] at e'; omega⟩
  case rest =>
    obtain ⟨a, c, g, rfl, rfl, gs, gm, hap⟩ := hcut
    have GS := Lib.hid gs
    clear HMK HS gs
    go_wp2_with fail
    go_loopw [7] (fun s7 wr => ∃ i : Nat, s7 = .int .i64 i ∧ i ≤ m + 1 ∧ GlS w wr sb a m c m ∧ Gl wr w.heap.size (some ⟨g, 0, none⟩) m m m) (fun s7 _ => m - (intOf s7).toNat)
    case atStart => exact ⟨0, rfl, by omega, GS.out, gm⟩
    case round =>
      clear gm GS
      obtain ⟨i, rfl, hi, gs, gm⟩ := hrel
      by_cases hlt : i + 1 < m
      · have hiw : IntKind.i64.wrap ((i : Int) + 1) = (i : Int) + 1 := IntWalk.i64_in _ (by omega)
        have hiw2 : IntKind.i64.wrap ((i : Int) + 2) = (i : Int) + 2 := IntWalk.i64_in _ (by omega)
        have hii : (i : Int) + 1 < (m : Int) := by omega
        have hi0 : (i : Int) < (m : Int) := by omega
        have hi1 : (0 : Int) ≤ (i : Int) + 1 := by omega
        have hi2 : ((i : Int) + 1).toNat = i + 1 := by omega
        obtain ⟨ga, x, rfl, hx, hcx, hfx, hlx, hhx⟩ := gs.gl.cell (show i < m by omega)
        obtain ⟨ga', y, e, hy, hcy, hfy, -, -⟩ := gs.gl.cell hlt
        injection e with e; injection e with e; subst e
        obtain ⟨g', u, e, hu, hcu, hfu, hlu, hhu⟩ := gm.cell hx
        injection e with e; injection e with e; subst e
        have hne : ga ≠ g := fun e => hap ga rfl (by rw [e]; rfl)
        obtain ⟨p1, q1⟩ := gm.put x (y := (y : Int)) (by omega)
        have gs1 : GlS w (wr.setCell ⟨g, x, none⟩ (.int .i64 (y : Int))) sb (some ⟨ga, 0, none⟩) m c m := ⟨gs.gl.side (a := some ⟨g, 0, none⟩) q1 hap.symm, src_farL gs.src fun h hh => Below.heap_setCell _ _ _ h (by show h ≠ g; omega), only_grown gs.only q1 (fun h e => by injection e with e; omega)⟩
        have hcx1 : (wr.setCell ⟨g, x, none⟩ (.int .i64 (y : Int))).cell? ⟨ga, i, none⟩ = some (.int .i64 x) := (World.cell?_of_block (Below.heap_setCell _ _ _ ga (by show ga ≠ g; omega))).trans hcx
        have hcy1 : (wr.setCell ⟨g, x, none⟩ (.int .i64 (y : Int))).cell? ⟨ga, i + 1, none⟩ = some (.int .i64 y) := (World.cell?_of_block (Below.heap_setCell _ _ _ ga (by show ga ≠ g; omega))).trans hcy
        obtain ⟨g', u2, e, hu2, hcu2, hfu2, -, -⟩ := p1.cell hy
        injection e with e; injection e with e; subst e
        obtain ⟨p2, q2⟩ := p1.put y (y := (x : Int)) (by omega)
        have gs2 : GlS w ((wr.setCell ⟨g, x, none⟩ (.int .i64 (y : Int))).setCell ⟨g, y, none⟩ (.int .i64 (x : Int))) sb (some ⟨ga, 0, none⟩) m c m := ⟨gs1.gl.side (a := some ⟨g, 0, none⟩) q2 hap.symm, src_farL gs1.src fun h hh => Below.heap_setCell _ _ _ h (by show h ≠ g; omega), only_grown gs1.only q2 (fun h e => by injection e with e; omega)⟩
        have P2 := Lib.hid p2
        have GS2 := Lib.hid gs2
        have hxi : (x : Int) < (m : Int) := by omega
        have hyi : (y : Int) < (m : Int) := by omega
        clear gs gm p1 q1 gs1 p2 q2 gs2
        go_upto_region 5 with fail
        go_region_law (fail)
        all_goals
          go_upto_region 6 with fail
          go_region_law (fail)
        all_goals
          go_wp2_with fail
          go_roundw
        all_goals first | exact ⟨i + 2, by go_num, by omega, GS2.out.below hsb ((below_drew1 _).drew), P2.out⟩ | (simp [intOf]; omega)
      · have hii : ¬ (i : Int) + 1 < (m : Int) := by omega
        have hiw : IntKind.i64.wrap ((i : Int) + 1) = (i : Int) + 1 := IntWalk.i64_in _ (by omega)
        go_wp2_with fail
        go_ret
        exact ⟨some ⟨g, 0, none⟩, m, rfl, gm, gs.src, gs.only⟩
end Go.Proofs.YtmdhljleaijkbaaGreatDoor

/- A maniplex that grows, row by row, in a box of its own. -/
namespace Go.Proofs.YtmdhljleaijkbaaGreatDoor
open Go.RowKit

/-- the box (bx), its rows from block lo on -/
structure MBx (w wr : World) (bx lo : Nat) (ao : Option Addr) (m c : Nat) (us : List Value) (ds : List (List Int)) : Prop where
  box : Blk wr bx 26 #[.slice ao m c]
  row : OwR (OwS 2) wr lo wr.heap.size 38 ao m c us ds
  at_ : w.heap.size ≤ bx ∧ bx < lo ∧ lo ≤ wr.heap.size
  bel : Below w.heap.size w wr
  few : m ≤ 1000
theorem own_nilMx {E1 E : Nat} {w : World} {lo hi : Nat} : OwM E1 E w lo hi (.agg #[.slice none 0 0]) [] := ⟨none, 0, 0, [], rfl, OwR.empty_ (Own.nil_ _ _ _) (fun g hg => by cases hg)⟩
section
variable {w wr w2 w3 w4 : World} {bx lo m c n1 c1 c2 : Nat} {ao a1 ao2 : Option Addr} {us : List Value} {ds : List (List Int)} {zs : List Int}
theorem MBx.below (st : MBx w wr bx lo ao m c us ds) (b : Below wr.heap.size wr w2) : MBx w w2 bx lo ao m c us ds := by
  obtain ⟨h1, h2, h3⟩ := st.at_
  have s := b.size
  exact ⟨st.box.belowS b, (st.row.below (innerS _) b).mono (Nat.le_refl _) s, ⟨h1, h2, by omega⟩, st.bel.trans (b.mono (by omega)), st.few⟩
theorem MBx.start (hb : Below w.heap.size w wr) (k : Blk wr bx 26 #[.slice none 0 0]) (h1 : w.heap.size ≤ bx) : MBx w wr bx (bx + 1) none 0 0 [] [] := by
  have hl := k.lt
  exact ⟨k, OwR.empty_ (Own.nil_ _ _ _) (fun g hg => by cases hg), ⟨h1, by omega, by omega⟩, hb, by omega⟩
theorem MBx.boxG (st : MBx w wr bx lo ao m c us ds) (hg : wr.grownBy w4 (bk ao)) : Blk w4 bx 26 #[.slice ao m c] := by
  obtain ⟨h1, h2, h3⟩ := st.at_
  unfold Blk
  rw [hg.block bx st.box.lt (fun e => by have := (st.row.own.lt _ e.symm).1; omega)]
  exact st.box
/-- a row is laid behind the others -/
theorem MBx.push (st : MBx w wr bx lo ao m c us ds) (hm : m + 1 ≤ 1000) (b2 : Below wr.heap.size wr w2) (o1 : Own w2 wr.heap.size 2 a1 n1 c1 (zs.map (Value.int .i64))) (b3 : Below w2.heap.size w2 w3) (o4 : Own w4 lo 38 ao2 (m + 1) c2 (us ++ [.slice a1 n1 c1]))
    (g4 : w3.grownBy w4 (bk ao)) (hat : bk ao2 = bk ao ∨ ∃ g, bk ao2 = some g ∧ w2.heap.size ≤ g) :
    MBx w (w4.setCell ⟨bx, 0, none⟩ (.slice ao2 (m + 1) c2)) bx lo ao2 (m + 1) c2 (us ++ [.slice a1 n1 c1]) (ds ++ [zs]) := by
  obtain ⟨h1, h2, h3⟩ := st.at_
  have hR := rows_push2 st.row h3 b2 o1 b3 o4 g4 hat
  have s2 := b2.size
  have s3 := b3.size
  have s4 := g4.size
  have hbx := st.box.lt
  have B4 : Below w.heap.size w w4 := (st.bel.trans ((b2.trans (b3.mono s2)).mono (by omega))).grown g4 (by omega) (fun g hg => by have := (st.row.own.lt g hg).1; omega)
  have hh : (w4.setCell ⟨bx, 0, none⟩ (.slice ao2 (m + 1) c2)).heap.size = w4.heap.size := by simp [World.setCell]
  have k : ∀ g, g < wr.heap.size → bk ao ≠ some g → w4.heap[g]? = wr.heap[g]? := fun g hg hne => by
    rw [g4.block g (by omega) (fun e => hne e.symm), b3.block g (by omega), b2.block g hg]
  refine ⟨?_, ?_, ⟨h1, h2, by rw [hh]; omega⟩, B4.setCell (by simp; omega) _, hm⟩
  · have : Blk w4 bx 26 #[.slice ao m c] := by unfold Blk; rw [k bx hbx (fun e => by have := (st.row.own.lt _ e).1; omega)]; exact st.box
    simpa using this.set_ 0 (.slice ao2 (m + 1) c2)
  · rw [hh]
    exact hR.same (innerS _) fun g h1 _ _ => Below.heap_setCell _ _ _ _ (by simp; omega)
theorem MBx.done (st : MBx w wr bx lo ao m c us ds) {p : Addr} (hp : p.block < bx) (u : Value) {lo' : Nat} (hl : lo' ≤ w.heap.size) : OwM 2 38 (wr.setCell p u) lo' (wr.setCell p u).heap.size (.agg #[.slice ao m c]) ds := by
  obtain ⟨h1, h2, h3⟩ := st.at_
  have hh : (wr.setCell p u).heap.size = wr.heap.size := by simp [World.setCell]
  refine ⟨ao, m, c, us, rfl, ?_⟩
  rw [hh]
  exact (st.row.same (innerS _) fun g h1 _ _ => Below.heap_setCell _ _ _ _ (by omega)).mono (by omega) (Nat.le_refl _)
theorem MBx.cell (st : MBx w wr bx lo ao m c us ds) : wr.cell? ⟨bx, 0, none⟩ = some (.slice ao m c) := by
  have := st.box.cell 0
  simpa using this
end
end Go.Proofs.YtmdhljleaijkbaaGreatDoor

/- Draws of maniplexes: l02Beside. guards: -/
namespace Go.Proofs.YtmdhljleaijkbaaGreatDoor
open Go.RowKit

theorem beside_lt {N K a b x : Nat} (hx : x < N) (hb : b < K) (_ : a = x) : x * K + b < N * K := by
  have : x * K + K ≤ N * K := by rw [← Nat.succ_mul]; exact Nat.mul_le_mul_right _ hx
  omega
set_option maxRecDepth 100000 in
set_option maxHeartbeats 6400000 in
theorem beside_any (ao bo : Option Addr) (n c m c' N K : Nat) (d e : List (List Int)) (w : World) (hd : RdSSc w (.slice ao n c) d) (he : RdSSc w (.slice bo m c') e) (hT : Leads d N) (hE : Leads e K) (hn : 1 ≤ n) (hm : 1 ≤ m) (hn9 : n ≤ 100) (hm9 : m ≤ 100) (hN : 1 ≤ N) (hK : 1 ≤ K) (hN9 : N ≤ 1000) (hK9 : K ≤ 1000) :
    Calls Tryz.prog 66 #[.agg #[.slice ao n c], .agg #[.slice bo m c']] w fun e w' => ∃ v r, e = .returned v ∧ OwM 2 38 w' w.heap.size w'.heap.size v r ∧ r.length = n + m ∧ Sq r (N * K) ∧ Below w.heap.size w w' := by
  have hdl := hd.intss.1
  have hel := he.intss.1
  have hl0 : (lget d 0).length = N := hT.len 0 (by omega)
  have hk0 : (lget e 0).length = K := hE.len 0 (by omega)
  have hNK : N * K ≤ 1000000 := Nat.mul_le_mul hN9 hK9
  have hw0 : IntKind.i64.wrap ((N : Int) * (K : Int)) = ((N * K : Nat) : Int) := by rw [← Int.natCast_mul]; exact IntWalk.i64_in _ (by omega)
  obtain ⟨M, hM⟩ : ∃ M, N * K = M := ⟨_, rfl⟩
  rw [hM] at hw0 hNK ⊢
  have HM := Lib.hid hM
  have b1 := below_alloc3 w (.cells #[.slice ao n c] 26) (.cells #[.slice bo m c'] 26) (.cells #[.slice none 0 0] 26)
  have k1 : Blk (((w.alloc (.cells #[.slice ao n c] 26)).alloc (.cells #[.slice bo m c'] 26)).alloc (.cells #[.slice none 0 0] 26)) w.heap.size 26 #[.slice ao n c] := ((blk_at rfl).alloc _).alloc _
  have k2 : Blk (((w.alloc (.cells #[.slice ao n c] 26)).alloc (.cells #[.slice bo m c'] 26)).alloc (.cells #[.slice none 0 0] 26)) (w.heap.size + 1) 26 #[.slice bo m c'] := (blk_at (by simp)).alloc _
  have k3 : Blk (((w.alloc (.cells #[.slice ao n c] 26)).alloc (.cells #[.slice bo m c'] 26)).alloc (.cells #[.slice none 0 0] 26)) (w.heap.size + 2) 26 #[.slice none 0 0] := blk_at (by simp)
  have HD := Lib.hid hd
  have HE := Lib.hid he
  have HT := Lib.hid hT
  have HTE := Lib.hid hE
  have hz1 : w.heap.size + 3 = (((w.alloc (.cells #[.slice ao n c] 26)).alloc (.cells #[.slice bo m c'] 26)).alloc (.cells #[.slice none 0 0] 26)).heap.size := by simp
  clear hd he hT hE hM
  go_enter Tryz.func66, Tryz.ntmps66
  go_upto_region 1 with fail
  generalize ((w.alloc (.cells #[.slice ao n c] 26)).alloc (.cells #[.slice bo m c'] 26)).alloc (.cells #[.slice none 0 0] 26) = w1 at *
  have HD1 := Lib.hid (HD.out.below b1)
  have HE1 := Lib.hid (HE.out.below b1)
  have K1 := Lib.hid k1
  have K2 := Lib.hid k2
  have K3 := Lib.hid k3
  have B1 := Lib.hid b1
  clear k1 k2 k3 b1 HD HE
  (refine wp_region_calm (by kernel_rfl) (by kernel_rfl) ?_; (repeat (first | go_big_quiet_skip | (go_big_quiet_want; first | (go_big_quiet_op; go_big_quiet_on) | (apply quiet_val; (· (intro _ hw; have y0 := (K1.out.belowS hw).cell 0; have y1 := (K2.out.belowS hw).cell 0; simp at y0 y1; go_simp; exact rfl)); go_simp; go_big_quiet_on) | (apply quiet_call; (· (intro _ _; go_simp; exact ⟨rfl, rfl⟩)); (· (intro _ hw; go_at_call 26; first | (refine (flagsS_any ao n c N d _ (HD1.out.below hw).rd (by omega) hl0 (by omega)).mono ?_; rintro e w' ⟨rfl, b⟩; exact ⟨rfl, below_tr b hw⟩) | (refine (flagsS_any bo m c' K e _ (HE1.out.below hw).rd (by omega) hk0 (by omega)).mono ?_; rintro e w' ⟨rfl, b⟩; exact ⟨rfl, below_tr b hw⟩))); go_simp; go_big_quiet_on)))); refine wpQuiet_nil ?_; intro wq bq)
  have HDq := Lib.hid (HD1.out.below bq)
  have HEq := Lib.hid (HE1.out.below bq)
  have K1q := Lib.hid (K1.out.belowS bq)
  have K2q := Lib.hid (K2.out.belowS bq)
  have K3q := Lib.hid (K3.out.belowS bq)
  have hz1' : w.heap.size ≤ w1.heap.size := by omega
  have Bq := Lib.hid (B1.out.trans (bq.mono hz1'))
  have hzq : w.heap.size + 3 ≤ wq.heap.size := by have := bq.size; omega
  have b7 := (Below.refl wq.heap.size wq).alloc (Nat.le_refl _) (.cells #[.slice none 0 0] 26)
  have ST := Lib.hid (MBx.start (w := wq) b7 (Blk.new wq 26 #[.slice none 0 0]) (Nat.le_refl _))
  have hz7 : wq.heap.size < (wq.alloc (.cells #[.slice none 0 0] 26)).heap.size := by simp
  clear b7 HD1 HE1 K1 K2 K3 B1 bq hz1 hz1' hl0 hk0
  go_upto_region 3 with fail
  generalize wq.alloc (.cells #[.slice none 0 0] 26) = w7 at *
  obtain ⟨bx, hbx⟩ : ∃ bx, wq.heap.size = bx := ⟨_, rfl⟩
  have HBX := Lib.hid hbx
  rw [hbx] at ST hz7 ⊢
  clear hbx
  go_wp2_with fail
  go_loopw [8] (fun kv wr => ∃ (q : Nat) (am : Option Addr) (cm : Nat) (us : List Value) (ds : List (List Int)), kv = .int .i64 q ∧ q ≤ n + m ∧ Sq ds M ∧ MBx wq wr bx (bx + 1) am q cm us ds) (fun kv _ => n + m - (intOf kv).toNat)
  case atStart => exact ⟨0, none, 0, [], [], rfl, Nat.zero_le _, sq_nil _, ST.out⟩
  case round =>
    clear ST hz7
    obtain ⟨q, am, cm, um, ds, rfl, hq, hds, st⟩ := hrel
    obtain ⟨wA, rfl⟩ : ∃ x, x = wr := ⟨_, rfl⟩
    have ST := Lib.hid st
    have hbw := Lib.hid st.bel
    have hzr := hbw.out.size
    have x1 := (K1q.out.belowS hbw.out).cell 0
    have x2 := (K2q.out.belowS hbw.out).cell 0
    simp at x1 x2
    have hwn : IntKind.i64.wrap ((n : Int) + (m : Int)) = (n : Int) + (m : Int) := IntWalk.i64_in _ (by omega)
    by_cases hlt : q < n + m
    · have hqi : (q : Int) < (n : Int) + (m : Int) := by omega
      have HDS := Lib.hid hds
      have E0 := Gl.empty_ wA wA.heap.size M (Nat.le_refl _) rfl
      have E0 := Lib.hid E0
      have hbA := below_alloc1 wA (.cells #[] 2)
      have HBA := Lib.hid hbA
      clear st hds hbA
      go_wp2_with fail
      go_loopw [9, 10] (fun sv iv w8 => ∃ (f : Nat) (a : Option Addr) (cc : Nat), f ≤ M ∧ sv = .slice a f cc ∧ iv = .int .i64 f ∧ Gl w8 wA.heap.size a f cc M ∧ Below wA.heap.size wA w8) (fun _ iv _ => M - (intOf iv).toNat)
      case atStart => exact ⟨0, _, _, Nat.zero_le _, rfl, rfl, E0.out, HBA.out⟩
      case round =>
        clear E0 HBA x1 x2
        obtain ⟨f, a, cc, hf, rfl, rfl, hg, hb8⟩ := hrel
        obtain ⟨w8, rfl⟩ : ∃ x, x = wr := ⟨_, rfl⟩
        have hz8 := hb8.size
        have HBW := Lib.hid (hbw.out.trans (hb8.mono hzr))
        have HB8 := Lib.hid hb8
        have HG := Lib.hid hg
        have x1 := (K1q.out.belowS HBW.out).cell 0
        have x2 := (K2q.out.belowS HBW.out).cell 0
        simp at x1 x2
        clear hb8 hg
        by_cases hltf : f < M
        · obtain ⟨x, hx⟩ : ∃ x, f / K = x := ⟨_, rfl⟩
          obtain ⟨y, hy⟩ : ∃ y, f % K = y := ⟨_, rfl⟩
          have hyK : y < K := by rw [← hy]; exact Nat.mod_lt _ (by omega)
          have hxN : x < N := by rw [← hx]; exact Nat.div_lt_of_lt_mul (by rw [Nat.mul_comm, HM.out]; exact hltf)
          have t1 : (f : Int).tdiv (K : Int) = (x : Int) := by rw [← hx]; rfl
          have t2 : (f : Int).tmod (K : Int) = (y : Int) := by rw [← hy]; rfl
          have hK0 : ((K : Int) == 0) = false := by simp; omega
          have hK0' : (K : Int) ≠ 0 := by omega
          have hKn : ¬ K = 0 := by omega
          have hxw : IntKind.i64.wrap (x : Int) = (x : Int) := IntWalk.i64_in _ (by omega)
          clear hx hy
          by_cases hqn : q < n
          · obtain ⟨b2, off2, a2, n2, c2, rfl, hc2, hi2⟩ := (HDq.out.intss.below HBW.out).at_ hqn
            have hn2 : n2 = N := by rw [← hi2.1]; exact HT.out.len q (by omega)
            subst hn2
            obtain ⟨b4, off4, rfl, hc4⟩ := hi2.at_ hxN
            have hz := bTo_lt HT.out hxN (g := q) (by omega)
            obtain ⟨z, hze⟩ : ∃ z, bTo d x q = z := ⟨_, rfl⟩
            rw [hz.2, hze] at hc4
            rw [hze] at hz
            obtain ⟨P, hP⟩ : ∃ P, z * K = P := ⟨_, rfl⟩
            have hPM : P + y < M := by rw [← hP, ← HM.out]; exact beside_lt hz.1 hyK rfl
            have t3 : IntKind.i64.wrap ((z : Int) * (K : Int)) = (P : Int) := by rw [← Int.natCast_mul, hP]; exact IntWalk.i64_in _ (by omega)
            have t4 : IntKind.i64.wrap ((P : Int) + (y : Int)) = (P : Int) + (y : Int) := IntWalk.i64_in _ (by omega)
            have hx0 : (x : Int) < (n2 : Int) := by omega
            have hq0 : (q : Int) < (n : Int) := by omega
            clear hi2 hz hze hP
            go_upto_region 11 with fail
            go_region_law (refine gl_step (o := ⟨some 58, _, _, _, _, _⟩) etI rfl (.tmp 40) (.tmp 57) rfl wA.heap.size a f cc M rfl HG.out ((P : Int) + (y : Int)) rfl (by omega) (by omega) hz8 ?_; intro a9 c9 w9 g9 B9 gr9 hat9)
            all_goals
              have HG9 := Lib.hid g9
              have HB9 := Lib.hid (HB8.out.trans B9)
              clear g9 B9 gr9 hat9
              go_wp2_with fail
              go_roundw
            all_goals first | exact ⟨f + 1, a9, c9, by omega, rfl, by go_num, HG9.out, HB9.out⟩ | (simp [intOf]; omega)
          · obtain ⟨j, hqj⟩ : ∃ j, q = n + j := ⟨q - n, by omega⟩
            have hjm : j < m := by omega
            obtain ⟨b2, off2, a2, n2, c2, rfl, hc2, hi2⟩ := (HEq.out.intss.below HBW.out).at_ hjm
            have hn2 : n2 = K := by rw [← hi2.1]; exact HTE.out.len j (by omega)
            subst hn2
            obtain ⟨b4, off4, rfl, hc4⟩ := hi2.at_ hyK
            have hz := bTo_lt HTE.out hyK (g := j) (by omega)
            obtain ⟨z, hze⟩ : ∃ z, bTo e y j = z := ⟨_, rfl⟩
            rw [hz.2, hze] at hc4
            rw [hze] at hz
            obtain ⟨P, hP⟩ : ∃ P, x * n2 = P := ⟨_, rfl⟩
            have hPM : P + z < M := by rw [← hP, ← HM.out]; exact beside_lt hxN hz.1 rfl
            have t3 : IntKind.i64.wrap ((x : Int) * (n2 : Int)) = (P : Int) := by rw [← Int.natCast_mul, hP]; exact IntWalk.i64_in _ (by omega)
            have t4 : IntKind.i64.wrap ((P : Int) + (z : Int)) = (P : Int) + (z : Int) := IntWalk.i64_in _ (by omega)
            have t5 : IntKind.i64.wrap ((q : Int) - (n : Int)) = (j : Int) := by rw [IntWalk.i64_in _ (by omega)]; omega
            have t6 : (q : Int) - (n : Int) = (j : Int) := by omega
            have hqn' : (n : Int) ≤ (q : Int) := by omega
            have hjw : IntKind.i64.wrap (j : Int) = (j : Int) := IntWalk.i64_in _ (by omega)
            have hy0 : (y : Int) < (n2 : Int) := by omega
            have hj0 : (j : Int) < (m : Int) := by omega
            clear hi2 hze hP hqj
            go_upto_region 12 with fail
            go_region_law (refine gl_step (o := ⟨some 81, _, _, _, _, _⟩) etI rfl (.tmp 59) (.tmp 80) rfl wA.heap.size a f cc M rfl HG.out ((P : Int) + (z : Int)) rfl (by omega) (by omega) hz8 ?_; intro a9 c9 w9 g9 B9 gr9 hat9)
            all_goals
              have HG9 := Lib.hid g9
              have HB9 := Lib.hid (HB8.out.trans B9)
              clear g9 B9 gr9 hat9
              go_wp2_with fail
              go_roundw
            all_goals first | exact ⟨f + 1, a9, c9, by omega, rfl, by go_num, HG9.out, HB9.out⟩ | (simp [intOf]; omega)
        · obtain rfl : f = M := by omega
          have STB := Lib.hid (ST.out.below HB8.out)
          obtain ⟨zs, n8, m8, o8⟩ := HG.out
          have HO8 := Lib.hid o8
          have xb := STB.out.cell
          have hlo8 := STB.out.at_.2.2
          clear o8
          go_wp2_with (at_builtin; refine wpList_ap1 etSS _ rfl _ _ rfl (bx + 1) am q cm _ rfl STB.out.row.own (.slice a f cc) rfl rfl (by omega) hlo8 ?_; intro ao2 c2' w4 ho2 hg2 hat; have x4 := (STB.out.boxG hg2).cell 0; have f4 := (STB.out.boxG hg2).frozen 0)
          have SP := Lib.hid (ST.out.push (by omega) HB8.out HO8.out (Below.refl _ _) ho2 hg2 (hat.imp id fun e => ⟨_, e, Nat.le_succ _⟩))
          clear ho2 hg2 hat STB ST
          go_roundw
          case rel => exact ⟨q + 1, ao2, c2', _, _, by go_num, by omega, HDS.out.app n8 m8, SP.out⟩
          case measure => simp [intOf]; omega
    · obtain rfl : q = n + m := by omega
      have xb := st.cell
      have KRr := K3q.out.belowS hbw.out
      have xr := KRr.cell 0
      have fr := KRr.frozen 0
      have BF := Lib.hid (Bq.out.trans (hbw.out.mono (by omega)))
      have hwb : w.heap.size ≤ wq.heap.size := by omega
      simp at xr
      have hrl : ds.length = n + m := st.row.len
      clear st
      go_wp2
      have hfl : w.heap.size + 2 < bx := by rw [← HBX.out]; omega
      exact bodyPost_ret (v := .agg #[.slice am (n + m) cm]) (by simp [results, Tryz.f66, go_sem, xr]) rfl ⟨_, ds, rfl, ST.out.done hfl _ hwb, hrl, hds, BF.out.setCell (by simp; omega) _⟩
end Go.Proofs.YtmdhljleaijkbaaGreatDoor

/- Draws of maniplexes: l04Section from the flag 0, all moves. guards: -/
namespace Go.Proofs.YtmdhljleaijkbaaGreatDoor
open Go.RowKit

theorem RdSSc.form_ {w : World} {ao : Option Addr} {n c : Nat} {d : List (List Int)} (h : RdSSc w (.slice ao n c) d) (hn : 0 < n) : n ≤ c ∧ ∃ b off, ao = some ⟨b, off, none⟩ := by
  have hl := h.intss.1
  obtain ⟨a', c1, e, hn', hc⟩ := h
  injection e with e1 e2 e3
  obtain ⟨h1, b, off, h2, -⟩ := hc (by omega)
  exact ⟨by omega, b, off, by rw [e1, h2]⟩
theorem orbO_any {d : List (List Int)} {N c : Nat} {v : Value} {z : Int} (hz : z = (c : Int)) (w : World) (h : RdSSc w v d) (hT : Leads d N) (hpos : 0 < d.length) (hN : N ≤ 1000) (hd : d.length ≤ 1000) (hc : c < N) :
    Calls Tryz.prog 53 #[v, .int .i64 z] w fun e w' => ∃ a c2, e = .returned (.slice a (orb d N c).2.length c2) ∧ Own w' w.heap.size 2 a (orb d N c).2.length c2 ((orb d N c).2.map (Value.int .i64)) ∧ Below w.heap.size w w' := by
  subst hz
  obtain ⟨hd', r, rfl, hv⟩ := ofSSc 1003 38 2 h
  have hO := orbS_fc d N c hT hpos (by omega) (by omega) hc
  have hlen : (orb d N c).2.length ≤ N := (orb_ok hT hc).le
  refine (toS_call (x := 12) (m := (orb d N c).2.length) rfl (by omega) (hO.call (l := [(1003, (rowsRo d, hd', r))]) (us := [_, .int .i64 c]) (fun p hp => by simp at hp; subst hp; exact hv) rfl (denL2 (den_sl (q := (rowsRo d, hd', r)) rfl) rfl))).mono ?_
  rintro e w' ⟨v, rfl, ⟨⟨a, n, c2, rfl, ho⟩, hin⟩, hb⟩
  have hn : n = (orb d N c).2.length := by have := ho.len; rw [List.length_map] at this; exact this.symm
  subst hn
  exact ⟨a, c2, rfl, own_baseL ho (fun g hg => (hin g (by rw [ownBlock_slice]; exact hg)).1), hb⟩
theorem orb_one {d : List (List Int)} {N c : Nat} (hT : Leads d N) (hc : c < N) : 1 ≤ (orb d N c).2.length := by
  obtain ⟨k, hk, _⟩ := (orb_ok hT hc).cov c hc (rch_refl hT hc)
  have hk : k < (orb d N c).2.length := hk
  omega
/-- the orbit as a list of numbers -/
theorem orb_gl {w : World} {lo c2 N c : Nat} {a : Option Addr} {d : List (List Int)} (hT : Leads d N) (hc : c < N) (h : Own w lo 2 a (orb d N c).2.length c2 ((orb d N c).2.map (Value.int .i64))) : Gl w lo a (orb d N c).2.length c2 N :=
  ⟨_, rfl, fun z hz => by
    obtain ⟨k, hk, rfl⟩ := List.getElem_of_mem hz
    obtain ⟨x, hx, hl, _⟩ := (orb_ok hT hc).q k hk
    have hx : iget (orb d N c).2 k = (x : Int) := hx
    rw [iget_lt hk] at hx
    rw [hx]; omega, h⟩
set_option maxRecDepth 100000 in
set_option maxHeartbeats 6400000 in
theorem section_any (ao : Option Addr) (n c N : Nat) (z : Int) (d : List (List Int)) (w : World) (hd : RdSSc w (.slice ao n c) d) (hT : Leads d N) (hn : 1 ≤ n) (hn9 : n ≤ 100) (hz : z + 1 = n) (hN : 1 ≤ N) (hN9 : N ≤ 1000) :
    Calls Tryz.prog 101 #[.agg #[.slice ao n c], .int .i64 0, .int .i64 0, .int .i64 z] w fun e w' => ∃ v r L, e = .returned v ∧ OwM 2 38 w' w.heap.size w'.heap.size v r ∧ r.length = n ∧ Sq r L ∧ 1 ≤ L ∧ L ≤ N ∧ Below w.heap.size w w' := by
  have hdl := hd.intss.1
  have hl0 : (lget d 0).length = N := hT.len 0 (by omega)
  obtain ⟨hnc, b, off, rfl⟩ := hd.form_ hn
  obtain ⟨L, hL⟩ : ∃ L, (orb d N 0).2.length = L := ⟨_, rfl⟩
  have hL1 : 1 ≤ L := by rw [← hL]; exact orb_one hT (by omega)
  have hLN : L ≤ N := by rw [← hL]; exact (orb_ok hT (by omega)).le
  have b1 := below_alloc2 w (.cells #[.slice (some ⟨b, off, none⟩) n c] 26) (.cells #[.slice none 0 0] 26)
  have k1 : Blk ((w.alloc (.cells #[.slice (some ⟨b, off, none⟩) n c] 26)).alloc (.cells #[.slice none 0 0] 26)) w.heap.size 26 #[.slice (some ⟨b, off, none⟩) n c] := (blk_at rfl).alloc _
  have k3 : Blk ((w.alloc (.cells #[.slice (some ⟨b, off, none⟩) n c] 26)).alloc (.cells #[.slice none 0 0] 26)) (w.heap.size + 1) 26 #[.slice none 0 0] := blk_at (by simp)
  have hz1 : w.heap.size + 2 = ((w.alloc (.cells #[.slice (some ⟨b, off, none⟩) n c] 26)).alloc (.cells #[.slice none 0 0] 26)).heap.size := by simp
  have HD := Lib.hid (hd.below b1)
  have HT := Lib.hid hT
  have HLL := Lib.hid hL
  have hzw : IntKind.i64.wrap (z + 1) = (n : Int) := by rw [hz]; exact IntWalk.i64_in _ (by omega)
  have hn0 : (0 : Int) ≤ (n : Int) := by omega
  have hnci : (n : Int) ≤ (c : Int) := by omega
  have hnt : ((n : Int)).toNat = n := by omega
  clear hd hT hL
  go_enter Tryz.func101, Tryz.ntmps101
  go_upto_region 1 with fail
  generalize (w.alloc (.cells #[.slice (some ⟨b, off, none⟩) n c] 26)).alloc (.cells #[.slice none 0 0] 26) = w1 at *
  have x1 := k1.cell 0
  simp at x1
  have K1 := Lib.hid k1
  have K3 := Lib.hid k3
  have B1 := Lib.hid b1
  clear k1 k3 b1
  go_wp2_with fail
  refine (orbO_any (c := 0) rfl w1 HD.out HT.out (by omega) hN9 (by omega) (by omega)).mono ?_
  rw [HLL.out]
  rintro e w2 ⟨oa, oc, rfl, ho, b2⟩
  have hG := orb_gl HT.out (show 0 < N by omega) (by rw [HLL.out]; exact ho)
  rw [HLL.out] at hG
  have B2 := Lib.hid (B1.out.trans (b2.mono (by omega)))
  have z12 := b2.size
  have HD2 := Lib.hid (HD.out.below b2)
  have HO2 := Lib.hid hG
  have x2 := (K1.out.belowS b2).cell 0
  simp at x2
  have K1' := Lib.hid (K1.out.belowS b2)
  have K3' := Lib.hid (K3.out.belowS b2)
  clear hG ho b2 HD K1 K3 B1 x1
  go_wp2_with fail
  refine (flagsS_any (some ⟨b, off, none⟩) n c N d w2 HD2.out.rd (by omega) hl0 (by omega)).mono ?_
  rintro e w3 ⟨rfl, b3⟩
  have z23 := b3.size
  have B3 := Lib.hid (B2.out.trans (b3.mono (by omega)))
  have HD3 := Lib.hid (HD2.out.below b3)
  have HO3 := Lib.hid (HO2.out.below b3)
  have K33 := Lib.hid (K3'.out.belowS b3)
  clear b3 B2 HD2 HO2 x2 K1' K3'
  go_wp2_with (at_make; refine wpList_mk etI _ rfl _ _ rfl w3.heap.size _ _ _ _ N rfl rfl rfl rfl (by omega) (Nat.le_refl _) ?_; intro w4 o4 g4 s4)
  have b4 : Below w3.heap.size w3 w4 := (Below.refl _ _).grown g4 (Nat.le_refl _) (by simp)
  obtain ⟨gn, hgn⟩ : ∃ gn, w3.heap.size = gn := ⟨_, rfl⟩
  have G4 := Lib.hid (gl_made (N := L) (Nat.le_refl w3.heap.size) rfl (by omega) hL1 o4)
  have B4 := Lib.hid b4
  have HGN := Lib.hid hgn
  rw [hgn] at G4 ⊢
  clear o4 g4 s4 b4 hgn
  go_wp2_with fail
  go_loopw [12] (fun iv wr => ∃ i : Nat, iv = .int .i64 i ∧ i ≤ L ∧ Gl wr gn (some ⟨gn, 0, none⟩) N N L ∧ Below w3.heap.size w3 wr) (fun iv _ => L - (intOf iv).toNat)
  case atStart => exact ⟨0, rfl, Nat.zero_le _, G4.out, B4.out⟩
  case round =>
    clear G4 B4
    obtain ⟨i, rfl, hi, hg, hb⟩ := hrel
    by_cases hlt : i < L
    · obtain ⟨og, x, rfl, hx, hcx, hfx, -, -⟩ := (HO3.out.below hb).cell hlt
      obtain ⟨g', y, e, hy, hcy, hfy, -, -⟩ := hg.cell hx
      injection e with e; injection e with e; subst e
      obtain ⟨p1, p2⟩ := hg.put x (y := (i : Int)) (by omega)
      have P1 := Lib.hid p1
      have P2 := Lib.hid (hb.grown p2 (by have := hb.size; omega) (fun g e => by injection e with e; rw [← e, HGN.out]; exact Nat.le_refl _))
      have hxi : (x : Int) < (N : Int) := by omega
      have hii : (i : Int) < (L : Int) := by omega
      clear p1 p2 hg hb
      go_wp2_with fail
      go_roundw
      case rel => exact ⟨i + 1, by go_num, by omega, P1.out, P2.out⟩
      case measure => simp [intOf]; omega
    · obtain rfl : i = L := by omega
      obtain ⟨wB, rfl⟩ : ∃ x, x = wr := ⟨_, rfl⟩
      have HG := Lib.hid hg
      have HB := Lib.hid hb
      have hzB := hb.size
      have b7 := (Below.refl wB.heap.size wB).alloc (Nat.le_refl _) (.cells #[.slice none 0 0] 26)
      have ST := Lib.hid (MBx.start (w := wB) b7 (Blk.new wB 26 #[.slice none 0 0]) (Nat.le_refl _))
      have hz7 : wB.heap.size < (wB.alloc (.cells #[.slice none 0 0] 26)).heap.size := by simp
      clear b7 hb hg
      go_upto_region 9 with fail
      generalize wB.alloc (.cells #[.slice none 0 0] 26) = w7 at *
      obtain ⟨bx, hbx⟩ : ∃ bx, wB.heap.size = bx := ⟨_, rfl⟩
      have HBX := Lib.hid hbx
      rw [hbx] at ST hz7 ⊢
      clear hbx
      go_wp2_with fail
      go_loopw [14] (fun kv wr => ∃ (q : Nat) (am : Option Addr) (cm : Nat) (us : List Value) (ds : List (List Int)), kv = .int .i64 q ∧ q ≤ n ∧ Sq ds i ∧ MBx wB wr bx (bx + 1) am q cm us ds) (fun kv _ => n - (intOf kv).toNat)
      case atStart => exact ⟨0, none, 0, [], [], rfl, Nat.zero_le _, sq_nil _, ST.out⟩
      case round =>
        clear ST hz7
        obtain ⟨q, am, cm, um, ds, rfl, hq, hds, st⟩ := hrel
        obtain ⟨wA, rfl⟩ : ∃ x, x = wr := ⟨_, rfl⟩
        have ST := Lib.hid st
        have hbw := Lib.hid st.bel
        have hzr := hbw.out.size
        have HBA := Lib.hid (HB.out.trans (hbw.out.mono hzB))
        by_cases hltq : q < n
        · have hqi : (q : Int) < (n : Int) := by omega
          have HDS := Lib.hid hds
          have E0 := Lib.hid (Gl.empty_ wA wA.heap.size i (Nat.le_refl _) rfl)
          have hbA := below_alloc1 wA (.cells #[] 2)
          have HBE := Lib.hid hbA
          clear st hds hbA
          go_wp2_with fail
          go_loopw [15, 16] (fun sv iv w8 => ∃ (f : Nat) (a : Option Addr) (cc : Nat), f ≤ i ∧ sv = .slice a f cc ∧ iv = .int .i64 f ∧ Gl w8 wA.heap.size a f cc i ∧ Below wA.heap.size wA w8) (fun _ iv _ => i - (intOf iv).toNat)
          case atStart => exact ⟨0, _, _, Nat.zero_le _, rfl, rfl, E0.out, HBE.out⟩
          case round =>
            clear E0 HBE
            obtain ⟨f, a, cc, hf, rfl, rfl, hg, hb8⟩ := hrel
            obtain ⟨w8, rfl⟩ : ∃ x, x = wr := ⟨_, rfl⟩
            have hz8 := hb8.size
            have HBW := Lib.hid (HBA.out.trans (hb8.mono (by omega)))
            have HBX2 := Lib.hid (hbw.out.trans (hb8.mono hzr))
            have HB8 := Lib.hid hb8
            have HG8 := Lib.hid hg
            clear hb8 hg
            by_cases hltf : f < i
            · have hfi : (f : Int) < (i : Int) := by omega
              obtain ⟨og, x, rfl, hx, hcx, hfx, -, -⟩ := (HO3.out.below HBW.out).cell hltf
              obtain ⟨b2, off2, a2, n2, c2, e2, hc2, hi2⟩ := (HD3.out.intss.below HBW.out).at_ hltq
              injection e2 with e2
              injection e2 with e21 e22
              subst e21 e22
              have hn2 : n2 = N := by rw [← hi2.1]; exact HT.out.len q (by omega)
              subst hn2
              obtain ⟨b4, off4, rfl, hc4⟩ := hi2.at_ hx
              have hy := bTo_lt HT.out hx (g := q) (by omega)
              obtain ⟨y, hye⟩ : ∃ y, bTo d x q = y := ⟨_, rfl⟩
              rw [hy.2, hye] at hc4
              rw [hye] at hy
              have hyN := hy.1
              obtain ⟨g5, u, e5, hu, hcu, hfu, -, -⟩ := (HG.out.below HBX2.out).cell hyN
              injection e5 with e5; injection e5 with e5; subst e5
              have hxi : (x : Int) < (n2 : Int) := by omega
              have hyi : (y : Int) < (n2 : Int) := by omega
              clear hi2 hy hye
              go_upto_region 16 with fail
              go_region_law (refine gl_step (o := ⟨some 71, _, _, _, _, _⟩) etI rfl (.tmp 56) (.tmp 70) rfl wA.heap.size a f cc i rfl HG8.out (u : Int) rfl (by omega) (by omega) hz8 ?_; intro a9 c9 w9 g9 B9 gr9 hat9)
              all_goals
                have HG9 := Lib.hid g9
                have HB9 := Lib.hid (HB8.out.trans B9)
                clear g9 B9 gr9 hat9
                go_wp2_with fail
                go_roundw
              all_goals first | exact ⟨f + 1, a9, c9, by omega, rfl, by go_num, HG9.out, HB9.out⟩ | (simp [intOf]; omega)
            · obtain rfl : f = i := by omega
              have STB := Lib.hid (ST.out.below HB8.out)
              obtain ⟨zs, n8, m8, o8⟩ := HG8.out
              have HO8 := Lib.hid o8
              have xb := STB.out.cell
              have hlo8 := STB.out.at_.2.2
              clear o8
              go_wp2_with (at_builtin; refine wpList_ap1 etSS _ rfl _ _ rfl (bx + 1) am q cm _ rfl STB.out.row.own (.slice a f cc) rfl rfl (by omega) hlo8 ?_; intro ao2 c2' w4 ho2 hg2 hat; have x4 := (STB.out.boxG hg2).cell 0; have f4 := (STB.out.boxG hg2).frozen 0)
              have SP := Lib.hid (ST.out.push (by omega) HB8.out HO8.out (Below.refl _ _) ho2 hg2 (hat.imp id fun e => ⟨_, e, Nat.le_succ _⟩))
              clear ho2 hg2 hat STB ST
              go_roundw
              case rel => exact ⟨q + 1, ao2, c2', _, _, by go_num, by omega, HDS.out.app n8 m8, SP.out⟩
              case measure => simp [intOf]; omega
        · obtain rfl : q = n := by omega
          have xb := st.cell
          have KRr := K33.out.belowS HBA.out
          have xr := KRr.cell 0
          have fr := KRr.frozen 0
          have BF := Lib.hid (B3.out.trans (HBA.out.mono (by omega)))
          have hwb : w.heap.size ≤ wB.heap.size := by omega
          simp at xr
          have hrl : ds.length = q := st.row.len
          clear st
          go_wp2
          have hfl : w.heap.size + 1 < bx := by rw [← HBX.out]; omega
          exact bodyPost_ret (v := .agg #[.slice am q cm]) (by simp [results, Tryz.f101, go_sem, xr]) rfl ⟨_, ds, i, rfl, ST.out.done hfl _ hwb, hrl, hds, hL1, hLN, BF.out.setCell (by simp) _⟩
end Go.Proofs.YtmdhljleaijkbaaGreatDoor

/- PolygonOf: the flags of a polygon, by the reference and by the program. -/
namespace Go.Proofs.YtmdhljleaijkbaaGreatDoor
open Go.RowKit

/-- the two moves of a polygon with n flags -/
def polyA (f : Nat) : Int := if f % 2 = 0 then (f : Int) + 1 else (f : Int) - 1
def polyB (n f : Nat) : Int := if f % 2 = 0 then ((f : Int) + n - 1) % n else ((f : Int) + 1) % n
def polyL (g : Nat → Int) (n : Nat) : List Int := (List.range n).map g
theorem polyL_succ (g : Nat → Int) (n : Nat) : polyL g (n + 1) = polyL g n ++ [g n] := by simp [polyL, List.range_succ]
theorem length_polyL (g : Nat → Int) (n : Nat) : (polyL g n).length = n := by simp [polyL]

set_option maxHeartbeats 800000 in
theorem specPolygon_any (m : Nat) (w : World) (h1 : 1 ≤ m) (h2 : m ≤ 200) :
    Calls Tryz.prog 67 #[.int .i64 m] w fun e w' => ∃ v, e = .returned v ∧ OwM 2 38 w' w.heap.size w'.heap.size v [polyL polyA (2 * m), polyL (polyB (2 * m)) (2 * m)] ∧ Below w.heap.size w w' := by
  have hmk := run_mk etI .i64 .i64 (2 * (m : Int)) (2 * m) (by omega) (by omega)
  have HMK := Lib.hid hmk
  clear hmk
  go_enter Tryz.func67, Tryz.ntmps67
  go_upto_region 2 with fail
  go_cut [4, 5] (fun s4 s5 wx => ∃ g1 g2 : Nat, s4 = .slice (some ⟨g1, 0, none⟩) (2 * m) (2 * m) ∧ s5 = .slice (some ⟨g2, 0, none⟩) (2 * m) (2 * m) ∧ g1 ≠ g2 ∧ Own wx (w.heap.size + 1) 2 (some ⟨g1, 0, none⟩) (2 * m) (2 * m) (List.replicate (2 * m) (.int .i64 0)) ∧ Own wx (w.heap.size + 1) 2 (some ⟨g2, 0, none⟩) (2 * m) (2 * m) (List.replicate (2 * m) (.int .i64 0)) ∧ Blk wx w.heap.size 26 #[.slice none 0 0] ∧ Below w.heap.size w wx)
  case first =>
    have hmk := HMK.out
    go_region
    all_goals go_wp2_with fail
    all_goals go_meet
    · have o1 := own_made etI (w := w.alloc (.cells #[.slice none 0 0] 26)) (base := w.heap.size + 1) (n := 2 * m) (g := w.heap.size + 1) (by simp) (by omega) (by simp)
      have o2 := own_made etI (w := (w.alloc (.cells #[.slice none 0 0] 26)).alloc (.cells (madeCells #[.int .i64 0] (2 * m)) 2)) (base := w.heap.size + 1) (n := 2 * m) (g := w.heap.size + 1 + 1) (by simp) (by omega) (by simp)
      exact ⟨_, _, rfl, rfl, by omega, o1.alloc _, o2, ((blk_at rfl).alloc _).alloc _, (below_alloc3 w _ _ _).drew⟩
    · have o1 := own_made etI (w := w.alloc (.cells #[.slice none 0 0] 26)) (base := w.heap.size + 1) (n := 2 * m) (g := w.heap.size + 1) (by simp) (by omega) (by simp)
      have o2 := own_made etI (w := (w.alloc (.cells #[.slice none 0 0] 26)).alloc (.cells (madeCells #[.int .i64 0] (2 * m)) 2)) (base := w.heap.size + 1) (n := 2 * m) (g := w.heap.size + 1 + 1) (by simp) (by omega) (by simp)
      exact ⟨_, _, rfl, rfl, by omega, o2, o1.alloc _, ((blk_at rfl).alloc _).alloc _, (below_alloc3 w _ _ _).drew⟩
  case rest =>
    obtain ⟨g1, g2, rfl, rfl, hne, o1, o2, kb, hb⟩ := hcut
    clear HMK
    go_wp2
    go_loopw [6] (fun i wr => ∃ k : Nat, k ≤ 2 * m ∧ i = .int .i64 k ∧ Own wr (w.heap.size + 1) 2 (some ⟨g1, 0, none⟩) (2 * m) (2 * m) ((polyL polyA k ++ List.replicate (2 * m - k) 0).map (Value.int .i64)) ∧ Own wr (w.heap.size + 1) 2 (some ⟨g2, 0, none⟩) (2 * m) (2 * m) ((polyL (polyB (2 * m)) k ++ List.replicate (2 * m - k) 0).map (Value.int .i64)) ∧ Blk wr w.heap.size 26 #[.slice none 0 0] ∧ Below w.heap.size w wr) (fun i _ => 2 * m - (intOf i).toNat)
    case atStart => exact ⟨0, by omega, rfl, by simpa [polyL] using o1, by simpa [polyL] using o2, kb, hb⟩
    case round =>
      obtain ⟨k, hk, rfl, p1, p2, kb', hb'⟩ := hrel
      clear o1 o2 kb hb
      have hg1 := (p1.lt g1 rfl)
      have hg2 := (p2.lt g2 rfl)
      by_cases hlt : k < 2 * m
      · have hc1 : wr.cell? ⟨g1, k, none⟩ = some (.int .i64 0) := by
          obtain ⟨g', e, -, -, -, hc, -⟩ := p1.form (by omega)
          injection e with e; injection e with e; subst e
          rw [hc k hlt]; exact get_pad (length_polyL _ _) hlt
        have hc2 : wr.cell? ⟨g2, k, none⟩ = some (.int .i64 0) := by
          obtain ⟨g', e, -, -, -, hc, -⟩ := p2.form (by omega)
          injection e with e; injection e with e; subst e
          rw [hc k hlt]; exact get_pad (length_polyL _ _) hlt
        have hf1 := p1.1.frozenAt k
        have hf2 := p2.1.frozenAt k
        have st : ∀ x y : Int, x = polyA k → y = polyB (2 * m) k → (∃ wn, wn = (wr.setCell ⟨g1, k, none⟩ (.int .i64 x)).setCell ⟨g2, k, none⟩ (.int .i64 y) ∧ Own wn (w.heap.size + 1) 2 (some ⟨g1, 0, none⟩) (2 * m) (2 * m) ((polyL polyA (k + 1) ++ List.replicate (2 * m - (k + 1)) 0).map (Value.int .i64)) ∧ Own wn (w.heap.size + 1) 2 (some ⟨g2, 0, none⟩) (2 * m) (2 * m) ((polyL (polyB (2 * m)) (k + 1) ++ List.replicate (2 * m - (k + 1)) 0).map (Value.int .i64)) ∧ Blk wn w.heap.size 26 #[.slice none 0 0] ∧ Below w.heap.size w wn) := by
          rintro x y rfl rfl
          obtain ⟨s1, t1⟩ := p1.stored k (.int .i64 (polyA k))
          have p2' := p2.kept t1 (.inr (by simp [bk]; omega))
          obtain ⟨s2, t2⟩ := p2'.stored k (.int .i64 (polyB (2 * m) k))
          have s1' := s1.kept t2 (.inr (by simp [bk]; omega))
          rw [← List.map_set, set_pad (length_polyL _ _) hlt, ← polyL_succ] at s1' s2
          exact ⟨_, rfl, s1', s2, (kb'.far (by simp; omega) _).far (by simp; omega) _, (hb'.setCell (by simp; omega) _).setCell (by simp; omega) _⟩
        have ST := Lib.hid st
        clear st p1 p2 kb' hb'
        by_cases hev : k % 2 = 0
        · have e1 : ((k : Int) % 2 == 0) = true := by simp; omega
          have hA : (k : Int) + 1 = polyA k := by unfold polyA; rw [if_pos hev]
          have hB : ((k : Int) + 2 * m - 1) % (2 * m) = polyB (2 * m) k := by unfold polyB; rw [if_pos hev]; congr 1 <;> omega
          obtain ⟨wn, hwn, q1, q2, q3, q4⟩ := ST.out _ _ hA hB
          have HW := Lib.hid hwn
          have hdv : 0 ≤ (k : Int) + 2 * m - 1 := by omega
          clear ST hA hB hwn hev
          go_wp2
          go_roundw
          case rel => exact ⟨k + 1, by omega, by go_num, by rw [← HW.out]; exact q1, by rw [← HW.out]; exact q2, by rw [← HW.out]; exact q3, by rw [← HW.out]; exact q4⟩
          case measure => simp [intOf]; omega
        · have e1 : ((k : Int) % 2 == 0) = false := by simp; omega
          have hA : (k : Int) - 1 = polyA k := by unfold polyA; rw [if_neg hev]
          have hB : ((k : Int) + 1) % (2 * m) = polyB (2 * m) k := by unfold polyB; rw [if_neg hev]; congr 1
          obtain ⟨wn, hwn, q1, q2, q3, q4⟩ := ST.out _ _ hA hB
          have HW := Lib.hid hwn
          have hk1 : 1 ≤ k := by omega
          clear ST hA hB hwn hev
          go_wp2
          go_roundw
          case rel => exact ⟨k + 1, by omega, by go_num, by rw [← HW.out]; exact q1, by rw [← HW.out]; exact q2, by rw [← HW.out]; exact q3, by rw [← HW.out]; exact q4⟩
          case measure => simp [intOf]; omega
      · obtain rfl : k = 2 * m := by omega
        rw [Nat.sub_self, List.replicate_zero, List.append_nil] at p1 p2
        have c0 : wr.cell? ⟨w.heap.size, 0, none⟩ = some (.slice none 0 0) := kb'.cell 0
        have f0 := kb'.frozen 0
        have l0 := kb'.lt
        have hbs := hb'.size
        have hset : ∀ g, w.heap.size + 1 ≤ g → (wr.setCell ⟨w.heap.size, 0, none⟩ (.slice (some ⟨wr.heap.size, 0, none⟩) 2 2)).heap[g]? = wr.heap[g]? := fun g hg => Below.heap_setCell _ _ _ _ (by simp; omega)
        have q1 : Own (wr.setCell ⟨w.heap.size, 0, none⟩ (.slice (some ⟨wr.heap.size, 0, none⟩) 2 2)) _ _ _ _ _ _ := p1.same fun g hg => hset g (p1.lt g hg).1
        have q2 : Own (wr.setCell ⟨w.heap.size, 0, none⟩ (.slice (some ⟨wr.heap.size, 0, none⟩) 2 2)) _ _ _ _ _ _ := p2.same fun g hg => hset g (p2.lt g hg).1
        have q3 : Blk (wr.setCell ⟨w.heap.size, 0, none⟩ (.slice (some ⟨wr.heap.size, 0, none⟩) 2 2)) w.heap.size 26 #[.slice (some ⟨wr.heap.size, 0, none⟩) 2 2] := kb'.set_ 0 _
        have q4 : Below w.heap.size w (wr.setCell ⟨w.heap.size, 0, none⟩ (.slice (some ⟨wr.heap.size, 0, none⟩) 2 2)) := hb'.setCell (Nat.le_refl _) _
        have q5 : (wr.setCell ⟨w.heap.size, 0, none⟩ (.slice (some ⟨wr.heap.size, 0, none⟩) 2 2)).heap.size = wr.heap.size := by simp [World.setCell]
        have Q1 := Lib.hid q1
        have Q2 := Lib.hid q2
        have Q5 := Lib.hid q5
        clear q1 q2 q5 hset p1 p2
        go_wp2
        generalize wr.setCell ⟨w.heap.size, 0, none⟩ (.slice (some ⟨wr.heap.size, 0, none⟩) 2 2) = ws at *
        have hz := Q5.out
        have w1 := OwR.lit2 (E := 38) (lo := w.heap.size + 1) (hi := ws.heap.size) (d0 := polyL polyA (2 * m)) (d1 := polyL (polyB (2 * m)) (2 * m)) (innerS 2) (by omega) (Nat.le_refl _) ⟨_, _, _, rfl, Q1.out.mono (Nat.zero_le _)⟩ ⟨_, _, _, rfl, Q2.out.mono (Nat.zero_le _)⟩ (in_slice Q1.out.lt) (in_slice Q2.out.lt) (by intro g hg; rw [ownBlock_slice] at hg ⊢; simp [bk] at hg ⊢; omega)
        have kf := q3.alloc (.cells #[.slice (some ⟨g1, 0, none⟩) (2 * m) (2 * m), .slice (some ⟨g2, 0, none⟩) (2 * m) (2 * m)] 38)
        have bf := q4.alloc q4.size (.cells #[.slice (some ⟨g1, 0, none⟩) (2 * m) (2 * m), .slice (some ⟨g2, 0, none⟩) (2 * m) (2 * m)] 38)
        have zf : ws.heap.size + 1 = (ws.alloc (.cells #[.slice (some ⟨g1, 0, none⟩) (2 * m) (2 * m), .slice (some ⟨g2, 0, none⟩) (2 * m) (2 * m)] 38)).heap.size := by simp
        rw [hz] at w1
        generalize ws.alloc (.cells #[.slice (some ⟨g1, 0, none⟩) (2 * m) (2 * m), .slice (some ⟨g2, 0, none⟩) (2 * m) (2 * m)] 38) = wf at *
        have e0 : wf.cell? ⟨w.heap.size, 0, none⟩ = some (.slice (some ⟨wr.heap.size, 0, none⟩) 2 2) := kf.cell 0
        refine bodyPost_ret (v := .agg #[.slice (some ⟨wr.heap.size, 0, none⟩) 2 2]) (by simp [results, Tryz.f67, go_sem, e0]) rfl ⟨_, rfl, ⟨_, _, _, _, rfl, w1.mono (by omega) (by omega)⟩, bf⟩
end Go.Proofs.YtmdhljleaijkbaaGreatDoor

/- polygonOf, the program's; PolygonOf, both. -/
namespace Go.Proofs.YtmdhljleaijkbaaGreatDoor
open Go.RowKit

theorem ofInt_i64 (a : Nat) (ha : a < 9223372036854775808) : (BitVec.ofInt 64 (a : Int)).toNat = a := by
  rw [BitVec.ofInt_natCast, BitVec.toNat_ofNat]; exact Nat.mod_eq_of_lt (by omega)
theorem i64_xor_nat (a b : Nat) (ha : a < 9223372036854775808) (hb : b < 9223372036854775808) : bits .xor .i64 (a : Int) (b : Int) = ((a ^^^ b : Nat) : Int) := by
  have hx : a ^^^ b < 2 ^ 63 := Nat.xor_lt_two_pow (by omega) (by omega)
  show IntKind.i64.wrap ((BitVec.ofInt 64 (a : Int) ^^^ BitVec.ofInt 64 (b : Int)).toNat : Int) = _
  rw [BitVec.toNat_xor, ofInt_i64 a ha, ofInt_i64 b hb, IntKind.wrap_i64]
  omega
theorem xor_one_div (k : Nat) : (k ^^^ 1) / 2 = k / 2 := by rw [Nat.xor_div_two]; simp
end Go.Proofs.YtmdhljleaijkbaaGreatDoor
