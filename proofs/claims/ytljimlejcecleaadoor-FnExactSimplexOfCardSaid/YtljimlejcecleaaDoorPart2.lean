/- A memory of names: a region that draws its order and holds guards, walked once. No program in sight. -/
import Derived.Test.YtljimlejcecleaaDoorPart1
import Derived.Test.YtljimlejcecleaaDoorProg
import Derived.RegionTactic
import Derived.Deep.DeepCutAuto
import Derived.Deep.RegionHeld3
import Derived.Shelf.Strconv.AppendIntPublic10
import Derived.Shelf.SlSortCmp.NoneTotal
import Derived.Lib.ItoaNum
import Derived.Lib.ItoaLen
import Derived.Maps.Own
import Derived.Test.YtljimlejcecleaaDoorRows
import Derived.ProofKit
import Derived.LaidMore
import Derived.LaidHandle
import Derived.LaidLaws
import Derived.MakeChecks
import Derived.Handed
import Derived.Lib.AppendIntMem
namespace Go.Proofs.YtljimlejcecleaaDoor
open Go.RowKit

section
variable {P : Program} {nt : Nat} {w0 w : World} {ω0 : Beg} {S S1 : St} {Q : Exit → Act → World → Prop} {a : Act}
/-- an operation, run or passed over, as its guard says -/
inductive GSt (P : Program) (nt : Nat) (ops : Array Oper) (o : Oper) (S1 : St) (A : Add) : Prop where
  | run (hg : o.guard = none) (h : Stp P nt o S1 (S1.add A))
  | yes {j d : Nat} {want : Bool} (hg : o.guard = some (j, want)) (hj : (ops[j]?).bind (·.dst) = some d) (hb : S1.sl d = some (vv (.bool want))) (h : Stp P nt o S1 (S1.add A))
  | no {j d : Nat} {want : Bool} (hg : o.guard = some (j, want)) (hj : (ops[j]?).bind (·.dst) = some d) (hb : S1.sl d = some (vv (.bool (!want)))) (ht : o.dst = some A.t) (hn : Nat.blt A.t nt = true) (ha : A.av = vv undef) (hx : A.news = none)
/-- the operations, one behind the other in the text's order: each may look at what it depends on alone -/
inductive DrawG (P : Program) (nt : Nat) (ops0 : Array Oper) (S : St) (cls : List (List Nat)) (sk : List Nat) : List Oper → List Add → List Add → Prop where
  | nil {done : List Add} : DrawG P nt ops0 S cls sk [] done done
  | skip {o : Oper} {rest : List Oper} {done all : List Add} (A : Add) (hs : memN sk done.length = true) (k : DrawG P nt ops0 S cls sk rest (A :: done) all) : DrawG P nt ops0 S cls sk (o :: rest) done all
  | cons {o : Oper} {rest : List Oper} {done all : List Add} (A : Add)
      (h : ∀ S1, (S.partR (memN (cls.getD done.length [])) done).le S1 → GSt P nt ops0 o S1 A) (k : DrawG P nt ops0 S cls sk rest (A :: done) all) : DrawG P nt ops0 S cls sk (o :: rest) done all
end
section
variable {P : Program} {nt : Nat} {S : St} {cls : List (List Nat)} {sk : List Nat} {o : Oper} {rest : List Oper} {done all : List Add} {ops0 : Array Oper} {t : Nat} {ty : TypeId} {ps : String} {af : Array Edge} {gd : Option (Nat × Bool)} {x y : Operand}
end
end Go.Proofs.YtljimlejcecleaaDoor

/- Chunks of the everyday kinds. -/
namespace Go.Proofs.YtljimlejcecleaaDoor
open Go.RowKit

section
variable {P : Program} {nt : Nat} {S : St} {t : Nat} {ty : TypeId} {ps : String} {af : Array Edge} {gd : Option (Nat × Bool)} {x y : Operand}
end
end Go.Proofs.YtljimlejcecleaaDoor

/- A memory of names: rows as words; vectors cut short. No program in sight. -/
namespace Go.Proofs.YtljimlejcecleaaDoor
open Go.RowKit

section
variable {η : Env} {ω : Own?} {w : World} {ins : List (Nm × Ch)}
end
section
variable {P : Program} {nt : Nat} {S : St} {t : Nat} {ty : TypeId} {ps : String} {af : Array Edge} {gd : Option (Nat × Bool)} {x y : Operand}
end
end Go.Proofs.YtljimlejcecleaaDoor

/- ReverseDiagram: the reference's l12Turned, slices.Clone and slices.Reverse at []int64. -/
namespace Go.Proofs.YtljimlejcecleaaDoor
open Go.RowKit

/-- a list the other way round; closed to simp -/
def turned (zs : List Int) : List Int := zs.reverse
end Go.Proofs.YtljimlejcecleaaDoor

/- slices.Reverse at []int64: it turns a row of the call's own round, in place. -/
namespace Go.Proofs.YtljimlejcecleaaDoor
open Go.RowKit

end Go.Proofs.YtljimlejcecleaaDoor

/- Comparisons of lists, the greatest one of an ascending list, the greatest common divisor. -/
namespace Go.Proofs.YtljimlejcecleaaDoor
open Go.RowKit

set_option maxHeartbeats 400000 in
theorem same_any (a b : Option Addr) (na nb ca cb : Nat) (za zb : List Int) (w : World) (ha : Ints w a na za) (hb : Ints w b nb zb) :
    Calls Tryd.prog 34 #[.slice a na ca, .slice b nb cb] w fun e w' => e = .returned (.bool (decide (za = zb))) ∧ ∃ m, w' = w.drewN m := by
  have hla := ha.2.1
  have hlb := hb.2.1
  by_cases hl : na = nb
  · subst hl
    have hl' : ((na : Int) != (na:Int)) = false := by simp
    go_enter Tryd.func34, Tryd.ntmps34
    go_wp2
    go_loopw [5] (fun i wr => ∃ k : Nat, k ≤ na ∧ i = .int .i64 k ∧ za.take k = zb.take k ∧ ∃ m, wr = w.drewN m) (fun i _ => na - (intOf i).toNat)
    case atStart => exact ⟨0, Nat.zero_le _, rfl, rfl, 0, rfl⟩
    case round =>
      obtain ⟨k, hk, rfl, hpre, m, rfl⟩ := hrel
      have HP := Lib.hid hpre
      clear hpre
      by_cases hlt : k < na
      · obtain ⟨ba, oa, rfl, hca⟩ := ha.at_ hlt
        obtain ⟨bb, ob, rfl, hcb⟩ := hb.at_ hlt
        have h1 := ha.1
        have h2 := hb.1
        have H1 := Lib.hid h1
        have H2 := Lib.hid h2
        clear h1 h2
        by_cases he : iget za k = iget zb k
        · have he' : (iget za k != iget zb k) = false := by simp [he]
          have HE := Lib.hid he
          clear he
          go_wp2_with fail
          go_quiet (fail)
          go_wp2
          go_roundw
          case rel => exact ⟨k + 1, by omega, by go_num, by rw [take_iget (by rw [H1.out]; omega), take_iget (by rw [H2.out]; omega), HP.out, HE.out], _, rfl⟩
          case measure => simp [intOf]; omega
        · have he' : (iget za k != iget zb k) = true := by simp [he]
          have HE := Lib.hid he
          clear he
          go_wp2_with fail
          go_quiet (fail)
          go_wp2
          go_ret
          exact ⟨ret_bool (by symm; rw [decide_eq_false_iff_not]; intro e; exact HE.out (by rw [e])), _, World.drewN_drewN _ _ _⟩
      · obtain rfl : k = na := by omega
        have h1 := ha.1
        have h2 := hb.1
        have hab : za = zb := by have := HP.out; rwa [List.take_of_length_le (by omega), List.take_of_length_le (by omega)] at this
        have HA := Lib.hid hab
        clear h1 h2 hab
        go_wp2
        go_ret
        exact ⟨ret_bool (by symm; simpa using HA.out), _, rfl⟩
  · have hl' : ((na : Int) != (nb:Int)) = true := by simp; omega
    go_enter Tryd.func34, Tryd.ntmps34
    go_wp2
    go_ret
    refine ⟨ret_bool ?_, 0, rfl⟩
    symm
    rw [decide_eq_false_iff_not]
    intro e
    exact hl (by rw [← ha.1, ← hb.1, e])

end Go.Proofs.YtljimlejcecleaaDoor

/- Groups of permutations: the reference's l01Put. -/
namespace Go.Proofs.YtljimlejcecleaaDoor
open Go.RowKit

theorem grown_drew {w : World} {m : Nat} {row : Option Nat} : w.grownBy (w.drewN m) row := grown_of_below (below_drewN (Below.refl _ _) m) _
end Go.Proofs.YtljimlejcecleaaDoor

/- The identity of n points: the reference's l01Unit. -/
namespace Go.Proofs.YtljimlejcecleaaDoor
open Go.RowKit

end Go.Proofs.YtljimlejcecleaaDoor

/- Groups of permutations: the reference's l01Group. -/
namespace Go.Proofs.YtljimlejcecleaaDoor
open Go.RowKit

/-- lists of n numbers below n -/
def Pts (n : Nat) (p : List Int) : Prop := p.length = n ∧ ∀ k, k < n → ∃ x : Nat, iget p k = (x : Int) ∧ x < n
theorem unitL_pts (n : Nat) : Pts n (unitL n) := ⟨by simp [unitL], fun k hk => ⟨k, by simp [unitL, iget, hk], hk⟩⟩
theorem thenL_pts {n : Nat} {p q : List Int} (hp : Pts n p) (hq : Pts n q) : Pts n (thenL p q) := ⟨by rw [thenL_len]; exact hp.1, fun k hk => by
  obtain ⟨x, h1, h2⟩ := hp.2 k hk
  obtain ⟨y, h3, h4⟩ := hq.2 x h2
  have hl := hp.1
  refine ⟨y, ?_, h4⟩
  rw [← h3]
  unfold iget at h1 ⊢
  rw [List.getD_eq_getElem?_getD] at h1
  unfold thenL
  rw [List.getD_eq_getElem?_getD, List.getElem?_map, List.getElem?_eq_getElem (by omega)]
  rw [List.getElem?_eq_getElem (by omega)] at h1
  have h1 : p[k] = (x : Int) := h1
  show iget q (p[k]).toNat = q.getD x 0
  rw [h1, Int.toNat_natCast]; rfl⟩
/-- the search: what is found, and the same lists in order -/
structure GrS (w wr : World) (n : Nat) (gs : List (List Int)) (af : Option Addr) (nf cf : Nat) (uf : List Value) (es : List (List Int)) (as' : Option Addr) (ns cs : Nat) (us : List Value) (ss : List (List Int)) : Prop where
  fnd : SpF wr w.heap.size af nf cf uf es
  srt : SpF wr w.heap.size as' ns cs us ss
  asc : AscL ss
  mem : ∀ z, z ∈ ss ↔ z ∈ es
  pts : ∀ z, z ∈ es → Pts n z
  ne : ∀ g, bk af = some g → bk as' ≠ some g
  nn : ns = nf
  bel : Below w.heap.size w wr
section
variable {w wr w' : World} {n : Nat} {gs : List (List Int)} {af : Option Addr} {nf cf : Nat} {uf : List Value} {es : List (List Int)} {as' : Option Addr} {ns cs : Nat} {us : List Value} {ss : List (List Int)}
theorem GrS.below (h : GrS w wr n gs af nf cf uf es as' ns cs us ss) (b : Below wr.heap.size wr w') : GrS w w' n gs af nf cf uf es as' ns cs us ss :=
  ⟨h.fnd.below b, h.srt.below b, h.asc, h.mem, h.pts, h.ne, h.nn, h.bel.trans (b.mono h.bel.size)⟩
/-- a list that is new is put among those in order -/
theorem GrS.put (h : GrS w wr n gs af nf cf uf es as' ns cs us ss) {p : List Int} {a2 : Option Addr} {n2 c2 : Nat} {us2 : List Value} (hs : SpF w' w.heap.size a2 n2 c2 us2 ss) (hg : wr.grownBy w' (bk as')) (hat : bk a2 = bk as' ∨ ∃ g, bk a2 = some g ∧ wr.heap.size ≤ g) (_hp : p ∈ ss) : GrS w w' n gs af nf cf uf es a2 n2 c2 us2 ss :=
  ⟨h.fnd.far h.srt.own hg h.ne, hs, h.asc, h.mem, h.pts, fun g e => by
    rcases hat with q | ⟨g2, q, hge⟩
    · rw [q]; exact h.ne g e
    · rw [q]; intro t; have := Option.some.inj t; have := (h.fnd.own.lt g e).2; omega, by have := hs.len; have := h.srt.len; have := h.nn; omega, h.bel.grown hg h.bel.size (fun g e => (h.srt.own.lt g e).1)⟩
theorem GrS.grow {w2 w4 : World} {p : List Int} {pa a2 a4 : Option Addr} {pn pc c2 c4 n2 : Nat} {us2 : List Value} (h : GrS w wr n gs af nf cf uf es as' ns cs us ss) (hp : Pts n p) (hn : p ∉ ss) (hs : SpF w2 w.heap.size a2 n2 c2 us2 (putAt ss p)) (hg : wr.grownBy w2 (bk as')) (hat : bk a2 = bk as' ∨ ∃ g, bk a2 = some g ∧ wr.heap.size ≤ g)
    (ho : Own w2 w.heap.size 2 pa pn pc (p.map (Value.int .i64))) (hown : Own w4 w.heap.size 22 a4 (nf + 1) c4 (uf ++ [.slice pa pn pc])) (hg4 : w2.grownBy w4 (bk af)) (hat4 : bk a4 = bk af ∨ ∃ g, bk a4 = some g ∧ w2.heap.size ≤ g) :
    GrS w w4 n gs a4 (nf + 1) c4 (uf ++ [.slice pa pn pc]) (es ++ [p]) a2 n2 c2 us2 (putAt ss p) := by
  have hf2 := h.fnd.far h.srt.own hg h.ne
  have hsz := hg.size
  have ne2 : ∀ g, bk a2 = some g → bk af ≠ some g := fun g e q => by
    rcases hat with t | ⟨g2, t, hge⟩
    · exact h.ne g q (t ▸ e)
    · rw [t] at e; have := Option.some.inj e; have := (h.fnd.own.lt g q).2; omega
  obtain ⟨hasc, hmem⟩ := putAt_asc h.asc hn
  have hlen : (putAt ss p).length = ss.length + 1 := by
    unfold putAt
    have := lowL_le ss p
    simp; omega
  refine ⟨hf2.push ho hg4 hown, hs.far hf2.own hg4 ne2, hasc, fun z => ?_, fun z hz => ?_, fun g e q => ?_, ?_, ?_⟩
  · rw [hmem, h.mem, List.mem_append, List.mem_singleton]
  · rcases List.mem_append.1 hz with t | t
    · exact h.pts z t
    · simp at t; subst t; exact hp
  · rcases hat4 with t | ⟨g4, t, hge⟩
    · exact ne2 g q (t ▸ e)
    · rw [t] at e; have := Option.some.inj e; have := (hs.own.lt g q).2; omega
  · have a := hs.len; have b := h.srt.len; have c := h.nn; omega
  · exact (h.bel.grown hg h.bel.size (fun g e => (h.srt.own.lt g e).1)).grown hg4 (Nat.le_trans h.bel.size hsz) (fun g e => (h.fnd.own.lt g e).1)
end
end Go.Proofs.YtljimlejcecleaaDoor

/- Groups of permutations, plain: what the search leaves, the elements in order, their numbers. No program in sight. -/
namespace Go.Proofs.YtljimlejcecleaaDoor

theorem lenSS_upto' {zss : List (List Int)} {k : Nat} (h : ∀ zs ∈ zss, zs.length ≤ k) : lenSS zss ≤ zss.length * k := by
  induction zss with
  | nil => simp [lenSS]
  | cons z t ih =>
    have h1 := h z (by simp)
    have h2 := ih fun x hx => h x (by simp [hx])
    simp [lenSS, Nat.add_mul] at *
    omega
/-- the first place of q among ss -/
theorem low_first {ss : List (List Int)} {q : List Int} (ha : AscL ss) (hq : q ∈ ss) {k : Nat} (hk : k ≤ lowL ss q) : (decide (lget ss k = q) = true ↔ k = lowL ss q) ∧ k < ss.length := by
  obtain ⟨h1, h2⟩ := (mem_low ha).1 hq
  have hkl : k < ss.length := by omega
  refine ⟨?_, hkl⟩
  rw [decide_eq_true_iff]
  constructor
  · intro e
    by_cases hlt : k < lowL ss q
    · have := (lowL_at ha k hkl).2 hlt
      rw [e, ltL_irr] at this; cases this
    · omega
  · rintro rfl; exact h2
theorem low_uniq {ss : List (List Int)} {q : List Int} (ha : AscL ss) {m : Nat} (hm : m < ss.length) (e : lget ss m = q) : m = lowL ss q := by
  have hq : q ∈ ss := by rw [← e]; exact lget_mem hm
  obtain ⟨h1, h2⟩ := (mem_low ha).1 hq
  rcases Nat.lt_trichotomy m (lowL ss q) with h | h | h
  · have := (lowL_at ha m hm).2 h
    rw [e, ltL_irr] at this; cases this
  · exact h
  · have := List.pairwise_iff_getElem.1 ha _ _ h1 hm h
    rw [← lget_lt h1, ← lget_lt hm, e, h2, ltL_irr] at this; cases this
end Go.Proofs.YtljimlejcecleaaDoor

/- Simplices, plain: all orders of n points, the moves. No program in sight. -/
namespace Go.Proofs.YtljimlejcecleaaDoor

/-- the orders of n points that begin so, with f points to come -/
def ordGo (n : Nat) : Nat → List Int → List (List Int)
  | 0, s => [s]
  | f + 1, s => (List.range n).flatMap fun (i : Nat) => if (i : Int) ∈ s then [] else ordGo n f (s ++ [(i : Int)])
def ordUp (n f : Nat) (s : List Int) (k : Nat) : List (List Int) := (List.range k).flatMap fun (i : Nat) => if (i : Int) ∈ s then [] else ordGo n f (s ++ [(i : Int)])
theorem ordUp_in {n f k : Nat} {s : List Int} (h : (k : Int) ∈ s) : ordUp n f s (k + 1) = ordUp n f s k := by
  unfold ordUp; rw [List.range_succ, List.flatMap_append]; simp [h]
theorem ordUp_new {n f k : Nat} {s : List Int} (h : (k : Int) ∉ s) : ordUp n f s (k + 1) = ordUp n f s k ++ ordGo n f (s ++ [(k : Int)]) := by
  unfold ordUp; rw [List.range_succ, List.flatMap_append]; simp [h]
theorem ordUp_all (n f : Nat) (s : List Int) : ordUp n f s n = ordGo n (f + 1) s := rfl
theorem ordUp_le {n f : Nat} {s : List Int} {k l : Nat} (h : k ≤ l) : (ordUp n f s k).length ≤ (ordUp n f s l).length := by
  induction l with
  | zero => obtain rfl : k = 0 := by omega
            exact Nat.le_refl _
  | succ l ih =>
    by_cases e : k = l + 1
    · subst e; exact Nat.le_refl _
    · have := ih (by omega)
      by_cases hm : (l : Int) ∈ s
      · rw [ordUp_in hm]; exact this
      · rw [ordUp_new hm, List.length_append]; omega
def sxO (n : Nat) : List (List Int) := ordGo (n + 1) (n + 1) []
/-- places i and i + 1 exchanged -/
def swpP (p : List Int) (i : Nat) : List Int := (p.set i (iget p (i + 1))).set (i + 1) (iget p i)
def sxRow (ss : List (List Int)) (i k : Nat) : List Int := (ss.take k).map fun p => (lowL ss (swpP p i) : Int)
def sxL (n : Nat) : List (List Int) := (List.range n).map fun i => sxRow (sxO n) i (sxO n).length
theorem sxRow_succ {ss : List (List Int)} {i k : Nat} (h : k < ss.length) : sxRow ss i (k + 1) = sxRow ss i k ++ [(lowL ss (swpP (lget ss k) i) : Int)] := by
  unfold sxRow
  rw [List.take_succ_eq_append_getElem h, List.map_append, lget_lt h]; rfl
theorem sxRow_len {ss : List (List Int)} {i k : Nat} (h : k ≤ ss.length) : (sxRow ss i k).length = k := by unfold sxRow; simp; omega
theorem sxL_take {n k : Nat} (h : k < n) : (sxL n).take (k + 1) = (sxL n).take k ++ [sxRow (sxO n) k (sxO n).length] := by
  unfold sxL
  rw [List.take_succ_eq_append_getElem (by simp; omega)]
  simp
def swpG (n i : Nat) : List Int := swpP (unitL (n + 1)) i
def sxG (n : Nat) : List (List Int) := (List.range n).map (swpG n)
def ptsB (n : Nat) (p : List Int) : Bool := decide (p.length = n) && p.all fun x => decide (0 ≤ x) && decide (x < n)
theorem ptsB_ok {n : Nat} {p : List Int} (h : ptsB n p = true) : Pts n p := by
  unfold ptsB at h
  rw [Bool.and_eq_true, List.all_eq_true] at h
  have hl := of_decide_eq_true h.1
  refine ⟨hl, fun k hk => ?_⟩
  have := h.2 _ (iget_mem (by omega : k < p.length))
  rw [Bool.and_eq_true] at this
  have h1 := of_decide_eq_true this.1
  have h2 := of_decide_eq_true this.2
  exact ⟨(iget p k).toNat, by omega, by omega⟩
/-- all that is reckoned -/
def sxOk (n : Nat) : Bool :=
  decide ((sxO n).length ≤ 120) && decide ((sxO n).Pairwise fun a b => ltL a b = true) && ((sxO n).all fun p => ptsB (n + 1) p && (List.range n).all fun i => decide (swpP p i ∈ sxO n)) &&
  (match grpE (sxG n) (n + 1) with | some es => decide (∀ z ∈ sxO n, z ∈ es) && decide (∀ z ∈ es, z ∈ sxO n) | none => false) && ((sxG n).all fun z => ptsB (n + 1) z)
structure SxOk (n : Nat) : Prop where
  few : (sxO n).length ≤ 120
  asc : AscL (sxO n)
  pts : ∀ z ∈ sxO n, Pts (n + 1) z
  mem : ∀ z ∈ sxO n, ∀ i, i < n → swpP z i ∈ sxO n
  grp : ∃ es, grpE (sxG n) (n + 1) = some es ∧ ∀ z, z ∈ sxO n ↔ z ∈ es
  gen : ∀ z ∈ sxG n, Pts (n + 1) z
theorem sxOk_of {n : Nat} (h : sxOk n = true) : SxOk n := by
  unfold sxOk at h
  simp only [Bool.and_eq_true, List.all_eq_true] at h
  obtain ⟨⟨⟨⟨h1, h2⟩, h3⟩, h4⟩, h5⟩ := h
  refine ⟨of_decide_eq_true h1, show List.Pairwise _ _ from of_decide_eq_true h2, fun z hz => ptsB_ok (h3 z hz).1, fun z hz i hi => of_decide_eq_true ((h3 z hz).2 i (List.mem_range.2 hi)), ?_, fun z hz => ptsB_ok (h5 z hz)⟩
  cases hg : grpE (sxG n) (n + 1) with
  | none => rw [hg] at h4; cases h4
  | some es =>
    rw [hg] at h4
    simp only [Bool.and_eq_true, decide_eq_true_eq] at h4
    exact ⟨es, rfl, fun z => ⟨h4.1 z, h4.2 z⟩⟩
set_option maxRecDepth 100000 in
theorem sx_ok {n : Nat} (h1 : 1 ≤ n) (h4 : n ≤ 4) : SxOk n := by
  have h : n = 1 ∨ n = 2 ∨ n = 3 ∨ n = 4 := by omega
  rcases h with rfl | rfl | rfl | rfl
  · exact sxOk_of (by decide +kernel)
  · exact sxOk_of (by decide +kernel)
  · exact sxOk_of (by decide +kernel)
  · exact sxOk_of (by decide +kernel)
theorem iget_setX {p : List Int} {i k : Nat} {x : Int} (hi : i < p.length) : iget (p.set i x) k = if k = i then x else iget p k := by
  unfold iget
  rw [List.getD_eq_getElem?_getD, List.getD_eq_getElem?_getD, List.getElem?_set]
  by_cases h : i = k
  · subst h; simp [hi]
  · rw [if_neg h, if_neg (fun e => h e.symm)]
/-- a move done first -/
theorem then_swp {n i : Nat} {p : List Int} (hp : p.length = n + 1) (hi : i < n) : thenL (swpG n i) p = swpP p i := by
  have hu : (unitL (n + 1)).length = n + 1 := by simp [unitL]
  have hul : ∀ k, k < n + 1 → iget (unitL (n + 1)) k = (k : Int) := fun k hk => by simp [unitL, iget, hk]
  have hg : ∀ k, k < n + 1 → iget (swpG n i) k = if k = i + 1 then (i : Int) else if k = i then ((i + 1 : Nat) : Int) else (k : Int) := fun k hk => by
    unfold swpG swpP
    rw [iget_setX (by rw [List.length_set]; omega), iget_setX (by omega), hul i (by omega), hul (i + 1) (by omega), hul k hk]
  have hgl : (swpG n i).length = n + 1 := by unfold swpG swpP; simp [hu]
  refine iget_ext (by rw [thenL_len, hgl]; unfold swpP; simp [hp]) fun k hk => ?_
  rw [thenL_len, hgl] at hk
  have h1 : iget (thenL (swpG n i) p) k = iget p (iget (swpG n i) k).toNat := by
    unfold thenL
    rw [iget_lt (by simp; omega), List.getElem_map, iget_lt (by omega : k < (swpG n i).length)]
  rw [h1, hg k hk]
  unfold swpP
  rw [iget_setX (by rw [List.length_set]; omega), iget_setX (by omega)]
  by_cases e1 : k = i + 1
  · rw [if_pos e1, if_pos e1, Int.toNat_natCast]
  · rw [if_neg e1, if_neg e1]
    by_cases e2 : k = i
    · rw [if_pos e2, if_pos e2, Int.toNat_natCast]
    · rw [if_neg e2, if_neg e2, Int.toNat_natCast]
def sxC (n : Int) : Int := if inB n 1 4 = true then 0 else 2
def sxR (n : Int) : List (List Int) := if inB n 1 4 = true then sxL n.toNat else []
theorem sxR_small (n : Int) : (sxR n).length ≤ 4 ∧ lenSS (sxR n) ≤ 1000 := by
  unfold sxR
  split
  · rename_i h
    rw [inB_true] at h
    obtain ⟨k, hk⟩ : ∃ k, n.toNat = k := ⟨_, rfl⟩
    rw [hk]
    have hf := (sx_ok (n := k) (by omega) (by omega)).few
    have hl : (sxL k).length = k := by simp [sxL]
    refine ⟨by omega, ?_⟩
    have := lenSS_upto' (zss := sxL k) (k := 120) (fun zs hz => by
      obtain ⟨i, hi, rfl⟩ := List.mem_map.1 hz
      rw [sxRow_len (Nat.le_refl _)]; exact hf)
    have h6 : (sxL k).length * 120 ≤ 4 * 120 := Nat.mul_le_mul_right _ (by omega)
    omega
  · exact ⟨by simp, by simp [lenSS]⟩
end Go.Proofs.YtljimlejcecleaaDoor

/- WithRelators, the reference's parts: l01Own, l01Own2, l11Code. -/
namespace Go.Proofs.YtljimlejcecleaaDoor
open Go.RowKit

set_option maxRecDepth 100000 in
set_option maxHeartbeats 400000 in
theorem own_any (ao : Option Addr) (n c : Nat) (zs : List Int) (w : World) (h : Ints w ao n zs) (hn : n ≤ 1048576) :
    Calls Tryd.prog 33 #[.slice ao n c] w fun e w' => ∃ ao' c', e = .returned (.slice ao' n c') ∧ Own w' w.heap.size 2 ao' n c' (zs.map (Value.int .i64)) ∧ Below w.heap.size w w' := by
  have h2 : Ints (w.alloc (.cells #[] 2)) ao n zs := h.below (below_alloc1 _ _)
  have H2 := Lib.hid h2
  clear h2
  go_enter Tryd.func33, Tryd.ntmps33
  go_wp2_with (at_builtin; refine wpList_apN etI _ rfl _ _ rfl w.heap.size _ 0 0 [] rfl (Own.empty_ w _ (Nat.le_refl _)) ao n c zs rfl H2.out (by omega) (by simp) ?_; intro ao2 c2 w2 ho2 hg2 hblk)
  go_ret
  refine ⟨_, _, rfl, by simpa using ho2, (below_alloc1 w _).grown hg2 (by simp) (fun g hg => ?_)⟩
  simp [bk] at hg; omega

/-- a list of the call's own, just made, is laid at the end of a row of lists -/
theorem rows_push2 {T1 E lo : Nat} {wr w2 w3 w4 : World} {ao ao' ao2 : Option Addr} {m c n' c' c2 : Nat} {us : List Value} {ds : List (List Int)} {zs : List Int}
    (hR : OwR (OwS T1) wr lo wr.heap.size E ao m c us ds) (hlo : lo ≤ wr.heap.size) (hb : Below wr.heap.size wr w2) (hu : Own w2 wr.heap.size T1 ao' n' c' (zs.map (Value.int .i64))) (hb3 : Below w2.heap.size w2 w3)
    (hown : Own w4 lo E ao2 (m + 1) c2 (us ++ [.slice ao' n' c'])) (hg : w3.grownBy w4 (bk ao)) (hat : bk ao2 = bk ao ∨ ∃ g, bk ao2 = some g ∧ w2.heap.size ≤ g) :
    OwR (OwS T1) w4 lo w4.heap.size E ao2 (m + 1) c2 (us ++ [.slice ao' n' c']) (ds ++ [zs]) := by
  have hR3 : OwR (OwS T1) w3 lo wr.heap.size E ao m c us ds := hR.below (innerS _) (hb.trans (hb3.mono hb.size))
  have s1 := hb.size
  have s2 := hb3.size
  have s3 := hg.size
  have hub : ∀ g, bk ao' = some g → wr.heap.size ≤ g ∧ g < w2.heap.size := hu.lt
  have hne : ∀ g, bk ao' = some g → bk ao ≠ some g := fun g h1 h2 => by have := hub g h1; have := hR.top g h2; omega
  have hu4 : OwS T1 w4 (.slice ao' n' c') zs := (innerS T1).loc (w := w2) ⟨ao', n', c', rfl, hu.mono (Nat.zero_le _)⟩ fun g h => by
    rw [ownBlock_slice] at h
    have := hub g h
    rw [hg.block g (by omega) (fun e => hne g h e.symm)]
    exact hb3.block g this.2
  refine hR3.push (innerS _) hown hg hu4 (in_slice fun g h => ⟨by have := hub g h; omega, by have := hub g h; omega⟩) (fun g h => (hown.lt g h).2) (by omega) ?_ ?_
  · intro g h
    rcases hat with h1 | ⟨g1, h1, h5⟩
    · exact .inl (h1 ▸ h)
    · refine .inr fun j u hj e => ?_
      rw [h1] at h; obtain rfl := Option.some.inj h
      have := (hR3.rng j u hj _ e).2
      omega
  · intro g h
    rw [ownBlock_slice] at h
    have hh := hub g h
    refine ⟨fun e => ?_, fun j v hj e => ?_⟩
    · rcases hat with h1 | ⟨g1, h1, h5⟩
      · exact hne g h (h1 ▸ e)
      · rw [h1] at e; have := Option.some.inj e; omega
    · have := (hR3.rng j v hj _ e).2; omega
end Go.Proofs.YtljimlejcecleaaDoor

/- Simplices: the reference's l10Orders. guards: -/
namespace Go.Proofs.YtljimlejcecleaaDoor
open Go.RowKit

set_option maxHeartbeats 1600000 in
theorem idxL_any (ao : Option Addr) (n c : Nat) (zs : List Int) (x : Int) (w : World) (h : Ints w ao n zs) (hn : n ≤ 1000) :
    Calls Tryd.prog 59 #[.slice ao n c, .int .i64 x] w fun e w' => (∃ k : Int, e = .returned (.int .i64 k) ∧ (decide (0 ≤ k) = decide (x ∈ zs))) ∧ ∃ m, w' = w.drewN m := by
  have HL := Lib.hid h.1
  go_enter Tryd.func59, Tryd.ntmps59
  go_wp2
  go_loopw [5] (fun i wr => ∃ k m : Nat, k ≤ n ∧ i = .int .i64 k ∧ wr = w.drewN m ∧ x ∉ zs.take k) (fun i _ => n - (intOf i).toNat)
  case atStart => exact ⟨0, 0, Nat.zero_le _, rfl, rfl, by simp⟩
  case round =>
    obtain ⟨k, m, hk, rfl, rfl, hni⟩ := hrel
    by_cases hlt : k < n
    · obtain ⟨b, off, rfl, hc⟩ := h.at_ hlt
      have HT := Lib.hid (take_iget (zs := zs) (k := k) (by rw [HL.out]; exact hlt))
      have HM := Lib.hid (iget_mem (zs := zs) (k := k) (by rw [HL.out]; exact hlt))
      have HNI := Lib.hid hni
      clear hni h
      generalize iget zs k = y at *
      by_cases hy : y = x
      · subst hy
        have h1 : (y == y) = true := by simp
        go_wp2
        go_ret
        exact ⟨⟨_, rfl, by rw [decide_eq_true HM.out]; simp⟩, _, rfl⟩
      · have h1 : (y == x) = false := by simp [hy]
        go_wp2
        go_roundw
        case rel => exact ⟨k + 1, _, by omega, by go_num, rfl, by rw [HT.out]; simp; exact ⟨HNI.out, fun e => hy e.symm⟩⟩
        case measure => first | (simp [intOf]; done) | (simp [intOf]; omega)
    · obtain rfl : k = n := by omega
      have HNI := Lib.hid (show x ∉ zs by rw [List.take_of_length_le (Nat.le_of_eq HL.out)] at hni; exact hni)
      clear hni
      go_wp2
      go_ret
      exact ⟨⟨_, rfl, by rw [decide_eq_false HNI.out]; simp⟩, _, rfl⟩
set_option maxHeartbeats 1600000 in
theorem hasL_any (ao : Option Addr) (n c : Nat) (zs : List Int) (x : Int) (w : World) (h : Ints w ao n zs) (hn : n ≤ 1000) :
    Calls Tryd.prog 45 #[.slice ao n c, .int .i64 x] w fun e w' => e = .returned (.bool (decide (x ∈ zs))) ∧ ∃ m, w' = w.drewN m := by
  go_enter Tryd.func45, Tryd.ntmps45
  go_wp2_with fail
  refine (idxL_any ao n c zs x _ h hn).mono ?_
  rintro e w' ⟨⟨k, rfl, hk⟩, m, rfl⟩
  have HK := Lib.hid hk
  clear hk
  go_wp2
  rw [HK.out]
  go_ret
  exact ⟨rfl, _, rfl⟩
/-- what l10Orders answers -/
def OrdAns (w : World) (lo : Nat) (ao : Option Addr) (ds : List (List Int)) (e : Ending) (w' : World) : Prop :=
  ∃ (a2 : Option Addr) (n2 c2 : Nat) (us2 : List Value), e = .returned (.slice a2 n2 c2) ∧ SpF w' lo a2 n2 c2 us2 ds ∧ w.grownBy w' (bk ao) ∧ (bk a2 = bk ao ∨ ∃ g, bk a2 = some g ∧ w.heap.size ≤ g)
theorem grown_on2 {w w4 w5 : World} {ao a2 : Option Addr} (hg : w.grownBy w4 (bk ao)) (hg2 : w4.grownBy w5 (bk a2)) (hat : bk a2 = bk ao ∨ ∃ g, bk a2 = some g ∧ w.heap.size ≤ g) : w.grownBy w5 (bk ao) :=
  ⟨hg2.os.trans hg.os, hg2.tape.trans hg.tape, hg2.output.trans hg.output, Nat.le_trans hg.size hg2.size, fun i hi hne => (hg2.block i (Nat.lt_of_lt_of_le hi hg.size) (fun e => by
    rcases hat with h | ⟨g, h, hge⟩
    · exact hne (by rw [← h]; exact e)
    · rw [h] at e; have := Option.some.inj e; omega)).trans (hg.block i hi hne)⟩
theorem at_on {w w4 : World} {ao a2 a3 : Option Addr} (hs : w.heap.size ≤ w4.heap.size) (h1 : bk a2 = bk ao ∨ ∃ g, bk a2 = some g ∧ w.heap.size ≤ g) (h2 : bk a3 = bk a2 ∨ ∃ g, bk a3 = some g ∧ w4.heap.size ≤ g) : bk a3 = bk ao ∨ ∃ g, bk a3 = some g ∧ w.heap.size ≤ g := by
  rcases h2 with h | ⟨g, h, hg⟩
  · rw [h]; exact h1
  · exact .inr ⟨g, h, by omega⟩
set_option maxRecDepth 100000 in
set_option maxHeartbeats 3200000 in
theorem orders_any (n : Nat) (hn : n ≤ 5) : ∀ (f lo m c k cc : Nat) (a ao : Option Addr) (s : List Int) (us : List Value) (ds : List (List Int)) (w : World), m + f = n → Own w lo 2 a m c (s.map (Value.int .i64)) → SpF w lo ao k cc us ds → lo ≤ w.heap.size → ds.length + (ordGo n f s).length ≤ 1000 →
    Calls Tryd.prog 32 #[.int .i64 n, .slice a m c, .slice ao k cc] w (OrdAns w lo ao (ds ++ ordGo n f s))
  | 0, lo, m, c, k, cc, a, ao, s, us, ds, w, hmf, hs, hsp, hlo, hfew => by
    obtain rfl : m = n := by omega
    have hk := hsp.len
    have hfew2 : ds.length + 1 ≤ 1000 := hfew
    have e1 : ((m : Int) == (m : Int)) = true := by simp
    have HSP := Lib.hid hsp
    have HS := Lib.hid hs
    clear hsp hs hfew
    go_enter Tryd.func32, Tryd.ntmps32
    go_wp2_with (at_builtin; refine wpList_ap1 etSS _ rfl _ _ rfl lo ao k cc _ rfl HSP.out.own (.slice a m c) rfl rfl (by omega) hlo ?_; intro ao2 c2 w4 ho2 hg2 hat)
    have SP := Lib.hid (HSP.out.push HS.out hg2 ho2)
    have HG := Lib.hid hg2
    have HAT := Lib.hid (hat.imp id (fun e => (⟨_, e, Nat.le_succ _⟩ : ∃ g, bk ao2 = some g ∧ w.heap.size ≤ g)))
    clear ho2 hg2 hat
    go_wp2
    go_ret
    exact ⟨ao2, k + 1, c2, _, rfl, SP.out, HG.out, HAT.out⟩
  | f + 1, lo, m, c, k, cc, a, ao, s, us, ds, w, hmf, hs, hsp, hlo, hfew => by
    have IH := orders_any n hn f
    have e1 : ((m : Int) == (n : Int)) = false := by simp; omega
    have HSP := Lib.hid hsp
    have HS := Lib.hid hs
    have hfew2 : ds.length + (ordUp n f s n).length ≤ 1000 := by rw [ordUp_all]; exact hfew
    have HALL := Lib.hid (ordUp_all n f s)
    have hsm : s.length = m := by have := hs.len; simpa using this
    clear hsp hs hfew
    go_enter Tryd.func32, Tryd.ntmps32
    go_wp2_with fail
    go_loopw [2, 7] (fun lv iv wr => ∃ (i k : Nat) (a2 : Option Addr) (c2 : Nat) (us2 : List Value), i ≤ n ∧ lv = .slice a2 k c2 ∧ iv = .int .i64 i ∧ SpF wr lo a2 k c2 us2 (ds ++ ordUp n f s i) ∧ w.grownBy wr (bk ao) ∧ (bk a2 = bk ao ∨ ∃ g, bk a2 = some g ∧ w.heap.size ≤ g)) (fun _ iv _ => n - (intOf iv).toNat)
    case atStart => exact ⟨0, k, ao, cc, us, Nat.zero_le _, rfl, rfl, by simpa [ordUp] using HSP.out, World.grownBy.refl w _, .inl rfl⟩
    case round =>
      obtain ⟨i, k2, a2, c2, us2, hi, rfl, rfl, sp, hg, hat⟩ := hrel
      have hsz := hg.size
      have HS2 := Lib.hid (HS.out.same (w' := wr) fun g eg => hg.block g (HS.out.lt g eg).2 (fun e => own_neT HS.out HSP.out.own (by decide) eg e.symm))
      have SP := Lib.hid sp
      have HG := Lib.hid hg
      have HAT := Lib.hid hat
      clear sp hg hat
      by_cases hlt : i < n
      · by_cases hm : (i : Int) ∈ s
        · have HU := Lib.hid (ordUp_in (n := n) (f := f) (k := i) hm)
          have HD := Lib.hid (decide_eq_true hm)
          clear hm
          go_wp2_with (go_at_call 45; refine (hasL_any a m c s _ _ HS2.out.ints (by omega)).mono ?_; rw [HD.out]; rintro e w' ⟨rfl, m1, rfl⟩)
          go_roundw
          case rel => exact ⟨i + 1, k2, a2, c2, us2, by omega, rfl, by go_num, by rw [HU.out]; exact SP.out.below (below_of_quiet ⟨m1, rfl⟩), grown_tr HG.out grown_drew, HAT.out⟩
          case measure => simp [intOf]; omega
        · have HU := Lib.hid (ordUp_new (n := n) (f := f) (k := i) hm)
          have HD := Lib.hid (decide_eq_false hm)
          have hle := ordUp_le (n := n) (f := f) (s := s) (k := i + 1) (l := n) (by omega)
          rw [HU.out, List.length_append] at hle
          clear hm
          go_wp2_with (go_at_call 45; refine (hasL_any a m c s _ _ HS2.out.ints (by omega)).mono ?_; rw [HD.out]; rintro e w' ⟨rfl, m1, rfl⟩)
          have SP1 := Lib.hid (SP.out.below (w' := wr.drewN m1) (below_of_quiet ⟨m1, rfl⟩))
          have HS3 := Lib.hid (HS2.out.drewN m1)
          have HG1 := Lib.hid (grown_tr HG.out (grown_drew (w := wr) (m := m1)))
          have hz1 : (wr.drewN m1).heap.size = wr.heap.size := rfl
          generalize wr.drewN m1 = w1 at *
          refine (own_any a m c s w1 HS3.out.ints (by omega)).mono ?_
          rintro e w2 ⟨a3, c3, rfl, o3, b3⟩
          have O3 := Lib.hid o3
          have B3 := Lib.hid b3
          have hz2 := b3.size
          have hlo3 := fun g hg => (o3.lt g hg).1
          clear o3 b3
          go_wp2_with (at_builtin; refine wpList_ap1 etI _ rfl _ _ rfl w1.heap.size a3 m c3 _ rfl O3.out (.int .i64 (i : Int)) rfl rfl (by omega) hz2 ?_; intro ao4 c4 w4 ho4 hg4 hat4)
          have B4 := Lib.hid (B3.out.grown hg4 hz2 hlo3)
          have O4 := Lib.hid (show Own w4 lo 2 ao4 (m + 1) c4 ((s ++ [(i : Int)]).map (Value.int .i64)) from by
            have := ho4.mono (show lo ≤ w1.heap.size by omega)
            simpa using this)
          have SP4 := Lib.hid (SP1.out.below B4.out)
          have HG4 := Lib.hid (grown_tr HG1.out (grown_of_below B4.out _))
          have hz4 := B4.out.size
          clear ho4 hg4 hat4 O3 B3 B4 SP1 HS3 HG1
          refine (IH lo (m + 1) c4 k2 c2 ao4 a2 (s ++ [(i : Int)]) us2 (ds ++ ordUp n f s i) w4 (by omega) O4.out SP4.out (by omega) (by rw [List.length_append]; omega)).mono ?_
          rintro e w5 ⟨a5, n5, c5, us5, rfl, sp5, g5, at5⟩
          have SP5 := Lib.hid sp5
          have HG5 := Lib.hid (grown_on2 HG4.out g5 HAT.out)
          have AT5 := Lib.hid (at_on (w := w) (w4 := w4) (by omega) HAT.out at5)
          clear sp5 g5 at5 SP4 HG4 O4
          go_wp2
          go_roundw
          case rel => exact ⟨i + 1, n5, a5, c5, us5, by omega, rfl, by go_num, by rw [HU.out, ← List.append_assoc]; exact SP5.out, HG5.out, AT5.out⟩
          case measure => simp [intOf]; omega
      · obtain rfl : i = n := by omega
        go_wp2
        go_ret
        exact ⟨a2, k2, c2, us2, rfl, by rw [← HALL.out]; exact SP.out, HG.out, HAT.out⟩
end Go.Proofs.YtljimlejcecleaaDoor

/- A maniplex that grows, row by row, in a box of its own. -/
namespace Go.Proofs.YtljimlejcecleaaDoor
open Go.RowKit

/-- the box (bx), its rows from block lo on -/
structure MBx (w wr : World) (bx lo : Nat) (ao : Option Addr) (m c : Nat) (us : List Value) (ds : List (List Int)) : Prop where
  box : Blk wr bx 30 #[.slice ao m c]
  row : OwR (OwS 2) wr lo wr.heap.size 22 ao m c us ds
  at_ : w.heap.size ≤ bx ∧ bx < lo ∧ lo ≤ wr.heap.size
  bel : Below w.heap.size w wr
  few : m ≤ 1000
theorem own_nilMx {E1 E : Nat} {w : World} {lo hi : Nat} : OwM E1 E w lo hi (.agg #[.slice none 0 0]) [] := ⟨none, 0, 0, [], rfl, OwR.empty_ (Own.nil_ _ _ _) (fun g hg => by cases hg)⟩
section
variable {w wr w2 w3 w4 : World} {bx lo m c n1 c1 c2 : Nat} {ao a1 ao2 : Option Addr} {us : List Value} {ds : List (List Int)} {zs : List Int}
theorem MBx.below (st : MBx w wr bx lo ao m c us ds) (b : Below wr.heap.size wr w2) : MBx w w2 bx lo ao m c us ds := by
  obtain ⟨h1, h2, h3⟩ := st.at_
  have s := b.size
  exact ⟨st.box.belowS b, (st.row.below (innerS _) b).mono (Nat.le_refl _) s, ⟨h1, h2, by omega⟩, st.bel.trans (b.mono (by omega)), st.few⟩
theorem MBx.start (hb : Below w.heap.size w wr) (k : Blk wr bx 30 #[.slice none 0 0]) (h1 : w.heap.size ≤ bx) : MBx w wr bx (bx + 1) none 0 0 [] [] := by
  have hl := k.lt
  exact ⟨k, OwR.empty_ (Own.nil_ _ _ _) (fun g hg => by cases hg), ⟨h1, by omega, by omega⟩, hb, by omega⟩
theorem MBx.boxG (st : MBx w wr bx lo ao m c us ds) (hg : wr.grownBy w4 (bk ao)) : Blk w4 bx 30 #[.slice ao m c] := by
  obtain ⟨h1, h2, h3⟩ := st.at_
  unfold Blk
  rw [hg.block bx st.box.lt (fun e => by have := (st.row.own.lt _ e.symm).1; omega)]
  exact st.box
/-- a row is laid behind the others -/
theorem MBx.push (st : MBx w wr bx lo ao m c us ds) (hm : m + 1 ≤ 1000) (b2 : Below wr.heap.size wr w2) (o1 : Own w2 wr.heap.size 2 a1 n1 c1 (zs.map (Value.int .i64))) (b3 : Below w2.heap.size w2 w3) (o4 : Own w4 lo 22 ao2 (m + 1) c2 (us ++ [.slice a1 n1 c1]))
    (g4 : w3.grownBy w4 (bk ao)) (hat : bk ao2 = bk ao ∨ ∃ g, bk ao2 = some g ∧ w2.heap.size ≤ g) :
    MBx w (w4.setCell ⟨bx, 0, none⟩ (.slice ao2 (m + 1) c2)) bx lo ao2 (m + 1) c2 (us ++ [.slice a1 n1 c1]) (ds ++ [zs]) := by
  obtain ⟨h1, h2, h3⟩ := st.at_
  have hR := rows_push2 st.row h3 b2 o1 b3 o4 g4 hat
  have s2 := b2.size
  have s3 := b3.size
  have s4 := g4.size
  have hbx := st.box.lt
  have B4 : Below w.heap.size w w4 := (st.bel.trans ((b2.trans (b3.mono s2)).mono (by omega))).grown g4 (by omega) (fun g hg => by have := (st.row.own.lt g hg).1; omega)
  have hh : (w4.setCell ⟨bx, 0, none⟩ (.slice ao2 (m + 1) c2)).heap.size = w4.heap.size := by simp [World.setCell]
  have k : ∀ g, g < wr.heap.size → bk ao ≠ some g → w4.heap[g]? = wr.heap[g]? := fun g hg hne => by
    rw [g4.block g (by omega) (fun e => hne e.symm), b3.block g (by omega), b2.block g hg]
  refine ⟨?_, ?_, ⟨h1, h2, by rw [hh]; omega⟩, B4.setCell (by simp; omega) _, hm⟩
  · have : Blk w4 bx 30 #[.slice ao m c] := by unfold Blk; rw [k bx hbx (fun e => by have := (st.row.own.lt _ e).1; omega)]; exact st.box
    simpa using this.set_ 0 (.slice ao2 (m + 1) c2)
  · rw [hh]
    exact hR.same (innerS _) fun g h1 _ _ => Below.heap_setCell _ _ _ _ (by simp; omega)
theorem MBx.done (st : MBx w wr bx lo ao m c us ds) {p : Addr} (hp : p.block < bx) (u : Value) {lo' : Nat} (hl : lo' ≤ w.heap.size) : OwM 2 22 (wr.setCell p u) lo' (wr.setCell p u).heap.size (.agg #[.slice ao m c]) ds := by
  obtain ⟨h1, h2, h3⟩ := st.at_
  have hh : (wr.setCell p u).heap.size = wr.heap.size := by simp [World.setCell]
  refine ⟨ao, m, c, us, rfl, ?_⟩
  rw [hh]
  exact (st.row.same (innerS _) fun g h1 _ _ => Below.heap_setCell _ _ _ _ (by omega)).mono (by omega) (Nat.le_refl _)
theorem MBx.cell (st : MBx w wr bx lo ao m c us ds) : wr.cell? ⟨bx, 0, none⟩ = some (.slice ao m c) := by
  have := st.box.cell 0
  simpa using this
end
end Go.Proofs.YtljimlejcecleaaDoor

/- Groups of permutations: the reference's l01Group, walked. -/
namespace Go.Proofs.YtljimlejcecleaaDoor
open Go.RowKit

theorem SpF.intss {w : World} {lo n c : Nat} {ao : Option Addr} {us : List Value} {ds : List (List Int)} (h : SpF w lo ao n c us ds) : Intss w ao n ds := by
  refine ⟨h.len, by have := h.own.2; omega, fun hn => ?_⟩
  obtain ⟨g, a, m, k, rfl, -, -, -⟩ := h.at_ hn
  refine ⟨g, 0, rfl, fun j hj => ?_⟩
  obtain ⟨g', a, m, k, e, hc, hu, ho⟩ := h.at_ hj
  injection e with e; injection e with e; subst e
  exact ⟨_, by rw [Nat.zero_add]; exact hc, a, m, k, rfl, ho.ints⟩
end Go.Proofs.YtljimlejcecleaaDoor

/- The program's within, in names. -/
namespace Go.Proofs.YtljimlejcecleaaDoor
open Go.RowKit

end Go.Proofs.YtljimlejcecleaaDoor

/- Simplices, the reference's. guards: -/
namespace Go.Proofs.YtljimlejcecleaaDoor
open Go.RowKit

theorem map_swp {p : List Int} {i : Nat} : ((p.map (Value.int .i64)).set i (.int .i64 (iget p (i + 1)))).set (i + 1) (.int .i64 (iget p i)) = (swpP p i).map (Value.int .i64) := by
  unfold swpP; rw [← List.map_set, ← List.map_set]
set_option maxRecDepth 100000 in
set_option maxHeartbeats 6400000 in
theorem specSimplex_any (n : Nat) (h1 : 1 ≤ n) (h4 : n ≤ 4) (w : World) :
    Calls Tryd.prog 21 #[.int .i64 n] w fun e w' => ∃ r, e = .returned r ∧ OwM 2 22 w' w.heap.size w'.heap.size r (sxL n) ∧ Below w.heap.size w w' := by
  obtain ⟨ss, hsse⟩ : ∃ ss, sxO n = ss := ⟨_, rfl⟩
  have HSS := Lib.hid hsse
  have SX := sx_ok h1 h4
  have hfew : ss.length ≤ 120 := by rw [← hsse]; exact SX.few
  have HASC := Lib.hid (show AscL ss by rw [← hsse]; exact SX.asc)
  have HPT := Lib.hid (show ∀ z ∈ ss, Pts (n + 1) z by rw [← hsse]; exact SX.pts)
  have HME := Lib.hid (show ∀ z ∈ ss, ∀ i, i < n → swpP z i ∈ ss by rw [← hsse]; exact SX.mem)
  have HOR := Lib.hid (show ordGo (n + 1) (n + 1) [] = ss from hsse)
  clear SX hsse
  have b1 := below_alloc1 w (.cells #[.slice none 0 0] 30)
  have kr1 : Blk (w.alloc (.cells #[.slice none 0 0] 30)) w.heap.size 30 #[.slice none 0 0] := blk_at rfl
  have hz1 : w.heap.size < (w.alloc (.cells #[.slice none 0 0] 30)).heap.size := by simp
  go_enter Tryd.func21, Tryd.ntmps21
  go_upto_region 1 with fail
  generalize w.alloc (.cells #[.slice none 0 0] 30) = w1 at *
  have hE1 : Own (w1.alloc (.cells #[] 2)) w.heap.size 2 (some ⟨w1.heap.size, 0, none⟩) 0 0 [] := Own.empty_ w1 2 (by omega)
  have hE2 := hE1.alloc (.cells #[] 22)
  have hF2 : Own ((w1.alloc (.cells #[] 2)).alloc (.cells #[] 22)) w.heap.size 22 (some ⟨(w1.alloc (.cells #[] 2)).heap.size, 0, none⟩) 0 0 [] := Own.empty_ _ 22 (by simp; omega)
  rw [show (w1.alloc (.cells #[] 2)).heap.size = w1.heap.size + 1 by simp] at hF2
  have b2 := below_alloc2 w1 (.cells #[] 2) (.cells #[] 22)
  have B2 := Lib.hid (b1.trans (b2.mono (show w.heap.size ≤ w1.heap.size by omega)))
  have KR2 := Lib.hid (kr1.belowS b2)
  have hz2 : w1.heap.size + 1 < ((w1.alloc (.cells #[] 2)).alloc (.cells #[] 22)).heap.size := by simp
  have E2 := Lib.hid hE2
  have F2 := Lib.hid hF2
  clear b1 kr1 b2 hE1 hE2 hF2
  have hA := Lib.hid (fun w2 (E : Own w2 w.heap.size 2 (some ⟨w1.heap.size, 0, none⟩) 0 0 []) (F : Own w2 w.heap.size 22 (some ⟨w1.heap.size + 1, 0, none⟩) 0 0 []) (hz : w.heap.size ≤ w2.heap.size) => by
    have := orders_any (n + 1) (by omega) (n + 1) w.heap.size 0 0 0 0 (some ⟨w1.heap.size, 0, none⟩) (some ⟨w1.heap.size + 1, 0, none⟩) [] [] [] w2 (by omega) E ⟨F, rfl, fun j u d hu _ => by simp at hu⟩ hz (by rw [HOR.out, List.length_nil]; omega)
    rw [HOR.out, List.nil_append, show ((n + 1 : Nat) : Int) = (n : Int) + 1 by omega] at this
    exact this)
  go_wp2_with fail
  generalize (w1.alloc (.cells #[] 2)).alloc (.cells #[] 22) = w2 at *
  refine (hA.out w2 E2.out F2.out (by omega)).mono ?_
  rintro e w3 ⟨ga, gm, gc, us3, rfl, sp3, g3, -⟩
  have hgl := sp3.len
  have hz3 := g3.size
  have hr3 : w.heap.size < w1.heap.size := by omega
  have KR3 := Lib.hid (show Blk w3 w.heap.size 30 #[.slice none 0 0] from by
    unfold Blk; rw [g3.block w.heap.size (by omega) (fun e => by simp [bk] at e; omega)]; exact KR2.out)
  have B3 := Lib.hid (B2.out.grown g3 (by omega) (fun g e => by simp [bk] at e; omega))
  have SP3 := Lib.hid sp3
  clear sp3 g3 hA E2 F2 KR2 B2
  have b7 := (Below.refl w3.heap.size w3).alloc (Nat.le_refl _) (.cells #[.slice none 0 0] 30)
  have ST := Lib.hid (MBx.start (w := w3) b7 (Blk.new w3 30 #[.slice none 0 0]) (Nat.le_refl _))
  clear b7
  go_upto_region 2 with fail
  generalize w3.alloc (.cells #[.slice none 0 0] 30) = w7 at *
  obtain ⟨bx, hbx⟩ : ∃ bx, w3.heap.size = bx := ⟨_, rfl⟩
  have HBX := Lib.hid hbx
  rw [hbx] at ST ⊢
  clear hbx
  go_wp2_with fail
  go_loopw [5] (fun kv wr => ∃ (k : Nat) (ao : Option Addr) (c : Nat) (us : List Value), kv = .int .i64 k ∧ k ≤ n ∧ MBx w3 wr bx (bx + 1) ao k c us ((sxL n).take k)) (fun kv _ => n - (intOf kv).toNat)
  case atStart => exact ⟨0, none, 0, [], rfl, Nat.zero_le _, ST.out⟩
  case round =>
    clear ST
    obtain ⟨k, am, cm, um, rfl, hk, st⟩ := hrel
    obtain ⟨wA, rfl⟩ : ∃ x, x = wr := ⟨_, rfl⟩
    by_cases hlt : k < n
    · have ST := Lib.hid st
      have hbw := st.bel
      have hzr := hbw.size
      have hE : Own (wA.alloc (.cells #[] 2)) wA.heap.size 2 (some ⟨wA.heap.size, 0, none⟩) 0 0 [] := Own.empty_ wA 2 (Nat.le_refl _)
      have hB := below_alloc1 wA (.cells #[] 2)
      clear st
      go_wp2_with fail
      go_loopw [6, 7] (fun sv iv w8 => ∃ (i : Nat) (a : Option Addr) (cc : Nat), i ≤ gm ∧ sv = .slice a i cc ∧ iv = .int .i64 i ∧ Own w8 wA.heap.size 2 a i cc ((sxRow ss k i).map (Value.int .i64)) ∧ Below wA.heap.size wA w8) (fun _ iv _ => gm - (intOf iv).toNat)
      case atStart => exact ⟨0, _, _, Nat.zero_le _, rfl, rfl, by simpa [sxRow] using hE, hB⟩
      case round =>
        clear hE hB
        obtain ⟨i, a, cc, hi, rfl, rfl, ho, hb8⟩ := hrel
        obtain ⟨w8, rfl⟩ : ∃ x, x = wr := ⟨_, rfl⟩
        have HBW := Lib.hid (hbw.trans (hb8.mono hzr))
        have HO8 := Lib.hid ho
        have hsz8 := hb8.size
        have SP8 := Lib.hid (SP3.out.below HBW.out)
        clear ho
        by_cases hlti : i < gm
        · obtain ⟨g1, a1, n1, c1, rfl, hc1, -, ho1⟩ := SP8.out.at_ hlti
          obtain ⟨p, hpe⟩ : ∃ p, lget ss i = p := ⟨_, rfl⟩
          have hpm : p ∈ ss := by rw [← hpe]; exact lget_mem (by omega)
          have hp1 := HPT.out p hpm
          have hq := HME.out p hpm k hlt
          have hrw := sxRow_succ (ss := ss) (i := k) (k := i) (by omega)
          rw [hpe] at ho1 hrw
          have hn1 : n1 = n + 1 := by have := ho1.len; rw [List.length_map, hp1.1] at this; exact this.symm
          subst hn1
          obtain ⟨q, hqe⟩ : ∃ q, swpP p k = q := ⟨_, rfl⟩
          rw [hqe] at hq hrw
          have HQE := Lib.hid hqe
          have HQ := Lib.hid hq
          have HRW := Lib.hid hrw
          have HO1 := Lib.hid ho1
          have HPE := Lib.hid hpe
          clear hpe hqe hq hrw ho1 hpm
          go_wp2_with fail
          refine (own_any a1 (n + 1) c1 p w8 HO1.out.ints (by omega)).mono ?_
          rintro e w10 ⟨a4, c4, rfl, o10, b10⟩
          obtain ⟨g4, rfl, hg4b, hg4l, -, hcell4, hfr4⟩ := o10.form (by omega)
          have hc10 : w10.cell? ⟨g1, i, none⟩ = some (.slice a1 (n + 1) c1) := (b10.cell (p := ⟨g1, i, none⟩) (World.block_lt_of_cell? w8 _ hc1)).trans hc1
          have hg1l := World.block_lt_of_cell? w8 _ hc1
          obtain ⟨g3, rfl, hg3b, hg3l, -, -, -⟩ := HO1.out.form (by omega)
          obtain ⟨g3', e3, -, -, -, hcell3, -⟩ := (HO1.out.below b10).form (by omega)
          injection e3 with e3; injection e3 with e3; subst e3
          have hpl : p.length = n + 1 := hp1.1
          have row : ∀ j, j < n + 1 → w10.cell? ⟨g3, j, none⟩ = some (.int .i64 (iget p j)) := fun j hj => by rw [hcell3 j hj, List.getElem?_map, List.getElem?_eq_getElem (by omega), iget_lt (by omega)]; rfl
          have x1 := row k (by omega)
          have x2 := row (k + 1) (by omega)
          have y1 : w10.cell? ⟨g4, k, none⟩ = some (.int .i64 (iget p k)) := by rw [hcell4 k (by omega), List.getElem?_map, List.getElem?_eq_getElem (by omega), iget_lt (by omega)]; rfl
          have f1 := hfr4 k
          obtain ⟨st1, sg1⟩ := o10.stored k (.int .i64 (iget p (k + 1)))
          have B11 := Lib.hid (b10.grown sg1 b10.size (fun g e => by injection e with e; omega))
          have O11 := Lib.hid st1
          have hi0 : (i : Int) < (gm : Int) := by omega
          clear st1 sg1 o10 hcell3 hcell4 row HO1
          go_upto_region 11 with fail
          have c11 : (w10.setCell ⟨g4, k, none⟩ (.int .i64 (iget p (k + 1)))).cell? ⟨g1, i, none⟩ = some (.slice (some ⟨g3, 0, none⟩) (n + 1) c1) := (World.cell?_setCell_other _ _ _ _ (by simp <;> omega)).trans hc10
          have x11 : (w10.setCell ⟨g4, k, none⟩ (.int .i64 (iget p (k + 1)))).cell? ⟨g3, k, none⟩ = some (.int .i64 (iget p k)) := (World.cell?_setCell_other _ _ _ _ (by simp <;> omega)).trans x1
          clear hc10 x1 x2 y1 f1 hfr4 b10
          generalize w10.setCell ⟨g4, k, none⟩ (.int .i64 (iget p (k + 1))) = w11 at *
          obtain ⟨g4', e4, -, -, -, hcell4, hfr4⟩ := O11.out.form (by omega)
          injection e4 with e4; injection e4 with e4; subst e4
          obtain ⟨u4, y2⟩ : ∃ u, w11.cell? ⟨g4, k + 1, none⟩ = some u := ⟨_, by rw [hcell4 (k + 1) (by omega), List.getElem?_eq_getElem (by simp; omega)]⟩
          have f2 := hfr4 (k + 1)
          obtain ⟨st2, sg2⟩ := O11.out.stored (k + 1) (.int .i64 (iget p k))
          have B12 := Lib.hid (B11.out.grown sg2 B11.out.size (fun g e => by injection e with e; omega))
          rw [map_swp, HQE.out] at st2
          have O12 := Lib.hid st2
          clear st2 sg2 B11 O11 hcell4 hfr4
          go_upto_region 12 with fail
          generalize w11.setCell ⟨g4, k + 1, none⟩ (.int .i64 (iget p k)) = w12 at *
          clear c11 x11 y2 f2
          have HB12 := Lib.hid (HBW.out.trans (B12.out.mono HBW.out.size))
          have HO12 := Lib.hid (HO8.out.below B12.out)
          have hb12 := Lib.hid (hb8.trans (B12.out.mono hsz8))
          have hsz12 := B12.out.size
          go_wp2_with fail
          go_loopw [9] (fun tv w13 => ∃ t : Nat, tv = .int .i64 t ∧ t ≤ lowL ss q ∧ Below w12.heap.size w12 w13) (fun tv _ => gm - (intOf tv).toNat)
          case atStart => exact ⟨0, rfl, Nat.zero_le _, Below.refl _ _⟩
          case round =>
            obtain ⟨t, rfl, ht, hb13⟩ := hrel
            obtain ⟨w13, rfl⟩ : ∃ x, x = wr := ⟨_, rfl⟩
            obtain ⟨hf1, hf2⟩ := low_first HASC.out HQ.out ht
            have htg : t < gm := by omega
            have HB13 := Lib.hid (HB12.out.trans (hb13.mono HB12.out.size))
            obtain ⟨g5, a5, n5, c5, e5, hc5, -, ho5⟩ := (SP3.out.below HB13.out).at_ htg
            injection e5 with e5; injection e5 with e5; subst e5
            have HI5 := Lib.hid ho5.ints
            have hsz13 := hb13.size
            have ht0 : (t : Int) < (gm : Int) := by omega
            clear ho5
            by_cases hte : t = lowL ss q
            · have HD := Lib.hid (hf1.2 hte)
              have HO13 := Lib.hid (HO12.out.below hb13)
              have hb14 := Lib.hid (hb12.out.trans (hb13.mono hb12.out.size))
              have hz14 := hb14.out.size
              have hlo := fun g hg => (HO13.out.lt g hg).1
              have hte' := Lib.hid hte
              have O13 := Lib.hid (O12.out.below hb13)
              clear hte hf1 O12 HO12 hb12
              go_wp2_with (first | (go_at_call 34; refine (same_any _ _ n5 (n + 1) c5 c4 (lget ss t) q _ HI5.out O13.out.ints).mono ?_; rw [HD.out]; rintro e w' ⟨rfl, m1, rfl⟩) | (at_builtin; refine wpList_ap1 etI _ rfl _ _ rfl wA.heap.size a i cc _ rfl (HO13.out.drewN _) (.int .i64 (t : Int)) rfl rfl (by omega) hz14 ?_; intro ao2 c2' w4 ho2 hg2 hblk))
              have HO2 := Lib.hid ho2
              have hb15 := (below_drewN hb14.out m1).grown hg2 hz14 hlo
              clear ho2 hblk hg2
              go_wp2
              go_roundw
              case rel => exact ⟨i + 1, ao2, c2', by omega, rfl, by go_num, by rw [HRW.out, ← hte'.out, List.map_append]; exact HO2.out, hb15⟩
              case measure => simp [intOf]; omega
            · have HD := Lib.hid (show decide (lget ss t = q) = false from by
                cases hd : decide (lget ss t = q) with
                | false => rfl
                | true => exact absurd (hf1.1 hd) hte)
              have O13 := Lib.hid (O12.out.below hb13)
              go_wp2_with (go_at_call 34; refine (same_any _ _ n5 (n + 1) c5 c4 (lget ss t) q _ HI5.out O13.out.ints).mono ?_; rw [HD.out]; rintro e w' ⟨rfl, m1, rfl⟩)
              go_roundw
              case rel => exact ⟨t + 1, by go_num, by omega, below_drewN hb13 m1⟩
              case measure => simp [intOf]; omega
        · obtain rfl : i = gm := by omega
          have hzs : (sxL n).take (k + 1) = (sxL n).take k ++ [sxRow ss k i] := by rw [sxL_take hlt, HSS.out, hgl]
          have HZS := Lib.hid hzs
          have STB := Lib.hid (ST.out.below hb8)
          have xb := STB.out.cell
          have hlo8 := STB.out.at_.2.2
          clear hzs
          go_wp2_with (at_builtin; refine wpList_ap1 etSS _ rfl _ _ rfl (bx + 1) am k cm _ rfl STB.out.row.own (.slice a i cc) rfl rfl (by omega) hlo8 ?_; intro ao2 c2' w4 ho2 hg2 hat; have x4 := (STB.out.boxG hg2).cell 0; have f4 := (STB.out.boxG hg2).frozen 0)
          have SP := Lib.hid (ST.out.push (by omega) hb8 HO8.out (Below.refl _ _) ho2 hg2 (hat.imp id fun e => ⟨_, e, Nat.le_succ _⟩))
          clear ho2 hg2 hat STB ST
          go_roundw
          case rel => exact ⟨k + 1, ao2, c2', _, by go_num, by omega, by rw [HZS.out]; exact SP.out⟩
          case measure => simp [intOf]; omega
    · obtain rfl : k = n := by omega
      have hall : (sxL k).take k = sxL k := List.take_of_length_le (by simp [sxL])
      rw [hall] at st
      have xb := st.cell
      have KRr := KR3.out.belowS st.bel
      have xr := KRr.cell 0
      have fr := KRr.frozen 0
      have BF := Lib.hid (B3.out.trans (st.bel.mono (by omega)))
      have ST := Lib.hid st
      have hzf : w.heap.size ≤ w3.heap.size := by omega
      simp at xr
      clear st
      go_wp2
      have hfl : w.heap.size < bx := by rw [← HBX.out]; omega
      exact bodyPost_ret (v := .agg #[.slice am k cm]) (by simp [results, Tryd.f21, go_sem, xr]) rfl ⟨_, rfl, ST.out.done hfl _ hzf, BF.out.setCell (by simp) _⟩
set_option maxHeartbeats 1600000 in
theorem api_specSx (n : Int) (w : World) :
    Calls Tryd.prog 10 #[.int .i64 n] w fun e w' => ∃ r, e = .returned (.tuple #[r, .int .i64 (sxC n)]) ∧ OwM 2 22 w' w.heap.size w'.heap.size r (sxR n) ∧ Below w.heap.size w w' := by
  have b1 := below_alloc1 w (.cells #[.slice none 0 0] 30)
  have kr1 : Blk (w.alloc (.cells #[.slice none 0 0] 30)) w.heap.size 30 #[.slice none 0 0] := blk_at rfl
  unfold sxC sxR
  cases hn : inB n 1 4 with
  | false =>
    have HN := Lib.hid hn
    clear hn
    go_enter Tryd.func10, Tryd.ntmps10
    go_wp2_with (go_at_call 20; refine (specIn_any _ _ _ _).mono ?_; rintro e w' ⟨rfl, rfl⟩; rw [HN.out])
    exact bodyPost_ret (v := .tuple #[.agg #[.slice none 0 0], .int .i64 2]) (by simp [results, Tryd.f10, go_sem]) rfl ⟨_, rfl, own_nilMx, b1⟩
  | true =>
    have HN := Lib.hid hn
    rw [inB_true] at hn
    obtain ⟨k, rfl⟩ := Int.eq_ofNat_of_zero_le (show 0 ≤ n by omega)
    have hk1 : 1 ≤ k := by omega
    have hk4 : k ≤ 4 := by omega
    clear hn
    rw [if_pos rfl, if_pos rfl, Int.toNat_natCast]
    go_enter Tryd.func10, Tryd.ntmps10
    go_wp2_with (go_at_call 20; refine (specIn_any _ _ _ _).mono ?_; rintro e w' ⟨rfl, rfl⟩; rw [HN.out])
    have hz1 := b1.size
    generalize w.alloc (.cells #[.slice none 0 0] 30) = w1 at *
    refine (specSimplex_any k hk1 hk4 w1).mono ?_
    rintro e w9 ⟨r9, rfl, o9, b9⟩
    have KR9 := Lib.hid (kr1.belowS b9)
    have x9 := KR9.out.cell 0
    have f9 := KR9.out.frozen 0
    have BF := Lib.hid (b1.trans (b9.mono hz1))
    have hl := kr1.lt
    obtain ⟨a9, n9, c9, us9, rfl, or9⟩ := o9
    have OR9 := Lib.hid or9
    simp at x9
    clear b9 or9
    go_wp2
    have hzz : (w9.setCell ⟨w.heap.size, 0, none⟩ (.slice a9 n9 c9)).heap.size = w9.heap.size := by simp [World.setCell]
    exact bodyPost_ret (v := .tuple #[.agg #[.slice a9 n9 c9], .int .i64 0]) (by simp [results, Tryd.f10, go_sem, x9]) rfl ⟨_, rfl, ⟨a9, n9, c9, us9, rfl, by rw [hzz]; exact (OR9.out.same (innerS _) fun g h1 _ _ => Below.heap_setCell _ _ _ _ (by simp; omega)).mono (by omega) (Nat.le_refl _)⟩, BF.out.setCell (by simp) _⟩
end Go.Proofs.YtljimlejcecleaaDoor

/- Groups of permutations, the program's: slices.Compare at two lists of one length. guards: -/
namespace Go.Proofs.YtljimlejcecleaaDoor
open Go.RowKit

def cmpI (x y : Int) : Int := if x < y then -1 else if y < x then 1 else 0
def cmpL (a b : List Int) : Int := if ltL a b = true then -1 else if ltL b a = true then 1 else 0
theorem isNaN_any (x : Int) (w : World) : Calls Tryd.prog 86 #[.int .i64 x] w fun e w' => e = .returned (.bool false) ∧ ∃ m, w' = w.drewN m := by
  have h : (x != x) = false := by simp
  go_enter Tryd.func86, Tryd.ntmps86
  go_wp2
  go_ret
  exact ⟨rfl, 0, rfl⟩
set_option maxHeartbeats 1600000 in
theorem cmpInt_any (x y : Int) (w : World) : Calls Tryd.prog 62 #[.int .i64 x, .int .i64 y] w fun e w' => e = .returned (.int .i64 (cmpI x y)) ∧ ∃ m, w' = w.drewN m := by
  obtain ⟨V, hV⟩ : ∃ V, V = cmpI x y := ⟨_, rfl⟩
  rw [← hV]
  have HV := Lib.hid hV
  clear hV
  rcases Int.lt_trichotomy x y with h | h | h
  · have e : V = -1 := by rw [HV.out]; unfold cmpI; rw [if_pos h]
    subst e
    have h1 : decide (x < y) = true := by simp [h]
    go_enter Tryd.func62, Tryd.ntmps62
    go_wp2_with (go_at_call 86; refine (isNaN_any _ _).mono ?_; rintro e w' ⟨rfl, m, rfl⟩)
    go_ret
    exact ⟨rfl, _, rfl⟩
  · subst h
    have e : V = 0 := by rw [HV.out]; unfold cmpI; rw [if_neg (by omega), if_neg (by omega)]
    subst e
    have h1 : decide (x < x) = false := by simp
    go_enter Tryd.func62, Tryd.ntmps62
    go_wp2_with (go_at_call 86; refine (isNaN_any _ _).mono ?_; rintro e w' ⟨rfl, m, rfl⟩)
    go_ret
    exact ⟨rfl, _, rfl⟩
  · have e : V = 1 := by rw [HV.out]; unfold cmpI; rw [if_neg (by omega), if_pos h]
    subst e
    have h1 : decide (x < y) = false := by simp; omega
    have h2 : decide (y < x) = true := by simp [h]
    go_enter Tryd.func62, Tryd.ntmps62
    go_wp2_with (go_at_call 86; refine (isNaN_any _ _).mono ?_; rintro e w' ⟨rfl, m, rfl⟩)
    go_ret
    exact ⟨rfl, _, rfl⟩
theorem cmpL_step {x y : List Int} {n k : Nat} (hx : x.length = n) (hy : y.length = n) (hk : k < n) : cmpL (x.drop k) (y.drop k) = if iget x k = iget y k then cmpL (x.drop (k + 1)) (y.drop (k + 1)) else cmpI (iget x k) (iget y k) := by
  unfold cmpL
  rw [ltL_step hx hy hk, ltL_step hy hx hk]
  unfold cmpI
  rcases Int.lt_trichotomy (iget x k) (iget y k) with h | h | h
  · simp [h, show ¬ iget x k = iget y k by omega]
  · rw [h]; simp
  · simp [h, show ¬ iget x k = iget y k by omega, show ¬ iget x k < iget y k by omega]
theorem cmpI_ne {x y : Int} (h : x ≠ y) : (cmpI x y != 0) = true := by
  unfold cmpI
  split
  · rfl
  · split
    · rfl
    · exact absurd (by omega : x = y) h
set_option maxHeartbeats 1600000 in
theorem compare_any (a b : Option Addr) (n ca cb : Nat) (x y : List Int) (w : World) (ha : Ints w a n x) (hb : Ints w b n y) :
    Calls Tryd.prog 47 #[.slice a n ca, .slice b n cb] w fun e w' => e = .returned (.int .i64 (cmpL x y)) ∧ ∃ m, w' = w.drewN m := by
  have hla := ha.2.1
  have hx := ha.1
  have hy := hb.1
  obtain ⟨V, hV⟩ : ∃ V, V = cmpL x y := ⟨_, rfl⟩
  have H0 : V = cmpL (x.drop 0) (y.drop 0) := by rw [hV]; rfl
  rw [← hV]
  clear hV
  go_enter Tryd.func47, Tryd.ntmps47
  go_wp2
  go_loopw [11] (fun i wr => ∃ k m : Nat, k ≤ n ∧ i = .int .i64 k ∧ wr = w.drewN m ∧ V = cmpL (x.drop k) (y.drop k)) (fun i _ => n - (intOf i).toNat)
  case atStart => exact ⟨0, 0, Nat.zero_le _, rfl, rfl, H0⟩
  case round =>
    clear H0
    obtain ⟨k, m, hk, rfl, rfl, hv⟩ := hrel
    by_cases hlt : k < n
    · obtain ⟨ba, oa, rfl, hca⟩ := ha.at_ hlt
      obtain ⟨bb, ob, rfl, hcb⟩ := hb.at_ hlt
      rw [cmpL_step hx hy hlt] at hv
      have HV := Lib.hid hv
      clear hv ha hb
      generalize iget x k = p at *
      generalize iget y k = q at *
      by_cases hpq : p = q
      · have HV2 := Lib.hid (show V = cmpL (x.drop (k + 1)) (y.drop (k + 1)) by rw [HV.out, if_pos hpq])
        subst hpq
        have hc : cmpI p p = 0 := by unfold cmpI; rw [if_neg (by omega), if_neg (by omega)]
        have HC := Lib.hid hc
        clear hc
        go_wp2_with (go_at_call 62; refine (cmpInt_any _ _ _).mono ?_; rw [HC.out]; rintro e w' ⟨rfl, m2, rfl⟩)
        go_roundw
        case rel => exact ⟨k + 1, _, by omega, by go_num, rfl, HV2.out⟩
        case measure => first | (simp [intOf]; done) | (simp [intOf]; omega)
      · have HV2 := Lib.hid (show V = cmpI p q by rw [HV.out, if_neg hpq])
        have hne := cmpI_ne hpq
        go_wp2_with (go_at_call 62; refine (cmpInt_any _ _ _).mono ?_; rw [← HV2.out] at hne ⊢; rintro e w' ⟨rfl, m2, rfl⟩)
        go_ret
        exact ⟨rfl, _, rfl⟩
    · obtain rfl : k = n := by omega
      have hv2 : V = 0 := by rw [hv, List.drop_of_length_le (by omega), List.drop_of_length_le (by omega)]; rfl
      subst hv2
      clear hv
      go_wp2
      go_ret
      exact ⟨rfl, _, rfl⟩
end Go.Proofs.YtljimlejcecleaaDoor

/- Contracts of Go's library at this program, out of the kit's shelf (written by its tools lay-shelf and lay-plain, cut to what is used by shelf.py). -/
namespace Go.Proofs
open Go.Shelf
def Tryd.laysM176_ren : Go.Shelf.Ren := ⟨fun | 176 => 48 | 249 => 63 | 288 => 87 | 283 => 98 | 284 => 99 | 285 => 100 | 286 => 101 | 129 => 85 | 317 => 112 | 318 => 113 | 319 => 114 | 320 => 115 | 337 => 117 | 338 => 118 | n => n, fun | 37 => 58 | 2 => 2 | 3 => 3 | 53 => 93 | 4 => 4 | 9 => 9 | 171 => 119 | 0 => 0 | 173 => 121 | 212 => 142 | 51 => 109 | 5 => 5 | 20 => 20 | 213 => 143 | 46 => 86 | 232 => 148 | 233 => 149 | n => n, fun | 17 => 5 | 18 => 6 | 19 => 7 | n => n⟩
theorem Tryd.laysM176 : Go.Proofs.LaysM.n176 Tryd.prog Tryd.laysM176_ren := {
  mixed := by kernel_rfl
  f129 := Tryd.func85.trans (congrArg some (by kernel_rfl))
  f176 := Tryd.func48.trans (congrArg some (by kernel_rfl))
  f249 := Tryd.func63.trans (congrArg some (by kernel_rfl))
  f283 := Tryd.func98.trans (congrArg some (by kernel_rfl))
  f284 := Tryd.func99.trans (congrArg some (by kernel_rfl))
  f285 := Tryd.func100.trans (congrArg some (by kernel_rfl))
  f286 := Tryd.func101.trans (congrArg some (by kernel_rfl))
  f288 := Tryd.func87.trans (congrArg some (by kernel_rfl))
  f317 := Tryd.func112.trans (congrArg some (by kernel_rfl))
  f318 := Tryd.func113.trans (congrArg some (by kernel_rfl))
  f319 := Tryd.func114.trans (congrArg some (by kernel_rfl))
  f320 := Tryd.func115.trans (congrArg some (by kernel_rfl))
  f337 := Tryd.func117.trans (congrArg some (by kernel_rfl))
  f338 := Tryd.func118.trans (congrArg some (by kernel_rfl))
  t0 := Tryd.underlying0
  a0 := Tryd.isAgg0
  z0 := Tryd.sizeOf0
  v0 := Tryd.zeroValue0
  t2 := Tryd.underlying2
  a2 := Tryd.isAgg2
  z2 := Tryd.sizeOf2
  v2 := Tryd.zeroValue2
  t3 := Tryd.underlying3
  a3 := Tryd.isAgg3
  z3 := Tryd.sizeOf3
  v3 := Tryd.zeroValue3
  t4 := Tryd.underlying4
  a4 := Tryd.isAgg4
  z4 := Tryd.sizeOf4
  v4 := Tryd.zeroValue4
  t5 := Tryd.underlying5
  a5 := Tryd.isAgg5
  z5 := Tryd.sizeOf5
  v5 := Tryd.zeroValue5
  t9 := Tryd.underlying9
  a9 := Tryd.isAgg9
  z9 := Tryd.sizeOf9
  v9 := Tryd.zeroValue9
  t20 := Tryd.underlying20
  a20 := Tryd.isAgg20
  z20 := Tryd.sizeOf20
  v20 := Tryd.zeroValue20
  t37 := Tryd.underlying58
  a37 := Tryd.isAgg58
  z37 := Tryd.sizeOf58
  v37 := Tryd.zeroValue58
  t46 := Tryd.underlying86
  a46 := Tryd.isAgg86
  z46 := Tryd.sizeOf86
  v46 := Tryd.zeroValue86
  t51 := Tryd.underlying109
  a51 := Tryd.isAgg109
  z51 := Tryd.sizeOf109
  v51 := Tryd.zeroValue109
  t53 := Tryd.underlying93
  a53 := Tryd.isAgg93
  z53 := Tryd.sizeOf93
  v53 := Tryd.zeroValue93
  t171 := Tryd.underlying119
  a171 := Tryd.isAgg119
  z171 := Tryd.sizeOf119
  v171 := Tryd.zeroValue119
  t173 := Tryd.underlying121
  a173 := Tryd.isAgg121
  z173 := Tryd.sizeOf121
  v173 := Tryd.zeroValue121
  t212 := Tryd.underlying142
  a212 := Tryd.isAgg142
  z212 := Tryd.sizeOf142
  v212 := Tryd.zeroValue142
  t213 := Tryd.underlying143
  a213 := Tryd.isAgg143
  z213 := Tryd.sizeOf143
  t232 := Tryd.underlying148
  a232 := Tryd.isAgg148
  z232 := Tryd.sizeOf148
  v232 := Tryd.zeroValue148
  t233 := Tryd.underlying149
  a233 := Tryd.isAgg149
  z233 := Tryd.sizeOf149
  v233 := Tryd.zeroValue149
  g17 := by kernel_rfl
  g18 := by kernel_rfl
  g19 := by kernel_rfl
  i0 := by kernel_rfl
  i2 := by kernel_rfl
  i3 := by kernel_rfl
  i4 := by kernel_rfl
  i5 := by kernel_rfl
  i9 := by kernel_rfl
  i20 := by kernel_rfl
  i37 := by kernel_rfl
  i46 := by kernel_rfl
  i51 := by kernel_rfl
  i53 := by kernel_rfl
  i171 := by kernel_rfl
  i173 := by kernel_rfl
  i212 := by kernel_rfl
  i232 := by kernel_rfl
  i233 := by kernel_rfl
  m17 := by kernel_rfl
  m18 := by kernel_rfl
  m19 := by kernel_rfl }
open Go.RowKit Go.Sort Go.Lib in
/-- strconv.AppendInt: "AppendInt appends the string form of the integer i, as generated by FormatInt, to dst and returns the extended buffer.": AT BASE 10: WHAT COMES BACK OWNS dst's CELLS AND, BEHIND THEM, i's DECIMAL NUMERAL ('Lib.itoa i': at most 20 bytes), for every int64. Below the call's own blocks nothing has turned. (LAID: no walk: one application.) -/
theorem Tryd.strconv_AppendInt_10 (B n : Nat) (i : Int) (h0 : -9223372036854775808 ≤ i) (h1 : i ≤ 9223372036854775807) (sv : Value) (xs : List Value) (w : World) (hown : w.ownsRow B 5 1 sv n xs) (hBw : B ≤ w.heap.size) (hlim : n + 21 ≤ 140737488355328) (htab : Lib.TabBelow Tryd.prog B w "internal/strconv.uint64pow10" .u64 Lib.pow10Tab) :
    Calls Tryd.prog 48 #[sv, .int .i64 i, .int .i64 10] w fun e w' => ∃ v', e = .returned v' ∧ w'.ownsRow B 5 1 v' (n + (Lib.itoa i).length) (xs ++ Lib.byteCells (Lib.itoa i)) ∧ Below B w w' ∧ Lib.OthersKept 5 none w w' := Any.strconv_AppendInt_10 Tryd.laysM176 B n i h0 h1 sv xs w hown hBw hlim htab
def Tryd.laysSlF6_f46_ren : Go.Shelf.Ren := ⟨fun | 6 => 46 | 15 => 61 | 14 => 60 | 28 => 84 | 29 => 85 | 20 => 76 | 21 => 77 | 22 => 78 | 23 => 79 | 24 => 80 | 25 => 81 | 26 => 82 | 27 => 83 | 46 => 104 | 47 => 105 | 48 => 106 | 49 => 107 | 50 => 108 | 57 => 116 | n => n, fun | 22 => 28 | 24 => 22 | 25 => 69 | 3 => 3 | 39 => 86 | 0 => 0 | 53 => 109 | 55 => 93 | 4 => 4 | 46 => 102 | 45 => 101 | 50 => 106 | 5 => 5 | 9 => 9 | 66 => 126 | 70 => 130 | 76 => 145 | 77 => 146 | n => n, fun | n => n⟩
theorem Tryd.laysSlF6_f46 : Go.Proofs.SlLaysF.n6 Tryd.prog Tryd.laysSlF6_f46_ren := {
  mixed := by kernel_rfl
  f6 := ⟨Tryd.f46.name, by decide, Tryd.func46.trans (congrArg some (by kernel_rfl))⟩
  f14 := ⟨Tryd.f60.name, by decide, Tryd.func60.trans (congrArg some (by kernel_rfl))⟩
  f15 := Tryd.func61.trans (congrArg some (by kernel_rfl))
  f20 := ⟨Tryd.f76.name, by decide, Tryd.func76.trans (congrArg some (by kernel_rfl))⟩
  f21 := ⟨Tryd.f77.name, by decide, Tryd.func77.trans (congrArg some (by kernel_rfl))⟩
  f22 := ⟨Tryd.f78.name, by decide, Tryd.func78.trans (congrArg some (by kernel_rfl))⟩
  f23 := ⟨Tryd.f79.name, by decide, Tryd.func79.trans (congrArg some (by kernel_rfl))⟩
  f24 := ⟨Tryd.f80.name, by decide, Tryd.func80.trans (congrArg some (by kernel_rfl))⟩
  f25 := ⟨Tryd.f81.name, by decide, Tryd.func81.trans (congrArg some (by kernel_rfl))⟩
  f26 := ⟨Tryd.f82.name, by decide, Tryd.func82.trans (congrArg some (by kernel_rfl))⟩
  f27 := ⟨Tryd.f83.name, by decide, Tryd.func83.trans (congrArg some (by kernel_rfl))⟩
  f28 := Tryd.func84.trans (congrArg some (by kernel_rfl))
  f29 := Tryd.func85.trans (congrArg some (by kernel_rfl))
  f46 := ⟨Tryd.f104.name, by decide, Tryd.func104.trans (congrArg some (by kernel_rfl))⟩
  f47 := Tryd.func105.trans (congrArg some (by kernel_rfl))
  f48 := Tryd.func106.trans (congrArg some (by kernel_rfl))
  f49 := ⟨Tryd.f107.name, by decide, Tryd.func107.trans (congrArg some (by kernel_rfl))⟩
  f50 := ⟨Tryd.f108.name, by decide, Tryd.func108.trans (congrArg some (by kernel_rfl))⟩
  f57 := ⟨Tryd.f116.name, by decide, Tryd.func116.trans (congrArg some (by kernel_rfl))⟩
  t0 := Tryd.underlying0
  a0 := Tryd.isAgg0
  z0 := Tryd.sizeOf0
  v0 := Tryd.zeroValue0
  t3 := Tryd.underlying3
  a3 := Tryd.isAgg3
  z3 := Tryd.sizeOf3
  v3 := Tryd.zeroValue3
  t4 := Tryd.underlying4
  a4 := Tryd.isAgg4
  z4 := Tryd.sizeOf4
  v4 := Tryd.zeroValue4
  t5 := Tryd.underlying5
  a5 := Tryd.isAgg5
  z5 := Tryd.sizeOf5
  v5 := Tryd.zeroValue5
  t9 := Tryd.underlying9
  a9 := Tryd.isAgg9
  z9 := Tryd.sizeOf9
  v9 := Tryd.zeroValue9
  t22 := Tryd.underlying28
  a22 := Tryd.isAgg28
  z22 := Tryd.sizeOf28
  v22 := Tryd.zeroValue28
  a24 := Tryd.isAgg22
  z24 := Tryd.sizeOf22
  t25 := Tryd.underlying69
  a25 := Tryd.isAgg69
  z25 := Tryd.sizeOf69
  v25 := Tryd.zeroValue69
  t39 := Tryd.underlying86
  a39 := Tryd.isAgg86
  z39 := Tryd.sizeOf86
  v39 := Tryd.zeroValue86
  t45 := Tryd.underlying101
  a45 := Tryd.isAgg101
  z45 := Tryd.sizeOf101
  v45 := Tryd.zeroValue101
  t46 := Tryd.underlying102
  a46 := Tryd.isAgg102
  z46 := Tryd.sizeOf102
  v46 := Tryd.zeroValue102
  t50 := Tryd.underlying106
  a50 := Tryd.isAgg106
  z50 := Tryd.sizeOf106
  v50 := Tryd.zeroValue106
  t53 := Tryd.underlying109
  a53 := Tryd.isAgg109
  z53 := Tryd.sizeOf109
  v53 := Tryd.zeroValue109
  t55 := Tryd.underlying93
  a55 := Tryd.isAgg93
  z55 := Tryd.sizeOf93
  v55 := Tryd.zeroValue93
  t66 := Tryd.underlying126
  a66 := Tryd.isAgg126
  z66 := Tryd.sizeOf126
  v66 := Tryd.zeroValue126
  t70 := Tryd.underlying130
  a70 := Tryd.isAgg130
  z70 := Tryd.sizeOf130
  v70 := Tryd.zeroValue130
  t76 := Tryd.underlying145
  a76 := Tryd.isAgg145
  z76 := Tryd.sizeOf145
  v76 := Tryd.zeroValue145
  t77 := Tryd.underlying146
  a77 := Tryd.isAgg146
  z77 := Tryd.sizeOf146
  v77 := Tryd.zeroValue146 }
open Go.RowKit Go.Lib Go.Sort in
/-- **slices.SortFunc AT ONE CELL, UNDER A 'cmp' THAT PARTS WHATEVER TWO THAT ARE NOT ONE: THE ROW HOLDS core's 'mergeSort'.** (LAID AT THE INSTANCE 'slices.SortFunc[[][]int64,[]int64]': no walk: one application.) -/
theorem Tryd.slices_SortFunc_total {α : Type} [Inhabited α] (enc : α → Value) (h1 : OneCell enc) (cf : α → α → Int) (hO : SWO (ltOf cf)) (g : Nat) (cb : Array Value) (blk off cap : Nat) (d : Array α) (w : World) (eg : ∀ args w, (callFunc g args).run Tryd.prog w = .ok (.enter g args) w) (hcmp : CmpLays1 Tryd.prog g cb enc cf blk off d.size w) (hH : Holds enc w blk off d) (hblk : blk < w.heap.size) (hsz : d.size < 4611686018427387904) (hT : ∀ x y, (ltOf cf) x y = false → (ltOf cf) y x = false → x = y) :
    Calls Tryd.prog 46 #[.slice (some ⟨blk, off, none⟩) d.size cap, .func (.func g) #[] cb] w fun e w' =>
      e = .returned (.tuple #[]) ∧ ∃ n os, w' = sortWorld enc w blk off n (d.toList.mergeSort fun x y => !(ltOf cf) y x).toArray os := Any.slices_SortFunc_total Tryd.laysSlF6_f46 enc h1 cf hO g cb blk off cap d w eg hcmp hH hblk hsz hT
end Go.Proofs

/- Groups of permutations, the program's: slices.SortFunc at a spine of lists. -/
namespace Go.Proofs.YtljimlejcecleaaDoor
open Go.RowKit Go.Sort

theorem heap_sorted {α : Type} [Inhabited α] (enc : α → Value) (w : World) (g n : Nat) (dk : Array α) (os : Array Obj) (k : Nat) (hk : k < w.heap.size) : (sortWorld enc w g 0 n dk os).heap[k]? = if g = k then (w.heap[k]?).map (onCells (putCells enc 0 dk)) else w.heap[k]? := by
  unfold sortWorld grow putRow mapBlock
  simp only [Array.getElem?_append, Array.size_modify, heap_ahead, hk, if_true, Array.getElem?_modify]
theorem grown_sorted {α : Type} [Inhabited α] (enc : α → Value) (w : World) (g n : Nat) (dk : Array α) (os : Array Obj) : w.grownBy (sortWorld enc w g 0 n dk os) (some g) := by
  refine ⟨rfl, rfl, rfl, ?_, fun k hk hne => ?_⟩
  · unfold sortWorld; rw [size_grow]; simp [putRow, mapBlock]
  · rw [heap_sorted enc w g n dk os k hk, if_neg (fun e => hne (by rw [e]))]
theorem own_sorted {α : Type} [Inhabited α] {enc : α → Value} {w : World} {lo E g m c n : Nat} {xs : List Value} {dk : Array α} {os : Array Obj} (h : Own w lo E (some ⟨g, 0, none⟩) m c xs) (hd : dk.size = m) : Own (sortWorld enc w g 0 n dk os) lo E (some ⟨g, 0, none⟩) m c (dk.toList.map enc) := by
  refine ⟨⟨by simp [hd], ?_⟩, h.2⟩
  rcases h.1.2 with ⟨h2, _⟩ | ⟨g', cap, cur, hv, hb, hh, hc, hcm, hs, ht⟩
  · cases h2
  · right
    injection hv with h1 h2 h3
    injection h1 with h1
    injection h1 with h1
    subst h1 h3
    have hlt : g < w.heap.size := (Array.getElem?_eq_some_iff.1 hh).1
    refine ⟨g, c, putCells enc 0 dk cur, rfl, hb, ?_, hc, hcm, ?_, ?_⟩
    · rw [heap_sorted enc w g n dk os g hlt, if_pos rfl, hh]; rfl
    · simp [putCells, hs]
    · rw [Nat.mul_one] at hs ⊢
      apply List.ext_getElem?
      intro k
      by_cases hk : k < m
      · have hk2 : k < cur.size := by omega
        rw [List.getElem?_take_of_lt hk, Array.getElem?_toList, List.getElem?_map]
        simp only [putCells, Array.getElem?_mapIdx, Array.getElem?_eq_getElem hk2, Option.map_some]
        rw [if_pos ⟨Nat.zero_le _, by omega⟩, Array.getElem?_toList, Array.getElem?_eq_getElem (by omega : k < dk.size), Nat.sub_zero, getElem!_pos dk k (by omega)]
        rfl
      · rw [List.getElem?_eq_none (by simp; omega), List.getElem?_eq_none (by simp; omega)]
theorem cmpL_lt (a b : List Int) : decide (cmpL a b < 0) = ltL a b := by
  unfold cmpL
  cases h : ltL a b with
  | true => simp
  | false =>
    cases h2 : ltL b a with
    | true => simp
    | false => simp
set_option maxHeartbeats 1600000 in
theorem sort_any (w : World) (lo : Nat) (ao : Option Addr) (n c N : Nat) (us : List Value) (ds : List (List Int)) (h : SpF w lo ao n c us ds) (hn : 0 < n) (hN : ∀ d ∈ ds, d.length = N) (hnd : ds.Nodup) :
    Calls Tryd.prog 46 #[.slice ao n c, .func (.func 47) #[] #[]] w fun e w' => e = .returned (.tuple #[]) ∧ ∃ us' ds', SpF w' lo ao n c us' ds' ∧ AscL ds' ∧ (∀ z, z ∈ ds' ↔ z ∈ ds) ∧ w.grownBy w' (bk ao) := by
  obtain ⟨m, rfl⟩ : ∃ m, n = m + 1 := ⟨n - 1, by omega⟩
  have hl := h.own.len
  have hd := h.len
  obtain ⟨g, rfl, hgb, hgl, hcap, hcell, hfr⟩ := h.own.form hn
  have hsm := h.own.2
  -- the elements are the places
  have hinh : Inhabited (_root_.Fin (m + 1)) := ⟨0⟩
  obtain ⟨enc, henc⟩ : ∃ enc : _root_.Fin (m + 1) → Value, enc = fun i => us.getD i.1 undef := ⟨_, rfl⟩
  have hug : ∀ i, i < m + 1 → us[i]? = some (us.getD i undef) := fun i hi => by rw [List.getD_eq_getElem?_getD, List.getElem?_eq_getElem (by omega)]; rfl
  obtain ⟨cf, hcf⟩ : ∃ cf : _root_.Fin (m + 1) → _root_.Fin (m + 1) → Int, cf = fun i j => cmpL (lget ds i.1) (lget ds j.1) := ⟨_, rfl⟩
  have hrow : ∀ i : _root_.Fin (m + 1), ∃ a k, enc i = .slice a N k ∧ Own w lo 2 a N k ((lget ds i.1).map (Value.int .i64)) := fun i => by
    obtain ⟨g', a, q, k, e, hc, hu, ho⟩ := h.at_ i.2
    have hq : q = N := by
      have h1 := ho.len
      rw [List.length_map, hN _ (lget_mem (by omega))] at h1
      exact h1.symm
    subst hq
    refine ⟨a, k, ?_, ho⟩
    rw [henc]
    rw [hug _ i.2] at hu
    exact Option.some.inj hu
  have hlt : ∀ i j, Go.Proofs.ltOf cf i j = ltL (lget ds i.1) (lget ds j.1) := fun i j => by
    unfold Go.Proofs.ltOf; rw [hcf]; exact cmpL_lt _ _
  have hinj : ∀ i j : _root_.Fin (m + 1), lget ds i.1 = lget ds j.1 → i = j := fun i j e => by
    have hi := i.2; have hj := j.2
    rw [lget_lt (by omega), lget_lt (by omega)] at e
    have hp := List.pairwise_iff_getElem.1 hnd
    rcases Nat.lt_trichotomy i.1 j.1 with t | t | t
    · exact absurd e (hp _ _ _ _ t)
    · exact _root_.Fin.ext t
    · exact absurd e.symm (hp _ _ _ _ t)
  have hO : SWO (Go.Proofs.ltOf cf) := ⟨fun x => by rw [hlt]; exact ltL_irr _, fun x y z h1 h2 => by rw [hlt] at *; exact ltL_trans h1 h2, fun x y z h1 h2 => by
    rw [hlt] at *
    cases h3 : ltL (lget ds x.1) (lget ds z.1) with
    | false => rfl
    | true =>
      rcases ltL_tri (lget ds x.1) (lget ds y.1) with t | t | t
      · rw [h1] at t; cases t
      · rw [t, h2] at h3; cases h3
      · have := ltL_trans t h3; rw [h2] at this; cases this⟩
  have hT : ∀ x y, Go.Proofs.ltOf cf x y = false → Go.Proofs.ltOf cf y x = false → x = y := fun x y h1 h2 => by
    rw [hlt] at *
    rcases ltL_tri (lget ds x.1) (lget ds y.1) with t | t | t
    · rw [h1] at t; cases t
    · exact hinj x y t
    · rw [h2] at t; cases t
  obtain ⟨d, hdd⟩ : ∃ d : Array (_root_.Fin (m + 1)), d = Array.ofFn (n := m + 1) id := ⟨_, rfl⟩
  have hds : d.size = m + 1 := by rw [hdd]; simp
  have hdg : ∀ j (hj : j < m + 1), d[j]! = ⟨j, hj⟩ := fun j hj => by rw [getElem!_pos d j (by omega)]; simp [hdd]
  have hH : Holds enc w g 0 d := fun j hj => by
    rw [hds] at hj
    refine ⟨?_, hfr _⟩
    rw [Nat.zero_add, hcell j hj, hug j hj, hdg j hj, henc]
  have hcmp : CmpLays1 Tryd.prog 47 #[] enc cf g 0 d.size w := CmpReads.lays fun m' os dk hs x y => by
    obtain ⟨a1, k1, e1, o1⟩ := hrow x
    obtain ⟨a2, k2, e2, o2⟩ := hrow y
    have hg := grown_sorted enc w g m' dk os
    have keep : ∀ {a k} {z : List Int}, Own w lo 2 a N k (z.map (Value.int .i64)) → Own (sortWorld enc w g 0 m' dk os) lo 2 a N k (z.map (Value.int .i64)) := fun ho => ho.same fun g' eg => hg.block g' (ho.lt g' eg).2 (fun q => own_neT ho h.own (by decide) eg q.symm)
    rw [e1, e2, hcf]
    exact compare_any a1 a2 N k1 k2 _ _ _ (keep o1).ints (keep o2).ints
  have eg : ∀ args w, (callFunc 47 args).run Tryd.prog w = .ok (.enter 47 args) w := enters_of Tryd.func47 (by kernel_rfl) rfl
  have hcon := Tryd.slices_SortFunc_total enc (fun i => by obtain ⟨a, k, e, _⟩ := hrow i; rw [e]; rfl) cf hO 47 #[] g 0 c d w eg hcmp hH hgl (by rw [hds]; omega) hT
  rw [hds] at hcon
  refine hcon.mono ?_
  rintro e w' ⟨rfl, n', os, rfl⟩
  obtain ⟨L, hL⟩ : ∃ L, (d.toList.mergeSort fun x y => !(Go.Proofs.ltOf cf) y x) = L := ⟨_, rfl⟩
  have hperm : L.Perm d.toList := by rw [← hL]; exact List.mergeSort_perm _ _
  have hpw : L.Pairwise (fun x y => (!(Go.Proofs.ltOf cf) y x) = true) := by
    rw [← hL]
    refine List.pairwise_mergeSort ?_ ?_ _
    · intro a b c h1 h2
      simp only [Bool.not_eq_true'] at *
      exact hO.ntrans _ _ _ h2 h1
    · intro a b
      cases h1 : Go.Proofs.ltOf cf b a with
      | false => simp
      | true =>
        cases h2 : Go.Proofs.ltOf cf a b with
        | false => simp
        | true => have := hO.trans _ _ _ h1 h2; rw [hO.irrefl] at this; cases this
  rw [hL]
  have hLn : L.length = m + 1 := by rw [hperm.length_eq]; simp [hds]
  have hnodup : L.Nodup := by
    refine hperm.nodup_iff.2 ?_
    show List.Pairwise _ _
    rw [List.pairwise_iff_getElem]
    intro i j hi hj hij e
    have hi' : i < d.size := by simpa using hi
    have hj' : j < d.size := by simpa using hj
    rw [Array.getElem_toList, Array.getElem_toList] at e
    have h1 := hdg i (by omega)
    have h2 := hdg j (by omega)
    rw [getElem!_pos d i hi'] at h1
    rw [getElem!_pos d j hj'] at h2
    rw [h1, h2] at e
    injection e with e
    omega
  have hall : ∀ i : _root_.Fin (m + 1), i ∈ L := fun i => hperm.mem_iff.2 (by
    have h1 := hdg i.1 i.2
    rw [getElem!_pos d i.1 (by have := i.2; omega)] at h1
    rw [show i = d[i.1]'(by have := i.2; omega) from h1.symm]
    simp)
  have hg := grown_sorted enc w g n' L.toArray os
  have keep : ∀ {a k} {z : List Int}, Own w lo 2 a N k (z.map (Value.int .i64)) → Own (sortWorld enc w g 0 n' L.toArray os) lo 2 a N k (z.map (Value.int .i64)) := fun ho => ho.same fun g' eg => hg.block g' (ho.lt g' eg).2 (fun q => own_neT ho h.own (by decide) eg q.symm)
  refine ⟨rfl, L.map enc, L.map (fun i => lget ds i.1), ⟨?_, by simp [hLn], fun j u x hu hx => ?_⟩, ?_, fun z => ?_, hg⟩
  · have := own_sorted (enc := enc) (n := n') (os := os) (dk := L.toArray) h.own (by simp [hLn])
    simpa using this
  · rw [List.getElem?_map] at hu hx
    cases hj : L[j]? with
    | none => rw [hj] at hu; cases hu
    | some i =>
      rw [hj] at hu hx
      obtain ⟨a, k, e, o⟩ := hrow i
      have hu := Option.some.inj hu
      have hx := Option.some.inj hx
      subst hu hx
      exact ⟨a, N, k, e, keep o⟩
  · show List.Pairwise _ _
    rw [List.pairwise_map]
    have hne : L.Pairwise (fun x y => x ≠ y) := hnodup
    refine (hpw.and hne).imp fun {x y} hxy => ?_
    obtain ⟨h1, h2⟩ := hxy
    simp only [Bool.not_eq_true'] at h1
    rw [hlt] at h1
    rcases ltL_tri (lget ds x.1) (lget ds y.1) with t | t | t
    · exact t
    · exact absurd (hinj x y t) h2
    · rw [h1] at t; cases t
  · constructor
    · intro hz
      obtain ⟨i, hi, rfl⟩ := List.mem_map.1 hz
      have := i.2
      exact lget_mem (by omega)
    · intro hz
      obtain ⟨j, hj, rfl⟩ := List.getElem_of_mem hz
      refine List.mem_map.2 ⟨⟨j, by omega⟩, hall _, ?_⟩
      exact lget_lt hj
end Go.Proofs.YtljimlejcecleaaDoor

/- Groups of permutations, the program's: identity, then. -/
namespace Go.Proofs.YtljimlejcecleaaDoor
open Go.RowKit

theorem unitL_succ (k : Nat) : unitL (k + 1) = unitL k ++ [(k : Int)] := by simp [unitL, List.range_succ]
theorem unitL_len' (k : Nat) : (unitL k).length = k := by simp [unitL]
set_option maxHeartbeats 1600000 in
theorem identity_any (n : Nat) (w : World) (hn : n ≤ 1000) :
    Calls Tryd.prog 35 #[.int .i64 n] w fun e w' => ∃ ao c, e = .returned (.slice ao n c) ∧ Own w' w.heap.size 2 ao n c ((unitL n).map (Value.int .i64)) ∧ Below w.heap.size w w' := by
  go_enter Tryd.func35, Tryd.ntmps35
  go_wp2_with (at_make; refine wpList_mk etI _ rfl _ _ rfl w.heap.size _ _ _ _ n rfl rfl rfl rfl (by omega) (Nat.le_refl _) ?_; intro w1 hown hgrow hsz)
  have hb1 : Below w.heap.size w w1 := (Below.refl _ _).grown hgrow (Nat.le_refl _) (by simp)
  clear hgrow
  go_loopw [9] (fun i wr => ∃ k : Nat, k ≤ n ∧ i = .int .i64 k ∧ Own wr w.heap.size 2 (some ⟨w.heap.size, 0, none⟩) n n ((unitL k ++ List.replicate (n - k) 0).map (Value.int .i64)) ∧ Below w.heap.size w wr) (fun i _ => n - (intOf i).toNat)
  case atStart => exact ⟨0, Nat.zero_le _, rfl, by simpa [unitL] using hown, hb1⟩
  case round =>
    obtain ⟨k, hk, rfl, ho, hb⟩ := hrel
    clear hown hb1 hsz
    by_cases hlt : k < n
    · obtain ⟨g, hg, _, hgl, _, hcell, hfr⟩ := ho.form (by omega)
      obtain rfl : g = w.heap.size := by injection hg with hg; injection hg with hg; exact hg.symm
      have hc2 : wr.cell? ⟨w.heap.size, k, none⟩ = some (.int .i64 0) := by
        rw [hcell k hlt]; exact get_pad (unitL_len' k) hlt
      have hf := hfr k
      obtain ⟨st1, st2⟩ := ho.stored k (.int .i64 (k : Int))
      have HS1 := Lib.hid st1
      have HS2 := Lib.hid st2
      clear st1 st2 hg hcell hfr
      go_wp2
      go_roundw
      case rel =>
        refine ⟨k + 1, by omega, by go_num, ?_, ?_⟩
        · have h1 := HS1.out
          rw [← List.map_set, set_pad (unitL_len' k) hlt, ← unitL_succ] at h1
          exact h1
        · exact hb.grown HS2.out hb.size (by intro g hg; injection hg with hg; omega)
      case measure => simp [intOf]; omega
    · obtain rfl : k = n := by omega
      go_wp2
      go_ret
      exact ⟨_, _, rfl, by simpa using ho, hb⟩
set_option maxHeartbeats 1600000 in
theorem then_any (a b : Option Addr) (n m ca cb : Nat) (p q : List Int) (w : World) (ha : Ints w a n p) (hb : Ints w b m q) (hp : ∀ k, k < n → ∃ x : Nat, iget p k = (x : Int) ∧ x < m) (hn : n ≤ 1000) :
    Calls Tryd.prog 38 #[.slice a n ca, .slice b m cb] w fun e w' => ∃ a2 c2, e = .returned (.slice a2 n c2) ∧ Own w' w.heap.size 2 a2 n c2 ((thenL p q).map (Value.int .i64)) ∧ Below w.heap.size w w' := by
  have HL := Lib.hid ha.1
  have HA := Lib.hid ha
  have HB := Lib.hid hb
  have HP := Lib.hid hp
  clear ha hb hp
  go_enter Tryd.func38, Tryd.ntmps38
  go_wp2_with (at_make; refine wpList_mk etI _ rfl _ _ rfl w.heap.size _ _ _ _ n rfl rfl rfl rfl (by omega) (Nat.le_refl _) ?_; intro w1 hown hgrow hsz)
  have hb1 : Below w.heap.size w w1 := (Below.refl _ _).grown hgrow (Nat.le_refl _) (by simp)
  clear hgrow
  go_loopw [13] (fun i wr => ∃ k : Nat, k ≤ n ∧ i = .int .i64 k ∧ Own wr w.heap.size 2 (some ⟨w.heap.size, 0, none⟩) n n ((thenL (p.take k) q ++ List.replicate (n - k) 0).map (Value.int .i64)) ∧ Below w.heap.size w wr) (fun i _ => n - (intOf i).toNat)
  case atStart => exact ⟨0, Nat.zero_le _, rfl, by simpa [thenL] using hown, hb1⟩
  case round =>
    obtain ⟨k, hk, rfl, ho, hb⟩ := hrel
    clear hown hb1 hsz
    by_cases hlt : k < n
    · obtain ⟨x, hx, hxm⟩ := HP.out k hlt
      obtain ⟨ba, oa, rfl, hca⟩ := (HA.out.below hb).at_ hlt
      obtain ⟨bb, ob, rfl, hcb⟩ := (HB.out.below hb).at_ hxm
      have hT := thenL_take (p := p) (q := q) (k := k) (by rw [HL.out]; exact hlt)
      have hTl : (thenL (p.take k) q).length = k := by rw [thenL_len, List.length_take, HL.out]; omega
      rw [hx, Int.toNat_natCast] at hT
      rw [hx] at hca
      obtain ⟨g, hg, _, hgl, _, hcell, hfr⟩ := ho.form (by omega)
      obtain rfl : g = w.heap.size := by injection hg with hg; injection hg with hg; exact hg.symm
      have hc2 : wr.cell? ⟨w.heap.size, k, none⟩ = some (.int .i64 0) := by
        rw [hcell k hlt]; exact get_pad hTl hlt
      have hf := hfr k
      have HT := Lib.hid hT
      have HTl := Lib.hid hTl
      generalize iget q x = y at *
      have hx0 : (0 : Int) ≤ (x : Int) := by omega
      have hx1 : (x : Int) < (m : Int) := by omega
      obtain ⟨st1, st2⟩ := ho.stored k (.int .i64 y)
      have HS1 := Lib.hid st1
      have HS2 := Lib.hid st2
      clear st1 st2 hg hcell hfr hT hTl hx ho
      go_wp2
      go_roundw
      case rel =>
        refine ⟨k + 1, by omega, by go_num, ?_, ?_⟩
        · have h1 := HS1.out
          rw [← List.map_set, set_pad HTl.out hlt, ← HT.out] at h1
          exact h1
        · exact hb.grown HS2.out hb.size (by intro g hg; injection hg with hg; omega)
      case measure => simp [intOf]; omega
    · obtain rfl : k = n := by omega
      have ht : p.take k = p := List.take_of_length_le (by rw [HL.out]; exact Nat.le_refl _)
      rw [ht] at ho
      go_wp2
      go_ret
      exact ⟨_, _, rfl, by simpa using ho, hb⟩
end Go.Proofs.YtljimlejcecleaaDoor

/- The key of a list of numbers: alike for equal lists alone. No program in sight. -/
namespace Go.Proofs.YtljimlejcecleaaDoor

def keyB : List Int → List UInt8
  | [] => []
  | x :: r => Lib.itoa x ++ 32 :: keyB r
def dgV (l : List UInt8) : Nat := l.foldl (fun a b => a * 10 + (b.toNat - 48)) 0
theorem dig_nat {d : Nat} (h : d < 10) : (UInt8.ofNat (48 + d)).toNat = 48 + d := by
  rw [UInt8.toNat_ofNat']; omega
theorem dec_val (u : Nat) : dgV (Lib.decDigits u) = u ∧ ∀ b ∈ Lib.decDigits u, 48 ≤ b.toNat := by
  induction u using Nat.strongRecOn with
  | _ u ih =>
    rw [Lib.decDigits]
    split
    · rename_i h
      refine ⟨?_, fun b hb => ?_⟩
      · unfold dgV; simp only [List.foldl_cons, List.foldl_nil]; rw [dig_nat h]; omega
      · rw [List.mem_singleton] at hb; subst hb; rw [dig_nat h]; omega
    · rename_i h
      obtain ⟨h1, h2⟩ := ih (u / 10) (by omega)
      have hd : u % 10 < 10 := Nat.mod_lt _ (by omega)
      refine ⟨?_, fun b hb => ?_⟩
      · unfold dgV at h1 ⊢
        rw [List.foldl_append, h1]
        simp only [List.foldl_cons, List.foldl_nil]
        rw [dig_nat hd]; omega
      · rcases List.mem_append.1 hb with hb | hb
        · exact h2 b hb
        · rw [List.mem_singleton] at hb; subst hb; rw [dig_nat hd]; omega
theorem split_sep : ∀ {a b c d : List UInt8}, (∀ x ∈ a, 48 ≤ x.toNat) → (∀ x ∈ b, 48 ≤ x.toNat) → a ++ 32 :: c = b ++ 32 :: d → a = b ∧ c = d
  | [], [], c, d, _, _, h => by simp at h; exact ⟨rfl, h⟩
  | [], y :: b, c, d, _, hb, h => by
    simp at h
    have := hb y (by simp)
    rw [← h.1] at this; simp at this
  | x :: a, [], c, d, ha, _, h => by
    simp at h
    have := ha x (by simp)
    rw [h.1] at this; simp at this
  | x :: a, y :: b, c, d, ha, hb, h => by
    simp at h
    obtain ⟨h1, h2⟩ := split_sep (fun z hz => ha z (by simp [hz])) (fun z hz => hb z (by simp [hz])) h.2
    exact ⟨by rw [h.1, h1], h2⟩
theorem itoa_nat (u : Nat) : Lib.itoa (u : Int) = Lib.decDigits u := by unfold Lib.itoa; rw [if_neg (by omega)]; simp
/-- equal keys, equal lists (of naturals) -/
theorem key_inj : ∀ {p q : List Int}, (∀ x ∈ p, 0 ≤ x) → (∀ x ∈ q, 0 ≤ x) → keyB p = keyB q → p = q
  | [], [], _, _, _ => rfl
  | [], y :: q, _, _, h => by simp [keyB] at h
  | x :: p, [], _, _, h => by simp [keyB] at h
  | x :: p, y :: q, hp, hq, h => by
    obtain ⟨u, rfl⟩ := Int.eq_ofNat_of_zero_le (hp x (by simp))
    obtain ⟨v, rfl⟩ := Int.eq_ofNat_of_zero_le (hq y (by simp))
    unfold keyB at h
    rw [itoa_nat, itoa_nat] at h
    obtain ⟨h1, h2⟩ := split_sep (dec_val u).2 (dec_val v).2 h
    have h3 : u = v := by rw [← (dec_val u).1, h1, (dec_val v).1]
    rw [h3, key_inj (fun z hz => hp z (by simp [hz])) (fun z hz => hq z (by simp [hz])) h2]
end Go.Proofs.YtljimlejcecleaaDoor

/- The key of a list of numbers, the program's keyOf. -/
namespace Go.Proofs.YtljimlejcecleaaDoor
open Go.RowKit

theorem etY : ET Tryd.prog 58 5 (.int .u8 0) 1 := ⟨Tryd.underlying58, by kernel_rfl, rfl, by omega⟩
/-- the table of powers lies as the program lays it -/
def PT (w : World) : Prop := Lib.TabIs Tryd.prog w "internal/strconv.uint64pow10" .u64 Lib.pow10Tab
theorem var_keep {P : Program} {w w' : World} {n : String} {cs : Array Value} (h : w.var? P n = some cs) (hb : Below w.heap.size w w') : w'.var? P n = some cs := by
  unfold World.var? at h ⊢
  cases hg : P.globalNamed n with
  | none => rw [hg] at h; exact h
  | some g =>
    rw [hg] at h
    simp only [Option.bind_some] at h ⊢
    have hlt : g < w.heap.size := by
      cases hx : w.heap[g]? with
      | none => rw [hx] at h; simp at h
      | some o => exact (Array.getElem?_eq_some_iff.1 hx).1
    rw [hb.block g hlt]; exact h
theorem PT.below {w w' : World} (h : PT w) (hb : Below w.heap.size w w') : PT w' := var_keep h hb
theorem keyB_snoc (p : List Int) (x : Int) : keyB (p ++ [x]) = keyB p ++ Lib.itoa x ++ [32] := by
  induction p with
  | nil => simp [keyB]
  | cons y r ih => simp [keyB, ih]
theorem fold_push (ns : List Int) : ∀ (r : ByteArray), (ns.foldl (fun r n => r.push (UInt8.ofNat n.toNat)) r).data = r.data ++ (ns.map fun n => UInt8.ofNat n.toNat).toArray := by
  induction ns with
  | nil => intro r; simp
  | cons n ns ih => intro r; rw [List.foldl_cons, ih]; simp [ByteArray.push]
theorem conv_key {w : World} {base : Nat} {ao : Option Addr} {n c : Nat} {bs : List UInt8} (h : Own w base 5 ao n c (Lib.byteCells bs)) (hn : 0 < n) :
    (convert 58 9 (.slice ao n c)).run Tryd.prog w = .ok (.string ⟨bs.toArray⟩) w := by
  have hl := h.len
  obtain ⟨g, rfl, _, _, _, hc, _⟩ := h.form hn
  have hl2 : bs.length = n := by rw [← hl]; simp [Lib.byteCells]
  refine (run_convert_bytes_string _ 58 9 5 _ n c Tryd.underlying58 Tryd.underlying5 Tryd.underlying9).trans ?_
  have e1 : Lib.byteCells bs = (bs.map fun b => (b.toNat : Int)).map (Value.int .u8) := by simp [Lib.byteCells]
  have e2 : n = (Lib.byteCells bs).length := by rw [hl]
  refine (run_bytesToString _ _ n c (bs.map fun b => (b.toNat : Int)) ?_).trans ?_
  · rw [← e1, e2]
    refine run_loadCells_list _ ⟨g, 0, none⟩ _ fun j v hv => ?_
    have hj : j < n := by rw [e2]; exact (List.getElem?_eq_some_iff.1 hv).1
    rw [Addr.add_lit, Nat.zero_add, hc j hj, hv]
  · have e3 := fold_push (bs.map fun b => (b.toNat : Int)) ByteArray.empty
    refine congrArg (fun s => Result.ok (Value.string s) w) ?_
    have : ∀ (a b : ByteArray), a.data = b.data → a = b := fun a b h => by cases a; cases b; cases h; rfl
    refine this _ _ ?_
    rw [e3, List.map_map]
    have e4 : bs.map ((fun n : Int => UInt8.ofNat n.toNat) ∘ fun b => (b.toNat : Int)) = bs := (List.map_congr_left (fun b _ => by simp)).trans (List.map_id _)
    rw [e4]; simp
theorem own_of_row {w : World} {B E n : Nat} {v : Value} {xs : List Value} (h : w.ownsRow B E 1 v n xs) (h0 : 0 < n) (hn : n ≤ 4398046511104) : ∃ ao c, v = .slice ao n c ∧ Own w B E ao n c xs := by
  obtain ⟨g, cap, rfl, _, _⟩ := h.form h0
  exact ⟨_, _, rfl, h, hn⟩
def inI (x : Int) : Prop := -9223372036854775808 ≤ x ∧ x ≤ 9223372036854775807
theorem itoa_pos (x : Int) : 0 < (Lib.itoa x).length := by
  unfold Lib.itoa
  split
  · simp
  · rw [Lib.decDigits]; split <;> simp
set_option maxRecDepth 100000 in
set_option maxHeartbeats 1600000 in
theorem keyOf_any (ao : Option Addr) (n c : Nat) (zs : List Int) (w : World) (h : Ints w ao n zs) (h0 : 0 < n) (hn : n ≤ 1000) (hi : ∀ k, k < n → inI (iget zs k)) (hT : PT w) :
    Calls Tryd.prog 37 #[.slice ao n c] w fun e w' => e = .returned (.string ⟨(keyB zs).toArray⟩) ∧ Below w.heap.size w w' := by
  have HL := Lib.hid h.1
  have HI := Lib.hid hi
  have HT := Lib.hid hT
  have hE : Own w w.heap.size 5 none 0 0 [] := Own.nil_ _ _ _
  clear hi hT
  go_enter Tryd.func37, Tryd.ntmps37
  go_wp2_with fail
  go_loopw [3, 8] (fun sv iv wr => ∃ (k m : Nat) (a : Option Addr) (cc : Nat), k ≤ n ∧ m ≤ 22 * k ∧ (0 < k → 0 < m) ∧ sv = .slice a m cc ∧ iv = .int .i64 k ∧ Own wr w.heap.size 5 a m cc (Lib.byteCells (keyB (zs.take k))) ∧ Below w.heap.size w wr) (fun _ iv _ => n - (intOf iv).toNat)
  case atStart => exact ⟨0, 0, none, 0, Nat.zero_le _, Nat.zero_le _, fun h => absurd h (by omega), rfl, rfl, hE, Below.refl _ _⟩
  case round =>
    clear hE
    obtain ⟨k, m, a, cc, hk, hm, hm0, rfl, rfl, ho, hb⟩ := hrel
    by_cases hlt : k < n
    · obtain ⟨b, off, rfl, hc⟩ := (h.below hb).at_ hlt
      have hin := HI.out k hlt
      have HK := Lib.hid (keyB_snoc (zs.take k) (iget zs k))
      have HTK := Lib.hid (take_iget (zs := zs) (k := k) (by rw [HL.out]; exact hlt))
      have hlen := Lib.itoa_length_le (iget zs k) hin.1 hin.2
      have hpos := itoa_pos (iget zs k)
      have hsz := hb.size
      have HO := Lib.hid ho
      have TB : Lib.TabBelow Tryd.prog w.heap.size wr "internal/strconv.uint64pow10" .u64 Lib.pow10Tab := fun w' h' => HT.out.below (hb.trans h')
      generalize keyB (zs.take k) = X at *
      generalize iget zs k = x at *
      clear ho h
      have hIN := Lib.hid hin
      clear hin
      go_wp2_with fail
      refine (Tryd.strconv_AppendInt_10 w.heap.size m x hIN.out.1 hIN.out.2 (.slice a m cc) (Lib.byteCells X) wr HO.out.1 hsz (by omega) TB).mono ?_
      rintro e w2 ⟨v2, rfl, o2, b2, -⟩
      obtain ⟨a2, c2, rfl, O2⟩ := own_of_row o2 (by omega) (by omega)
      have HO2 := Lib.hid O2
      have B2 := hb.trans b2
      have z2 := B2.size
      have hlo := fun g hg => (O2.lt g hg).1
      generalize Lib.itoa x = D at *
      clear o2 O2 hb b2 HO TB hc
      obtain ⟨L, hL⟩ : ∃ L, m + D.length = L := ⟨_, rfl⟩
      rw [hL] at HO2
      have hL1 : L ≤ m + 21 := by omega
      have hL2 : 0 < L := by omega
      rw [hL]
      clear hlen hpos
      have HLL := Lib.hid hL
      clear hL
      go_wp2_with (at_builtin; refine wpList_ap1 etY _ rfl _ _ rfl w.heap.size a2 L c2 _ rfl HO2.out (.int .u8 32) rfl rfl (by omega) z2 ?_; intro ao4 c4 w4 o4 g4 h4)
      have O4 := Lib.hid o4
      have B4 := B2.grown g4 z2 hlo
      clear o4 g4 h4 HO2 B2
      go_wp2
      go_roundw
      case rel => exact ⟨k + 1, L + 1, ao4, c4, by omega, by omega, fun _ => by omega, rfl, by go_num, by rw [HTK.out, HK.out]; have := O4.out; simpa [Lib.byteCells] using this, B4⟩
      case measure => simp [intOf]; omega
    · obtain rfl : k = n := by omega
      have ht : zs.take k = zs := List.take_of_length_le (by rw [HL.out]; exact Nat.le_refl _)
      rw [ht] at ho
      have hcv := conv_key ho (hm0 h0)
      go_wp2
      go_ret
      exact ⟨rfl, hb⟩
end Go.Proofs.YtljimlejcecleaaDoor

/- Maps from texts: the block's keys and values in order. -/
namespace Go.Proofs.YtljimlejcecleaaDoor
open Go.RowKit

def kS (k : List UInt8) : Value := .string ⟨k.toArray⟩
theorem kS_beq (k l : List UInt8) : ((⟨k.toArray⟩ : ByteArray) == ⟨l.toArray⟩) = decide (k = l) := by
  show (k.toArray == l.toArray) = _
  by_cases h : k = l
  · subst h; simp
  · rw [decide_eq_false h, beq_eq_false_iff_ne]
    intro e; injection e with e; exact h e
/-- where a key is -/
def fndS (k : List UInt8) : List (List UInt8) → Nat → Option Nat
  | [], _ => none
  | a :: r, i => if k = a then some i else fndS k r (i + 1)
theorem fndS_none {k : List UInt8} : ∀ {ks : List (List UInt8)} {i : Nat}, k ∉ ks → fndS k ks i = none
  | [], _, _ => rfl
  | a :: r, i, h => by
    unfold fndS
    rw [if_neg (fun e => h (by simp [e])), fndS_none (fun e => h (List.mem_cons_of_mem _ e))]
theorem fndS_some {k : List UInt8} : ∀ {ks : List (List UInt8)} {i : Nat}, k ∈ ks → ∃ m, fndS k ks i = some (i + m) ∧ ks[m]? = some k
  | [], _, h => by simp at h
  | a :: r, i, h => by
    unfold fndS
    by_cases e : k = a
    · exact ⟨0, by rw [if_pos e]; rfl, by rw [e]; rfl⟩
    · obtain ⟨m, h1, h2⟩ := fndS_some (ks := r) (i := i + 1) (by rcases List.mem_cons.1 h with t | t; exact absurd t e; exact t)
      exact ⟨m + 1, by rw [if_neg e, h1]; congr 1; omega, by simpa using h2⟩
theorem findNow_run (k : List UInt8) : ∀ (es : List MapEntry) (ks : List (List UInt8)) (us : List Value) (i : Nat), es.map (·.key) = ks.map kS → es.map (·.val) = us → Instr.findNow .string (kS k) es i = some ((fndS k ks i).map fun m => (m, us.getD (m - i) undef))
  | [], ks, us, i, h, hu => by
    cases ks with
    | nil => rfl
    | cons a r => simp at h
  | e :: es, ks, us, i, h, hu => by
    cases ks with
    | nil => simp at h
    | cons a r =>
      simp at h hu
      subst hu
      have ih := findNow_run k es r _ (i + 1) h.2 rfl
      unfold Instr.findNow
      rw [h.1]
      have e1 : Instr.sameNow .string (kS k) (kS a) = some (decide (k = a)) := by
        show some ((⟨k.toArray⟩ : ByteArray) == ⟨a.toArray⟩) = _
        rw [kS_beq]
      rw [e1]
      unfold fndS
      by_cases hk : k = a
      · rw [decide_eq_true hk, if_pos hk]; simp
      · rw [decide_eq_false hk, if_neg hk]
        simp only
        rw [ih]
        cases hf : fndS k r (i + 1) with
        | none => rfl
        | some m =>
          have hm : ∀ (ks : List (List UInt8)) (i m : Nat), fndS k ks i = some m → i ≤ m := fun ks => by
            induction ks with
            | nil => intro i m h; simp [fndS] at h
            | cons b r ih => intro i m h; unfold fndS at h; split at h; (injection h with h; omega); (have := ih _ _ h; omega)
          have := hm _ _ _ hf
          obtain ⟨d, rfl⟩ : ∃ d, m = i + 1 + d := ⟨m - (i + 1), by omega⟩
          simp only [Option.map_some]
          rw [show i + 1 + d - (i + 1) = d by omega, show i + 1 + d - i = d + 1 by omega]
          rfl
/-- the block holds a map of these keys to these values -/
def MapX (w : World) (b : Nat) (ks : List (List UInt8)) (us : List Value) : Prop :=
  ∃ es clock, w.heap[b]? = some (.map es clock) ∧ es.toList.map (·.key) = ks.map kS ∧ es.toList.map (·.val) = us
theorem MapX.lt {w : World} {b : Nat} {ks : List (List UInt8)} {us : List Value} (h : MapX w b ks us) : b < w.heap.size := by
  obtain ⟨es, k, hb, _⟩ := h
  exact (Array.getElem?_eq_some_iff.1 hb).1
theorem MapX.same {w w' : World} {b : Nat} {ks : List (List UInt8)} {us : List Value} (h : MapX w b ks us) (hs : w'.heap[b]? = w.heap[b]?) : MapX w' b ks us := by
  obtain ⟨es, k, hb, r⟩ := h
  exact ⟨es, k, hs.trans hb, r⟩
theorem MapX.below {w w' : World} {b : Nat} {ks : List (List UInt8)} {us : List Value} (h : MapX w b ks us) (hb : Below w.heap.size w w') : MapX w' b ks us := h.same (hb.block b h.lt)
theorem MapX.new (w : World) : MapX (w.alloc (.map #[] 0)) w.heap.size [] [] := ⟨#[], 0, heap_alloc_new w _, rfl, rfl⟩
theorem keyX_run {kt : TypeId} (hk : Tryd.prog.underlying kt = some .string) (k : List UInt8) (w : World) {es : List MapEntry} {ks : List (List UInt8)} {us : List Value} (h : es.map (·.key) = ks.map kS) (hu : es.map (·.val) = us) : (Instr.findKey kt (kS k) es).run Tryd.prog w = .ok ((fndS k ks 0).map fun m => (m, us.getD m undef)) w := by
  have := findNow_run k es ks us 0 h hu
  unfold Instr.findKey
  simp only [Sem.run_bind, run_underlying hk, Result.andThen_ok, this]
  simp [Sem.run_pure]
theorem checkX {kt : TypeId} (hk : Tryd.prog.underlying kt = some .string) (b : Bool) (k : List UInt8) (w : World) : (Instr.checkKey b 10000 kt (kS k)).run Tryd.prog w = .ok () w := by
  rw [show (10000 : Nat) = 9999 + 1 from rfl, Instr.checkKey]
  simp [Sem.run_bind, run_underlying hk, Result.andThen_ok, kS, Sem.run_pure]
section
variable {mt kt vt : TypeId} {zv : Value}
theorem lookX_run (hm : Tryd.prog.underlying mt = some (.map kt vt)) (hk : Tryd.prog.underlying kt = some .string) (hz : ∀ w, (zeroValue vt).run Tryd.prog w = .ok zv w) (k : List UInt8) {w : World} {b : Nat} {ks : List (List UInt8)} {us : List Value} (h : MapX w b ks us) :
    (Instr.lookup mt (.map (some b)) (kS k) false).run Tryd.prog w = .ok (match fndS k ks 0 with | some m => us.getD m undef | none => zv) w := by
  obtain ⟨es, clock, hb, hm2, hu⟩ := h
  have hr := keyX_run hk k w hm2 hu
  cases hf : fndS k ks 0 with
  | none =>
    rw [hf] at hr
    simp [Instr.lookup, run_underlying hm, MapKept.run_getObj_map hb, checkX hk, hr, hz, Result.andThen]
  | some m =>
    rw [hf] at hr
    simp [Instr.lookup, run_underlying hm, MapKept.run_getObj_map hb, checkX hk, hr, Result.andThen]
theorem putX_new (hm : Tryd.prog.underlying mt = some (.map kt vt)) (hk : Tryd.prog.underlying kt = some .string) (k : List UInt8) {w : World} {b : Nat} {ks : List (List UInt8)} {us : List Value} (h : MapX w b ks us) (hf : k ∉ ks) (v : Value) :
    ∃ o, (Instr.mapUpdate mt (.map (some b)) (kS k) v).run Tryd.prog w = .ok () (Go.ChangeMaps.setBlock w b o) ∧ MapX (Go.ChangeMaps.setBlock w b o) b (ks ++ [k]) (us ++ [v]) := by
  have hlt := h.lt
  obtain ⟨es, clock, hb, hm2, hu⟩ := h
  have hr := keyX_run hk k w hm2 hu
  rw [fndS_none hf] at hr
  refine ⟨.map (es.push { key := kS k, val := v, born := clock }) (clock + 1), ?_, ?_⟩
  · simp [Instr.mapUpdate, run_underlying hm, MapKept.run_getObj_map hb, checkX hk, hr, MapKept.run_setObj_map _ hb, Result.andThen, Go.ChangeMaps.setBlock]
  · exact ⟨es.push { key := kS k, val := v, born := clock }, clock + 1, by simp [Go.ChangeMaps.setBlock, hlt], by simp [hm2], by simp [hu]⟩
end
theorem only_blockX (w : World) (b : Nat) (o : Obj) : Only b (b + 1) w (Go.ChangeMaps.setBlock w b o) := by
  refine ⟨rfl, rfl, rfl, by simp [Go.ChangeMaps.setBlock], fun k hk hd => ?_⟩
  simp [Go.ChangeMaps.setBlock, Array.getElem?_setIfInBounds]
  intro h; omega
section
variable (w : World) {ops : Array Oper} {rest : List Oper} {o : Oper} {a : Act} {Q : Exit → Act → World → Prop} {mt kt vt : TypeId} {zv : Value}
theorem wpList_lookX (um : Tryd.prog.underlying mt = some (.map kt vt)) (uk : Tryd.prog.underlying kt = some .string) (hz : ∀ w, (zeroValue vt).run Tryd.prog w = .ok zv w) (hg : o.guard = none) (m x : Operand) (hop : o.op = Op.lookup mt m x false) (b : Nat) (ks : List (List UInt8)) (us : List Value) (k : List UInt8) (u : Value) (hM : MapX w b ks us) (hf : (match fndS k ks 0 with | some m => us.getD m undef | none => zv) = u) (hm : a.eval m = .map (some b)) (hx : a.eval x = .string ⟨k.toArray⟩)
    (hK : wpList Tryd.prog ops Q rest (a.put o.dst u) w) : wpList Tryd.prog ops Q (o :: rest) a w := by
  refine wpList_plain hg fun K' hK' => ?_
  have hrun := lookX_run um uk hz k hM
  rw [hf] at hrun
  unfold kS at hrun
  unfold Oper.wp
  simp [execOp, hop, hm, hx, hrun, Result.andThen]
  exact hK' _ _ hK
theorem wpList_putX (um : Tryd.prog.underlying mt = some (.map kt vt)) (uk : Tryd.prog.underlying kt = some .string) (hg : o.guard = none) (m x v : Operand) (hop : o.op = Op.mapUpdate mt m x v ∨ o.op = Op.insert mt m x v) (b : Nat) (ks : List (List UInt8)) (us : List Value) (k : List UInt8) (hM : MapX w b ks us) (hf : k ∉ ks) (hm : a.eval m = .map (some b)) (hx : a.eval x = .string ⟨k.toArray⟩)
    (hK : ∀ w', Only b (b + 1) w w' → MapX w' b (ks ++ [k]) (us ++ [a.eval v]) → wpList Tryd.prog ops Q rest (a.put o.dst undef) w') : wpList Tryd.prog ops Q (o :: rest) a w := by
  refine wpList_plain hg fun K' hK' => ?_
  obtain ⟨ob, hrun, hM2⟩ := putX_new um uk k hM hf (a.eval v)
  unfold kS at hrun
  unfold Oper.wp
  rcases hop with hop | hop
  all_goals
    simp [execOp, hop, hm, hx, hrun, Result.andThen]
    exact hK' _ _ (hK _ (only_blockX w b ob) hM2)
end
end Go.Proofs.YtljimlejcecleaaDoor

/- Groups of permutations, the program's: groupElements. guards: -/
namespace Go.Proofs.YtljimlejcecleaaDoor
open Go.RowKit

theorem Pts.nn {n : Nat} {p : List Int} (h : Pts n p) : ∀ x ∈ p, 0 ≤ x := fun x hx => by
  obtain ⟨j, hj, rfl⟩ := List.getElem_of_mem hx
  obtain ⟨y, h1, _⟩ := h.2 j (by rw [← h.1]; exact hj)
  rw [iget_lt hj] at h1; omega
theorem Pts.inI {n : Nat} {p : List Int} (h : Pts n p) (hn : n ≤ 1000) : ∀ k, k < n → inI (iget p k) := fun k hk => by
  obtain ⟨y, h1, h2⟩ := h.2 k hk
  rw [h1]; unfold Go.Proofs.YtljimlejcecleaaDoor.inI; omega
theorem seen_look {es : List (List Int)} {q : List Int} {n nf : Nat} (hl : es.length = nf) (he : ∀ z ∈ es, Pts n z) (hq : Pts n q) :
    (match fndS (keyB q) (es.map keyB) 0 with | some m => (List.replicate nf (Value.bool true)).getD m undef | none => .bool false) = .bool (decide (q ∈ es)) := by
  by_cases h : q ∈ es
  · obtain ⟨m, h1, h2⟩ := fndS_some (k := keyB q) (i := 0) (List.mem_map.2 ⟨q, h, rfl⟩)
    have hm : m < nf := by have := (List.getElem?_eq_some_iff.1 h2).1; simpa [hl] using this
    rw [h1, decide_eq_true h]
    simp only [Nat.zero_add]
    rw [List.getD_eq_getElem?_getD, List.getElem?_replicate, if_pos hm]; rfl
  · have h1 : keyB q ∉ es.map keyB := fun e => by
      obtain ⟨z, hz, ez⟩ := List.mem_map.1 e
      have := key_inj ((he z hz).nn) hq.nn ez
      subst this; exact h hz
    rw [fndS_none h1, decide_eq_false h]
/-- the search, the program's -/
structure GJ (w wr : World) (n : Nat) (af : Option Addr) (nf cf : Nat) (uf : List Value) (es : List (List Int)) (mb : Nat) : Prop where
  fnd : SpF wr w.heap.size af nf cf uf es
  map : MapX wr mb (es.map keyB) (List.replicate nf (.bool true))
  low : w.heap.size ≤ mb
  pts : ∀ z, z ∈ es → Pts n z
  nod : es.Nodup
  bel : Below w.heap.size w wr
theorem SpF.only {w w' : World} {lo n c mb : Nat} {ao : Option Addr} {us : List Value} {ds : List (List Int)} (h : SpF w lo ao n c us ds) (hm : ∃ es k, w.heap[mb]? = some (.map es k)) (ho : Only mb (mb + 1) w w') : SpF w' lo ao n c us ds := by
  obtain ⟨es, k, hm⟩ := hm
  have keep : ∀ {lo E a m k} {xs : List Value}, Own w lo E a m k xs → Own w' lo E a m k xs := fun o => o.same fun g eg => by
    obtain ⟨cs, hc⟩ := o.typG eg
    have hne : g ≠ mb := fun e => by subst e; rw [hc] at hm; cases hm
    exact ho.block g (o.lt g eg).2 (by omega)
  exact ⟨keep h.own, h.len, fun j u d hu hd => by
    obtain ⟨a, m, k, e, o⟩ := h.row j u d hu hd
    exact ⟨a, m, k, e, keep o⟩⟩
theorem MapX.obj {w : World} {b : Nat} {ks : List (List UInt8)} {us : List Value} (h : MapX w b ks us) : ∃ es k, w.heap[b]? = some (.map es k) := by
  obtain ⟨es, k, hb, _⟩ := h; exact ⟨es, k, hb⟩
theorem MapX.grown {w w' : World} {lo E n c b : Nat} {ao : Option Addr} {xs : List Value} {ks : List (List UInt8)} {us : List Value} (h : MapX w b ks us) (o : Own w lo E ao n c xs) (hg : w.grownBy w' (bk ao)) : MapX w' b ks us :=
  h.same (hg.block b h.lt fun e => by
    obtain ⟨cs, hc⟩ := o.typG e.symm
    obtain ⟨es, k, hb⟩ := h.obj
    rw [hc] at hb; cases hb)
theorem Own.onlyM {w w' : World} {lo E a' m mb : Nat} {ao : Option Addr} {xs : List Value} (o : Own w lo E ao a' m xs) (hm : ∃ es k, w.heap[mb]? = some (.map es k)) (ho : Only mb (mb + 1) w w') : Own w' lo E ao a' m xs := by
  obtain ⟨es, k, hm⟩ := hm
  exact o.same fun g eg => by
    obtain ⟨cs, hc⟩ := o.typG eg
    have hne : g ≠ mb := fun e => by subst e; rw [hc] at hm; cases hm
    exact ho.block g (o.lt g eg).2 (by omega)
theorem GJ.below {w wr w' : World} {n nf cf mb : Nat} {af : Option Addr} {uf : List Value} {es : List (List Int)} (h : GJ w wr n af nf cf uf es mb) (b : Below wr.heap.size wr w') : GJ w w' n af nf cf uf es mb :=
  ⟨h.fnd.below b, h.map.below b, h.low, h.pts, h.nod, h.bel.trans (b.mono h.bel.size)⟩
theorem GJ.grow {w wr w2 w4 : World} {n nf cf mb pn pc c4 : Nat} {af pa a4 : Option Addr} {uf : List Value} {es : List (List Int)} {p : List Int} (h : GJ w wr n af nf cf uf es mb) (hp : Pts n p) (hn : p ∉ es) (ho2 : Only mb (mb + 1) wr w2) (hm2 : MapX w2 mb (es.map keyB ++ [keyB p]) (List.replicate nf (.bool true) ++ [.bool true]))
    (ho : Own w2 w.heap.size 2 pa pn pc (p.map (Value.int .i64))) (hown : Own w4 w.heap.size 22 a4 (nf + 1) c4 (uf ++ [.slice pa pn pc])) (hg4 : w2.grownBy w4 (bk af)) : GJ w w4 n a4 (nf + 1) c4 (uf ++ [.slice pa pn pc]) (es ++ [p]) mb := by
  have hf2 := h.fnd.only h.map.obj ho2
  refine ⟨hf2.push ho hg4 hown, ?_, h.low, fun z hz => ?_, ?_, ?_⟩
  · have := hm2.grown hf2.own hg4
    rw [List.map_append, List.replicate_succ']
    exact this
  · rcases List.mem_append.1 hz with t | t
    · exact h.pts z t
    · simp at t; subst t; exact hp
  · rw [List.nodup_append]
    refine ⟨h.nod, by simp, fun a ha b hb => ?_⟩
    simp at hb; subst hb
    intro e; subst e; exact hn ha
  · exact (h.bel.trans (ho2.below h.low h.bel.size)).grown hg4 (Nat.le_trans h.bel.size ho2.size) (fun g e => (h.fnd.own.lt g e).1)
/-- what the search answers -/
def GrpI (w : World) (R : Option (List (List Int))) (e : Ending) (w' : World) : Prop :=
  ∃ (a : Option Addr) (m c : Nat) (us : List Value) (ss : List (List Int)), e = .returned (.tuple #[.slice a m c, .bool R.isSome]) ∧ (R = none → a = none ∧ m = 0 ∧ c = 0) ∧ (∀ es, R = some es → AscL ss ∧ (∀ z, z ∈ ss ↔ z ∈ es) ∧ SpF w' w.heap.size a m c us ss) ∧ Below w.heap.size w w'
theorem zvB (w : World) : (zeroValue 4).run Tryd.prog w = .ok (.bool false) w := by simp [go_sem, run_underlying Tryd.underlying4]
set_option maxRecDepth 100000 in
set_option maxHeartbeats 6400000 in
theorem grpI_any (n gn gc : Nat) (ga : Option Addr) (gs : List (List Int)) (w : World) (hn0 : 1 ≤ n) (hn : n ≤ 400) (hg : Intss w ga gn gs) (hgp : ∀ z ∈ gs, Pts n z) (hg16 : gn ≤ 16) (hT : PT w) :
    Calls Tryd.prog 36 #[.int .i64 n, .slice ga gn gc] w (GrpI w (grpE gs n)) := by
  obtain ⟨R, hR⟩ : ∃ R, R = grpE gs n := ⟨_, rfl⟩
  rw [← hR]
  have HR := Lib.hid hR
  have HG := Lib.hid hg
  have HGP := Lib.hid hgp
  have HT := Lib.hid hT
  have hgl := hg.1
  clear hR hg hgp hT
  go_enter Tryd.func36, Tryd.ntmps36
  go_wp2_with fail
  refine (identity_any n w (by omega)).mono ?_
  rintro e w1 ⟨a1, c1, rfl, o1, b1⟩
  have z1 := b1.size
  have O1 := Lib.hid (o1.alloc (.cells #[.slice a1 n c1] 22))
  have F1 := Lib.hid (own_lit (w := w1) (base := w.heap.size) (E := 22) (us := [.slice a1 n c1]) rfl z1 (by simp))
  have B1 := Lib.hid (b1.alloc z1 (.cells #[.slice a1 n c1] 22))
  clear o1 b1
  go_upto_region 2 with fail
  have hz2 : (w1.alloc (.cells #[.slice a1 n c1] 22)).heap.size = w1.heap.size + 1 := by simp
  generalize w1.alloc (.cells #[.slice a1 n c1] 22) = w2 at *
  have hc2 : w2.cell? ⟨w1.heap.size, 0, none⟩ = some (.slice a1 n c1) := by
    obtain ⟨g, eg, _, _, _, hcell, _⟩ := F1.out.form (by simp)
    injection eg with eg; injection eg with eg; subst eg
    exact hcell 0 (by simp)
  have hmk2 : ∀ W : World, (Instr.makeMap 67 none).run Tryd.prog W = .ok (.map (some W.heap.size)) (W.alloc (.map #[] 0)) := fun W => Go.RowKit.run_makeMap _ W
  have b3 := below_alloc1 w2 (.map #[] 0)
  have zz2 := B1.out.size
  have hc3 : (w2.alloc (.map #[] 0)).cell? ⟨w1.heap.size, 0, none⟩ = some (.slice a1 n c1) := (b3.cell (p := ⟨w1.heap.size, 0, none⟩) (by show w1.heap.size < w2.heap.size; omega)).trans hc2
  have M3 := Lib.hid (show MapX (w2.alloc (.map #[] 0)) (w1.heap.size + 1) [] [] by have := MapX.new w2; rw [hz2] at this; exact this)
  have B3 := Lib.hid (B1.out.trans (b3.mono zz2))
  have O3 := Lib.hid (O1.out.below b3)
  have F3 := Lib.hid (F1.out.below b3)
  have hz3 : (w2.alloc (.map #[] 0)).heap.size = w2.heap.size + 1 := by simp
  clear b3 hc2 O1 F1
  go_wp2_with fail
  generalize w2.alloc (.map #[] 0) = w3 at *
  refine (keyOf_any a1 n c1 (unitL n) w3 O3.out.ints (by omega) (by omega) ((unitL_pts n).inI (by omega)) (HT.out.below B3.out)).mono ?_
  rintro e w4 ⟨rfl, b4⟩
  have M4 := Lib.hid (M3.out.below b4)
  have zz3 := B3.out.size
  have B4 := Lib.hid (B3.out.trans (b4.mono zz3))
  have O4 := Lib.hid (O3.out.below b4)
  have F4 := Lib.hid (F3.out.below b4)
  have hml : w1.heap.size + 1 < w4.heap.size := M4.out.lt
  clear b4 M3 B3 O3 F3 hc3
  go_wp2_with (refine wpList_putX w4 Tryd.underlying67 Tryd.underlying9 rfl _ _ _ (.inr rfl) (w1.heap.size + 1) [] [] (keyB (unitL n)) M4.out (by simp) rfl rfl ?_; intro w5 o5 m5)
  have G5 : GJ w w5 n (some ⟨w1.heap.size, 0, none⟩) 1 1 [.slice a1 n c1] [unitL n] (w1.heap.size + 1) := by
    refine ⟨?_, m5, by omega, fun z hz => ?_, by simp, B4.out.trans (o5.below (by omega) B4.out.size)⟩
    · refine SpF.only ?_ M4.out.obj o5
      refine ⟨F4.out, rfl, fun j u d hu hd => ?_⟩
      match j, hu, hd with
      | 0, hu, hd => simp at hu hd; subst hu hd; exact ⟨_, _, _, rfl, O4.out⟩
    · simp at hz; subst hz; exact unitL_pts n
  have GH := Lib.hid G5
  obtain ⟨mb, hmb⟩ : ∃ mb, w1.heap.size + 1 = mb := ⟨_, rfl⟩
  rw [hmb] at GH ⊢
  clear G5 o5 m5 M4 B4 O4 F4 hz3 hml hmk2 B1
  go_wp2_with fail
  go_loopw [6, 8] (fun fv iv wr => ∃ (i f : Nat) (af : Option Addr) (nf cf : Nat) (uf : List Value) (es : List (List Int)), fv = .slice af nf cf ∧ iv = .int .i64 i ∧ i ≤ nf ∧ 0 < nf ∧ nf ≤ 1000 ∧ f + i = 1002 ∧ R = runG gs f i es ∧ GJ w wr n af nf cf uf es mb) (fun _ iv _ => 1002 - (intOf iv).toNat)
  case atStart => exact ⟨0, 1002, _, 1, 1, _, _, rfl, rfl, by omega, by omega, by omega, rfl, HR.out, GH.out⟩
  case round =>
    clear GH
    obtain ⟨i, f, af, nf, cf, uf, es, rfl, rfl, hi, hpos, hnf, hfi, hR, gr⟩ := hrel
    obtain ⟨f', rfl⟩ : ∃ f', f = f' + 1 := ⟨f - 1, by omega⟩
    have hel := gr.fnd.len
    by_cases hlt : i < nf
    · have GR := Lib.hid gr
      have H0 := Lib.hid hR
      clear gr hR
      have hie : i < es.length := by omega
      go_wp2_with fail
      go_loopw [6, 30] (fun fv kv wr => ∃ (k : Nat) (af : Option Addr) (nf cf : Nat) (uf : List Value) (es' : List (List Int)), fv = .slice af nf cf ∧ kv = .int .i64 k ∧ k ≤ gn ∧ 0 < nf ∧ es' = rowG gs es i k ∧ nf ≤ 1000 + k ∧ GJ w wr n af nf cf uf es' mb) (fun _ kv _ => gn - (intOf kv).toNat)
      case atStart => exact ⟨0, _, _, _, _, _, rfl, rfl, Nat.zero_le _, hpos, rfl, by omega, GR.out⟩
      case round =>
        clear GR hnf hlt hel hi hpos
        obtain ⟨k, af, nf, cf, uf, es', rfl, rfl, hk, hpos, he', hnf, gr⟩ := hrel
        have hel := gr.fnd.len
        have hrl := rowG_len gs es i k
        rw [← he'] at hrl
        have hbel := gr.bel
        by_cases hlt : k < gn
        · have hiN : i < nf := by omega
          obtain ⟨g1, a, b, kk, rfl, hc1, hu1, ho1⟩ := gr.fnd.at_ hiN
          obtain ⟨b2, off2, a2, n2, c2, rfl, hc2, hi2⟩ := (HG.out.below hbel).at_ hlt
          have hp1 := gr.pts (lget es' i) (lget_mem (by omega))
          have hp2 := HGP.out (lget gs k) (lget_mem (by omega))
          have hb1 : n = b := by have := ho1.len; rw [List.length_map, hp1.1] at this; exact this
          have hn2 : n = n2 := by rw [← hi2.1, hp2.1]
          subst hb1 hn2
          have hpt := thenL_pts hp1 hp2
          have hst : rowG gs es i (k + 1) = stepG gs es' i k := by rw [he']; rfl
          unfold stepG at hst
          obtain ⟨p, hpe⟩ : ∃ p, p = thenL (lget es' i) (lget gs k) := ⟨_, rfl⟩
          rw [← hpe] at hst hpt
          have HPE := Lib.hid hpe
          have HI1 := Lib.hid ho1
          have HI2 := Lib.hid hi2
          have GR := Lib.hid gr
          have HST := Lib.hid hst
          have HP1 := Lib.hid hp1.2
          have HPT := Lib.hid hpt
          have HLK := Lib.hid (seen_look gr.fnd.len gr.pts hpt)
          have hi0 : (i : Int) < (nf : Int) := by omega
          have hsz := hbel.size
          clear hpe hst ho1 hi2 gr hp1 hp2 hu1 hpt
          go_wp2_with fail
          refine (then_any _ _ n n _ _ (lget es' i) (lget gs k) _ HI1.out.ints HI2.out HP1.out (by omega)).mono ?_
          rintro e w5 ⟨a5, c5, rfl, o5, b5⟩
          rw [← HPE.out] at o5
          have GR5 := Lib.hid (GR.out.below b5)
          have O5 := Lib.hid (o5.mono (show w.heap.size ≤ wr.heap.size from hsz))
          clear o5 b5 GR HI1 HI2 hc1 hc2 hbel
          go_wp2_with fail
          refine (keyOf_any a5 n c5 p w5 O5.out.ints (by omega) (by omega) (HPT.out.inI (by omega)) (HT.out.below GR5.out.bel)).mono ?_
          rintro e w6 ⟨rfl, b6⟩
          have GR6 := Lib.hid (GR5.out.below b6)
          have O6 := Lib.hid (O5.out.below b6)
          have z6 := GR6.out.bel.size
          clear GR5 O5 b6
          by_cases hin : p ∈ es'
          · have hst2 : rowG gs es i (k + 1) = es' := by rw [HST.out, if_pos hin]
            have HS2 := Lib.hid hst2
            have HL2 := Lib.hid (HLK.out.trans (by rw [decide_eq_true hin] : _ = Value.bool true))
            clear hst2 HLK
            go_wp2_with (refine wpList_lookX w6 Tryd.underlying67 Tryd.underlying9 zvB rfl _ _ rfl mb _ _ (keyB p) (.bool true) GR6.out.map HL2.out rfl rfl ?_)
            go_roundw
            case rel => exact ⟨k + 1, _, _, _, _, _, rfl, by go_num, by omega, hpos, HS2.out.symm, by omega, GR6.out⟩
            case measure => simp [intOf]; omega
          · have hst2 : rowG gs es i (k + 1) = es' ++ [p] := by rw [HST.out, if_neg hin]
            have HS2 := Lib.hid hst2
            have HL2 := Lib.hid (HLK.out.trans (by rw [decide_eq_false hin] : _ = Value.bool false))
            have HNI := Lib.hid hin
            have hni : keyB p ∉ es'.map keyB := fun e => by
              obtain ⟨z, hz, ez⟩ := List.mem_map.1 e
              have := key_inj (GR6.out.pts z hz).nn HPT.out.nn ez
              subst this; exact hin hz
            have HNK := Lib.hid hni
            clear hst2 HLK hin hni
            go_upto_region 12 with (refine wpList_lookX w6 Tryd.underlying67 Tryd.underlying9 zvB rfl _ _ rfl mb _ _ (keyB p) (.bool false) GR6.out.map HL2.out rfl rfl ?_)
            go_upto_region 13 with (refine wpList_putX w6 Tryd.underlying67 Tryd.underlying9 rfl _ _ _ (.inl rfl) mb _ _ (keyB p) GR6.out.map HNK.out rfl rfl ?_; intro w7 o7 m7)
            have hf7 := Lib.hid (GR6.out.fnd.only GR6.out.map.obj o7)
            have O7 := Lib.hid (O6.out.onlyM GR6.out.map.obj o7)
            have hw7 : w.heap.size ≤ w7.heap.size := Nat.le_trans z6 o7.size
            have ON := Lib.hid o7
            have MN := Lib.hid m7
            clear o7 m7 O6
            go_upto_region 14 with (at_builtin; refine wpList_ap1 etSS _ rfl _ _ rfl w.heap.size _ nf cf uf rfl hf7.out.own (.slice a5 n c5) rfl rfl (by omega) hw7 ?_; intro ao8 c8 w8 o8 g8 hat8)
            have GF := Lib.hid (GR6.out.grow HPT.out HNI.out ON.out MN.out O7.out o8 g8)
            clear o8 g8 hat8 hf7 ON MN O7 GR6 HNK HNI
            go_wp2_with fail
            go_roundw
            case rel => exact ⟨k + 1, _, _, _, _, _, rfl, by go_num, by omega, by omega, HS2.out.symm, by omega, GF.out⟩
            case measure => simp [intOf]; omega
        · obtain rfl : k = gn := by omega
          have hrw : rowG gs es i gs.length = es' := by rw [hgl, ← he']
          by_cases hbig : nf ≤ 1000
          · have hR2 : R = runG gs f' (i + 1) es' := by rw [H0.out, runG_go hie (by rw [hrw]; omega), hrw]
            have HR2 := Lib.hid hR2
            have GR2 := Lib.hid gr
            have hd : decide ((1000 : Int) < (nf : Int)) = false := by simp; omega
            clear gr hR2
            go_wp2_with fail
            go_roundw
            case rel => exact ⟨i + 1, f', _, _, _, _, _, rfl, by go_num, by omega, hpos, hbig, by omega, HR2.out, GR2.out⟩
            case measure => simp [intOf]; omega
          · have hRn : R = none := by rw [H0.out]; exact runG_bad hie (by rw [hrw]; omega)
            have HRN := Lib.hid hRn
            have HB := Lib.hid gr.bel
            have hd : decide ((1000 : Int) < (nf : Int)) = true := by simp; omega
            clear hRn gr
            go_wp2_with fail
            exact bodyPost_ret (v := .tuple #[.slice none 0 0, .bool false]) (by simp [results, Tryd.f36, go_sem]) rfl (by unfold GrpI; exact ⟨none, 0, 0, [], [], by rw [HRN.out]; rfl, fun _ => ⟨rfl, rfl, rfl⟩, fun es h => (by rw [HRN.out] at h; cases h), HB.out⟩)
    · have he := runG_end (gs := gs) (f := f') (i := i) (es := es) (by omega)
      have HRE := Lib.hid (show R = some es by rw [hR, he])
      have GR := Lib.hid gr
      have hsz := gr.bel.size
      clear gr hR he
      go_wp2_with fail
      refine (sort_any wr w.heap.size af nf cf n uf es GR.out.fnd hpos (fun d hd => (GR.out.pts d hd).1) GR.out.nod).mono ?_
      rintro e w9 ⟨rfl, us9, ds9, sp9, asc9, mem9, g9⟩
      have hb9 := Lib.hid (GR.out.bel.grown g9 hsz (fun g e => (GR.out.fnd.own.lt g e).1))
      have S9 := Lib.hid sp9
      clear sp9 g9 GR
      go_wp2_with fail
      exact bodyPost_ret (v := .tuple #[.slice af nf cf, .bool true]) (by simp [results, Tryd.f36, go_sem]) rfl (by unfold GrpI; exact ⟨af, nf, cf, us9, ds9, by rw [HRE.out]; rfl, fun h => (by rw [HRE.out] at h; cases h), fun es' h => (by rw [HRE.out] at h; injection h with h; subst h; exact ⟨asc9, mem9, S9.out⟩), hb9.out⟩)
end Go.Proofs.YtljimlejcecleaaDoor

/- Numbers of lists, looked up by their keys. -/
namespace Go.Proofs.YtljimlejcecleaaDoor
open Go.RowKit

def numU (k : Nat) : List Value := (List.range k).map fun (i : Nat) => Value.int .i64 (i : Int)
theorem numU_succ (k : Nat) : numU (k + 1) = numU k ++ [.int .i64 (k : Int)] := by simp [numU, List.range_succ]
theorem num_look {ss : List (List Int)} {q : List Int} {N : Nat} (ha : AscL ss) (hp : ∀ z ∈ ss, Pts N z) (hq : q ∈ ss) :
    (match fndS (keyB q) (ss.map keyB) 0 with | some m => (numU ss.length).getD m undef | none => .int .i64 0) = .int .i64 (lowL ss q : Int) := by
  obtain ⟨m, h1, h2⟩ := fndS_some (k := keyB q) (i := 0) (List.mem_map.2 ⟨q, hq, rfl⟩)
  have hm : m < ss.length := by have := (List.getElem?_eq_some_iff.1 h2).1; simpa using this
  rw [h1]
  simp only [Nat.zero_add]
  rw [List.getElem?_map, List.getElem?_eq_getElem hm] at h2
  have h3 := key_inj ((hp _ (List.getElem_mem hm)).nn) (hp q hq).nn (Option.some.inj h2)
  have h4 : m = lowL ss q := low_uniq ha hm (by rw [lget_lt hm]; exact h3)
  rw [← h4]
  unfold numU
  rw [List.getD_eq_getElem?_getD, List.getElem?_map, List.getElem?_range hm]; rfl
theorem zvI (w : World) : (zeroValue 2).run Tryd.prog w = .ok (.int .i64 0) w := by simp [go_sem, run_underlying Tryd.underlying2]
end Go.Proofs.YtljimlejcecleaaDoor

/- Simplices, the program's. guards: -/
namespace Go.Proofs.YtljimlejcecleaaDoor
open Go.RowKit

theorem sxG_take {n k : Nat} (h : k < n) : (sxG n).take (k + 1) = (sxG n).take k ++ [swpG n k] := by
  unfold sxG
  rw [List.take_succ_eq_append_getElem (by simp; omega)]
  simp
theorem sxG_get {n k : Nat} (h : k < n) : lget (sxG n) k = swpG n k := by
  unfold sxG
  rw [lget_lt (by simp; omega)]
  simp
theorem unit_get {n k : Nat} (h : k < n) : iget (unitL n) k = (k : Int) := by simp [unitL, iget, h]
theorem unit_swp {n i : Nat} (hi : i < n) : (((unitL (n + 1)).map (Value.int .i64)).set i (.int .i64 ((i : Int) + 1))).set (i + 1) (.int .i64 (i : Int)) = (swpG n i).map (Value.int .i64) := by
  have h1 : iget (unitL (n + 1)) (i + 1) = (i : Int) + 1 := by rw [unit_get (by omega)]; omega
  have h2 : iget (unitL (n + 1)) i = (i : Int) := unit_get (by omega)
  unfold swpG swpP
  rw [h1, h2, ← List.map_set, ← List.map_set]
theorem intss_onlyM {w w' : World} {mb n : Nat} {ao : Option Addr} {ds : List (List Int)} (h : Intss w ao n ds) (hm : ∃ es k, w.heap[mb]? = some (.map es k)) (ho : Only mb (mb + 1) w w') : Intss w' ao n ds := by
  obtain ⟨es, kk, hm⟩ := hm
  have hc : ∀ (a : Addr) v, w.cell? a = some v → w'.cell? a = some v := fun a v hv => by
    have hlt := World.block_lt_of_cell? w _ hv
    have hne : a.block ≠ mb := fun e => by
      unfold World.cell? at hv
      rw [e, hm] at hv
      cases hv
    exact (World.cell?_of_block (ho.block a.block hlt (by omega))).trans hv
  refine ⟨h.1, h.2.1, fun hn => ?_⟩
  obtain ⟨b, off, e, h1⟩ := h.2.2 hn
  refine ⟨b, off, e, fun j hj => ?_⟩
  obtain ⟨u, h2, a', n', c', rfl, h3⟩ := h1 j hj
  refine ⟨_, hc _ _ h2, a', n', c', rfl, h3.1, h3.2.1, fun hn' => ?_⟩
  obtain ⟨b', o', e', h4⟩ := h3.2.2 hn'
  exact ⟨b', o', e', fun j hj => hc _ _ (h4 j hj)⟩
set_option maxRecDepth 100000 in
set_option maxHeartbeats 6400000 in
theorem implSimplex_any (n : Nat) (h1 : 1 ≤ n) (h4 : n ≤ 4) (w : World) (hT : PT w) :
    Calls Tryd.prog 23 #[.int .i64 n] w fun e w' => ∃ r, e = .returned r ∧ OwM 2 22 w' w.heap.size w'.heap.size r (sxL n) ∧ Below w.heap.size w w' := by
  obtain ⟨ss, hsse⟩ : ∃ ss, sxO n = ss := ⟨_, rfl⟩
  have HSS := Lib.hid hsse
  have SX := sx_ok h1 h4
  have hfew : ss.length ≤ 120 := by rw [← hsse]; exact SX.few
  have HASC := Lib.hid (show AscL ss by rw [← hsse]; exact SX.asc)
  have HSP := Lib.hid (show ∀ z ∈ ss, Pts (n + 1) z by rw [← hsse]; exact SX.pts)
  have HME := Lib.hid (show ∀ z ∈ ss, ∀ i, i < n → swpP z i ∈ ss by rw [← hsse]; exact SX.mem)
  have HGEN := Lib.hid SX.gen
  have HGR := Lib.hid (show ∃ es, grpE (sxG n) (n + 1) = some es ∧ ∀ z, z ∈ ss ↔ z ∈ es by rw [← hsse]; exact SX.grp)
  have HT := Lib.hid hT
  have hmk : ∀ W : World, (Instr.makeMap 56 none).run Tryd.prog W = .ok (.map (some W.heap.size)) (W.alloc (.map #[] 0)) := fun W => Go.RowKit.run_makeMap _ W
  have b1 := below_alloc1 w (.cells #[.slice none 0 0] 30)
  have kr1 : Blk (w.alloc (.cells #[.slice none 0 0] 30)) w.heap.size 30 #[.slice none 0 0] := blk_at rfl
  have hz1 : w.heap.size < (w.alloc (.cells #[.slice none 0 0] 30)).heap.size := by simp
  have hN : Own (w.alloc (.cells #[.slice none 0 0] 30)) (w.alloc (.cells #[.slice none 0 0] 30)).heap.size 22 none 0 0 [] := Own.nil_ _ _ _
  clear SX hsse hT
  go_enter Tryd.func23, Tryd.ntmps23
  go_upto_region 2 with fail
  generalize w.alloc (.cells #[.slice none 0 0] 30) = w1 at *
  go_wp2_with fail
  go_loopw [3, 18] (fun sv kv wr => ∃ (k : Nat) (a : Option Addr) (c : Nat) (us : List Value), sv = .slice a k c ∧ kv = .int .i64 k ∧ k ≤ n ∧ SpF wr w1.heap.size a k c us ((sxG n).take k) ∧ Below w1.heap.size w1 wr) (fun _ kv _ => n - (intOf kv).toNat)
  case atStart => exact ⟨0, none, 0, [], rfl, rfl, Nat.zero_le _, ⟨hN, rfl, fun j u d hu _ => by simp at hu⟩, Below.refl _ _⟩
  case round =>
    clear hN
    obtain ⟨k, a, c, us, rfl, rfl, hk, sp, hb⟩ := hrel
    obtain ⟨wA, rfl⟩ : ∃ x, x = wr := ⟨_, rfl⟩
    have SP := Lib.hid sp
    have hszA := hb.size
    clear sp
    by_cases hlt : k < n
    · have hc := Lib.hid (fun W => by
        have := identity_any (n + 1) W (by omega)
        rw [show ((n + 1 : Nat) : Int) = (n : Int) + 1 by omega] at this
        exact this)
      go_wp2_with fail
      refine (hc.out wA).mono ?_
      rintro e w2 ⟨a4, c4, rfl, o2, b2⟩
      obtain ⟨g4, rfl, hg4b, hg4l, -, hcell4, hfr4⟩ := o2.form (by omega)
      have hul : (unitL (n + 1)).length = n + 1 := by simp [unitL]
      obtain ⟨u1, y1⟩ : ∃ u, w2.cell? ⟨g4, k, none⟩ = some u := ⟨_, by rw [hcell4 k (by omega), List.getElem?_eq_getElem (by simp; omega)]⟩
      have f1 := hfr4 k
      obtain ⟨st1, sg1⟩ := o2.stored k (.int .i64 ((k : Int) + 1))
      have B3 := Lib.hid (b2.grown sg1 b2.size (fun g e => by injection e with e; omega))
      obtain ⟨g4', e4, -, -, -, hcell5, hfr5⟩ := st1.form (by omega)
      injection e4 with e4; injection e4 with e4; subst e4
      obtain ⟨u2, y2⟩ : ∃ u, (w2.setCell ⟨g4, k, none⟩ (.int .i64 ((k : Int) + 1))).cell? ⟨g4, k + 1, none⟩ = some u := ⟨_, by rw [hcell5 (k + 1) (by omega), List.getElem?_eq_getElem (by simp; omega)]⟩
      have f2 := hfr5 (k + 1)
      obtain ⟨st2, sg2⟩ := st1.stored (k + 1) (.int .i64 (k : Int))
      have B4 := Lib.hid (B3.out.grown sg2 B3.out.size (fun g e => by injection e with e; omega))
      rw [unit_swp hlt] at st2
      have O4 := Lib.hid st2
      have hk0 : (k : Int) < (n : Int) + 1 := by omega
      clear st1 sg1 st2 sg2 o2 b2 hcell4 hfr4 hcell5 hfr5 B3
      go_upto_region 7 with fail
      generalize (w2.setCell ⟨g4, k, none⟩ (.int .i64 ((k : Int) + 1))).setCell ⟨g4, k + 1, none⟩ (.int .i64 (k : Int)) = w4 at *
      clear y1 y2 f1 f2
      have SP4 := Lib.hid (SP.out.below B4.out)
      have hz4 := B4.out.size
      have O4' := Lib.hid (O4.out.mono (show w1.heap.size ≤ wA.heap.size from hszA))
      go_wp2_with (at_builtin; refine wpList_ap1 etSS _ rfl _ _ rfl w1.heap.size a k c _ rfl SP4.out.own (.slice (some ⟨g4, 0, none⟩) (n + 1) c4) rfl rfl (by omega) (by omega) ?_; intro ao2 c2 w5 ho2 hg2 hat)
      have SP5 := Lib.hid (SP4.out.push O4'.out hg2 ho2)
      have B5 := Lib.hid ((hb.trans (B4.out.mono hszA)).grown hg2 (by omega) (fun g e => (SP4.out.own.lt g e).1))
      have HTK := Lib.hid (sxG_take hlt)
      clear ho2 hg2 hat SP4 O4 O4' SP B4
      go_roundw
      case rel => exact ⟨k + 1, ao2, c2, _, rfl, by go_num, by omega, by rw [HTK.out]; exact SP5.out, B5.out⟩
      case measure => simp [intOf]; omega
    · obtain rfl : k = n := by omega
      have htk : (sxG k).take k = sxG k := List.take_of_length_le (by simp [sxG])
      rw [htk] at SP
      have hgl0 : (sxG k).length = k := by simp [sxG]
      have HGS := Lib.hid SP.out.intss
      have hgr := Lib.hid (fun W (hg : Intss W a k (sxG k)) (hp : PT W) => by
        have := grpI_any (k + 1) k c a (sxG k) W (by omega) (by omega) hg HGEN.out (by omega) hp
        rw [show ((k + 1 : Nat) : Int) = (k : Int) + 1 by omega] at this
        exact this)
      obtain ⟨es, hG, hGm⟩ := HGR.out
      have HBA := Lib.hid (b1.trans (hb.mono (show w.heap.size ≤ w1.heap.size by omega)))
      have KRA := Lib.hid (kr1.belowS hb)
      clear b1 kr1 hb
      go_wp2_with fail
      refine (hgr.out wA HGS.out (HT.out.below HBA.out)).mono ?_
      rintro e w3 hans
      obtain ⟨ga, gm, gc, us3, ss', rfl, -, hg2, b3⟩ := hans
      obtain ⟨hasc', hmem', sp3⟩ := hg2 es hG
      obtain rfl : ss' = ss := ascL_uniq hasc' HASC.out fun z => (hmem' z).trans (hGm z).symm
      rw [hG]
      have hgl := sp3.len
      have HG3 := Lib.hid sp3.intss
      have HGS3 := Lib.hid (HGS.out.below b3)
      have zA := HBA.out.size
      have B3 := Lib.hid (HBA.out.trans (b3.mono zA))
      have KR3 := Lib.hid (KRA.out.belowS b3)
      have hz3 := B3.out.size
      have hl3 := KR3.out.lt
      clear hg2 hasc' hmem' sp3 b3 hgr HGS HBA KRA SP hG hGm
      have bm := below_alloc1 w3 (.map #[] 0)
      have M4 := Lib.hid (MapX.new w3)
      have B4 := Lib.hid (B3.out.trans (bm.mono hz3))
      have KR4 := Lib.hid (KR3.out.belowS bm)
      have HG4 := Lib.hid (HG3.out.below bm)
      have HGS4 := Lib.hid (HGS3.out.below bm)
      have hz4 : w3.heap.size < (w3.alloc (.map #[] 0)).heap.size := by simp
      clear bm
      go_upto_region 11 with fail
      generalize w3.alloc (.map #[] 0) = w4 at *
      obtain ⟨mb, hmb⟩ : ∃ mb, w3.heap.size = mb := ⟨_, rfl⟩
      rw [hmb] at M4 hz4 hl3 hz3 ⊢
      clear hmk hmb B3 KR3 HG3 HGS3
      have zB4 := B4.out.size
      have hN1 : 0 < k + 1 := by omega
      go_wp2_with fail
      go_loopw [49] (fun kv wr => ∃ i : Nat, kv = .int .i64 i ∧ i ≤ gm ∧ MapX wr mb ((ss'.take i).map keyB) (numU i) ∧ Blk wr w.heap.size 30 #[.slice none 0 0] ∧ Intss wr ga gm ss' ∧ Intss wr a k (sxG k) ∧ Below w.heap.size w wr) (fun kv _ => gm - (intOf kv).toNat)
      case atStart => exact ⟨0, rfl, Nat.zero_le _, M4.out, KR4.out, HG4.out, HGS4.out, B4.out⟩
      case round =>
        clear M4 KR4 HG4 HGS4 B4
        obtain ⟨i, rfl, hi, hm, hkr, hgi, hgs, hb⟩ := hrel
        have MM := Lib.hid hm
        have KR := Lib.hid hkr
        have HG := Lib.hid hgi
        have HI := Lib.hid hgs
        have hsz := hb.size
        clear hm hkr hgi hgs
        by_cases hlti : i < gm
        · obtain ⟨b3, off3, a3, n3, c3, rfl, hc3, hi3⟩ := HG.out.at_ hlti
          have hp := HSP.out (lget ss' i) (lget_mem (by omega))
          have hn3 : n3 = k + 1 := by rw [← hi3.1, hp.1]
          subst hn3
          have HI3 := Lib.hid hi3
          have HP := Lib.hid hp
          have hni : keyB (lget ss' i) ∉ (ss'.take i).map keyB := fun e => by
            obtain ⟨z, hz, ez⟩ := List.mem_map.1 e
            have hzs := List.mem_of_mem_take hz
            have e2 := key_inj (HSP.out z hzs).nn HP.out.nn ez
            obtain ⟨j, hj, ej⟩ := List.getElem_of_mem hz
            have hj2 : j < i := by rw [List.length_take] at hj; omega
            rw [List.getElem_take] at ej
            have h1 := low_uniq HASC.out (m := j) (q := lget ss' i) (by omega) (by rw [lget_lt (by omega), ej, e2])
            have h2 := low_uniq HASC.out (m := i) (q := lget ss' i) (by omega) rfl
            omega
          have HNI := Lib.hid hni
          have HTK := Lib.hid (show (ss'.take (i + 1)).map keyB = (ss'.take i).map keyB ++ [keyB (lget ss' i)] by rw [List.take_succ_eq_append_getElem (by omega), List.map_append, lget_lt (by omega)]; rfl)
          clear hi3 hp hni
          go_wp2_with fail
          refine (keyOf_any a3 (k + 1) c3 (lget ss' i) wr HI3.out hN1 (by omega) (HP.out.inI (by omega)) (HT.out.below hb)).mono ?_
          rintro e w5 ⟨rfl, b5⟩
          have M5 := Lib.hid (MM.out.below b5)
          have KR5 := Lib.hid (KR.out.belowS b5)
          have B5 := Lib.hid (hb.trans (b5.mono hsz))
          have HG5 := Lib.hid (HG.out.below b5)
          have HI5 := Lib.hid (HI.out.below b5)
          clear MM KR b5
          go_wp2_with (refine wpList_putX w5 Tryd.underlying56 Tryd.underlying9 rfl _ _ _ (.inl rfl) mb _ _ (keyB (lget ss' i)) M5.out HNI.out rfl rfl ?_; intro w6 o6 m6)
          have M6 := Lib.hid m6
          have O6 := Lib.hid o6
          have hz5 := B5.out.size
          clear o6 m6
          go_roundw
          case rel => exact ⟨i + 1, by go_num, by omega, by rw [HTK.out, numU_succ]; exact M6.out, KR5.out.only O6.out (.inl (by omega)), intss_onlyM HG5.out M5.out.obj O6.out, intss_onlyM HI5.out M5.out.obj O6.out, B5.out.trans (O6.out.below (by omega) hz5)⟩
          case measure => simp [intOf]; omega
        · obtain rfl : i = gm := by omega
          have hta : ss'.take i = ss' := List.take_of_length_le (by omega)
          have MM2 := Lib.hid (show MapX wr mb (ss'.map keyB) (numU ss'.length) by have := MM.out; rw [hta] at this; rw [hgl]; exact this)
          have hml := MM2.out.lt
          clear MM hta
          obtain ⟨wB, rfl⟩ : ∃ x, x = wr := ⟨_, rfl⟩
          have hbB := Lib.hid hb
          have b7 := (Below.refl wB.heap.size wB).alloc (Nat.le_refl _) (.cells #[.slice none 0 0] 30)
          have ST := Lib.hid (MBx.start (w := wB) b7 (Blk.new wB 30 #[.slice none 0 0]) (Nat.le_refl _))
          clear b7 hb
          go_upto_region 17 with fail
          generalize wB.alloc (.cells #[.slice none 0 0] 30) = w7 at *
          obtain ⟨bx, hbx⟩ : ∃ bx, wB.heap.size = bx := ⟨_, rfl⟩
          have HBX := Lib.hid hbx
          rw [hbx] at ST ⊢
          clear hbx
          go_wp2_with fail
          go_loopw [61] (fun kv wr => ∃ (q : Nat) (ao : Option Addr) (c : Nat) (us : List Value), kv = .int .i64 q ∧ q ≤ k ∧ MBx wB wr bx (bx + 1) ao q c us ((sxL k).take q)) (fun kv _ => k - (intOf kv).toNat)
          case atStart => exact ⟨0, none, 0, [], rfl, Nat.zero_le _, ST.out⟩
          case round =>
            clear ST
            obtain ⟨q, am, cm, um, rfl, hq, st⟩ := hrel
            obtain ⟨wC, rfl⟩ : ∃ x, x = wr := ⟨_, rfl⟩
            by_cases hltq : q < k
            · have ST := Lib.hid st
              have hbw := st.bel
              have hzr := hbw.size
              obtain ⟨b2, off2, a2, n2, c2, rfl, hc2, hi2⟩ := (HI.out.below hbw).at_ hltq
              rw [sxG_get hltq] at hi2
              have hp2 := HGEN.out (swpG k q) (by rw [← sxG_get hltq]; exact lget_mem (by omega))
              have hn2 : n2 = k + 1 := by rw [← hi2.1, hp2.1]
              subst hn2
              have HI2 := Lib.hid hi2
              have HP2 := Lib.hid hp2.2
              have hE : Own wC wC.heap.size 2 none 0 0 [] := Own.nil_ _ _ _
              clear st hi2 hp2
              go_wp2_with fail
              go_loopw [14, 67] (fun sv iv w8 => ∃ (j : Nat) (a : Option Addr) (cc : Nat), j ≤ i ∧ sv = .slice a j cc ∧ iv = .int .i64 j ∧ Own w8 wC.heap.size 2 a j cc ((sxRow ss' q j).map (Value.int .i64)) ∧ Below wC.heap.size wC w8) (fun _ iv _ => i - (intOf iv).toNat)
              case atStart => exact ⟨0, _, _, Nat.zero_le _, rfl, rfl, by simpa [sxRow] using hE, Below.refl _ _⟩
              case round =>
                clear hE hc2
                obtain ⟨j, a, cc, hj, rfl, rfl, ho, hb8⟩ := hrel
                obtain ⟨w8, rfl⟩ : ∃ x, x = wr := ⟨_, rfl⟩
                have HBW := Lib.hid (hbw.trans (hb8.mono hzr))
                have HO8 := Lib.hid ho
                have hsz8 := hb8.size
                clear ho
                by_cases hltj : j < i
                · obtain ⟨b1, off1, a1, n1, c1, rfl, hc1, hi1⟩ := (HG.out.below HBW.out).at_ hltj
                  have hp1 := HSP.out (lget ss' j) (lget_mem (by omega))
                  have hn1 : n1 = k + 1 := by rw [← hi1.1, hp1.1]
                  subst hn1
                  have hq1 := HME.out (lget ss' j) (lget_mem (by omega)) q hltq
                  have hrw := sxRow_succ (ss := ss') (i := q) (k := j) (by omega)
                  obtain ⟨p, hpe⟩ : ∃ p, swpP (lget ss' j) q = p := ⟨_, rfl⟩
                  rw [hpe] at hq1 hrw
                  have HPE := Lib.hid (show thenL (swpG k q) (lget ss' j) = p by rw [then_swp hp1.1 hltq]; exact hpe)
                  have HRW := Lib.hid hrw
                  have HLK := Lib.hid (num_look HASC.out HSP.out hq1)
                  have HPP := Lib.hid (HSP.out p hq1)
                  have HI1 := Lib.hid hi1
                  clear hpe hrw hi1 hp1 hq1
                  go_wp2_with fail
                  refine (then_any _ _ (k + 1) (k + 1) _ _ (swpG k q) (lget ss' j) _ (HI2.out.below hb8) HI1.out HP2.out (by omega)).mono ?_
                  rintro e w9 ⟨a9, c9, rfl, o9, b9⟩
                  rw [HPE.out] at o9
                  have O9 := Lib.hid o9
                  have HO9 := Lib.hid (HO8.out.below b9)
                  have hb9 := Lib.hid (hb8.trans (b9.mono hsz8))
                  have HB9 := Lib.hid (HBW.out.trans (b9.mono HBW.out.size))
                  clear o9 b9 HI1 HO8
                  go_wp2_with fail
                  refine (keyOf_any a9 (k + 1) c9 p w9 O9.out.ints hN1 (by omega) (HPP.out.inI (by omega)) (HT.out.below (hbB.out.trans (HB9.out.mono hsz)))).mono ?_
                  rintro e w10 ⟨rfl, b10⟩
                  have HO10 := Lib.hid (HO9.out.below b10)
                  have hb10 := Lib.hid (hb9.out.trans (b10.mono hb9.out.size))
                  have HB10 := Lib.hid (HB9.out.trans (b10.mono HB9.out.size))
                  have M10 := Lib.hid (MM2.out.below HB10.out)
                  have hz10 := hb10.out.size
                  have hlo := fun g hg => (HO10.out.lt g hg).1
                  clear b10 HB9 hb9 HO9 O9
                  go_wp2_with (first | (refine wpList_lookX w10 Tryd.underlying56 Tryd.underlying9 zvI rfl _ _ rfl mb _ _ (keyB p) (.int .i64 (lowL ss' p : Int)) M10.out HLK.out rfl rfl ?_) | (at_builtin; refine wpList_ap1 etI _ rfl _ _ rfl wC.heap.size a j cc _ rfl HO10.out (.int .i64 (lowL ss' p : Int)) rfl rfl (by omega) hz10 ?_; intro ao2 c2' w4 ho2 hg2 hblk))
                  have HO2 := Lib.hid ho2
                  have hb12 := hb10.out.grown hg2 hz10 hlo
                  clear ho2 hblk hg2
                  go_roundw
                  case rel => exact ⟨j + 1, ao2, c2', by omega, rfl, by go_num, by rw [HRW.out, List.map_append]; exact HO2.out, hb12⟩
                  case measure => simp [intOf]; omega
                · obtain rfl : j = i := by omega
                  have hzs : (sxL k).take (q + 1) = (sxL k).take q ++ [sxRow ss' q j] := by rw [sxL_take hltq, HSS.out, hgl]
                  have HZS := Lib.hid hzs
                  have STB := Lib.hid (ST.out.below hb8)
                  have xb := STB.out.cell
                  have hlo8 := STB.out.at_.2.2
                  clear hzs
                  go_wp2_with (at_builtin; refine wpList_ap1 etSS _ rfl _ _ rfl (bx + 1) am q cm _ rfl STB.out.row.own (.slice a j cc) rfl rfl (by omega) hlo8 ?_; intro ao2 c2' w4 ho2 hg2 hat; have x4 := (STB.out.boxG hg2).cell 0; have f4 := (STB.out.boxG hg2).frozen 0)
                  have SP := Lib.hid (ST.out.push (by omega) hb8 HO8.out (Below.refl _ _) ho2 hg2 (hat.imp id fun e => ⟨_, e, Nat.le_succ _⟩))
                  clear ho2 hg2 hat STB ST
                  go_roundw
                  case rel => exact ⟨q + 1, ao2, c2', _, by go_num, by omega, by rw [HZS.out]; exact SP.out⟩
                  case measure => simp [intOf]; omega
            · obtain rfl : q = k := by omega
              have hall : (sxL q).take q = sxL q := List.take_of_length_le (by simp [sxL])
              rw [hall] at st
              have xb := st.cell
              have KRr := KR.out.belowS st.bel
              have xr := KRr.cell 0
              have fr := KRr.frozen 0
              have BF := Lib.hid (hbB.out.trans (st.bel.mono hsz))
              have ST := Lib.hid st
              have hkl := KR.out.lt
              simp at xr
              clear st
              go_wp2
              have hfl : w.heap.size < bx := by rw [← HBX.out]; omega
              exact bodyPost_ret (v := .agg #[.slice am q cm]) (by simp [results, Tryd.f23, go_sem, xr]) rfl ⟨_, rfl, ST.out.done hfl _ hsz, BF.out.setCell (by simp) _⟩
set_option maxHeartbeats 1600000 in
theorem api_implSx (n : Int) (w : World) (hT : PT w) :
    Calls Tryd.prog 11 #[.int .i64 n] w fun e w' => ∃ r, e = .returned (.tuple #[r, .int .i64 (sxC n)]) ∧ OwM 2 22 w' w.heap.size w'.heap.size r (sxR n) ∧ Below w.heap.size w w' := by
  have b1 := below_alloc1 w (.cells #[.slice none 0 0] 30)
  have kr1 : Blk (w.alloc (.cells #[.slice none 0 0] 30)) w.heap.size 30 #[.slice none 0 0] := blk_at rfl
  unfold sxC sxR
  cases hn : inB n 1 4 with
  | false =>
    have HN := Lib.hid hn
    clear hn
    go_enter Tryd.func11, Tryd.ntmps11
    go_wp2_with (go_at_call 22; refine (within_any _ _ _ _).mono ?_; rintro e w' ⟨rfl, rfl⟩; rw [HN.out])
    exact bodyPost_ret (v := .tuple #[.agg #[.slice none 0 0], .int .i64 2]) (by simp [results, Tryd.f11, go_sem]) rfl ⟨_, rfl, own_nilMx, b1⟩
  | true =>
    have HN := Lib.hid hn
    rw [inB_true] at hn
    obtain ⟨k, rfl⟩ := Int.eq_ofNat_of_zero_le (show 0 ≤ n by omega)
    have hk1 : 1 ≤ k := by omega
    have hk4 : k ≤ 4 := by omega
    clear hn
    rw [if_pos rfl, if_pos rfl, Int.toNat_natCast]
    go_enter Tryd.func11, Tryd.ntmps11
    go_wp2_with (go_at_call 22; refine (within_any _ _ _ _).mono ?_; rintro e w' ⟨rfl, rfl⟩; rw [HN.out])
    have hz1 := b1.size
    have hT1 := hT.below b1
    generalize w.alloc (.cells #[.slice none 0 0] 30) = w1 at *
    refine (implSimplex_any k hk1 hk4 w1 hT1).mono ?_
    rintro e w9 ⟨r9, rfl, o9, b9⟩
    have KR9 := Lib.hid (kr1.belowS b9)
    have x9 := KR9.out.cell 0
    have f9 := KR9.out.frozen 0
    have BF := Lib.hid (b1.trans (b9.mono hz1))
    have hl := kr1.lt
    obtain ⟨a9, n9, c9, us9, rfl, or9⟩ := o9
    have OR9 := Lib.hid or9
    simp at x9
    clear b9 or9
    go_wp2
    have hzz : (w9.setCell ⟨w.heap.size, 0, none⟩ (.slice a9 n9 c9)).heap.size = w9.heap.size := by simp [World.setCell]
    exact bodyPost_ret (v := .tuple #[.agg #[.slice a9 n9 c9], .int .i64 0]) (by simp [results, Tryd.f11, go_sem, x9]) rfl ⟨_, rfl, ⟨a9, n9, c9, us9, rfl, by rw [hzz]; exact (OR9.out.same (innerS _) fun g h1 _ _ => Below.heap_setCell _ _ _ _ (by simp; omega)).mono (by omega) (Nat.le_refl _)⟩, BF.out.setCell (by simp) _⟩
end Go.Proofs.YtljimlejcecleaaDoor

/- The walk of FnExactSimplexOf: true, whatever the arguments. Written by genwalk.py. -/
namespace Go.Proofs.YtljimlejcecleaaDoor
open Go.RowKit

set_option maxHeartbeats 3200000 in
theorem walkSimplexOf (n : Int) (w : World) (hT : PT w) :
    Calls Tryd.prog 4 #[.int .i64 n] w fun e w' => e = .returned (.bool true) ∧ Below w.heap.size w w' := by
  have hsz := sxR_small n
  have B0 : Below w.heap.size w w := Below.refl _ _
  go_enter Tryd.func4, Tryd.ntmps4
  go_wp2_with fail
  refine (api_specSx n _  ).mono ?_
  rintro e w1 ⟨u1_0, rfl, o1_0, b1⟩
  obtain ⟨au1_0, nu1_0, cu1_0, rfl⟩ := o1_0.form
  have s1 := b1.size
  have B1 : Below w.heap.size w w1 := B0.trans (b1.mono B0.size)
  go_wp2_with fail
  have bx2 := below_alloc1 w1 (.cells #[.slice au1_0 nu1_0 cu1_0] 30)
  have kbw0_2 : Blk (w1.alloc (.cells #[.slice au1_0 nu1_0 cu1_0] 30)) w1.heap.size 30 #[.slice au1_0 nu1_0 cu1_0] := blk_at rfl
  generalize w1.alloc (.cells #[.slice au1_0 nu1_0 cu1_0] 30) = w2 at *
  have s2 := bx2.size
  have B2 : Below w.heap.size w w2 := B1.trans (bx2.mono B1.size)
  have xkbw0_2_0 : w2.cell? ⟨w1.heap.size, 0, none⟩ = some (.slice au1_0 nu1_0 cu1_0) := kbw0_2.cell 0
  have lkbw0_2 : w1.heap.size < w2.heap.size := kbw0_2.lt
  refine (api_implSx n _ (hT.below (by assumption))).mono ?_
  rintro e w3 ⟨u3_0, rfl, o3_0, b3⟩
  obtain ⟨au3_0, nu3_0, cu3_0, rfl⟩ := o3_0.form
  have s3 := b3.size
  have B3 : Below w.heap.size w w3 := B2.trans (b3.mono B2.size)
  have kbw0_3 : Blk w3 (w1.heap.size) 30 #[.slice au1_0 nu1_0 cu1_0] := (kbw0_2.belowS b3)
  have xkbw0_3_0 : w3.cell? ⟨w1.heap.size, 0, none⟩ = some (.slice au1_0 nu1_0 cu1_0) := kbw0_3.cell 0
  have lkbw0_3 : w1.heap.size < w3.heap.size := kbw0_3.lt
  clear xkbw0_2_0
  go_wp2_with fail
  have bx4 := below_alloc1 w3 (.cells #[.slice au3_0 nu3_0 cu3_0] 30)
  have kbg0_4 : Blk (w3.alloc (.cells #[.slice au3_0 nu3_0 cu3_0] 30)) w3.heap.size 30 #[.slice au3_0 nu3_0 cu3_0] := blk_at rfl
  generalize w3.alloc (.cells #[.slice au3_0 nu3_0 cu3_0] 30) = w4 at *
  have s4 := bx4.size
  have B4 : Below w.heap.size w w4 := B3.trans (bx4.mono B3.size)
  have kbw0_4 : Blk w4 (w1.heap.size) 30 #[.slice au1_0 nu1_0 cu1_0] := (kbw0_3.belowS bx4)
  have xkbw0_4_0 : w4.cell? ⟨w1.heap.size, 0, none⟩ = some (.slice au1_0 nu1_0 cu1_0) := kbw0_4.cell 0
  have lkbw0_4 : w1.heap.size < w4.heap.size := kbw0_4.lt
  have xkbg0_4_0 : w4.cell? ⟨w3.heap.size, 0, none⟩ = some (.slice au3_0 nu3_0 cu3_0) := kbg0_4.cell 0
  have lkbg0_4 : w3.heap.size < w4.heap.size := kbg0_4.lt
  clear xkbw0_3_0
  refine (law_eqM _ (o3_0.below bx4).rd (((o1_0.below bx2).below b3).below bx4).rd).mono ?_
  rintro e w5 ⟨rfl, b5⟩
  have s5 := b5.size
  have B5 : Below w.heap.size w w5 := B4.trans (b5.mono B4.size)
  have kbw0_5 : Blk w5 (w1.heap.size) 30 #[.slice au1_0 nu1_0 cu1_0] := (kbw0_4.belowS b5)
  have xkbw0_5_0 : w5.cell? ⟨w1.heap.size, 0, none⟩ = some (.slice au1_0 nu1_0 cu1_0) := kbw0_5.cell 0
  have lkbw0_5 : w1.heap.size < w5.heap.size := kbw0_5.lt
  have kbg0_5 : Blk w5 (w3.heap.size) 30 #[.slice au3_0 nu3_0 cu3_0] := (kbg0_4.belowS b5)
  have xkbg0_5_0 : w5.cell? ⟨w3.heap.size, 0, none⟩ = some (.slice au3_0 nu3_0 cu3_0) := kbg0_5.cell 0
  have lkbg0_5 : w3.heap.size < w5.heap.size := kbg0_5.lt
  clear xkbw0_4_0 xkbg0_4_0
  go_wp2_with fail
  refine (law_markM (1) _ ((o3_0.below bx4).below b5) (by omega) (by omega)).mono ?_
  rintro e w6 ⟨rfl, o6, q6⟩
  have s6 := q6.size
  have B6 : Below w.heap.size w w6 := B5.trans (q6.below (by omega) B5.size)
  have kbw0_6 : Blk w6 (w1.heap.size) 30 #[.slice au1_0 nu1_0 cu1_0] := (kbw0_5.only q6 (by omega))
  have xkbw0_6_0 : w6.cell? ⟨w1.heap.size, 0, none⟩ = some (.slice au1_0 nu1_0 cu1_0) := kbw0_6.cell 0
  have lkbw0_6 : w1.heap.size < w6.heap.size := kbw0_6.lt
  have kbg0_6 : Blk w6 (w3.heap.size) 30 #[.slice au3_0 nu3_0 cu3_0] := (kbg0_5.only q6 (by omega))
  have xkbg0_6_0 : w6.cell? ⟨w3.heap.size, 0, none⟩ = some (.slice au3_0 nu3_0 cu3_0) := kbg0_6.cell 0
  have lkbg0_6 : w3.heap.size < w6.heap.size := kbg0_6.lt
  clear xkbw0_5_0 xkbg0_5_0
  go_wp2_with fail
  refine (law_heldM (1) _ o6.rd (by omega) (by omega)).mono ?_
  rintro e w7 ⟨rfl, b7⟩
  have s7 := b7.size
  have B7 : Below w.heap.size w w7 := B6.trans (b7.mono B6.size)
  have kbw0_7 : Blk w7 (w1.heap.size) 30 #[.slice au1_0 nu1_0 cu1_0] := (kbw0_6.belowS b7)
  have xkbw0_7_0 : w7.cell? ⟨w1.heap.size, 0, none⟩ = some (.slice au1_0 nu1_0 cu1_0) := kbw0_7.cell 0
  have lkbw0_7 : w1.heap.size < w7.heap.size := kbw0_7.lt
  have kbg0_7 : Blk w7 (w3.heap.size) 30 #[.slice au3_0 nu3_0 cu3_0] := (kbg0_6.belowS b7)
  have xkbg0_7_0 : w7.cell? ⟨w3.heap.size, 0, none⟩ = some (.slice au3_0 nu3_0 cu3_0) := kbg0_7.cell 0
  have lkbg0_7 : w3.heap.size < w7.heap.size := kbg0_7.lt
  clear xkbw0_6_0 xkbg0_6_0
  go_wp2_with fail
  refine (api_implSx n _ (hT.below (by assumption))).mono ?_
  rintro e w8 ⟨u8_0, rfl, o8_0, b8⟩
  obtain ⟨au8_0, nu8_0, cu8_0, rfl⟩ := o8_0.form
  have s8 := b8.size
  have B8 : Below w.heap.size w w8 := B7.trans (b8.mono B7.size)
  have kbw0_8 : Blk w8 (w1.heap.size) 30 #[.slice au1_0 nu1_0 cu1_0] := (kbw0_7.belowS b8)
  have xkbw0_8_0 : w8.cell? ⟨w1.heap.size, 0, none⟩ = some (.slice au1_0 nu1_0 cu1_0) := kbw0_8.cell 0
  have lkbw0_8 : w1.heap.size < w8.heap.size := kbw0_8.lt
  have kbg0_8 : Blk w8 (w3.heap.size) 30 #[.slice au3_0 nu3_0 cu3_0] := (kbg0_7.belowS b8)
  have xkbg0_8_0 : w8.cell? ⟨w3.heap.size, 0, none⟩ = some (.slice au3_0 nu3_0 cu3_0) := kbg0_8.cell 0
  have lkbg0_8 : w3.heap.size < w8.heap.size := kbg0_8.lt
  clear xkbw0_7_0 xkbg0_7_0
  go_wp2_with fail
  have bx9 := below_alloc1 w8 (.cells #[.slice au8_0 nu8_0 cu8_0] 30)
  have kbh0_9 : Blk (w8.alloc (.cells #[.slice au8_0 nu8_0 cu8_0] 30)) w8.heap.size 30 #[.slice au8_0 nu8_0 cu8_0] := blk_at rfl
  generalize w8.alloc (.cells #[.slice au8_0 nu8_0 cu8_0] 30) = w9 at *
  have s9 := bx9.size
  have B9 : Below w.heap.size w w9 := B8.trans (bx9.mono B8.size)
  have kbw0_9 : Blk w9 (w1.heap.size) 30 #[.slice au1_0 nu1_0 cu1_0] := (kbw0_8.belowS bx9)
  have xkbw0_9_0 : w9.cell? ⟨w1.heap.size, 0, none⟩ = some (.slice au1_0 nu1_0 cu1_0) := kbw0_9.cell 0
  have lkbw0_9 : w1.heap.size < w9.heap.size := kbw0_9.lt
  have kbg0_9 : Blk w9 (w3.heap.size) 30 #[.slice au3_0 nu3_0 cu3_0] := (kbg0_8.belowS bx9)
  have xkbg0_9_0 : w9.cell? ⟨w3.heap.size, 0, none⟩ = some (.slice au3_0 nu3_0 cu3_0) := kbg0_9.cell 0
  have lkbg0_9 : w3.heap.size < w9.heap.size := kbg0_9.lt
  have xkbh0_9_0 : w9.cell? ⟨w8.heap.size, 0, none⟩ = some (.slice au8_0 nu8_0 cu8_0) := kbh0_9.cell 0
  have lkbh0_9 : w8.heap.size < w9.heap.size := kbh0_9.lt
  clear xkbw0_8_0 xkbg0_8_0
  refine (law_eqM _ (o8_0.below bx9).rd ((((((((o1_0.below bx2).below b3).below bx4).below b5).only q6 (by omega)).below b7).below b8).below bx9).rd).mono ?_
  rintro e w10 ⟨rfl, b10⟩
  have s10 := b10.size
  have B10 : Below w.heap.size w w10 := B9.trans (b10.mono B9.size)
  have kbw0_10 : Blk w10 (w1.heap.size) 30 #[.slice au1_0 nu1_0 cu1_0] := (kbw0_9.belowS b10)
  have xkbw0_10_0 : w10.cell? ⟨w1.heap.size, 0, none⟩ = some (.slice au1_0 nu1_0 cu1_0) := kbw0_10.cell 0
  have lkbw0_10 : w1.heap.size < w10.heap.size := kbw0_10.lt
  have kbg0_10 : Blk w10 (w3.heap.size) 30 #[.slice au3_0 nu3_0 cu3_0] := (kbg0_9.belowS b10)
  have xkbg0_10_0 : w10.cell? ⟨w3.heap.size, 0, none⟩ = some (.slice au3_0 nu3_0 cu3_0) := kbg0_10.cell 0
  have lkbg0_10 : w3.heap.size < w10.heap.size := kbg0_10.lt
  have kbh0_10 : Blk w10 (w8.heap.size) 30 #[.slice au8_0 nu8_0 cu8_0] := (kbh0_9.belowS b10)
  have xkbh0_10_0 : w10.cell? ⟨w8.heap.size, 0, none⟩ = some (.slice au8_0 nu8_0 cu8_0) := kbh0_10.cell 0
  have lkbh0_10 : w8.heap.size < w10.heap.size := kbh0_10.lt
  clear xkbw0_9_0 xkbg0_9_0 xkbh0_9_0
  go_wp2_with fail
  refine (law_heldM (1) _ ((((o6.below b7).below b8).below bx9).below b10).rd (by omega) (by omega)).mono ?_
  rintro e w11 ⟨rfl, b11⟩
  have s11 := b11.size
  have B11 : Below w.heap.size w w11 := B10.trans (b11.mono B10.size)
  have kbw0_11 : Blk w11 (w1.heap.size) 30 #[.slice au1_0 nu1_0 cu1_0] := (kbw0_10.belowS b11)
  have xkbw0_11_0 : w11.cell? ⟨w1.heap.size, 0, none⟩ = some (.slice au1_0 nu1_0 cu1_0) := kbw0_11.cell 0
  have lkbw0_11 : w1.heap.size < w11.heap.size := kbw0_11.lt
  have kbg0_11 : Blk w11 (w3.heap.size) 30 #[.slice au3_0 nu3_0 cu3_0] := (kbg0_10.belowS b11)
  have xkbg0_11_0 : w11.cell? ⟨w3.heap.size, 0, none⟩ = some (.slice au3_0 nu3_0 cu3_0) := kbg0_11.cell 0
  have lkbg0_11 : w3.heap.size < w11.heap.size := kbg0_11.lt
  have kbh0_11 : Blk w11 (w8.heap.size) 30 #[.slice au8_0 nu8_0 cu8_0] := (kbh0_10.belowS b11)
  have xkbh0_11_0 : w11.cell? ⟨w8.heap.size, 0, none⟩ = some (.slice au8_0 nu8_0 cu8_0) := kbh0_11.cell 0
  have lkbh0_11 : w8.heap.size < w11.heap.size := kbh0_11.lt
  clear xkbw0_10_0 xkbg0_10_0 xkbh0_10_0
  go_wp2
  go_ret
  exact ⟨rfl, B11⟩
end Go.Proofs.YtljimlejcecleaaDoor

/- Cards: what a listed table holds, out of the row's condition; the row's frame with the world's shape at hand. -/
namespace Go.Proofs.YtljimlejcecleaaDoor
open Go.ChangeShapes Go.WideShapes Go.ChangeAt Go.RowKit Go.WideElems

/-- an array of integers, told as data -/
theorem open_nums {H : Type} {enc : TypeId × Value → H} {P : Program} {W : World} {base f : Nat} {sp : Nat → Bool} {held : Bool} {t e : TypeId} {n : Nat} {q : IntKind} {cs : List Value} {zs : List Int} {p : List MemPlace} (ht : P.underlying t = some (.array n e)) (he : P.underlying e = some (.int q)) (hc : P.cellsOf e = 1)
    (hd : DataW.trod enc P W base sp held f t cs = some (.agg (zs.map fun z => .lit (.int q z)), p)) (ct : P.cellsOf t = n) (hzn : zs.length = n) : cs = zs.map (Value.int q) := by
  obtain ⟨xs, m, rfl, ex, hlen, hl, hel⟩ := DataW.trod_array ht hd
  rw [ct] at hlen
  have e3 : xs.map (·.1) = zs.map fun z => (DataW.lit (.int q z) : DataW H) := (DataW.agg.inj (Prod.mk.inj ex).1).symm
  refine List.ext_getElem? fun i => ?_
  by_cases hi : i < n
  · have hE := hel i hi
    rw [hc, Nat.mul_one, List.getElem?_eq_getElem (by omega)] at hE
    obtain ⟨z, e1, e2, _⟩ := DataW.trod_int he hE
    have e4 : (xs.map (·.1))[i]? = (zs.map fun z => (DataW.lit (.int q z) : DataW H))[i]? := by rw [e3]
    rw [List.getElem?_map, List.getElem?_map, List.getElem?_eq_getElem (by omega : i < xs.length), List.getElem?_eq_getElem (by omega : i < zs.length), e2] at e4
    have hz : z = zs[i] := by
      simpa using e4
    have h0 : ((cs.drop i).take 1)[0]? = some (.int q z) := by rw [e1]; rfl
    have h1 : cs[i]? = some (.int q z) := by simpa using h0
    rw [h1, List.getElem?_map, List.getElem?_eq_getElem (by omega : i < zs.length), hz]; rfl
  · rw [List.getElem?_eq_none (by omega), List.getElem?_eq_none (by rw [List.length_map]; omega)]
theorem pow_laid {H : Type} : (Rows.laid_internal_strconv_uint64pow10 : DataW H) = .agg (Lib.pow10Tab.map fun z => .lit (.int .u64 z)) := rfl
section
variable {H : Type} {enc : TypeId × Value → H}
/-- as returnsInHanded_of_change_and, the world's shape at hand -/
theorem returnsInHanded_shaped {a : Assume} {C : Checked} {os : Os} {f : FuncId} {fn : Func} {s : ChangeSpec} {conds : List PathCond} {apart fresh handsOn again : Bool} {X : World → Array Value → Prop}
    (hX : ∀ (w w' : World) (args : Array Value), w.heap = w'.heap → X w args → X w' args)
    (own : ownKnob C.prog.godebug = none) (started : os.Started) (noInit : C.prog.inits.idxOf? f = none) (hfn : C.prog.funcs[f]? = some fn)
    (witness : ∃ (w : World) (tape : Tape) (i : Input), w.os = os ∧ (w.forCall tape i).Shaped C.prog ∧ i.vars = [] ∧ Input.okWide C.prog (w.forCall tape i) .any w.heap.size f i ∧
      ((s.pre enc C.prog fn conds apart (w.forCall tape i).memory i.args ∧ X (w.forCall tape i).memory i.args) ∧ sizedMet enc C.prog fn (OpenSpec.ofChange s) apart (w.forCall tape i).memory i.args) ∧ a.holds C.prog (lone (Frame.enter C.prog f i.args .normal) [] (w.forCall tape i)))
    (contract : ∀ (W : World) (base : Nat) (args : Array Value) (ds gs : List (DataW H)) (before : List MemPlace),
      (∀ (j : Nat) t v, fn.params[j]? = some t → args[j]? = some v → Value.okWide C.prog W .any base t v) →
      DataW.Whole enc C.prog fn.params.toList s.vars apart W args.toList ds gs before →
      (DataW.weightsEach C.prog (fn.params.toList ++ s.plain.varTypes C.prog) (ds ++ gs)).all (· ≤ reachBytes) = true → X W args → W.ShapedOpen C.prog →
      Calls C.prog f args W fun e W' => ∃ v, e = .returned v ∧ s.post enc C.prog fn apart fresh handsOn again W args v W') :
    ReturnsInHanded a C os f .any (fun w args => (s.pre enc C.prog fn conds apart w args ∧ X w args) ∧ sizedMet enc C.prog fn (OpenSpec.ofChange s) apart w args) (s.post enc C.prog fn apart fresh handsOn again) := by
  refine returnsInHanded_of_calls own started noInit witness ?_
  intro w tape i _ hsh _ hok hpre _
  obtain ⟨_, _, _, fn', hfn', _, _, _, _, hval⟩ := hok
  have e : fn' = fn := Option.some.inj (hfn'.symm.trans hfn)
  subst e
  obtain ⟨⟨⟨ds, gs, before, hw, _⟩, hx⟩, hz⟩ := hpre
  have hw' := DataW.Whole.of_heap (w' := w.forCall tape i) (by rfl) hw
  refine (contract (w.forCall tape i) w.heap.size i.args ds gs before hval hw' (hz.weights hw) (hX _ _ _ (by rfl) hx) hsh).mono fun e W' ⟨v, he, hp⟩ => ?_
  subst he
  exact ChangeSpec.post_blind hp
end
end Go.Proofs.YtljimlejcecleaaDoor

/- What the listed tables hold, out of the row's condition (FnExactSimplexOf). -/
namespace Go.Proofs.YtljimlejcecleaaDoor
open Go.ChangeShapes Go.WideShapes Go.ChangeAt Go.RowKit Go.WideElems

theorem pt_of {W : World} (h : laidMetH Tryd.prog Rows.fnExactSimplexOfRow.laid W) : PT W := by
  rw [MakeChecks.laidMetH_plain _ _ _ (by kernel_rfl)] at h
  obtain ⟨ps, ⟨g0, t0, cs0, f0, p0, q0, hg0, ht0, hv0, hd0, ⟨g1, t1, cs1, f1, p1, q1, hg1, ht1, hv1, hd1, ⟨g2, t2, cs2, f2, p2, q2, hg2, ht2, hv2, hd2, -⟩, -⟩, -⟩, -⟩ := h
  obtain rfl := Option.some.inj ((show (Tryd.prog.globalNamed "internal/strconv.uint64pow10").bind (fun g => (Tryd.prog.globals[g]?).map (·.type)) = some 142 by kernel_rfl).symm.trans (by rw [hg2]; exact ht2))
  rw [pow_laid] at hd2
  have := open_nums Tryd.underlying142 Tryd.underlying93 (by kernel_rfl) hd2 (by kernel_rfl) (by kernel_rfl)
  unfold PT Lib.TabIs
  rw [hv2, ← this]
end Go.Proofs.YtljimlejcecleaaDoor
