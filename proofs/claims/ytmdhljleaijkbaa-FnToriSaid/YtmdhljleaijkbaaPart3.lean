/- Lists of points and of marks; lists that lead points. No program in sight. -/
import Derived.Test.YtmdhljleaijkbaaPart1
import Derived.Test.YtmdhljleaijkbaaPart2
import Derived.Test.YtmdhljleaijkbaaProg
import Derived.Shelf.RegionOpenPlain
import Derived.Deep.RegionLaw
import Derived.Lib.SliceRun
import Derived.Laws.IdiomCopy
import Derived.Lib.EndianMore
import Derived.Deep.DeepCutAuto
import Derived.Laws.CopyOwn
import Derived.RegionTactic
import Derived.Deep.RegionHeld3
namespace Go.Proofs.Ytmdhljleaijkbaa

theorem iget_app_lt {zs : List Int} {z : Int} {j : Nat} (h : j < zs.length) : iget (zs ++ [z]) j = iget zs j := by
  simp [iget, List.getElem?_append_left h]
theorem iget_app_eq {zs : List Int} {z : Int} : iget (zs ++ [z]) zs.length = z := by simp [iget]
theorem lget_app_lt {zss : List (List Int)} {z : List Int} {j : Nat} (h : j < zss.length) : lget (zss ++ [z]) j = lget zss j := by
  simp [lget, List.getElem?_append_left h]
theorem lget_app_eq {zss : List (List Int)} {z : List Int} : lget (zss ++ [z]) zss.length = z := by simp [lget]
theorem iget_rep {n j : Nat} {z : Int} (h : j < n) : iget (List.replicate n z) j = z := by simp [iget, h]

/-- where a word leads a point -/
def leadL (qs : List (List Int)) (c : Int) (w : List Int) : Int := w.foldl (fun c g => iget (lget qs g.toNat) c.toNat) c
/-- each list holds m points, each leads within them -/
structure Leads (qs : List (List Int)) (m : Nat) : Prop where
  len : ∀ k, k < qs.length → (lget qs k).length = m
  within : ∀ k, k < qs.length → ∀ x, x < m → 0 ≤ iget (lget qs k) x ∧ iget (lget qs k) x < m
theorem Leads.lead {qs : List (List Int)} {m : Nat} (h : Leads qs m) {c : Int} (hc : 0 ≤ c ∧ c < m) {w : List Int} (hw : ∀ z ∈ w, 0 ≤ z ∧ z < qs.length) : 0 ≤ leadL qs c w ∧ leadL qs c w < m := by
  induction w generalizing c with
  | nil => exact hc
  | cons g r ih =>
    have h1 := hw g (List.mem_cons_self ..)
    have h2 := h.within g.toNat (by omega) c.toNat (by omega)
    exact ih h2 fun z hz => hw z (List.mem_cons_of_mem _ hz)

def bat (bs : List Bool) (k : Nat) : Bool := bs.getD k false
theorem bat_set {bs : List Bool} {i j : Nat} {b : Bool} : bat (bs.set i b) j = if i = j ∧ i < bs.length then b else bat bs j := by
  simp only [bat, List.getD_eq_getElem?_getD, List.getElem?_set]
  by_cases h : i = j
  · subst h
    by_cases h2 : i < bs.length
    · simp [h2]
    · simp [h2]
  · simp [h]
def bcnt (bs : List Bool) : Nat := (bs.filter fun b => b).length
theorem bcnt_le (bs : List Bool) : bcnt bs ≤ bs.length := List.length_filter_le _ _
theorem bcnt_set : ∀ (l : List Bool) (d : Nat), d < l.length → bat l d = false → bcnt (l.set d true) = bcnt l + 1
  | [], d, h, _ => by simp at h
  | x :: r, 0, _, h => by
    have h : x = false := by simpa [bat] using h
    simp [bcnt, h]
  | x :: r, d + 1, hd, h => by
    have ih := bcnt_set r d (by simpa using hd) (by simpa [bat] using h)
    unfold bcnt at ih ⊢
    simp only [List.set_cons_succ, List.filter_cons]
    split
    · simp only [List.length_cons]; omega
    · exact ih
def bTo (T : List (List Int)) (c g : Nat) : Nat := (iget (lget T g) c).toNat
theorem bTo_lt {T : List (List Int)} {n : Nat} (hT : Leads T n) {c g : Nat} (hc : c < n) (hg : g < T.length) : bTo T c g < n ∧ iget (lget T g) c = (bTo T c g : Int) := by
  have := hT.within g hg c hc
  unfold bTo; omega
def bvals (bs : List Bool) : List Value := bs.map Value.bool
theorem bvals_len (bs : List Bool) : (bvals bs).length = bs.length := by simp [bvals]
theorem bvals_get {bs : List Bool} {k : Nat} (h : k < bs.length) : (bvals bs)[k]? = some (.bool (bat bs k)) := by simp [bvals, bat, h]
theorem bvals_set (bs : List Bool) (k : Nat) (b : Bool) : (bvals bs).set k (.bool b) = bvals (bs.set k b) := by simp [bvals, List.map_set]
theorem bvals_rep (n : Nat) : bvals (List.replicate n false) = List.replicate n (.bool false) := by simp [bvals]
end Go.Proofs.Ytmdhljleaijkbaa

/- Chunks of the everyday kinds. -/
namespace Go.Proofs.Ytmdhljleaijkbaa
open Go.RowKit

abbrev imOw (im : List (List Int)) : Ch := ⟨true, 32, 1, .rows 2 (irows im) []⟩
abbrev leOw (less : List Int) : Ch := ⟨true, 2, 1, .vals (ivals less)⟩
abbrev rowsRo (wss : List (List Int)) : Ch := ⟨false, 32, 1, .rows 2 (irows wss) []⟩
abbrev boOw (bs : List Bool) : Ch := ⟨true, 4, 1, .vals (bvals bs)⟩
abbrev wRo (W : List Int) : Ch := ⟨false, 2, 1, .vals (ivals W)⟩
section
variable {P : Program} {nt : Nat} {S : St} {t : Nat} {ty : TypeId} {ps : String} {af : Array Edge} {gd : Option (Nat × Bool)} {x y : Operand}
theorem stp_makeB {T E n : Nat} {l c : Operand} {kl kc : IntKind} {L C : Int} (ht : Nat.blt t nt = true) (hT : elZ P T E 1 = true) (hz : (P.info? E).bind (·.zero) = some (.bool false)) (hl : S.op l = some (vv (.int kl L))) (hc : S.op c = some (vv (.int kc C)))
    (hL : L = (n : Int)) (hC : C = (n : Int)) (hn : n ≤ 2199023255552) : Stp P nt ⟨some t, .makeSlice T l c, ty, ps, af, gd⟩ S ((S.new t ⟨true, E, 1, .vals (bvals (List.replicate n false))⟩).put t (o1 (.sl t 0 n))) := by
  rw [bvals_rep]
  exact stp_make (ts := #[]) ht hT hz hl hc hL hC hn rfl
theorem stp_stB {T : TypeId} {n : Nm} {i : Nat} {c : Ch} {bs : List Bool} {b : Bool} (hx : S.op x = some (o1 (.ptr n i))) (hy : S.op y = some (vv (.bool b))) (hc : S.ch n = some c) (hown : c.own = true) (hd : c.d = .vals (bvals bs)) (hi : i < bs.length) (hT : sizeB P T 1 = true) :
    Stp P nt ⟨none, .store T x y, ty, ps, af, gd⟩ S (S.set n { c with d := .vals (bvals (bs.set i b)) }) := by
  have := stp_storeV (P := P) (nt := nt) (ty := ty) (ps := ps) (af := af) (gd := gd) hx hy hc hown hd (by rw [bvals_len]; exact hi) hT rfl
  rwa [bvals_set] at this
end
end Go.Proofs.Ytmdhljleaijkbaa

/- A memory of names: rows as words; vectors cut short. No program in sight. -/
namespace Go.Proofs.Ytmdhljleaijkbaa
open Go.RowKit

section
variable {η : Env} {ω : Own?} {w : World} {ins : List (Nm × Ch)}
theorem rdRow {x i : Nat} {own : Bool} {E F : Nat} {zss : List (List Int)} {v : Value} (hm : Mem η ω w (fun x => lk x ins)) (hx : lk x ins = some ⟨own, E, 1, .rows F (irows zss) []⟩) (hi : i < zss.length) (hv : Den1 η (.esl x i 0 (lget zss i).length) v) (hn : (lget zss i).length ≤ 17592186044416) :
    ∃ ao c, v = .slice ao (lget zss i).length c ∧ Ints w ao (lget zss i).length (lget zss i) := by
  obtain ⟨h, h1, h2, h3⟩ := hm.1 x _ hx
  obtain ⟨ao, rfl, h4, _⟩ := hv.2 h h1
  have h3 : Vec own ω w (x, none) h E (irows zss).length (cellsOK η ω w own x (.rows F (irows zss) [])) := h3
  obtain ⟨b', o', u', g1, g2, g3, g4⟩ := h3.get (j := i) (by rw [irows_len]; exact hi)
  obtain ⟨k1, k2, k3⟩ := g4 (by simp) (ivals (lget zss i)) (irows_get hi)
  rw [h4 rfl]
  refine ⟨_, _, rfl, rfl, hn, fun h0 => ?_⟩
  obtain ⟨b2, o2, u2, m1, _, _⟩ := k3.get (j := 0) (by rw [ivals_len]; exact h0)
  refine ⟨b2, o2, m1, fun j hj => ?_⟩
  obtain ⟨b3, o3, u3, n1, n2, n3⟩ := k3.get (j := j) (by rw [ivals_len]; exact hj)
  rw [m1] at n1; injection n1 with n1; injection n1 with n1 n1'; subst n1 n1'
  rw [ivals_get hj] at n3
  rw [n2, ← n3]
end
section
variable {P : Program} {nt : Nat} {S : St} {t : Nat} {ty : TypeId} {ps : String} {af : Array Edge} {gd : Option (Nat × Bool)} {x y : Operand}
/-- of a vector of the call's own only the front is remembered -/
theorem wk_cut {n : Nm} {E k m : Nat} {vs : List Value} (hc : S.ch n = some ⟨true, E, k, .vals vs⟩) (hm : m ≤ vs.length) : Wk S (S.set n ⟨true, E, k, .vals (vs.take m)⟩) := by
  refine ⟨fun w0 ω0 nt a w ⟨η, ω, h⟩ => ?_⟩
  obtain ⟨hd, e1, e2, e3⟩ := h.chunk hc
  have e3 : VecO ω w (n, none) hd E vs.length (cellsOK η ω w true n (.vals vs)) := e3
  refine ⟨η, ω, h.write e1 (Calm.refl _ _ _) ⟨e2, ?_⟩⟩
  show VecO ω w (n, none) hd E (vs.take m).length _
  have hl : (vs.take m).length = m := by rw [List.length_take]; omega
  rw [hl]
  rcases e3 with ⟨h1, h2, h3⟩ | ⟨b, o, cs, h1, h2, h3, h4, h5, h6, h7⟩
  · exact .inl ⟨h1, h2, by omega⟩
  · refine .inr ⟨b, o, cs, h1, h2, h3, h4, by omega, h6, fun j hj => ?_⟩
    obtain ⟨u, hu, hk⟩ := h7 j (by omega)
    refine ⟨u, hu, ?_⟩
    have hk : vs[j]? = some u := hk
    show (vs.take m)[j]? = some u
    rw [List.getElem?_take, if_pos hj]; exact hk
/-- an index into a part of a vector -/
theorem stp_ixO {T : TypeId} {n : Nm} {off len j : Nat} {c : Ch} {ki : IntKind} {i : Int} (ht : Nat.blt t nt = true) (hx : S.op x = some (o1 (.sl n off len))) (hy : S.op y = some (vv (.int ki i))) (hc : S.ch n = some c) (hk : c.k = 1) (hT : elemB P T 1 = true)
    (hi : i = (j : Int)) (hj : j < len) (hl : off + len ≤ c.d.len) : Stp P nt ⟨some t, .indexAddr T x y, ty, ps, af, gd⟩ S (S.put t (o1 (.ptr n (off + j)))) := by
  have := stp_indexAddr (P := P) (nt := nt) (t := t) (ty := ty) (ps := ps) (af := af) (gd := gd) (k := 1) ht hx hy hc hk hT hi hj (by rw [Nat.mul_one]; exact hl) (by omega)
  rwa [Nat.mul_one] at this
theorem stp_ixK {T : TypeId} {n : Nm} {off len j K : Nat} {c : Ch} {ki : IntKind} {i : Int} (ht : Nat.blt t nt = true) (hx : S.op x = some (o1 (.sl n off len))) (hy : S.op y = some (vv (.int ki i))) (hc : S.ch n = some c) (hk : c.k = 1) (hT : elemB P T 1 = true)
    (hi : i = (j : Int)) (hj : j < len) (hl : off + len ≤ c.d.len) (hK : off + j = K) : Stp P nt ⟨some t, .indexAddr T x y, ty, ps, af, gd⟩ S (S.put t (o1 (.ptr n K))) := by
  subst hK; exact stp_ixO ht hx hy hc hk hT hi hj hl
theorem stp_minN {ts : Array TypeId} {m n : Nat} (ht : Nat.blt t nt = true) (hx : S.op x = some (vv (I6 (m : Int)))) (hy : S.op y = some (vv (I6 (n : Int)))) :
    Stp P nt ⟨some t, .call { callee := .builtin .min, args := #[x, y], argTypes := ts }, ty, ps, af, gd⟩ S (S.put t (vv (I6 ((min m n : Nat) : Int)))) := by
  have := stp_min (P := P) (nt := nt) (ty := ty) (ps := ps) (af := af) (gd := gd) (ts := ts) ht hx hy
  rwa [show (if (n : Int) < m then (n : Int) else m) = ((min m n : Nat) : Int) by split <;> omega] at this
end
end Go.Proofs.Ytmdhljleaijkbaa

/- From contracts in names to contracts in words: the doors of the functions that the laws call. -/
namespace Go.Proofs.Ytmdhljleaijkbaa
open Go.RowKit

def Fit (zss : List (List Int)) : Prop := zss.length ≤ 4398046511104 ∧ ∀ zs ∈ zss, zs.length ≤ 4398046511104
theorem fit_of {E1 E : Nat} {w : World} {lo hi : Nat} {v : Value} {zss : List (List Int)} (h : OwSS E1 E w lo hi v zss) : Fit zss := by
  obtain ⟨ao, n, c, us, rfl, ho⟩ := h
  refine ⟨by have := ho.own.2; have := ho.len; omega, fun zs hz => ?_⟩
  obtain ⟨j, hj, rfl⟩ := List.getElem_of_mem hz
  obtain ⟨u, d, hu, hd, ⟨a', n', c', rfl, h1⟩, _⟩ := ho.get (j := j) (by have := ho.len; omega)
  rw [List.getElem?_eq_getElem hj] at hd
  have := h1.len
  have h2 := h1.2
  rw [Option.some.inj hd]
  simp at this; omega
theorem denL1 {η : Env} {a : AV} {u : Value} (h : Den η a u) : DenL η [a] [u] := ⟨rfl, fun j av hj => by
  match j, hj with
  | 0, hj => simp at hj; subst hj; exact ⟨u, rfl, h⟩⟩
theorem denL2 {η : Env} {a b : AV} {u v : Value} (h : Den η a u) (h' : Den η b v) : DenL η [a, b] [u, v] := ⟨rfl, fun j av hj => by
  match j, hj with
  | 0, hj => simp at hj; subst hj; exact ⟨u, rfl, h⟩
  | 1, hj => simp at hj; subst hj; exact ⟨v, rfl, h'⟩⟩
theorem den_tup2 {η : Env} {a b : A2} {v : Value} (h : Den η (.tup [a, b]) v) : ∃ u u', v = .tuple #[u, u'] ∧ Den2 η a u ∧ Den2 η b u' := by
  obtain ⟨us, rfl, hl, ha⟩ := h
  obtain ⟨u0, g0, d0⟩ := ha 0 _ rfl
  obtain ⟨u1, g1, d1⟩ := ha 1 _ rfl
  refine ⟨u0, u1, ?_, d0, d1⟩
  match us, hl with
  | ⟨[p, q]⟩, _ => simp at g0 g1; rw [g0, g1]
theorem one_val {P : Program} {f : FuncId} {args : Array Value} {w : World} {a : Value} {outs : List (Nm × Ch)} (h : Calls P f args w fun e w' => ∃ v η ω, e = .returned v ∧ Den η (vv a) v ∧ Mem η ω w' (fun x => lk x outs) ∧ Below w.heap.size w w' ∧ ∀ b, b < w.heap.size → ω b = none) :
    Calls P f args w fun e w' => e = .returned a ∧ Below w.heap.size w w' := by
  refine h.mono ?_
  rintro e w' ⟨v, η, ω, rfl, hd, _, hb, _⟩
  have hd : v = a := hd
  subst hd
  exact ⟨rfl, hb⟩
/-- a maniplex -/
abbrev mA (R : Nat) : AV := .s (.agg [.sl 1003 0 R])
theorem ofM {E1 E : Nat} {w : World} {lo hi : Nat} {v : Value} {d : List (List Int)} (h : OwM E1 E w lo hi v d) : ∃ u, v = .agg #[u] ∧ OwSS E1 E w lo hi u d := by
  obtain ⟨ao, n, c, us, rfl, ho⟩ := h
  exact ⟨_, rfl, _, _, _, us, rfl, ho⟩
theorem denM {η : Env} {R : Nat} {u : Value} (h : Den1 η (.sl 1003 0 R) u) : Den η (mA R) (.agg #[u]) := ⟨_, rfl, rfl, fun j b hb => by
  match j, hb with
  | 0, hb => simp at hb; subst hb; exact ⟨_, by simp, h⟩⟩
theorem callM {f : FuncId} {outs : List (Nm × Ch)} {res : AV} {d : List (List Int)} (hf : Fit d → FC Try.prog f [(1003, rowsRo d)] [mA d.length] outs res []) {E1 E : Nat} {w : World} {lo hi : Nat} {v : Value} (h : OwM E1 E w lo hi v d) :
    Calls Try.prog f #[v] w fun e w' => ∃ v η ω, e = .returned v ∧ Den η res v ∧ Mem η ω w' (fun x => lk x outs) ∧ Below w.heap.size w w' ∧ ∀ b, b < w.heap.size → ω b = none := by
  obtain ⟨u, rfl, hs⟩ := ofM h
  obtain ⟨hd, r, rfl, hv⟩ := ofSS 1003 32 2 hs
  exact (hf (fit_of hs)).call (l := [(1003, (rowsRo d, hd, r))]) (us := [_]) (fun p hp => by simp at hp; subst hp; exact hv) rfl (denL1 (denM (den_sl (q := (rowsRo d, hd, r)) rfl)))
end Go.Proofs.Ytmdhljleaijkbaa

/- Lists of lists that are read, whatever shares their rows: from words to names. -/
namespace Go.Proofs.Ytmdhljleaijkbaa
open Go.RowKit

/-- v is a slice that reads as lists of integers, each within its capacity -/
def RdSSc (w : World) (v : Value) (zss : List (List Int)) : Prop := ∃ ao c, v = .slice ao zss.length c ∧ zss.length ≤ 17592186044416 ∧ (0 < zss.length → zss.length ≤ c ∧ ∃ b off, ao = some ⟨b, off, none⟩ ∧ b < w.heap.size ∧
  ∀ j, j < zss.length → ∃ a' c', w.cell? ⟨b, off + j, none⟩ = some (.slice a' (lget zss j).length c') ∧ (lget zss j).length ≤ c' ∧ Ints w a' (lget zss j).length (lget zss j))
theorem RdSSc.rd {w : World} {v : Value} {zss : List (List Int)} (h : RdSSc w v zss) : RdSS w v zss := by
  obtain ⟨ao, c, rfl, hn, hc⟩ := h
  refine ⟨ao, _, c, rfl, rfl, hn, fun h0 => ?_⟩
  obtain ⟨_, b, off, e, _, h1⟩ := hc h0
  refine ⟨b, off, e, fun j hj => ?_⟩
  obtain ⟨a', c', h2, _, h3⟩ := h1 j hj
  exact ⟨_, h2, a', _, c', rfl, h3⟩
theorem RdSSc.below {w w' : World} {v : Value} {zss : List (List Int)} (h : RdSSc w v zss) (hb : Below w.heap.size w w') : RdSSc w' v zss := by
  obtain ⟨ao, c, rfl, hn, hc⟩ := h
  refine ⟨ao, c, rfl, hn, fun h0 => ?_⟩
  obtain ⟨h1, b, off, e, hlt, h2⟩ := hc h0
  refine ⟨h1, b, off, e, Nat.lt_of_lt_of_le hlt hb.size, fun j hj => ?_⟩
  obtain ⟨a', c', h3, h4, h5⟩ := h2 j hj
  exact ⟨a', c', (hb.cell (p := ⟨b, off + j, none⟩) hlt).trans h3, h4, h5.below hb⟩
theorem RdSSc.drewN {w : World} {v : Value} {zss : List (List Int)} (h : RdSSc w v zss) (m : Nat) : RdSSc (w.drewN m) v zss := h
theorem OwSS.rdc {E1 E : Nat} {w : World} {lo hi : Nat} {v : Value} {zss : List (List Int)} (h : OwSS E1 E w lo hi v zss) : RdSSc w v zss := by
  obtain ⟨ao, n, c, us, rfl, ho⟩ := h
  have hl := ho.len
  subst hl
  refine ⟨ao, c, rfl, by have := ho.own.2; omega, fun h0 => ?_⟩
  obtain ⟨g, rfl, _, hlt, hc, hcell, _⟩ := ho.own.form h0
  refine ⟨hc, g, 0, rfl, hlt, fun j hj => ?_⟩
  obtain ⟨u, d, hu, hd, ⟨a', n', c', rfl, h1⟩, _⟩ := ho.get hj
  have hd' : lget zss j = d := lget_get? hd
  rw [hd']
  have hl := h1.len
  rw [List.length_map] at hl
  subst hl
  refine ⟨a', c', by rw [Nat.zero_add, hcell j hj, hu], ?_, h1.ints⟩
  rcases Nat.eq_zero_or_pos d.length with h2 | h2
  · omega
  · obtain ⟨_, _, _, _, h3, _⟩ := h1.form h2; exact h3
theorem ofSSc {w : World} {v : Value} {zss : List (List Int)} (x E' E1' : Nat) (h : RdSSc w v zss) : ∃ hd r, v = .slice hd.ao zss.length hd.c ∧ Hv w x ⟨false, E', 1, .rows E1' (irows zss) []⟩ hd r := by
  obtain ⟨ao, c, rfl, hn, hc⟩ := h
  rcases Nat.eq_zero_or_pos zss.length with h0 | h0
  · refine ⟨⟨ao, c, 1⟩, fun _ => ⟨none, 0, 1⟩, rfl, fun η he => ⟨rfl, ?_, fun j hj => ?_⟩⟩
    · show (irows zss).length ≤ c * 1
      rw [irows_len]; omega
    · have hj : j < (irows zss).length := hj
      rw [irows_len] at hj; omega
  · obtain ⟨h1, b, off, rfl, hlt, h2⟩ := hc h0
    have hr : ∀ j, ∃ q : Hd, q.k = 1 ∧ (j < zss.length → w.cell? ⟨b, off + j, none⟩ = some (.slice q.ao (lget zss j).length q.c) ∧ VecR noOwn w q (ivals (lget zss j)).length fun i u => (ivals (lget zss j))[i]? = some u) := fun j => by
      by_cases hj : j < zss.length
      · obtain ⟨a', c', h3, h4, h5⟩ := h2 j hj
        refine ⟨⟨a', c', 1⟩, rfl, fun _ => ⟨h3, by rw [ivals_len]; show _ ≤ c' * 1; omega, fun i hi => ?_⟩⟩
        rw [ivals_len] at hi
        obtain ⟨b', o', e', hb', hcell⟩ := h5.all_ (by omega)
        exact ⟨b', o', I6 (iget (lget zss j) i), e', rfl, hb', hcell i hi, ivals_get hi⟩
      · exact ⟨⟨none, 0, 1⟩, rfl, fun h => absurd h hj⟩
    refine ⟨⟨some ⟨b, off, none⟩, c, 1⟩, fun j => Classical.choose (hr j), rfl, fun η he => ⟨rfl, ?_, fun j hj => ?_⟩⟩
    · show (irows zss).length ≤ c * 1
      rw [irows_len]; omega
    · have hj : j < zss.length := by have : j < (irows zss).length := hj; rwa [irows_len] at this
      obtain ⟨k1, k2⟩ := Classical.choose_spec (hr j)
      obtain ⟨k3, k4⟩ := k2 hj
      refine ⟨b, off, .slice (Classical.choose (hr j)).ao (lget zss j).length (Classical.choose (hr j)).c, rfl, rfl, hlt, k3, rfl, fun _ vs hvs => ?_⟩
      have hvd : vs = ivals (lget zss j) := by
        rw [irows_get hj] at hvs; exact (Option.some.inj hvs).symm
      subst hvd
      rw [he j]
      exact ⟨congrArg (fun m => Value.slice (Classical.choose (hr j)).ao m (Classical.choose (hr j)).c) (ivals_len _).symm, k1, k4⟩
/-- a function of a number and rows that are read -/
theorem callNR {f : FuncId} {outs : List (Nm × Ch)} {res : AV} {d : List (List Int)} {n : Int} (hf : FC Try.prog f [(1003, rowsRo d)] [vv (I6 n), o1 (.sl 1003 0 d.length)] outs res []) {w : World} {v : Value} (h : RdSSc w v d) :
    Calls Try.prog f #[.int .i64 n, v] w fun e w' => ∃ v η ω, e = .returned v ∧ Den η res v ∧ Mem η ω w' (fun x => lk x outs) ∧ Below w.heap.size w w' ∧ ∀ b, b < w.heap.size → ω b = none := by
  obtain ⟨hd, r, rfl, hv⟩ := ofSSc 1003 32 2 h
  exact hf.call (l := [(1003, (rowsRo d, hd, r))]) (us := [_, _]) (fun p hp => by simp at hp; subst hp; exact hv) rfl (denL2 rfl (den_sl (q := (rowsRo d, hd, r)) rfl))
end Go.Proofs.Ytmdhljleaijkbaa

/- The laws' own helpers on []int64: the copy, the comparison, the marks. -/
namespace Go.Proofs.Ytmdhljleaijkbaa
open Go.RowKit

theorem etI : ET Try.prog 32 2 (.int .i64 0) 8 := ⟨Try.underlying32, by kernel_rfl, rfl, by omega⟩

end Go.Proofs.Ytmdhljleaijkbaa

/- The laws' helpers on []int64 in the words of Nest. -/
namespace Go.Proofs.Ytmdhljleaijkbaa
open Go.RowKit

end Go.Proofs.Ytmdhljleaijkbaa

/- The laws' helpers on [][]int64. -/
namespace Go.Proofs.Ytmdhljleaijkbaa
open Go.RowKit

theorem etSS : ET Try.prog 26 32 (.slice none 0 0) 24 := ⟨Try.underlying26, by kernel_rfl, rfl, by omega⟩

end Go.Proofs.Ytmdhljleaijkbaa

/- slices.Delete of one element, slices.Clone, at [][]int64; what the program and the reference leave out of a maniplex. -/
namespace Go.Proofs.Ytmdhljleaijkbaa
open Go.RowKit

set_option maxRecDepth 100000 in
set_option maxHeartbeats 3200000 in
theorem delete1_any (g n c i base : Nat) (us : List Value) (w : World) (ho : Own w base 32 (some ⟨g, 0, none⟩) n c us) (hi : i < n) (h1 : ∀ u ∈ us, u.oneCell' = true) (j0 : Nat) (hj0 : j0 = i + 1) :
    Calls Try.prog 126 #[.slice (some ⟨g, 0, none⟩) n c, .int .i64 i, .int .i64 j0] w fun e w' => e = .returned (.slice (some ⟨g, 0, none⟩) (n - 1) c) ∧ Below base w w' ∧ ∀ j, j < n - 1 → w'.cell? ⟨g, j, none⟩ = (us.eraseIdx i)[j]? := by
  obtain ⟨g', hg', hbase, hlt, hnc, hcell, hfz⟩ := ho.form (by omega)
  injection hg' with hg'
  injection hg' with hg'
  subst hg'
  have hlen := ho.len
  have hn4 := ho.2
  have hcm : c ≤ 9223372036854775807 := by
    rcases ho.1.2 with ⟨h2, _⟩ | ⟨_, _, _, hv, _, _, _, hm, _⟩
    · cases h2
    · injection hv with _ _ h3; subst h3; simpa [maxLen] using hm
  obtain ⟨news, hnews⟩ : ∃ news, news = us.drop j0 := ⟨_, rfl⟩
  have hnl : news.length = n - j0 := by rw [hnews, List.length_drop, hlen]
  obtain ⟨A, hA, hsrc⟩ : ∃ A : Addr, (if c = j0 then some (⟨g, 0, none⟩ : Addr) else some ⟨g, j0, none⟩) = some A ∧ Hid (∀ t u, news[t]? = some u → w.drew.cell? (A.add t) = some u) := by
    by_cases h : c = j0
    · refine ⟨⟨g, 0, none⟩, by simp [h], Lib.hid fun t u hu => ?_⟩
      have h0 : news.length = 0 := by rw [hnl]; omega
      rw [List.length_eq_zero_iff.1 h0] at hu
      simp at hu
    · refine ⟨⟨g, j0, none⟩, by simp [h], Lib.hid fun t u hu => ?_⟩
      have ht : t < n - j0 := by
        have := (List.getElem?_eq_some_iff.1 hu).1
        rwa [hnl] at this
      rw [hnews, List.getElem?_drop] at hu
      rw [Addr.add_lit]
      exact (hcell (j0 + t) (by omega)).trans hu
  have s1 := Lib.hid (show news.length = (n - j0) * 1 by rw [Nat.mul_one]; exact hnl)
  have s2 := Lib.hid (show ∀ u ∈ news, u.oneCell' = true from fun u hu => h1 u (List.mem_of_mem_drop (hnews ▸ hu)))
  have s3 := Lib.hid (show ∀ t, t < news.length → (w.drew.cell? ⟨g, 0 + i * 1 + t, none⟩).isSome = true ∧ w.drew.frozen? ⟨g, 0 + i * 1 + t, none⟩ = false from fun t ht => by
    rw [hnl] at ht
    rw [Nat.mul_one, Nat.zero_add]
    refine ⟨?_, hfz _⟩
    show (w.cell? _).isSome = true
    rw [hcell (i + t) (by omega), List.getElem?_eq_getElem (by omega)]; rfl)
  obtain ⟨W1, hW1⟩ : ∃ W1, W1 = w.drew.setCells g (0 + i * 1) news := ⟨_, rfl⟩
  have hc1 : ∀ j, j < n → W1.cell? ⟨g, j, none⟩ = if j < i then us[j]? else if j < n - 1 then us[j + 1]? else us[j]? := fun j hj => by
    rw [hW1, Nat.mul_one, Nat.zero_add]
    by_cases e1 : j < i
    · rw [if_pos e1, World.cell?_setCells_out g news i w.drew ⟨g, j, none⟩ (fun _ _ => .inl e1)]
      exact hcell j hj
    · rw [if_neg e1]
      by_cases e2 : j < n - 1
      · rw [if_pos e2]
        have := World.cell?_setCells_in g news i w.drew (fun t ht => by
          rw [hnl] at ht
          show (w.cell? _).isSome = true
          rw [hcell (i + t) (by omega), List.getElem?_eq_getElem (by omega)]; rfl) (j - i) (by rw [hnl]; omega)
        rw [show i + (j - i) = j by omega] at this
        rw [this]
        have e3 : news[j - i]? = us[j + 1]? := by rw [hnews, List.getElem?_drop, show j0 + (j - i) = j + 1 by omega]
        rw [← e3, List.getElem?_eq_getElem (by rw [hnl]; omega)]
      · rw [if_neg e2, World.cell?_setCells_out g news i w.drew ⟨g, j, none⟩ (fun _ _ => .inr (by rw [hnl]; show i + (n - j0) ≤ j; omega))]
        exact hcell j hj
  have hf1 : ∀ j, W1.frozen? ⟨g, j, none⟩ = false := fun j => by rw [hW1, World.frozen?_setCells]; exact hfz j
  have hb1 : Below base w W1 := by
    rw [hW1]
    exact (Below.refl base w).drew.trans (Lib.below_setCells_w hbase _ _ _)
  have hc2 : ∀ j, j < n → (W1.cell? ⟨g, j, none⟩).isSome = true := fun j hj => by
    rw [hc1 j hj]
    split
    · rw [List.getElem?_eq_getElem (by omega)]; rfl
    · split
      · rw [List.getElem?_eq_getElem (by omega)]; rfl
      · rw [List.getElem?_eq_getElem (by omega)]; rfl
  have hcl : ∀ ty, (Builtin.clear_ #[26] ty #[.slice (some ⟨g, i + (n - j0), none⟩) (n - (i + (n - j0))) (c - (i + (n - j0)))]).run Try.prog W1 = .ok (.tuple #[]) (W1.setCells g (i + (n - j0)) (List.replicate (n - (i + (n - j0))) (.slice none 0 0))) :=
    fun ty => Lib.run_clear_slice W1 _ _ ty _ etSS.und (fun w => by rfl) rfl rfl g (i + (n - j0)) _ _ (by omega) (fun t ht => hc2 _ (by omega)) (fun t ht => hf1 _)
  have hW := Lib.hid hW1
  have HC1 := Lib.hid hc1
  have HB1 := Lib.hid hb1
  obtain ⟨i0, hi0, _, hsz0, _⟩ := info_parts etSS.info
  have hic : i ≤ c := by omega
  have hjc : j0 ≤ c := by omega
  clear hW1 hc1 hc2 hf1 hb1 hcell hfz hnews hnl ho h1 hlen
  have HJ0 := Lib.hid hj0
  have hij : i < j0 := by omega
  have hjn : j0 ≤ n := by omega
  have hne : ((i : Int) == j0) = false := beq_false_of_ne (by omega)
  clear hj0
  go_enter Try.func126, Try.ntmps126
  go_wp2_with fail
  go_region_law (refine step_append_room rfl (.tmp 22) (.tmp 25) 26 rfl 32 i0 1 etSS.und hi0 hsz0 g 0 i c (by simp [Act.eval, Act.put]) A (n - j0) (c - j0) news (by simp [Act.eval, Act.put]) s1.out hsrc.out s2.out (by omega) s3.out ?_; rw [← hW.out])
  all_goals
    go_wp2
    go_ret
    have hj0 := HJ0.out
    refine ⟨(congrArg (fun m => Ending.returned (Value.slice (some ⟨g, 0, none⟩) m c)) (show i + (n - j0) = n - 1 by omega) : _ = _), HB1.out.trans (Lib.below_setCells_w hbase _ _ _), fun j hj => ?_⟩
    rw [World.cell?_setCells_out g _ _ W1 ⟨g, j, none⟩ (fun _ _ => .inl (by show j < i + (n - j0); omega)), HC1.out j (by omega), List.getElem?_eraseIdx]
    split
    · rfl
    · first | rfl | (rw [if_pos hj]) | (rw [if_pos hj]; rfl)
end Go.Proofs.Ytmdhljleaijkbaa

/- What the program and the reference leave out of a maniplex: without, l02Others; flags. -/
namespace Go.Proofs.Ytmdhljleaijkbaa
open Go.RowKit

/-- values that read as lists, each within its capacity -/
def RwV (w : World) (us : List Value) (zss : List (List Int)) : Prop := us.length = zss.length ∧ ∀ j, j < zss.length → ∃ a' c', us[j]? = some (.slice a' (lget zss j).length c') ∧ (lget zss j).length ≤ c' ∧ Ints w a' (lget zss j).length (lget zss j)
theorem RwV.below {w w' : World} {us : List Value} {zss : List (List Int)} (h : RwV w us zss) (hb : Below w.heap.size w w') : RwV w' us zss :=
  ⟨h.1, fun j hj => by obtain ⟨a, c, h1, h2, h3⟩ := h.2 j hj; exact ⟨a, c, h1, h2, h3.below hb⟩⟩
theorem RwV.one {w : World} {us : List Value} {zss : List (List Int)} (h : RwV w us zss) : ∀ u ∈ us, u.oneCell' = true := fun u hu => by
  obtain ⟨j, hj, rfl⟩ := List.getElem_of_mem hu
  obtain ⟨a, c, h1, _, _⟩ := h.2 j (by rw [← h.1]; exact hj)
  rw [List.getElem?_eq_getElem hj] at h1
  rw [Option.some.inj h1]; rfl
theorem lget_erase {zss : List (List Int)} {i j : Nat} : lget (zss.eraseIdx i) j = if j < i then lget zss j else lget zss (j + 1) := by
  unfold lget
  rw [List.getD_eq_getElem?_getD, List.getElem?_eraseIdx]
  split <;> simp [List.getD_eq_getElem?_getD]
theorem RwV.erase {w : World} {us : List Value} {zss : List (List Int)} (h : RwV w us zss) {i : Nat} (hi : i < zss.length) : RwV w (us.eraseIdx i) (zss.eraseIdx i) := by
  have h0 := h.1
  refine ⟨by rw [List.length_eraseIdx, List.length_eraseIdx, h0], fun j hj => ?_⟩
  rw [List.length_eraseIdx, if_pos hi] at hj
  rw [lget_erase, List.getElem?_eraseIdx]
  split
  · exact h.2 j (by omega)
  · exact h.2 (j + 1) (by omega)
theorem RdSSc.rows {w : World} {v : Value} {zss : List (List Int)} (h : RdSSc w v zss) : ∃ ao c us, v = .slice ao zss.length c ∧ Vals w ao zss.length us ∧ RwV w us zss ∧ (0 < zss.length → zss.length ≤ c) := by
  obtain ⟨ao, c, rfl, hn, hc⟩ := h
  rcases Nat.eq_zero_or_pos zss.length with h0 | h0
  · refine ⟨ao, c, [], rfl, ⟨by rw [h0]; rfl, hn, fun h => by omega⟩, ⟨by rw [h0]; rfl, fun j hj => by omega⟩, fun h => by omega⟩
  · obtain ⟨h1, b, off, e, hlt, h2⟩ := hc h0
    have hget : ∀ j, j < zss.length → ((List.range zss.length).map fun j => (w.cell? ⟨b, off + j, none⟩).getD (.slice none 0 0))[j]? = some ((w.cell? ⟨b, off + j, none⟩).getD (.slice none 0 0)) := fun j hj => by simp [hj]
    refine ⟨ao, c, (List.range zss.length).map fun j => (w.cell? ⟨b, off + j, none⟩).getD (.slice none 0 0), rfl, ⟨by simp, hn, fun _ => ⟨b, off, e, fun j u hu => ?_⟩⟩, ⟨by simp, fun j hj => ?_⟩, fun _ => h1⟩
    · have hj : j < zss.length := by have := (List.getElem?_eq_some_iff.1 hu).1; simpa using this
      obtain ⟨a', c', h3, _, _⟩ := h2 j hj
      rw [hget j hj, h3] at hu
      rw [h3]; exact hu
    · obtain ⟨a', c', h3, h4, h5⟩ := h2 j hj
      exact ⟨a', c', by rw [hget j hj, h3]; rfl, h4, h5⟩
theorem rdc_of {w : World} {g n c : Nat} {us : List Value} {zss : List (List Int)} (hn : zss.length = n) (hn1 : n ≤ c) (hn2 : n ≤ 17592186044416) (hg : g < w.heap.size) (hc : ∀ j, j < n → w.cell? ⟨g, j, none⟩ = us[j]?) (hr : RwV w us zss) : RdSSc w (.slice (some ⟨g, 0, none⟩) n c) zss := by
  subst hn
  refine ⟨_, _, rfl, hn2, fun h0 => ⟨hn1, g, 0, rfl, hg, fun j hj => ?_⟩⟩
  obtain ⟨a', c', h1, h2, h3⟩ := hr.2 j hj
  exact ⟨a', c', by rw [Nat.zero_add, hc j hj]; exact h1, h2, h3⟩

set_option maxRecDepth 100000 in
set_option maxHeartbeats 800000 in
theorem cloneSS_any (ao : Option Addr) (n c : Nat) (us : List Value) (w : World) (h : Vals w ao n us) (hn : 0 < n) (hn4 : n ≤ 4398046511104) (h1 : ∀ u ∈ us, u.oneCell' = true) :
    Calls Try.prog 80 #[.slice ao n c] w fun e w' => ∃ g c', e = .returned (.slice (some ⟨g, 0, none⟩) n c') ∧ Own w' w.heap.size 32 (some ⟨g, 0, none⟩) n c' us ∧ Below w.heap.size w w' := by
  have he := fun (w : World) => Lib.run_eql_slice_nil (P := Try.prog) w 26 32 ao n c 0 0 Try.underlying26
  obtain ⟨b, off, rfl, hcell⟩ := h.2.2 hn
  go_enter Try.func80, Try.ntmps80
  have hO : Own (w.alloc (.cells #[] 32)) w.heap.size 32 (some ⟨w.heap.size, 0, none⟩) 0 0 [] := Own.empty_ w _ (Nat.le_refl _)
  have HO := Lib.hid hO
  have hV : Vals (w.alloc (.cells #[] 32)) (some ⟨b, off, none⟩) n us := ⟨h.1, h.2.1, fun _ => ⟨b, off, rfl, fun j u hu => by
    have h2 := hcell j u hu
    exact (World.cell?_of_block (Below.heap_alloc w _ b (World.block_lt_of_cell? w _ h2))).trans h2⟩⟩
  have HV := Lib.hid hV
  have hs : w.heap.size ≤ (w.alloc (.cells #[] 32)).heap.size := by simp
  have H1 := Lib.hid h1
  clear hO hV hcell h h1
  go_wp2_with (at_builtin; refine wpList_apV etSS _ rfl _ _ rfl w.heap.size _ 0 0 [] rfl HO.out (some ⟨b, off, none⟩) n c us rfl HV.out H1.out (by omega) hs ?_; intro ao2 c2 w2 o2 g2 hat)
  rw [Nat.zero_add] at o2
  obtain ⟨g, hg, hg1, _⟩ := o2.form hn
  subst hg
  have hb : Below w.heap.size w w2 := (below_alloc1 w (.cells #[] 32)).grown g2 (by simp) (fun k hk => by simp [bk] at hk; omega)
  go_ret
  exact ⟨g, c2, rfl, by simpa using o2, hb⟩
set_option maxRecDepth 100000 in
set_option maxHeartbeats 800000 in
theorem without_any (mb c i : Nat) (ao : Option Addr) (d : List (List Int)) (w : World) (hm : Blk w mb 28 #[.slice ao d.length c]) (h : RdSSc w (.slice ao d.length c) d) (hi : i < d.length) (hd4 : d.length ≤ 1000) :
    Calls Try.prog 109 #[.pointer (some ⟨mb, 0, none⟩), .int .i64 i] w fun e w' => ∃ v, e = .returned v ∧ RdSSc w' v (d.eraseIdx i) ∧ Below w.heap.size w w' := by
  obtain ⟨ao', c', us, e, hv, hr, hc⟩ := h.rows
  injection e with e1 e2 e3
  subst e1 e3
  have x0 := hm.cell 0
  simp at x0
  have HV := Lib.hid hv
  have HR := Lib.hid hr
  obtain ⟨n, hn⟩ : ∃ n, d.length = n := ⟨_, rfl⟩
  have HN := Lib.hid hn
  rw [hn] at x0 HV hi hd4
  clear hv hr h hc hm hn
  go_enter Try.func109, Try.ntmps109
  go_wp2_with fail
  refine (cloneSS_any ao n c us w HV.out (by omega) (by omega) HR.out.one).mono ?_
  rintro e w2 ⟨g, c2, rfl, o2, b2⟩
  have hle := o2.form (by omega)
  obtain ⟨g', hg', hg1, hg2, hnc, _, _⟩ := hle
  injection hg' with hg'
  injection hg' with hg'
  subst hg'
  have O2 := Lib.hid o2
  have R2 := Lib.hid (HR.out.below b2)
  have B2 := Lib.hid b2
  clear x0 o2 b2
  obtain ⟨j0, hj0, hj1⟩ : ∃ j0 : Nat, (i : Int) + 1 = (j0 : Int) ∧ j0 = i + 1 := ⟨i + 1, by omega, rfl⟩
  have HJ1 := Lib.hid hj1
  have hj4 : j0 ≤ 1000 := by omega
  clear hj1
  go_wp2_with fail
  refine (delete1_any g n c2 i w.heap.size us w2 O2.out hi R2.out.one j0 HJ1.out).mono ?_
  rintro e w3 ⟨rfl, b3, hc3⟩
  have hr3 := (R2.out.erase (i := i) (by rw [HN.out]; exact hi))
  have B3 := B2.out.trans b3
  have hzz : w2.heap.size ≤ w3.heap.size := b3.size
  have R3 : RwV w3 (us.eraseIdx i) (d.eraseIdx i) := ((HR.out.erase (i := i) (by rw [HN.out]; exact hi)).below B3)
  have hlen : (d.eraseIdx i).length = n - 1 := by rw [List.length_eraseIdx, if_pos (by rw [HN.out]; exact hi), HN.out]
  have hfin := rdc_of (g := g) (c := c2) hlen (by omega) (by omega) (by omega) hc3 R3
  go_wp2
  go_ret
  exact ⟨_, rfl, hfin, B3⟩
end Go.Proofs.Ytmdhljleaijkbaa

/- Cosets that some generators lead to, and the first fault of intersections, on lists. No program in sight. -/
namespace Go.Proofs.Ytmdhljleaijkbaa

/-- whether a mask holds a generator -/
def mBit (mask g : Nat) : Bool := mask / 2 ^ g % 2 == 1
/-- which are met, the queue -/
abbrev MSt := List Bool × List Int
def mStep (T : List (List Int)) (mask c : Nat) (s : MSt) (g : Nat) : MSt := if mBit mask g = true ∧ bat s.1 (bTo T c g) = false then (s.1.set (bTo T c g) true, s.2 ++ [(bTo T c g : Int)]) else s
def mRow (T : List (List Int)) (mask ng c : Nat) (s : MSt) : MSt := (List.range ng).foldl (mStep T mask c) s
def mLoop (T : List (List Int)) (mask ng : Nat) : Nat → Nat → MSt → MSt
  | 0, _, s => s
  | f + 1, i, s => if i < s.2.length then mLoop T mask ng f (i + 1) (mRow T mask ng (iget s.2 i).toNat s) else s
def mStart (n : Nat) : MSt := ((List.replicate n false).set 0 true, [0])
def mem (T : List (List Int)) (ng n mask : Nat) : MSt := mLoop T mask ng (n + 1) 0 (mStart n)
structure MOK (n : Nat) (s : MSt) : Prop where
  l : s.1.length = n
  q : ∀ k, k < s.2.length → ∃ d : Nat, iget s.2 k = (d : Int) ∧ d < n ∧ bat s.1 d = true
  cnt : bcnt s.1 = s.2.length
  cov : ∀ d, d < n → bat s.1 d = true → ∃ k, k < s.2.length ∧ iget s.2 k = (d : Int)
theorem MOK.le {n : Nat} {s : MSt} (h : MOK n s) : s.2.length ≤ n := by
  have := bcnt_le s.1; rw [h.cnt, h.l] at this; exact this
structure MGrow (s s' : MSt) : Prop where
  len : s.2.length ≤ s'.2.length
  pre : ∀ k, k < s.2.length → iget s'.2 k = iget s.2 k
  met : ∀ d, bat s.1 d = true → bat s'.1 d = true
theorem MGrow.refl (s : MSt) : MGrow s s := ⟨Nat.le_refl _, fun _ _ => rfl, fun _ h => h⟩
theorem MGrow.trans {a b c : MSt} (h : MGrow a b) (k : MGrow b c) : MGrow a c :=
  ⟨Nat.le_trans h.len k.len, fun i hi => (k.pre i (Nat.lt_of_lt_of_le hi h.len)).trans (h.pre i hi), fun d hd => k.met d (h.met d hd)⟩
section
variable {T : List (List Int)} {ng n mask : Nat}
theorem mStep_grow (s : MSt) (c g : Nat) : MGrow s (mStep T mask c s g) := by
  unfold mStep
  split
  · refine ⟨by simp, fun k hk => iget_app_lt hk, fun d hd => ?_⟩
    dsimp only
    rw [bat_set]
    split
    · rfl
    · exact hd
  · exact MGrow.refl s
theorem mStep_ok {s : MSt} {c g : Nat} (h : MOK n s) (hd : bTo T c g < n) : MOK n (mStep T mask c s g) := by
  unfold mStep
  generalize bTo T c g = d at *
  split
  · rename_i hm
    have hm := hm.2
    refine ⟨by rw [List.length_set]; exact h.l, fun k hk => ?_, ?_, fun e he hb => ?_⟩
    · dsimp only at hk ⊢
      by_cases e : k < s.2.length
      · obtain ⟨d', h1, h2, h3⟩ := h.q k e
        refine ⟨d', by rw [iget_app_lt e]; exact h1, h2, ?_⟩
        rw [bat_set]; split
        · rfl
        · exact h3
      · obtain rfl : k = s.2.length := by simp at hk; omega
        exact ⟨d, iget_app_eq, hd, by rw [bat_set, if_pos ⟨rfl, by rw [h.l]; exact hd⟩]⟩
    · dsimp only; rw [bcnt_set _ _ (by rw [h.l]; exact hd) hm, h.cnt]; simp
    · dsimp only at hb ⊢
      by_cases e2 : d = e
      · subst e2; exact ⟨s.2.length, by simp, iget_app_eq⟩
      · rw [bat_set, if_neg (fun h => e2 h.1)] at hb
        obtain ⟨k, h1, h2⟩ := h.cov e he hb
        exact ⟨k, by rw [List.length_append]; omega, by rw [iget_app_lt h1]; exact h2⟩
  · exact h
theorem mStep_met {s : MSt} {c g : Nat} (h : MOK n s) (hd : bTo T c g < n) (hb : mBit mask g = true) : bat (mStep T mask c s g).1 (bTo T c g) = true := by
  unfold mStep
  cases hm : bat s.1 (bTo T c g) with
  | false => rw [if_pos ⟨hb, rfl⟩]; dsimp only; rw [bat_set, if_pos ⟨rfl, by rw [h.l]; exact hd⟩]
  | true => rw [if_neg (fun h => by cases h.2)]; exact hm
theorem mRow_ok (hT : Leads T n) (hng : T.length = ng) {c : Nat} (hc : c < n) {s : MSt} (h : MOK n s) : ∀ m, m ≤ ng → MOK n ((List.range m).foldl (mStep T mask c) s) ∧ MGrow s ((List.range m).foldl (mStep T mask c) s) ∧ ∀ g, g < m → mBit mask g = true → bat ((List.range m).foldl (mStep T mask c) s).1 (bTo T c g) = true
  | 0, _ => ⟨h, MGrow.refl s, fun g hg => by omega⟩
  | m + 1, hm => by
    obtain ⟨h1, h2, h3⟩ := mRow_ok hT hng hc h m (by omega)
    rw [List.range_succ, List.foldl_append]
    generalize (List.range m).foldl (mStep T mask c) s = t at *
    have hd := (bTo_lt hT hc (g := m) (by omega)).1
    refine ⟨mStep_ok h1 hd, h2.trans (mStep_grow t c m), fun g hg hb => ?_⟩
    show bat (mStep T mask c t m).1 (bTo T c g) = true
    by_cases e : g = m
    · subst e; exact mStep_met h1 hd hb
    · exact (mStep_grow t c m).met _ (h3 g (by omega) hb)
def MSeen (T : List (List Int)) (mask ng i : Nat) (s : MSt) : Prop := ∀ k, k < i → ∀ g, g < ng → mBit mask g = true → bat s.1 (bTo T (iget s.2 k).toNat g) = true
theorem mLoop_step {f i : Nat} {s : MSt} (h : i < s.2.length) : mLoop T mask ng (f + 1) i s = mLoop T mask ng f (i + 1) (mRow T mask ng (iget s.2 i).toNat s) := by rw [mLoop, if_pos h]
theorem mLoop_ok (hT : Leads T n) (hng : T.length = ng) : ∀ (f i : Nat) (s : MSt), MOK n s → MOK n (mLoop T mask ng f i s) ∧ MGrow s (mLoop T mask ng f i s)
  | 0, _, s, h => ⟨h, MGrow.refl s⟩
  | f + 1, i, s, h => by
    unfold mLoop
    split
    · rename_i hi
      obtain ⟨d, h1, h2, _⟩ := h.q i hi
      obtain ⟨k1, k2, _⟩ := mRow_ok (mask := mask) hT hng (c := (iget s.2 i).toNat) (by omega) h ng (Nat.le_refl _)
      obtain ⟨m1, m2⟩ := mLoop_ok hT hng f (i + 1) _ k1
      exact ⟨m1, k2.trans m2⟩
    · exact ⟨h, MGrow.refl s⟩
theorem mLoop_seen (hT : Leads T n) (hng : T.length = ng) : ∀ (f i : Nat) (s : MSt), MOK n s → MSeen T mask ng i s → i ≤ s.2.length → n + 1 ≤ f + i → MSeen T mask ng (mLoop T mask ng f i s).2.length (mLoop T mask ng f i s)
  | 0, i, s, h, hs, hi, hf => by have := h.le; omega
  | f + 1, i, s, h, hs, hi, hf => by
    unfold mLoop
    split
    · rename_i hlt
      obtain ⟨d, h1, h2, _⟩ := h.q i hlt
      obtain ⟨k1, k2, k3⟩ := mRow_ok (mask := mask) hT hng (c := (iget s.2 i).toNat) (by omega) h ng (Nat.le_refl _)
      refine mLoop_seen hT hng f (i + 1) _ k1 (fun k hk g hg hb => ?_) (Nat.le_trans hlt k2.len) (by omega)
      have e : iget (mRow T mask ng (iget s.2 i).toNat s).2 k = iget s.2 k := k2.pre k (by omega)
      rw [e]
      by_cases e2 : k = i
      · subst e2; exact k3 g hg hb
      · exact k2.met _ (hs k (by omega) g hg hb)
    · obtain rfl : i = s.2.length := by omega
      exact hs
/-- what is closed holds all that is met -/
theorem mLoop_in (hT : Leads T n) (hng : T.length = ng) {p : Nat → Prop} (hp : ∀ c, c < n → p c → ∀ g, g < ng → mBit mask g = true → p (bTo T c g)) : ∀ (f i : Nat) (s : MSt), MOK n s → (∀ d, d < n → bat s.1 d = true → p d) → ∀ d, d < n → bat (mLoop T mask ng f i s).1 d = true → p d
  | 0, _, s, _, hs => hs
  | f + 1, i, s, h, hs => by
    unfold mLoop
    split
    · rename_i hlt
      obtain ⟨c, h1, h2, h3⟩ := h.q i hlt
      have hpc := hs c h2 h3
      rw [h1, Int.toNat_natCast]
      obtain ⟨k1, _, _⟩ := mRow_ok (mask := mask) hT hng h2 h ng (Nat.le_refl _)
      refine mLoop_in hT hng hp f (i + 1) _ k1 ?_
      have key : ∀ m, m ≤ ng → ∀ d, d < n → bat ((List.range m).foldl (mStep T mask c) s).1 d = true → p d := by
        intro m
        induction m with
        | zero => intro _; exact hs
        | succ m ih =>
          intro hm d hd hb
          rw [List.range_succ, List.foldl_append] at hb
          have hb : bat (mStep T mask c ((List.range m).foldl (mStep T mask c) s) m).1 d = true := hb
          unfold mStep at hb
          split at hb
          · rename_i hc
            dsimp only at hb
            rw [bat_set] at hb
            split at hb
            · rename_i e; rw [← e.1]; exact hp c h2 hpc m (by omega) hc.1
            · exact ih (by omega) d hd hb
          · exact ih (by omega) d hd hb
      exact key ng (Nat.le_refl _)
    · exact hs
end
end Go.Proofs.Ytmdhljleaijkbaa

/- Orbits and their numbers, on lists. No program in sight. -/
namespace Go.Proofs.Ytmdhljleaijkbaa

theorem mBit_all {ng g : Nat} (h : g < ng) : mBit (2 ^ ng - 1) g = true := by
  have : mBit (2 ^ ng - 1) g = (2 ^ ng - 1).testBit g := by
    unfold mBit; rw [Nat.testBit_eq_decide_div_mod_eq]; rfl
  rw [this, Nat.testBit_two_pow_sub_one]; simpa using h
/-- a step of the search for an orbit -/
def oStep (T : List (List Int)) (c : Nat) (s : MSt) (g : Nat) : MSt := if bat s.1 (bTo T c g) = false then (s.1.set (bTo T c g) true, s.2 ++ [(bTo T c g : Int)]) else s
theorem oStep_eq {T : List (List Int)} {ng g : Nat} (h : g < ng) (c : Nat) (s : MSt) : mStep T (2 ^ ng - 1) c s g = oStep T c s g := by
  unfold mStep oStep
  simp only [mBit_all h, true_and]
def oStart (n c : Nat) : MSt := ((List.replicate n false).set c true, [(c : Int)])
/-- the points to which lists lead a point, as they are met -/
def orb (T : List (List Int)) (n c : Nat) : MSt := mLoop T (2 ^ T.length - 1) T.length (n + 1) 0 (oStart n c)
theorem oStart_bat {n c d : Nat} (hd : d < n) : bat (oStart n c).1 d = true ↔ d = c := by
  show bat ((List.replicate n false).set c true) d = true ↔ _
  rw [bat_set]
  constructor
  · intro h
    split at h
    · rename_i e; exact e.1.symm
    · simp [bat, hd] at h
  · rintro rfl; rw [if_pos ⟨rfl, by simpa using hd⟩]
theorem oStart_ok {n c : Nat} (hc : c < n) : MOK n (oStart n c) := by
  refine ⟨by simp [oStart], fun k hk => ?_, ?_, fun d hd hb => ?_⟩
  · obtain rfl : k = 0 := by simp [oStart] at hk; omega
    exact ⟨c, rfl, hc, (oStart_bat hc).2 rfl⟩
  · show bcnt ((List.replicate n false).set c true) = 1
    rw [bcnt_set _ _ (by simpa using hc) (by simp [bat, hc])]
    simp [bcnt]
  · rw [oStart_bat hd] at hb; subst hb; exact ⟨0, by simp [oStart], rfl⟩
section
variable {T : List (List Int)} {n : Nat}
theorem orb_ok (hT : Leads T n) {c : Nat} (hc : c < n) : MOK n (orb T n c) := (mLoop_ok hT rfl _ _ _ (oStart_ok hc)).1
/-- whether lists lead a point to another one -/
def rch (T : List (List Int)) (n c d : Nat) : Bool := bat (orb T n c).1 d
theorem rch_refl (hT : Leads T n) {c : Nat} (hc : c < n) : rch T n c c = true := (mLoop_ok hT rfl _ _ _ (oStart_ok hc)).2.met c ((oStart_bat hc).2 rfl)
theorem rch_on (hT : Leads T n) {c d g : Nat} (hc : c < n) (hd : d < n) (h : rch T n c d = true) (hg : g < T.length) : rch T n c (bTo T d g) = true := by
  have hs := mLoop_seen (mask := 2 ^ T.length - 1) hT rfl (n + 1) 0 _ (oStart_ok hc) (fun k hk => by omega) (Nat.zero_le _) (by omega)
  obtain ⟨k, k1, k2⟩ := (orb_ok hT hc).cov d hd h
  have := hs k k1 g hg (mBit_all hg)
  have e : iget (mLoop T (2 ^ T.length - 1) T.length (n + 1) 0 (oStart n c)).2 k = (d : Int) := k2
  rw [e, Int.toNat_natCast] at this
  exact this
theorem rch_in (hT : Leads T n) {c : Nat} (hc : c < n) {p : Nat → Prop} (h0 : p c) (hp : ∀ d, d < n → p d → ∀ g, g < T.length → p (bTo T d g)) : ∀ d, d < n → rch T n c d = true → p d :=
  mLoop_in (mask := 2 ^ T.length - 1) hT rfl (fun d hd hpd g hg _ => hp d hd hpd g hg) (n + 1) 0 (oStart n c) (oStart_ok hc) fun d hd hb => by rw [oStart_bat hd] at hb; subst hb; exact h0
theorem rch_trans (hT : Leads T n) {c d e : Nat} (hc : c < n) (hd : d < n) (he : e < n) (h1 : rch T n c d = true) (h2 : rch T n d e = true) : rch T n c e = true :=
  rch_in (p := fun e => rch T n c e = true) hT hd h1 (fun e he h g hg => rch_on hT hc he h hg) e he h2
/-- each list leads back what it leads -/
def Back2 (T : List (List Int)) (n : Nat) : Prop := ∀ g, g < T.length → ∀ c, c < n → bTo T (bTo T c g) g = c
theorem rch_symm (hT : Leads T n) (hb : Back2 T n) {c d : Nat} (hc : c < n) (hd : d < n) (h : rch T n c d = true) : rch T n d c = true :=
  rch_in (p := fun d => rch T n d c = true) hT hc (rch_refl hT hc) (fun e he h g hg => by
    have h1 := (bTo_lt hT he hg).1
    have h2 := rch_on hT h1 h1 (rch_refl hT h1) hg
    rw [hb g hg e he] at h2
    exact rch_trans hT h1 he hc h2 h) d hd h

/-- who is reached reaches back -/
def SymR (T : List (List Int)) (n : Nat) : Prop := ∀ c d, c < n → d < n → rch T n c d = true → rch T n d c = true
theorem Back2.sym (hT : Leads T n) (hb : Back2 T n) : SymR T n := fun _ _ hc hd h => rch_symm hT hb hc hd h
theorem bcnt_full : ∀ {l : List Bool}, bcnt l = l.length → ∀ d, d < l.length → bat l d = true
  | [], _, d, hd => by simp at hd
  | b :: r, h, d, hd => by
    have hr := bcnt_le r
    have hb : b = true ∧ bcnt r = r.length := by
      unfold bcnt at h hr ⊢
      rw [List.filter_cons] at h
      split at h
      · rename_i hb; exact ⟨hb, by simpa using h⟩
      · simp at h; omega
    cases d with
    | zero => exact hb.1
    | succ d => exact bcnt_full hb.2 d (by simpa using hd)
theorem bcnt_all : ∀ {l : List Bool}, (∀ d, d < l.length → bat l d = true) → bcnt l = l.length
  | [], _ => rfl
  | b :: r, h => by
    have h0 : b = true := h 0 (by simp)
    have h1 := bcnt_all (l := r) fun d hd => h (d + 1) (by simpa using hd)
    unfold bcnt at h1 ⊢
    rw [List.filter_cons, if_pos h0]; simp [h1]
/-- the orbit is everything exactly if every point is met -/
theorem orb_full (hT : Leads T n) {c : Nat} (hc : c < n) : (orb T n c).2.length = n ↔ ∀ d, d < n → rch T n c d = true := by
  have h := orb_ok hT hc
  rw [← h.cnt]
  constructor
  · intro e d hd; exact bcnt_full (by rw [h.l]; exact e) d (by rw [h.l]; exact hd)
  · intro e; rw [bcnt_all (fun d hd => e d (by rw [h.l] at hd; exact hd)), h.l]

/-- the numbers of orbits, and how many there are -/
abbrev LSt := List Int × Nat
def labSet (T : List (List Int)) (n i : Nat) (s : LSt) : LSt := ((List.range n).map fun d => if rch T n i d then (s.2 : Int) else iget s.1 d, s.2 + 1)
def labStep (T : List (List Int)) (n : Nat) (s : LSt) (i : Nat) : LSt := if 0 ≤ iget s.1 i then s else labSet T n i s
def labStart (n : Nat) : LSt := (List.replicate n (-1), 0)
def labTo (T : List (List Int)) (n i : Nat) : LSt := (List.range i).foldl (labStep T n) (labStart n)
def labs (T : List (List Int)) (n : Nat) : LSt := labTo T n n
theorem labTo_succ (i : Nat) : labTo T n (i + 1) = labStep T n (labTo T n i) i := by unfold labTo; rw [List.range_succ, List.foldl_append]; rfl
theorem labSet_get {i d : Nat} {s : LSt} (hd : d < n) : iget (labSet T n i s).1 d = if rch T n i d then (s.2 : Int) else iget s.1 d := by simp [labSet, iget, hd]
theorem labSet_len {i : Nat} {s : LSt} : (labSet T n i s).1.length = n := by simp [labSet]
structure LOK (T : List (List Int)) (n i : Nat) (s : LSt) : Prop where
  len : s.1.length = n
  met : ∀ d, d < n → (0 ≤ iget s.1 d ↔ ∃ c, c < i ∧ rch T n c d = true)
  low : ∀ d, d < n → -1 ≤ iget s.1 d ∧ iget s.1 d < s.2
theorem labTo_okS (hT : Leads T n) (hb : SymR T n) : ∀ i, i ≤ n → LOK T n i (labTo T n i)
  | 0, _ => ⟨by simp [labTo, labStart], fun d hd => ⟨fun h => by simp [labTo, labStart, iget, hd] at h, fun ⟨c, h, _⟩ => absurd h (by omega)⟩, fun d hd => by simp [labTo, labStart, iget, hd]⟩
  | i + 1, hi => by
    have h := labTo_okS hT hb i (by omega)
    rw [labTo_succ]
    generalize labTo T n i = s at *
    unfold labStep
    split
    · rename_i hl
      refine ⟨h.len, fun d hd => ?_, h.low⟩
      rw [h.met d hd]
      constructor
      · rintro ⟨c, h1, h2⟩; exact ⟨c, by omega, h2⟩
      · rintro ⟨c, h1, h2⟩
        by_cases e : c = i
        · subst e
          obtain ⟨c', h3, h4⟩ := (h.met c hi).1 hl
          exact ⟨c', h3, rch_trans hT (by omega) hi hd h4 h2⟩
        · exact ⟨c, by omega, h2⟩
    · rename_i hl
      refine ⟨labSet_len, fun d hd => ?_, fun d hd => ?_⟩
      · rw [labSet_get hd]
        split
        · rename_i hr; exact ⟨fun _ => ⟨i, by omega, hr⟩, fun _ => by omega⟩
        · rename_i hr
          rw [h.met d hd]
          constructor
          · rintro ⟨c, h1, h2⟩; exact ⟨c, by omega, h2⟩
          · rintro ⟨c, h1, h2⟩
            by_cases e : c = i
            · subst e; exact absurd h2 hr
            · exact ⟨c, by omega, h2⟩
      · rw [labSet_get hd]
        have := h.low d hd
        split
        · exact ⟨by omega, by show (s.2 : Int) < ((s.2 + 1 : Nat) : Int); omega⟩
        · exact ⟨this.1, by show _ < ((s.2 + 1 : Nat) : Int); omega⟩
/-- whoever is met from i for the first time was not met ahead of it -/
theorem lab_newS (hT : Leads T n) (hb : SymR T n) {i d : Nat} {s : LSt} (hi : i < n) (h : LOK T n i s) (hl : iget s.1 i < 0) (hd : d < n) (hr : rch T n i d = true) : iget s.1 d = -1 := by
  have := h.low d hd
  by_cases e : 0 ≤ iget s.1 d
  · obtain ⟨c, h1, h2⟩ := (h.met d hd).1 e
    have h3 := rch_trans hT (by omega) hd hi h2 (hb i d hi hd hr)
    have := (h.met i hi).2 ⟨c, h1, h3⟩
    omega
  · omega
theorem labTo_mono : ∀ {i k : Nat}, i ≤ k → (labTo T n i).2 ≤ (labTo T n k).2 := by
  intro i k h
  induction k with
  | zero => obtain rfl : i = 0 := by omega
            exact Nat.le_refl _
  | succ k ih =>
    by_cases e : i = k + 1
    · subst e; exact Nat.le_refl _
    · refine Nat.le_trans (ih (by omega)) ?_
      rw [labTo_succ]; unfold labStep; split
      · exact Nat.le_refl _
      · simp [labSet]
theorem labTo_oneS (hT : Leads T n) (hb : SymR T n) (hn : 0 < n) : (labTo T n 1).2 = 1 := by
  have h0 : iget (labTo T n 0).1 0 = -1 := by simp [labTo, labStart, iget, hn]
  rw [show 1 = 0 + 1 by rfl, labTo_succ]
  unfold labStep
  rw [if_neg (by rw [h0]; omega)]
  rfl
/-- there is one orbit exactly if that of 0 is everything -/
theorem labs_oneS (hT : Leads T n) (hb : SymR T n) (hn : 0 < n) : (labs T n).2 = 1 ↔ (orb T n 0).2.length = n := by
  rw [orb_full hT hn]
  constructor
  · intro h d hd
    have key : ∀ i, 1 ≤ i → i ≤ n → labTo T n i = labTo T n 1 := by
      intro i h1 h2
      induction i with
      | zero => omega
      | succ i ih =>
        by_cases e : i = 0
        · subst e; rfl
        · have ih := ih (by omega) (by omega)
          have hm := labTo_mono (T := T) (n := n) h2
          have : (labTo T n n).2 = 1 := h
          rw [labTo_succ] at hm ⊢
          unfold labStep at hm ⊢
          split at hm
          · rename_i hl; rw [if_pos hl]; exact ih
          · rw [ih] at hm
            have := labTo_oneS hT hb hn
            simp only [labSet] at hm
            omega
    by_cases e : d = 0
    · subst e; exact rch_refl hT hn
    · have h1 : 0 ≤ iget (labTo T n d).1 d := by
        have hm := labTo_mono (T := T) (n := n) (show d + 1 ≤ n by omega)
        have : (labTo T n n).2 = 1 := h
        rw [labTo_succ] at hm
        unfold labStep at hm
        split at hm
        · rename_i hl; exact hl
        · rw [key d (by omega) (by omega)] at hm
          have := labTo_oneS hT hb hn
          simp only [labSet] at hm
          omega
      rw [key d (by omega) (by omega)] at h1
      obtain ⟨c, h2, h3⟩ := ((labTo_okS hT hb 1 hn).met d hd).1 h1
      obtain rfl : c = 0 := by omega
      exact h3
  · intro h
    have key : ∀ i, 1 ≤ i → i ≤ n → (labTo T n i).2 = 1 := by
      intro i h1 h2
      induction i with
      | zero => omega
      | succ i ih =>
        by_cases e : i = 0
        · subst e; exact labTo_oneS hT hb hn
        · rw [labTo_succ]
          unfold labStep
          rw [if_pos (((labTo_okS hT hb i (by omega)).met i (by omega)).2 ⟨0, by omega, h i (by omega)⟩)]
          exact ih (by omega) (by omega)
    exact key n hn (Nat.le_refl _)
theorem labs_one (hT : Leads T n) (hb : Back2 T n) (hn : 0 < n) : (labs T n).2 = 1 ↔ (orb T n 0).2.length = n := labs_oneS hT (hb.sym hT) hn
end
end Go.Proofs.Ytmdhljleaijkbaa

/- within and its twin in the reference; slices.IndexFunc and slices.ContainsFunc at []int64, over any predicate that only reads or makes memory. -/
namespace Go.Proofs.Ytmdhljleaijkbaa
open Go.RowKit

/-- n lies between lo and hi -/
def inB (n lo hi : Int) : Bool := decide (lo ≤ n) && decide (n ≤ hi)
theorem inB_true {n lo hi : Int} : inB n lo hi = true ↔ lo ≤ n ∧ n ≤ hi := by simp [inB]
theorem within_any (n lo hi : Int) (w : World) : Calls Try.prog 35 #[.int .i64 n, .int .i64 lo, .int .i64 hi] w fun e w' => e = .returned (.bool (inB n lo hi)) ∧ w' = w := by
  by_cases h : lo ≤ n
  · have h1 : decide (lo ≤ n) = true := by simpa using h
    go_enter Try.func35, Try.ntmps35
    go_wp2
    go_ret
    exact ⟨ret_bool (by simp [inB, h]), rfl⟩
  · have h1 : decide (lo ≤ n) = false := by simpa using h
    have h2 : inB n lo hi = false := by simp [inB, h1]
    have H2 := Lib.hid h2
    clear h2
    go_enter Try.func35, Try.ntmps35
    go_wp2
    go_ret
    exact ⟨ret_bool H2.out.symm, rfl⟩

theorem specIn_any (n lo hi : Int) (w : World) : Calls Try.prog 37 #[.int .i64 n, .int .i64 lo, .int .i64 hi] w fun e w' => e = .returned (.bool (inB n lo hi)) ∧ w' = w := by
  by_cases h : lo ≤ n
  · have h1 : decide (lo ≤ n) = true := by simpa using h
    go_enter Try.func37, Try.ntmps37
    go_wp2
    go_ret
    exact ⟨ret_bool (by simp [inB, h]), rfl⟩
  · have h1 : decide (lo ≤ n) = false := by simpa using h
    have h2 : inB n lo hi = false := by simp [inB, h1]
    have H2 := Lib.hid h2
    clear h2
    go_enter Try.func37, Try.ntmps37
    go_wp2
    go_ret
    exact ⟨ret_bool H2.out.symm, rfl⟩

end Go.Proofs.Ytmdhljleaijkbaa

/- Permutations: the program's isPermutation and the reference's l01Perm compute one Bool. -/
namespace Go.Proofs.Ytmdhljleaijkbaa
open Go.RowKit

theorem etB : ET Try.prog 136 4 (.bool false) 1 := ⟨Try.underlying136, by kernel_rfl, rfl, by omega⟩

/-- the numbers that are still to come are within 0 to n - 1, and none of them has been seen, nor comes twice -/
def permGo (n : Nat) : List Bool → List Int → Bool
  | _, [] => true
  | seen, z :: r => inB z 0 ((n : Int) - 1) && !(seen.getD z.toNat false) && permGo n (seen.set z.toNat true) r
/-- a permutation of at most 400 points -/
def isPerm (zs : List Int) : Bool := decide (zs.length ≤ 400) && permGo zs.length (List.replicate zs.length false) zs

theorem permGo_step {n : Nat} {seen : List Bool} {zs : List Int} {k : Nat} (hk : k < zs.length) :
    permGo n seen (zs.drop k) = (inB (iget zs k) 0 ((n : Int) - 1) && !(seen.getD (iget zs k).toNat false) && permGo n (seen.set (iget zs k).toNat true) (zs.drop (k + 1))) := by
  rw [List.drop_eq_getElem_cons hk, ← iget_lt hk]; rfl

/-- a slice of bools, k of them looked up -/
def bget (bs : List Bool) (k : Nat) : Bool := bs.getD k false
theorem permGo_out {n : Nat} {seen : List Bool} {zs : List Int} {k : Nat} (hk : k < zs.length) (hx : inB (iget zs k) 0 ((n : Int) - 1) = false) : permGo n seen (zs.drop k) = false := by
  rw [permGo_step hk, hx]; rfl
theorem permGo_met {n : Nat} {seen : List Bool} {zs : List Int} {k m : Nat} (hk : k < zs.length) (hm : iget zs k = m) (hb : bget seen m = true) : permGo n seen (zs.drop k) = false := by
  unfold bget at hb
  rw [permGo_step hk, hm, Int.toNat_natCast, hb]; simp
theorem permGo_on {n : Nat} {seen : List Bool} {zs : List Int} {k m : Nat} (hk : k < zs.length) (hm : iget zs k = m) (hx : inB m 0 ((n : Int) - 1) = true) (hb : bget seen m = false) : permGo n seen (zs.drop k) = permGo n (seen.set m true) (zs.drop (k + 1)) := by
  unfold bget at hb
  rw [permGo_step hk, hm, Int.toNat_natCast, hb, hx]; simp
theorem own_bget {w : World} {base E : Nat} {g n c : Nat} {bs : List Bool} (h : Own w base E (some ⟨g, 0, none⟩) n c (bs.map Value.bool)) {k : Nat} (hk : k < n) : w.cell? ⟨g, k, none⟩ = some (.bool (bget bs k)) := by
  obtain ⟨g', hg, _, _, _, hc, _⟩ := h.form (by omega)
  obtain rfl : g = g' := by injection hg with hg; injection hg
  have hl : bs.length = n := by have := h.len; simpa using this
  rw [hc k hk, List.getElem?_map, List.getElem?_eq_getElem (by omega)]
  simp [bget, List.getD, List.getElem?_eq_getElem (show k < bs.length by omega)]
theorem own_frozen {w : World} {base E : Nat} {g n c : Nat} {xs : List Value} (h : Own w base E (some ⟨g, 0, none⟩) n c xs) (k : Nat) : w.frozen? ⟨g, k, none⟩ = false := h.1.frozenAt k

theorem size_any (ao : Option Addr) (n c : Nat) (w : World) : Calls Try.prog 71 #[.slice ao n c] w fun e w' => e = .returned (.int .i64 n) ∧ w' = w := by
  go_enter Try.func71, Try.ntmps71
  go_wp2
  go_ret
  exact ⟨rfl, rfl⟩

set_option maxHeartbeats 800000 in
theorem implPerm_any (ao : Option Addr) (n c : Nat) (zs : List Int) (w : World) (h : Ints w ao n zs) :
    Calls Try.prog 107 #[.slice ao n c] w fun e w' => e = .returned (.bool (isPerm zs)) ∧ Below w.heap.size w w' := by
  have hn := h.2.1
  have hl := h.1
  have HL := Lib.hid hl
  clear hl
  by_cases hs : n ≤ 400
  · have h1 : decide ((400 : Int) < n) = false := by simp; omega
    have hp : isPerm zs = permGo n (List.replicate n false) zs := by unfold isPerm; rw [HL.out]; simp [hs]
    have HP := Lib.hid hp
    clear hp
    go_enter Try.func107, Try.ntmps107
    go_wp2_with (at_make; refine wpList_mk etB _ rfl _ _ rfl w.heap.size _ _ _ _ n rfl rfl rfl rfl (by omega) (Nat.le_refl _) ?_; intro w1 hown hgrow hsz)
    have hb1 : Below w.heap.size w w1 := (Below.refl _ _).grown hgrow (Nat.le_refl _) (by simp)
    clear hgrow
    go_loopw [14] (fun i wr => ∃ (k : Nat) (seen : List Bool), k ≤ n ∧ i = .int .i64 k ∧ Own wr w.heap.size 4 (some ⟨w.heap.size, 0, none⟩) n n (seen.map Value.bool) ∧ isPerm zs = permGo n seen (zs.drop k) ∧ Below w.heap.size w wr) (fun i _ => n - (intOf i).toNat)
    case atStart => exact ⟨0, _, Nat.zero_le _, rfl, by rw [List.map_replicate]; exact hown, HP.out, hb1⟩
    case round =>
      obtain ⟨k, seen, hk, rfl, ho, hinv, hb⟩ := hrel
      clear hown hb1 hsz
      have HI := Lib.hid hinv
      clear hinv
      by_cases hlt : k < n
      · obtain ⟨b, off, rfl, hc⟩ := (h.below hb).at_ hlt
        have HK : Hid (k < zs.length) := by have := HL.out; show k < zs.length; omega
        have HH := Lib.hid h
        clear h
        cases hin : inB (iget zs k) 0 ((n : Int) - 1) with
        | false =>
          have HX := Lib.hid hin
          clear hin
          go_wp2_with (first | (go_at_call 71; refine (size_any _ _ _ _).mono ?_; rintro e w' ⟨rfl, rfl⟩) | (go_at_call 35; refine (within_any _ _ _ _).mono ?_; rintro e w' ⟨rfl, rfl⟩; rw [HX.out]))
          go_ret
          exact ⟨ret_bool (HI.out.trans (permGo_out HK.out HX.out)).symm, hb⟩
        | true =>
          have HX := Lib.hid hin
          obtain ⟨hz0, hz1⟩ := inB_true.1 hin
          obtain ⟨m, hm⟩ := Int.eq_ofNat_of_zero_le hz0
          rw [hm] at hc hz1
          have HM := Lib.hid hm
          have hmn : m < n := by omega
          have hsc := own_bget ho hmn
          have hfr := own_frozen ho m
          have HXm : Hid (inB (m : Int) 0 ((n : Int) - 1) = true) := by have := HX.out; rwa [HM.out] at this
          clear hin hz0 hz1 hm
          cases hsb : bget seen m with
          | true =>
            rw [hsb] at hsc
            have HB := Lib.hid hsb
            clear hsb
            go_wp2_with (first | (go_at_call 71; refine (size_any _ _ _ _).mono ?_; rintro e w' ⟨rfl, rfl⟩) | (go_at_call 35; refine (within_any _ _ _ _).mono ?_; rintro e w' ⟨rfl, rfl⟩; rw [HXm.out]))
            go_ret
            exact ⟨ret_bool (HI.out.trans (permGo_met HK.out HM.out HB.out)).symm, hb⟩
          | false =>
            rw [hsb] at hsc
            obtain ⟨st1, st2⟩ := ho.stored m (.bool true)
            have HB := Lib.hid hsb
            have HS1 := Lib.hid st1
            have HS2 := Lib.hid st2
            clear hsb st1 st2
            go_wp2_with (first | (go_at_call 71; refine (size_any _ _ _ _).mono ?_; rintro e w' ⟨rfl, rfl⟩) | (go_at_call 35; refine (within_any _ _ _ _).mono ?_; rintro e w' ⟨rfl, rfl⟩; rw [HXm.out]))
            go_roundw
            case rel =>
              exact ⟨k + 1, seen.set m true, by omega, by go_num, by rw [List.map_set]; exact HS1.out, HI.out.trans (permGo_on HK.out HM.out HXm.out HB.out), hb.grown HS2.out hb.size (by intro g hg; injection hg with hg; omega)⟩
            case measure => simp [intOf]; omega
      · obtain rfl : k = n := by omega
        go_wp2
        go_ret
        exact ⟨ret_bool (by rw [HI.out, List.drop_of_length_le (Nat.le_of_eq HL.out)]; rfl), hb⟩
  · have h1 : decide ((400 : Int) < n) = true := by simp; omega
    go_enter Try.func107, Try.ntmps107
    go_wp2
    go_ret
    exact ⟨ret_bool (by unfold isPerm; rw [HL.out]; simp; intro; omega), Below.refl _ _⟩
end Go.Proofs.Ytmdhljleaijkbaa

/- What a permutation's numbers are. No program in sight. -/
namespace Go.Proofs.Ytmdhljleaijkbaa

theorem permGo_within {n : Nat} {zs : List Int} : ∀ {seen : List Bool}, permGo n seen zs = true → ∀ z ∈ zs, 0 ≤ z ∧ z < n := by
  induction zs with
  | nil => intro seen _ z hz; cases hz
  | cons a r ih =>
    intro seen h z hz
    simp only [permGo, Bool.and_eq_true] at h
    rcases List.mem_cons.1 hz with rfl | hz
    · have := inB_true.1 h.1.1; omega
    · exact ih h.2 z hz
theorem isPerm_within {zs : List Int} (h : isPerm zs = true) {k : Nat} (hk : k < zs.length) : 0 ≤ iget zs k ∧ iget zs k < zs.length := by
  unfold isPerm at h
  exact permGo_within ((Bool.and_eq_true _ _ ▸ h).2) _ (iget_mem hk)
end Go.Proofs.Ytmdhljleaijkbaa

/- What a maniplex is, on lists. No program in sight. -/
namespace Go.Proofs.Ytmdhljleaijkbaa

/-- no number stands at its own place, and each leads back -/
def isFreeL (zs : List Int) : Bool := (List.range zs.length).all fun i => !(iget zs i == (i : Int)) && iget zs (iget zs i).toNat == (i : Int)
theorem isFreeL_at {zs : List Int} (h : isFreeL zs = true) {i : Nat} (hi : i < zs.length) : iget zs i ≠ i ∧ iget zs (iget zs i).toNat = i := by
  unfold isFreeL at h
  have := (List.all_eq_true.1 h) i (List.mem_range.2 hi)
  simpa using this
theorem isFreeL_no {zs : List Int} {i : Nat} (hi : i < zs.length) (h : iget zs i = i ∨ iget zs (iget zs i).toNat ≠ i) : isFreeL zs = false := by
  cases hf : isFreeL zs with
  | false => rfl
  | true =>
    have := isFreeL_at hf hi
    rcases h with h | h
    · exact absurd h this.1
    · exact absurd this.2 h
theorem isFreeL_yes {zs : List Int} (h : ∀ i, i < zs.length → iget zs i ≠ i ∧ iget zs (iget zs i).toNat = i) : isFreeL zs = true := by
  unfold isFreeL
  rw [List.all_eq_true]
  intro i hi
  have := h i (List.mem_range.1 hi)
  simpa using this
/-- two moves commute at a flag, and differ there -/
def commAt (zss : List (List Int)) (i k f : Nat) : Prop := bTo zss (bTo zss f i) k = bTo zss (bTo zss f k) i ∧ bTo zss f i ≠ bTo zss f k
structure Man (zss : List (List Int)) : Prop where
  n1 : 1 ≤ zss.length
  n5 : zss.length ≤ 5
  f2 : 2 ≤ (lget zss 0).length
  f4 : (lget zss 0).length ≤ 400
  len : ∀ i, i < zss.length → (lget zss i).length = (lget zss 0).length
  perm : ∀ i, i < zss.length → isPerm (lget zss i) = true
  free : ∀ i, i < zss.length → isFreeL (lget zss i) = true
  comm : ∀ i k, i + 2 ≤ k → k < zss.length → ∀ f, f < (lget zss 0).length → commAt zss i k f
  conn : (orb zss (lget zss 0).length 0).2.length = (lget zss 0).length
noncomputable def manB (zss : List (List Int)) : Bool := @decide (Man zss) (Classical.propDecidable _)
theorem manB_yes {zss : List (List Int)} (h : Man zss) : manB zss = true := by unfold manB; exact @decide_eq_true _ (Classical.propDecidable _) h
theorem manB_no {zss : List (List Int)} (h : ¬ Man zss) : manB zss = false := by unfold manB; exact @decide_eq_false _ (Classical.propDecidable _) h
theorem manB_iff {zss : List (List Int)} : manB zss = true ↔ Man zss := by unfold manB; exact @decide_eq_true_iff _ (Classical.propDecidable _)
/-- rows that are permutations of n points -/
def Rows (zss : List (List Int)) (n m : Nat) : Prop := ∀ i, i < m → (lget zss i).length = n ∧ isPerm (lget zss i) = true ∧ isFreeL (lget zss i) = true
theorem rows_leads {zss : List (List Int)} {n : Nat} (h : Rows zss n zss.length) : Leads zss n :=
  ⟨fun k hk => (h k hk).1, fun k hk x hx => by
    have h1 := isPerm_within (h k hk).2.1 (k := x) (by rw [(h k hk).1]; exact hx)
    rw [(h k hk).1] at h1; exact h1⟩
theorem rows_back {zss : List (List Int)} {n : Nat} (h : Rows zss n zss.length) : Back2 zss n := fun g hg c hc => by
  have h1 := (isFreeL_at (h g hg).2.2 (i := c) (by rw [(h g hg).1]; exact hc)).2
  unfold bTo
  rw [h1, Int.toNat_natCast]
theorem Man.rows {zss : List (List Int)} (h : Man zss) : Rows zss (lget zss 0).length zss.length := fun i hi => ⟨h.len i hi, h.perm i hi, h.free i hi⟩
end Go.Proofs.Ytmdhljleaijkbaa

/- Rows that are permutations and free involutions: l01Perm, l01Free, isFreeInvolution. guards: -/
namespace Go.Proofs.Ytmdhljleaijkbaa
open Go.RowKit

theorem one_of1 {us : List Value} {u0 : Value} (hl : us.length = 1) (g0 : us[0]? = some u0) : us = [u0] := by
  match us, hl with
  | [p], _ => simp at g0; rw [g0]
theorem permI_fc (zss : List (List Int)) (i : Nat) (hi : i < zss.length) (hn : (lget zss i).length ≤ 1048576) :
    FC Try.prog 107 [(1003, rowsRo zss)] [o1 (.esl 1003 i 0 (lget zss i).length)] [] (vv (.bool (isPerm (lget zss i)))) [] :=
  fc_of_calls fun w η ω us hm ⟨hl, ha⟩ => by
    obtain ⟨u0, g0, d0⟩ := ha 0 _ rfl
    obtain ⟨ao, c, rfl, hI⟩ := rdRow (x := 1003) hm rfl hi d0 (by omega)
    rw [one_of1 hl g0]
    exact implPerm_any ao _ c _ w hI

theorem iget_nat {zs : List Int} {k : Nat} (h : 0 ≤ iget zs k) : iget zs k = (((iget zs k).toNat : Nat) : Int) := (Int.toNat_of_nonneg h).symm
/-- a permutation that is a free involution -/
def freeInv (zs : List Int) : Bool := isPerm zs && isFreeL zs
set_option maxRecDepth 100000 in
set_option maxHeartbeats 1000000 in
theorem freeI_fc (zss : List (List Int)) (i : Nat) (hi : i < zss.length) (hn : (lget zss i).length ≤ 1048576) :
    FC Try.prog 70 [(1003, rowsRo zss)] [o1 (.esl 1003 i 0 (lget zss i).length)] [] (vv (.bool (freeInv (lget zss i)))) [] := by
  have hrow : (irows zss)[i]? = some (ivals (lget zss i)) := irows_get hi
  have hP := permI_fc zss i hi hn
  refine fc_enter (nt := 27) Try.func70 rfl rfl (by simp) fun w0 ω0 => ?_
  unfold freeInv
  cases hp : isPerm (lget zss i) with
  | false =>
    rw [hp] at hP
    rw [Bool.false_and]
    (refine goes_seq ?_; refine goes_region ?_; apply run_step rfl; (exact stp_assign rfl rfl); refine run_nil ?_; refine fin_seq ?_; refine goes_seq ?_; refine goes_seq ?_; refine goes_region ?_; apply run_step rfl; (exact stp_move rfl rfl); apply run_step rfl; (apply call_gate 107; exact stp_callR hP (by as_aux_lemma => kernel_rfl) rfl rfl ⟨rfl, trivial⟩ ⟨⟨_, rfl, .inl rfl⟩, trivial⟩ rfl rfl); apply run_step rfl; (exact stp_not rfl rfl); refine run_nil ?_; refine fin_seq ?_)
    refine goes_cond rfl (fun _ => ?_) (fun e => by cases e)
    (refine goes_seq ?_; refine goes_region ?_; apply run_step rfl; (exact stp_assign rfl rfl); refine run_nil ?_; refine fin_seq ?_; refine goes_ret ?_; refine fin_ret_then ?_)
    exact fin_ret1 (.inl rfl) rfl (.tmp rfl) trivial trivial
  | true =>
    rw [hp] at hP
    rw [Bool.true_and]
    have hW := fun k hk => isPerm_within hp (k := k) hk
    generalize lget zss i = zs at *
    (refine goes_seq ?_; refine goes_region ?_; apply run_step rfl; (exact stp_assign rfl rfl); refine run_nil ?_; refine fin_seq ?_; refine goes_seq ?_; refine goes_seq ?_; refine goes_region ?_; apply run_step rfl; (exact stp_move rfl rfl); apply run_step rfl; (apply call_gate 107; exact stp_callR hP (by as_aux_lemma => kernel_rfl) rfl rfl ⟨rfl, trivial⟩ ⟨⟨_, rfl, .inl rfl⟩, trivial⟩ rfl rfl); apply run_step rfl; (exact stp_not rfl rfl); refine run_nil ?_; refine fin_seq ?_)
    refine goes_cond rfl (fun e => by cases e) (fun _ => ?_)
    (refine goes_skip ?_; refine fin_seq ?_; refine goes_seq ?_; refine goes_seq ?_; refine goes_region ?_; apply run_step rfl; (exact stp_move rfl rfl); apply run_step rfl; (exact stp_len rfl rfl rfl (by as_aux_lemma => kernel_rfl)); apply run_step rfl; (exact stp_move rfl rfl); refine run_nil ?_; refine fin_seq ?_; refine goes_block ?_)
    refine goes_loop (fun k : Nat => St.of [(0, o1 (.esl 1003 i 0 zs.length)), (8, o1 (.esl 1003 i 0 zs.length)), (9, vv (I6 zs.length)), (10, vv (I6 k))] [(1003, rowsRo zss)]) (fun k => k ≤ zs.length ∧ ∀ j, j < k → iget zs j ≠ j ∧ iget zs (iget zs j).toNat = j) (fun k => zs.length - k) 0 ⟨Nat.zero_le _, fun j h => absurd h (by omega)⟩ (Wk.of ⟨rfl, rfl, rfl, rfl, trivial⟩ ⟨rfl, trivial⟩ trivial) ?_
    rintro k ⟨hk, hok⟩
    (refine goes_seq ?_; refine goes_region ?_; apply run_step rfl; (exact stp_bin rfl rfl rfl rfl); refine run_nil ?_; refine fin_seq ?_; refine goes_seq ?_)
    refine goes_if rfl (fun hlt => ?_) (fun hlt => ?_)
    · have hlt' : k < zs.length := by omega
      obtain ⟨d, hd⟩ : ∃ d : Nat, iget zs k = (d : Int) := ⟨_, iget_nat (hW k hlt').1⟩
      have hdl : d < zs.length := by have := (hW k hlt').2; rw [hd] at this; omega
      have gk : (ivals zs)[k]? = some (I6 (d : Int)) := by rw [ivals_get hlt', hd]
      (refine goes_skip ?_; refine fin_seq ?_; refine goes_seq ?_; refine goes_block ?_; refine goes_seq ?_; refine goes_region ?_; apply run_step rfl; (exact stp_move rfl rfl); apply run_step rfl; (exact stp_ixE rfl rfl rfl rfl rfl (by as_aux_lemma => kernel_rfl) (by first | assumption | exact ivals_get (by assumption) | exact irows_get (by assumption) | exact ivals_get (by omega) | exact irows_get (by omega) | rfl) (by first | rfl | exact (Int.toNat_of_nonneg (by omega)).symm) (by first | assumption | omega | (simp; omega)) (by first | exact Nat.le_refl _ | exact Nat.le_of_eq (ivals_len _).symm | exact Nat.le_of_eq (irows_len _).symm | (refine Nat.le_trans ?_ (Nat.le_of_eq (ivals_len _).symm); (first | omega | (simp; done) | (simp; omega))) | (refine Nat.le_trans ?_ (Nat.le_of_eq (irows_len _).symm); (first | omega | (simp; done) | (simp; omega))))); apply run_step rfl; (exact stp_loadE' rfl (by as_aux_lemma => kernel_rfl) rfl rfl rfl (by first | assumption | exact ivals_get (by assumption) | exact irows_get (by assumption) | exact ivals_get (by omega) | exact irows_get (by omega) | rfl) (by first | assumption | exact ivals_get (by assumption) | exact irows_get (by assumption) | exact ivals_get (by omega) | exact irows_get (by omega) | rfl)); apply run_step rfl; (exact stp_assign rfl rfl); apply run_step rfl; (exact stp_assign rfl rfl); refine run_nil ?_; refine fin_seq ?_; refine goes_seq ?_; refine goes_region ?_; apply run_step rfl; (exact stp_move rfl rfl); apply run_step rfl; (exact stp_move rfl rfl); apply run_step rfl; (exact stp_bin rfl rfl rfl rfl); apply run_step rfl; (exact stp_move rfl rfl))
      refine run_bool 18 rfl (fun h1 => ?_) (fun h1 => ?_)
      · have e1 : (d : Int) = k := of_decide_eq_true h1
        rw [isFreeL_no hlt' (.inl (hd.trans e1))]
        (apply run_gNo rfl rfl rfl rfl rfl; apply run_gNo rfl rfl rfl rfl rfl; apply run_gNo rfl rfl rfl rfl rfl; apply run_gNo rfl rfl rfl rfl rfl; apply run_gNo rfl rfl rfl rfl rfl; apply run_gNo rfl rfl rfl rfl rfl; apply run_step rfl; (exact stp_pickT rfl rfl rfl); refine run_nil ?_; refine fin_seq ?_)
        refine goes_cond rfl (fun _ => ?_) (fun e => by cases e)
        (refine goes_seq ?_; refine goes_region ?_; apply run_step rfl; (exact stp_assign rfl rfl); refine run_nil ?_; refine fin_seq ?_; refine goes_ret ?_; refine fin_ret_block ?_; refine fin_ret_then ?_; refine fin_ret_then ?_; refine fin_ret_block ?_; refine fin_ret_then ?_)
        exact fin_ret1 (.inl rfl) rfl (.tmp rfl) trivial trivial
      · have e1 : (d : Int) ≠ k := of_decide_eq_false h1
        (apply run_gYes rfl rfl rfl; (exact stp_move rfl rfl); apply run_gYes rfl rfl rfl; (exact stp_move rfl rfl); apply run_gYes rfl rfl rfl; (exact stp_ixE rfl rfl rfl rfl rfl (by as_aux_lemma => kernel_rfl) (by first | assumption | exact ivals_get (by assumption) | exact irows_get (by assumption) | exact ivals_get (by omega) | exact irows_get (by omega) | rfl) (by first | rfl | exact (Int.toNat_of_nonneg (by omega)).symm) (by first | assumption | omega | (simp; omega)) (by first | exact Nat.le_refl _ | exact Nat.le_of_eq (ivals_len _).symm | exact Nat.le_of_eq (irows_len _).symm | (refine Nat.le_trans ?_ (Nat.le_of_eq (ivals_len _).symm); (first | omega | (simp; done) | (simp; omega))) | (refine Nat.le_trans ?_ (Nat.le_of_eq (irows_len _).symm); (first | omega | (simp; done) | (simp; omega))))); apply run_gYes rfl rfl rfl; (exact stp_loadE' rfl (by as_aux_lemma => kernel_rfl) rfl rfl rfl (by first | assumption | exact ivals_get (by assumption) | exact irows_get (by assumption) | exact ivals_get (by omega) | exact irows_get (by omega) | rfl) (by first | assumption | exact ivals_get (by assumption) | exact irows_get (by assumption) | exact ivals_get (by omega) | exact irows_get (by omega) | rfl)); apply run_gYes rfl rfl rfl; (exact stp_move rfl rfl); apply run_gYes rfl rfl rfl; (exact stp_bin rfl rfl rfl rfl); apply run_step rfl; (exact stp_pickF rfl rfl rfl); refine run_nil ?_; refine fin_seq ?_)
        refine goes_cond rfl (fun h2 => ?_) (fun h2 => ?_)
        · have e2 : iget zs d ≠ k := by simpa using h2
          rw [isFreeL_no hlt' (.inr (by rw [hd, Int.toNat_natCast]; exact e2))]
          (refine goes_seq ?_; refine goes_region ?_; apply run_step rfl; (exact stp_assign rfl rfl); refine run_nil ?_; refine fin_seq ?_; refine goes_ret ?_; refine fin_ret_block ?_; refine fin_ret_then ?_; refine fin_ret_then ?_; refine fin_ret_block ?_; refine fin_ret_then ?_)
          exact fin_ret1 (.inl rfl) rfl (.tmp rfl) trivial trivial
        · have e2 : iget zs d = k := by simpa using h2
          (refine goes_skip ?_; refine fin_block ?_; refine fin_seq ?_; refine goes_region ?_; apply run_step rfl; (exact stp_add rfl rfl rfl (by first | exact IntWalk.i64_in _ (by omega) | rfl)); apply run_step rfl; (exact stp_move rfl rfl); refine run_nil ?_)
          exact fin_round (k + 1) ⟨by omega, fun j hj => by
            by_cases e : j = k
            · subst e; rw [hd, Int.toNat_natCast]; exact ⟨e1, e2⟩
            · exact hok j (by omega)⟩ (by omega) (Wk.of ⟨rfl, rfl, rfl, rfl, trivial⟩ ⟨rfl, trivial⟩ trivial)
    · obtain rfl : k = zs.length := by omega
      rw [isFreeL_yes hok]
      (refine goes_exit ?_; refine fin_exit_then ?_; refine fin_exit_then ?_; refine fin_exit_eq ?_; refine fin_seq ?_; refine goes_seq ?_; refine goes_region ?_; apply run_step rfl; (exact stp_assign rfl rfl); refine run_nil ?_; refine fin_seq ?_; refine goes_ret ?_)
      exact fin_ret1 (.inl rfl) rfl (.tmp rfl) trivial trivial
end Go.Proofs.Ytmdhljleaijkbaa

/- The orbit of a point, the reference's: l01Orbit. -/
namespace Go.Proofs.Ytmdhljleaijkbaa
open Go.RowKit

theorem bat_pad {a p : List Bool} {d : Nat} (h : d < a.length) : bat (a ++ p) d = bat a d := by simp [bat, List.getElem?_append_left h]
theorem set_padB {a p : List Bool} {d : Nat} (h : d < a.length) (b : Bool) : (a ++ p).set d b = a.set d b ++ p := List.set_append_left _ _ h
set_option maxRecDepth 100000 in
set_option maxHeartbeats 2000000 in
theorem orbS_fc (zss : List (List Int)) (n c : Nat) (hT : Leads zss n) (hpos : 0 < zss.length) (hn : n ≤ 1000000) (hg : zss.length ≤ 1000000) (hc : c < n) :
    FC Try.prog 99 [(1003, rowsRo zss)] [o1 (.sl 1003 0 zss.length), vv (I6 c)] [(12, leOw (orb zss n c).2)] (o1 (.sl 12 0 (orb zss n c).2.length)) [] := by
  have hlen : (irows zss).length = zss.length := irows_len _
  have hr0 : (lget zss 0).length = n := hT.len 0 hpos
  have hrow0 : (irows zss)[0]? = some (ivals (lget zss 0)) := irows_get hpos
  have hil : (ivals (lget zss 0)).length = n := by rw [ivals_len]; exact hr0
  refine fc_enter (nt := 63) Try.func99 rfl rfl (by simp) fun w0 ω0 => ?_
  (refine goes_seq ?_; refine goes_region ?_; apply run_step rfl; (exact stp_assign rfl rfl); refine run_nil ?_; refine fin_seq ?_; refine goes_seq ?_; refine goes_region ?_; apply run_step rfl; (exact stp_move rfl rfl); apply run_step rfl; (exact stp_lit1I (E := 2) rfl (by as_aux_lemma => kernel_rfl) rfl); apply run_step rfl; (exact stp_assign rfl rfl); refine run_nil ?_; refine fin_seq ?_; refine goes_seq ?_; refine goes_region ?_; apply run_step rfl; (exact stp_assign rfl rfl); refine run_nil ?_; refine fin_seq ?_; refine goes_seq ?_; refine goes_seq ?_; refine goes_region ?_; apply run_step rfl; (exact stp_move rfl rfl); apply run_step rfl; (exact stp_len rfl rfl rfl (by as_aux_lemma => kernel_rfl)); apply run_step rfl; (exact stp_bin rfl rfl rfl rfl); refine run_nil ?_; refine fin_seq ?_)
  refine goes_if rfl (fun _ => ?_) (fun h => absurd hpos (by omega))
  have hm0 : ((n : Int) + (c : Int) + 1) = ((n + c + 1 : Nat) : Int) := by omega
  have hrp : (List.replicate (n + c + 1) false).length = n + c + 1 := by simp
  have hst : (List.replicate (n + c + 1) false).set c true = (oStart n c).1 ++ List.replicate (c + 1) false := by
    rw [show n + c + 1 = n + (c + 1) by omega, ← List.replicate_append_replicate, set_padB (by simpa using hc)]; rfl
  have hbl : n + c + 1 ≤ (bvals (List.replicate (n + c + 1) false)).length := by rw [bvals_len]; simp
  (refine goes_region ?_; apply run_step rfl; (exact stp_move rfl rfl); apply run_step rfl; (first | exact stp_ix (j := 0) rfl rfl rfl rfl rfl (by as_aux_lemma => kernel_rfl) rfl hpos (Nat.le_of_eq hlen.symm) | exact stp_loadR rfl (by as_aux_lemma => kernel_rfl) rfl rfl rfl hrow0 hil | exact stp_makeB (n := n + c + 1) (E := 4) rfl (by as_aux_lemma => kernel_rfl) (by as_aux_lemma => kernel_rfl) rfl rfl hm0 hm0 (by omega) | exact stp_ix (j := c) rfl rfl rfl rfl rfl (by as_aux_lemma => kernel_rfl) rfl (by omega) hbl | exact stp_stB (bs := List.replicate (n + c + 1) false) rfl rfl rfl rfl rfl (by rw [hrp]; omega) (by as_aux_lemma => kernel_rfl)); apply run_step rfl; (first | exact stp_ix (j := 0) rfl rfl rfl rfl rfl (by as_aux_lemma => kernel_rfl) rfl hpos (Nat.le_of_eq hlen.symm) | exact stp_loadR rfl (by as_aux_lemma => kernel_rfl) rfl rfl rfl hrow0 hil | exact stp_makeB (n := n + c + 1) (E := 4) rfl (by as_aux_lemma => kernel_rfl) (by as_aux_lemma => kernel_rfl) rfl rfl hm0 hm0 (by omega) | exact stp_ix (j := c) rfl rfl rfl rfl rfl (by as_aux_lemma => kernel_rfl) rfl (by omega) hbl | exact stp_stB (bs := List.replicate (n + c + 1) false) rfl rfl rfl rfl rfl (by rw [hrp]; omega) (by as_aux_lemma => kernel_rfl)); apply run_step rfl; (exact stp_len rfl rfl rfl (by as_aux_lemma => kernel_rfl)); apply run_step rfl; (exact stp_assign rfl rfl); refine run_nil ?_; refine fin_seq ?_; refine goes_seq ?_; refine goes_region ?_; apply run_step rfl; (exact stp_move rfl rfl); apply run_step rfl; (exact stp_move rfl rfl); apply run_step rfl; (exact stp_add rfl rfl rfl (by first | exact IntWalk.i64_in _ (by omega) | rfl)); apply run_step rfl; (exact stp_add rfl rfl rfl (by first | exact IntWalk.i64_in _ (by omega) | rfl)); apply run_step rfl; (first | exact stp_ix (j := 0) rfl rfl rfl rfl rfl (by as_aux_lemma => kernel_rfl) rfl hpos (Nat.le_of_eq hlen.symm) | exact stp_loadR rfl (by as_aux_lemma => kernel_rfl) rfl rfl rfl hrow0 hil | exact stp_makeB (n := n + c + 1) (E := 4) rfl (by as_aux_lemma => kernel_rfl) (by as_aux_lemma => kernel_rfl) rfl rfl hm0 hm0 (by omega) | exact stp_ix (j := c) rfl rfl rfl rfl rfl (by as_aux_lemma => kernel_rfl) rfl (by omega) hbl | exact stp_stB (bs := List.replicate (n + c + 1) false) rfl rfl rfl rfl rfl (by rw [hrp]; omega) (by as_aux_lemma => kernel_rfl)); apply run_step rfl; (exact stp_assign rfl rfl); refine run_nil ?_; refine fin_seq ?_; refine goes_seq ?_; refine goes_region ?_; apply run_step rfl; (exact stp_move rfl rfl); apply run_step rfl; (exact stp_move rfl rfl); apply run_step rfl; (first | exact stp_ix (j := 0) rfl rfl rfl rfl rfl (by as_aux_lemma => kernel_rfl) rfl hpos (Nat.le_of_eq hlen.symm) | exact stp_loadR rfl (by as_aux_lemma => kernel_rfl) rfl rfl rfl hrow0 hil | exact stp_makeB (n := n + c + 1) (E := 4) rfl (by as_aux_lemma => kernel_rfl) (by as_aux_lemma => kernel_rfl) rfl rfl hm0 hm0 (by omega) | exact stp_ix (j := c) rfl rfl rfl rfl rfl (by as_aux_lemma => kernel_rfl) rfl (by omega) hbl | exact stp_stB (bs := List.replicate (n + c + 1) false) rfl rfl rfl rfl rfl (by rw [hrp]; omega) (by as_aux_lemma => kernel_rfl)); apply run_step rfl; (first | exact stp_ix (j := 0) rfl rfl rfl rfl rfl (by as_aux_lemma => kernel_rfl) rfl hpos (Nat.le_of_eq hlen.symm) | exact stp_loadR rfl (by as_aux_lemma => kernel_rfl) rfl rfl rfl hrow0 hil | exact stp_makeB (n := n + c + 1) (E := 4) rfl (by as_aux_lemma => kernel_rfl) (by as_aux_lemma => kernel_rfl) rfl rfl hm0 hm0 (by omega) | exact stp_ix (j := c) rfl rfl rfl rfl rfl (by as_aux_lemma => kernel_rfl) rfl (by omega) hbl | exact stp_stB (bs := List.replicate (n + c + 1) false) rfl rfl rfl rfl rfl (by rw [hrp]; omega) (by as_aux_lemma => kernel_rfl)); refine run_nil ?_; refine fin_seq ?_; refine goes_seq ?_; refine goes_seq ?_; refine goes_region ?_; apply run_step rfl; (exact stp_assign rfl rfl); refine run_nil ?_; refine fin_seq ?_; refine goes_block ?_)
  rw [hst]
  generalize hm : 2 ^ zss.length - 1 = mask
  have hstep : ∀ k, k < zss.length → ∀ c s, mStep zss mask c s k = oStep zss c s k := fun k hk c s => by rw [← hm]; exact oStep_eq hk c s
  have hout : orb zss n c = mLoop zss mask zss.length (n + 1) 0 (oStart n c) := by rw [← hm]; rfl
  rw [hout]
  refine goes_loop (fun q : Nat × MSt => St.of [(0, o1 (.sl 1003 0 zss.length)), (5, o1 (.sl 12 0 q.2.2.length)), (7, o1 (.sl 24 0 (n + c + 1))), (8, vv (I6 q.1))] [(1003, rowsRo zss), (12, leOw q.2.2), (24, boOw (q.2.1 ++ List.replicate (c + 1) false))])
    (fun q => q.1 ≤ q.2.2.length ∧ MOK n q.2 ∧ mLoop zss mask zss.length (n + 1 - q.1) q.1 q.2 = mLoop zss mask zss.length (n + 1) 0 (oStart n c)) (fun q => n + 1 - q.1) (0, oStart n c) ⟨Nat.zero_le _, oStart_ok hc, rfl⟩ (Wk.of ⟨rfl, rfl, rfl, rfl, trivial⟩ ⟨rfl, rfl, rfl, trivial⟩ trivial) ?_
  rintro ⟨i, s⟩ ⟨hi, hok, hl⟩
  dsimp only at hi hl ⊢
  have hOn : s.2.length ≤ n := hok.le
  (refine goes_seq ?_; refine goes_seq ?_; refine goes_region ?_; apply run_step rfl; (exact stp_move rfl rfl); apply run_step rfl; (exact stp_move rfl rfl); apply run_step rfl; (exact stp_len rfl rfl rfl (by as_aux_lemma => kernel_rfl)); apply run_step rfl; (exact stp_bin rfl rfl rfl rfl); refine run_nil ?_; refine fin_seq ?_)
  refine goes_if rfl (fun h => ?_) (fun h => ?_)
  · have hlt : i < s.2.length := by omega
    have hl' : mLoop zss mask zss.length (n - i) (i + 1) (mRow zss mask zss.length (iget s.2 i).toNat s) = mLoop zss mask zss.length (n + 1) 0 (oStart n c) := by
      rw [← hl, show n + 1 - i = (n - i) + 1 by omega]; exact (mLoop_step hlt).symm
    obtain ⟨e, he1, he2, -⟩ := hok.q i hlt
    rw [he1, Int.toNat_natCast] at hl'
    have hro := fun m hm => mRow_ok (mask := mask) hT rfl he2 hok m hm
    obtain ⟨s0, hs0⟩ : ∃ s0 : MSt, s0 = s := ⟨_, rfl⟩
    rw [← hs0] at hro hl'
    have hi0 : i < s0.2.length := by rw [hs0]; exact hlt
    have he0 : iget s0.2 i = (e : Int) := by rw [hs0]; exact he1
    (refine goes_skip ?_; refine fin_seq ?_; refine goes_seq ?_; refine goes_block ?_; refine goes_seq ?_; refine goes_region ?_; apply run_step rfl; (exact stp_assign rfl rfl); refine run_nil ?_; refine fin_seq ?_; refine goes_block ?_)
    refine goes_loop (fun q : Nat × MSt => St.of [(0, o1 (.sl 1003 0 zss.length)), (5, o1 (.sl 12 0 q.2.2.length)), (7, o1 (.sl 24 0 (n + c + 1))), (8, vv (I6 i)), (9, vv (I6 q.1))] [(1003, rowsRo zss), (12, leOw q.2.2), (24, boOw (q.2.1 ++ List.replicate (c + 1) false))])
      (fun q => q.1 ≤ zss.length ∧ (List.range q.1).foldl (mStep zss mask e) s0 = q.2) (fun q => zss.length - q.1) (0, s) ⟨Nat.zero_le _, hs0⟩ (Wk.of ⟨rfl, rfl, rfl, rfl, rfl, trivial⟩ ⟨rfl, rfl, rfl, trivial⟩ trivial) ?_
    clear hl hok hs0 he1 hlt h hi hOn
    rintro ⟨k, s⟩ ⟨hk, hfo⟩
    dsimp only at hk hfo ⊢
    obtain ⟨hok, grw, _⟩ := hro k hk
    rw [hfo] at hok grw
    have hOn : s.2.length ≤ n := hok.le
    have hlt : i < s.2.length := Nat.lt_of_lt_of_le hi0 grw.len
    have hei : iget s.2 i = (e : Int) := (grw.pre i hi0).trans he0
    have hbl : s.1.length = n := hok.l
    (refine goes_seq ?_; refine goes_seq ?_; refine goes_region ?_; apply run_step rfl; (exact stp_move rfl rfl); apply run_step rfl; (exact stp_move rfl rfl); apply run_step rfl; (exact stp_len rfl rfl rfl (by as_aux_lemma => kernel_rfl)); apply run_step rfl; (exact stp_bin rfl rfl rfl rfl); refine run_nil ?_; refine fin_seq ?_)
    refine goes_if rfl (fun h2 => ?_) (fun h2 => ?_)
    · have hkn : k < zss.length := by omega
      have hd := bTo_lt hT he2 (g := k) hkn
      have hrl : (lget zss k).length = n := hT.len k hkn
      have hrowk : (irows zss)[k]? = some (ivals (lget zss k)) := irows_get hkn
      have hilk : (ivals (lget zss k)).length = n := by rw [ivals_len]; exact hrl
      obtain ⟨d, hdd⟩ : ∃ d, bTo zss e k = d := ⟨_, rfl⟩
      have hst : (List.range (k + 1)).foldl (mStep zss mask e) s0 = oStep zss e s k := by
        rw [List.range_succ, List.foldl_append, hfo]; exact hstep k hkn e s
      unfold oStep at hst
      rw [hdd] at hd hst
      have hgetd : (ivals (lget zss k))[e]? = some (I6 (d : Int)) := by rw [ivals_get (by omega), hd.2]
      have hgq : (ivals s.2)[i]? = some (I6 (e : Int)) := by rw [ivals_get hlt, hei]
      have hgb : (bvals (s.1 ++ List.replicate (c + 1) false))[d]? = some (.bool (bat s.1 d)) := by rw [bvals_get (by rw [List.length_append]; omega), bat_pad (by omega)]
      have hel : e < (ivals (lget zss k)).length := by rw [hilk]; exact he2
      have hbb : n + c + 1 ≤ (bvals (s.1 ++ List.replicate (c + 1) false)).length := by rw [bvals_len, List.length_append, hbl, List.length_replicate]; omega
      have hq0 : s.2.length ≤ (ivals s.2).length := by rw [ivals_len]; exact Nat.le_refl _
      (refine goes_skip ?_; refine fin_seq ?_; refine goes_seq ?_; refine goes_block ?_; refine goes_seq ?_)
      apply goes_draw 11 [] [[], [], [0, 1], [0, 1, 2], [], [], [4, 5], [4, 5, 6], [0, 1, 2, 3, 4, 5, 6, 7], [0, 1, 2, 3, 4, 5, 6, 7, 8], [0, 1, 2, 3, 4, 5, 6, 7, 8, 9]] [40, 41, 42, 43, 44, 45, 46, 47, 48, 49, 10] [] (by kernel_rfl) (by kernel_rfl)
      · (apply draw_put rfl; (intro S1 hS; exact stp_move rfl (hS.op rfl)); apply draw_put rfl; (intro S1 hS; exact stp_move rfl (hS.op rfl)); (first | (apply draw_put rfl; (focus (intro S1 hS; exact stp_ix (j := k) rfl (hS.op rfl) (hS.op rfl) (hS.ch _ _ rfl) rfl (by as_aux_lemma => kernel_rfl) rfl hkn (Nat.le_of_eq hlen.symm)))) | (apply draw_put rfl; (focus (intro S1 hS; exact stp_loadR rfl (by as_aux_lemma => kernel_rfl) (hS.op rfl) (hS.ch _ _ rfl) rfl hrowk hilk))) | (apply draw_put rfl; (focus (intro S1 hS; exact stp_ix (j := i) rfl (hS.op rfl) (hS.op rfl) (hS.ch _ _ rfl) rfl (by as_aux_lemma => kernel_rfl) rfl hlt hq0))) | (apply draw_put rfl; (focus (intro S1 hS; exact stp_loadV rfl (by as_aux_lemma => kernel_rfl) (hS.op rfl) (hS.ch _ _ rfl) rfl hgq))) | (apply draw_put rfl; (focus (intro S1 hS; exact stp_ixE (j := e) rfl (hS.op rfl) (hS.op rfl) (hS.ch _ _ rfl) rfl (by as_aux_lemma => kernel_rfl) hrowk rfl he2 (Nat.le_of_eq hilk.symm)))) | (apply draw_put rfl; (focus (intro S1 hS; exact stp_loadE' rfl (by as_aux_lemma => kernel_rfl) (hS.op rfl) (hS.ch _ _ rfl) rfl hrowk hgetd)))); (first | (apply draw_put rfl; (focus (intro S1 hS; exact stp_ix (j := k) rfl (hS.op rfl) (hS.op rfl) (hS.ch _ _ rfl) rfl (by as_aux_lemma => kernel_rfl) rfl hkn (Nat.le_of_eq hlen.symm)))) | (apply draw_put rfl; (focus (intro S1 hS; exact stp_loadR rfl (by as_aux_lemma => kernel_rfl) (hS.op rfl) (hS.ch _ _ rfl) rfl hrowk hilk))) | (apply draw_put rfl; (focus (intro S1 hS; exact stp_ix (j := i) rfl (hS.op rfl) (hS.op rfl) (hS.ch _ _ rfl) rfl (by as_aux_lemma => kernel_rfl) rfl hlt hq0))) | (apply draw_put rfl; (focus (intro S1 hS; exact stp_loadV rfl (by as_aux_lemma => kernel_rfl) (hS.op rfl) (hS.ch _ _ rfl) rfl hgq))) | (apply draw_put rfl; (focus (intro S1 hS; exact stp_ixE (j := e) rfl (hS.op rfl) (hS.op rfl) (hS.ch _ _ rfl) rfl (by as_aux_lemma => kernel_rfl) hrowk rfl he2 (Nat.le_of_eq hilk.symm)))) | (apply draw_put rfl; (focus (intro S1 hS; exact stp_loadE' rfl (by as_aux_lemma => kernel_rfl) (hS.op rfl) (hS.ch _ _ rfl) rfl hrowk hgetd)))); apply draw_put rfl; (intro S1 hS; exact stp_move rfl (hS.op rfl)); apply draw_put rfl; (intro S1 hS; exact stp_move rfl (hS.op rfl)); (first | (apply draw_put rfl; (focus (intro S1 hS; exact stp_ix (j := k) rfl (hS.op rfl) (hS.op rfl) (hS.ch _ _ rfl) rfl (by as_aux_lemma => kernel_rfl) rfl hkn (Nat.le_of_eq hlen.symm)))) | (apply draw_put rfl; (focus (intro S1 hS; exact stp_loadR rfl (by as_aux_lemma => kernel_rfl) (hS.op rfl) (hS.ch _ _ rfl) rfl hrowk hilk))) | (apply draw_put rfl; (focus (intro S1 hS; exact stp_ix (j := i) rfl (hS.op rfl) (hS.op rfl) (hS.ch _ _ rfl) rfl (by as_aux_lemma => kernel_rfl) rfl hlt hq0))) | (apply draw_put rfl; (focus (intro S1 hS; exact stp_loadV rfl (by as_aux_lemma => kernel_rfl) (hS.op rfl) (hS.ch _ _ rfl) rfl hgq))) | (apply draw_put rfl; (focus (intro S1 hS; exact stp_ixE (j := e) rfl (hS.op rfl) (hS.op rfl) (hS.ch _ _ rfl) rfl (by as_aux_lemma => kernel_rfl) hrowk rfl he2 (Nat.le_of_eq hilk.symm)))) | (apply draw_put rfl; (focus (intro S1 hS; exact stp_loadE' rfl (by as_aux_lemma => kernel_rfl) (hS.op rfl) (hS.ch _ _ rfl) rfl hrowk hgetd)))); (first | (apply draw_put rfl; (focus (intro S1 hS; exact stp_ix (j := k) rfl (hS.op rfl) (hS.op rfl) (hS.ch _ _ rfl) rfl (by as_aux_lemma => kernel_rfl) rfl hkn (Nat.le_of_eq hlen.symm)))) | (apply draw_put rfl; (focus (intro S1 hS; exact stp_loadR rfl (by as_aux_lemma => kernel_rfl) (hS.op rfl) (hS.ch _ _ rfl) rfl hrowk hilk))) | (apply draw_put rfl; (focus (intro S1 hS; exact stp_ix (j := i) rfl (hS.op rfl) (hS.op rfl) (hS.ch _ _ rfl) rfl (by as_aux_lemma => kernel_rfl) rfl hlt hq0))) | (apply draw_put rfl; (focus (intro S1 hS; exact stp_loadV rfl (by as_aux_lemma => kernel_rfl) (hS.op rfl) (hS.ch _ _ rfl) rfl hgq))) | (apply draw_put rfl; (focus (intro S1 hS; exact stp_ixE (j := e) rfl (hS.op rfl) (hS.op rfl) (hS.ch _ _ rfl) rfl (by as_aux_lemma => kernel_rfl) hrowk rfl he2 (Nat.le_of_eq hilk.symm)))) | (apply draw_put rfl; (focus (intro S1 hS; exact stp_loadE' rfl (by as_aux_lemma => kernel_rfl) (hS.op rfl) (hS.ch _ _ rfl) rfl hrowk hgetd)))); (first | (apply draw_put rfl; (focus (intro S1 hS; exact stp_ix (j := k) rfl (hS.op rfl) (hS.op rfl) (hS.ch _ _ rfl) rfl (by as_aux_lemma => kernel_rfl) rfl hkn (Nat.le_of_eq hlen.symm)))) | (apply draw_put rfl; (focus (intro S1 hS; exact stp_loadR rfl (by as_aux_lemma => kernel_rfl) (hS.op rfl) (hS.ch _ _ rfl) rfl hrowk hilk))) | (apply draw_put rfl; (focus (intro S1 hS; exact stp_ix (j := i) rfl (hS.op rfl) (hS.op rfl) (hS.ch _ _ rfl) rfl (by as_aux_lemma => kernel_rfl) rfl hlt hq0))) | (apply draw_put rfl; (focus (intro S1 hS; exact stp_loadV rfl (by as_aux_lemma => kernel_rfl) (hS.op rfl) (hS.ch _ _ rfl) rfl hgq))) | (apply draw_put rfl; (focus (intro S1 hS; exact stp_ixE (j := e) rfl (hS.op rfl) (hS.op rfl) (hS.ch _ _ rfl) rfl (by as_aux_lemma => kernel_rfl) hrowk rfl he2 (Nat.le_of_eq hilk.symm)))) | (apply draw_put rfl; (focus (intro S1 hS; exact stp_loadE' rfl (by as_aux_lemma => kernel_rfl) (hS.op rfl) (hS.ch _ _ rfl) rfl hrowk hgetd)))); (first | (apply draw_put rfl; (focus (intro S1 hS; exact stp_ix (j := k) rfl (hS.op rfl) (hS.op rfl) (hS.ch _ _ rfl) rfl (by as_aux_lemma => kernel_rfl) rfl hkn (Nat.le_of_eq hlen.symm)))) | (apply draw_put rfl; (focus (intro S1 hS; exact stp_loadR rfl (by as_aux_lemma => kernel_rfl) (hS.op rfl) (hS.ch _ _ rfl) rfl hrowk hilk))) | (apply draw_put rfl; (focus (intro S1 hS; exact stp_ix (j := i) rfl (hS.op rfl) (hS.op rfl) (hS.ch _ _ rfl) rfl (by as_aux_lemma => kernel_rfl) rfl hlt hq0))) | (apply draw_put rfl; (focus (intro S1 hS; exact stp_loadV rfl (by as_aux_lemma => kernel_rfl) (hS.op rfl) (hS.ch _ _ rfl) rfl hgq))) | (apply draw_put rfl; (focus (intro S1 hS; exact stp_ixE (j := e) rfl (hS.op rfl) (hS.op rfl) (hS.ch _ _ rfl) rfl (by as_aux_lemma => kernel_rfl) hrowk rfl he2 (Nat.le_of_eq hilk.symm)))) | (apply draw_put rfl; (focus (intro S1 hS; exact stp_loadE' rfl (by as_aux_lemma => kernel_rfl) (hS.op rfl) (hS.ch _ _ rfl) rfl hrowk hgetd)))); apply draw_put rfl; (intro S1 hS; exact stp_assign rfl (hS.op rfl)); exact Draw.nil)
      · rfl
      ((refine rest_done (by as_aux_lemma => kernel_rfl) ?_; skip))
      (refine fin_seq ?_; refine goes_seq ?_; refine goes_region ?_; apply run_step rfl; (exact stp_move rfl rfl); apply run_step rfl; (exact stp_move rfl rfl); apply run_step rfl; (exact stp_ix (j := d) rfl rfl rfl rfl rfl (by as_aux_lemma => kernel_rfl) rfl (by omega) hbb); apply run_step rfl; (exact stp_loadV rfl (by as_aux_lemma => kernel_rfl) rfl rfl rfl (by first | assumption | exact ivals_get (by assumption) | exact irows_get (by assumption) | exact ivals_get (by omega) | exact irows_get (by omega) | rfl)); apply run_step rfl; (exact stp_not rfl rfl); refine run_nil ?_; refine fin_seq ?_)
      refine goes_cond rfl (fun hb => ?_) (fun hb => ?_)
      · have hb : bat s.1 d = false := by simpa using hb
        have hv : (List.range (k + 1)).foldl (mStep zss mask e) s0 = (s.1.set d true, s.2 ++ [(d : Int)]) := by rw [hst, if_pos hb]
        (refine goes_seq ?_; refine goes_region ?_; apply run_step rfl; (exact stp_move rfl rfl); apply run_step rfl; (exact stp_move rfl rfl); apply run_step rfl; (first | exact stp_ix (j := d) rfl rfl rfl rfl rfl (by as_aux_lemma => kernel_rfl) rfl (by omega) hbb | exact stp_stB rfl rfl rfl rfl rfl (by rw [List.length_append]; omega) (by as_aux_lemma => kernel_rfl)); apply run_step rfl; (first | exact stp_ix (j := d) rfl rfl rfl rfl rfl (by as_aux_lemma => kernel_rfl) rfl (by omega) hbb | exact stp_stB rfl rfl rfl rfl rfl (by rw [List.length_append]; omega) (by as_aux_lemma => kernel_rfl)); refine run_nil ?_; refine fin_seq ?_; refine goes_region ?_; apply run_step rfl; (exact stp_move rfl rfl); apply run_step rfl; (exact stp_move rfl rfl); apply run_step rfl; (exact stp_lit1I (E := 2) rfl (by as_aux_lemma => kernel_rfl) rfl); apply run_step rfl; (exact stp_appI rfl (by as_aux_lemma => kernel_rfl) rfl rfl rfl (by first | rfl | assumption | (simp; done)) rfl rfl (by omega)); apply run_step rfl; (exact stp_assign rfl rfl); refine run_nil ?_; refine fin_block ?_; refine fin_seq ?_; refine goes_region ?_; apply run_step rfl; (exact stp_move rfl rfl); apply run_step rfl; (exact stp_add rfl rfl rfl (by first | exact IntWalk.i64_in _ (by omega) | rfl)); apply run_step rfl; (exact stp_assign rfl rfl); refine run_nil ?_)
        exact fin_round (k + 1, (s.1.set d true, s.2 ++ [(d : Int)])) ⟨hkn, hv⟩ (by show zss.length - (k + 1) < zss.length - k; omega) (Wk.of ⟨rfl, congrArg (fun x => some (o1 (.sl 12 0 x))) (by simp), rfl, rfl, rfl, trivial⟩ ⟨rfl, rfl, congrArg (fun l => some (boOw l)) (set_padB (by omega) true), trivial⟩ trivial)
      · have hb : bat s.1 d = true := by simpa using hb
        have hv : (List.range (k + 1)).foldl (mStep zss mask e) s0 = s := by rw [hst, if_neg (by rw [hb]; simp)]
        (refine goes_skip ?_; refine fin_block ?_; refine fin_seq ?_; refine goes_region ?_; apply run_step rfl; (exact stp_move rfl rfl); apply run_step rfl; (exact stp_add rfl rfl rfl (by first | exact IntWalk.i64_in _ (by omega) | rfl)); apply run_step rfl; (exact stp_assign rfl rfl); refine run_nil ?_)
        exact fin_round (k + 1, s) ⟨hkn, hv⟩ (by show zss.length - (k + 1) < zss.length - k; omega) (Wk.of ⟨rfl, rfl, rfl, rfl, rfl, trivial⟩ ⟨rfl, rfl, rfl, trivial⟩ trivial)
    · obtain rfl : k = zss.length := by omega
      (refine goes_exit ?_; refine fin_exit_then ?_; refine fin_exit_then ?_; refine fin_exit_eq ?_; refine fin_block ?_; refine fin_seq ?_; refine goes_region ?_; apply run_step rfl; (exact stp_move rfl rfl); apply run_step rfl; (exact stp_add rfl rfl rfl (by first | exact IntWalk.i64_in _ (by omega) | rfl)); apply run_step rfl; (exact stp_assign rfl rfl); refine run_nil ?_)
      exact fin_round (i + 1, s) ⟨hlt, hok, by rw [← hl']; show mLoop _ _ _ (n + 1 - (i + 1)) _ _ = _; rw [show n + 1 - (i + 1) = n - i by omega]; unfold mRow; rw [hfo]⟩ (by show n + 1 - (i + 1) < n + 1 - i; omega) (Wk.of ⟨rfl, rfl, rfl, rfl, trivial⟩ ⟨rfl, rfl, rfl, trivial⟩ trivial)
  · have hio : i = s.2.length := by omega
    have hOM : mLoop zss mask zss.length (n + 1) 0 (oStart n c) = s := by
      rw [← hl, show n + 1 - i = (n - i) + 1 by omega, mLoop, if_neg (by omega)]
    rw [hOM]
    (refine goes_exit ?_; refine fin_exit_then ?_; refine fin_exit_then ?_; refine fin_exit_eq ?_; refine fin_seq ?_; refine goes_seq ?_; refine goes_region ?_; apply run_step rfl; (exact stp_move rfl rfl); apply run_step rfl; (exact stp_assign rfl rfl); refine run_nil ?_; refine fin_seq ?_; refine goes_ret ?_)
    exact fin_ret1 (.inl rfl) rfl (.tmp rfl) ⟨rfl, trivial⟩ trivial
end Go.Proofs.Ytmdhljleaijkbaa

/- What a maniplex is, the reference's: l02Is. guards: -/
namespace Go.Proofs.Ytmdhljleaijkbaa
open Go.RowKit

abbrev mxB (R : Nat) : Ch := ⟨true, 28, 1, .flat [.sl 1003 0 R]⟩
theorem binEql {a b : Int} (h : a = b) : binI .i64 .eql a b = some (.bool true) := by simp [binI, h]
theorem binEql' {a b : Int} (h : a ≠ b) : binI .i64 .eql a b = some (.bool false) := by simp [binI, h]
/-- what of a maniplex is asked before it is asked whether it hangs together -/
structure Man0 (zss : List (List Int)) : Prop where
  n1 : 1 ≤ zss.length
  n5 : zss.length ≤ 5
  f2 : 2 ≤ (lget zss 0).length
  f4 : (lget zss 0).length ≤ 400
  rows : Rows zss (lget zss 0).length zss.length
  comm : ∀ i k, i + 2 ≤ k → k < zss.length → ∀ f, f < (lget zss 0).length → commAt zss i k f
theorem Man0.man {zss : List (List Int)} (h : Man0 zss) : manB zss = ((((orb zss (lget zss 0).length 0).2.length : Nat) : Int) == (((lget zss 0).length : Nat) : Int)) := by
  by_cases hc : (orb zss (lget zss 0).length 0).2.length = (lget zss 0).length
  · rw [manB_yes ⟨h.n1, h.n5, h.f2, h.f4, fun i hi => (h.rows i hi).1, fun i hi => (h.rows i hi).2.1, fun i hi => (h.rows i hi).2.2, h.comm, hc⟩, hc]; simp
  · rw [manB_no (fun hm => hc hm.conn)]
    have hc' : ((orb zss (lget zss 0).length 0).2.length : Int) ≠ ((lget zss 0).length : Int) := by omega
    symm; simpa using hc'

end Go.Proofs.Ytmdhljleaijkbaa

/- A search in depth numbers an orbit, on lists. No program in sight. -/
namespace Go.Proofs.Ytmdhljleaijkbaa

def negc (L : List Int) : Nat := (L.filter fun z => decide (z < 0)).length
theorem negc_set : ∀ (L : List Int) (d : Nat) (z : Int), d < L.length → iget L d < 0 → 0 ≤ z → negc (L.set d z) + 1 = negc L
  | [], d, _, h, _, _ => by simp at h
  | a :: r, 0, z, _, h, hz => by
    have h : a < 0 := by simpa [iget] using h
    simp [negc, h, show ¬ z < 0 by omega]
  | a :: r, d + 1, z, hd, h, hz => by
    have ih := negc_set r d z (by simpa using hd) (by simpa [iget] using h) hz
    unfold negc at ih ⊢
    simp only [List.set_cons_succ, List.filter_cons]
    split
    · simp only [List.length_cons]; omega
    · exact ih
theorem iget_setD {L : List Int} {d e : Nat} {z : Int} : iget (L.set d z) e = if d = e ∧ d < L.length then z else iget L e := by
  simp only [iget, List.getD_eq_getElem?_getD, List.getElem?_set]
  by_cases h : d = e
  · subst h
    by_cases h2 : d < L.length
    · simp [h2]
    · simp [h2]
  · simp [h]
structure DOK (T : List (List Int)) (n i k : Nat) (L0 : List Int) (ex : Nat → Prop) (L st : List Int) : Prop where
  len : L.length = n
  st_ : ∀ z ∈ st, ∃ d : Nat, z = (d : Int) ∧ d < n ∧ rch T n i d = true ∧ iget L d = (k : Int)
  eq : ∀ d, d < n → iget L d = iget L0 d ∨ (iget L d = (k : Int) ∧ rch T n i d = true)
  self : iget L i = (k : Int)
  cl : ∀ d, d < n → rch T n i d = true → iget L d = (k : Int) → (d : Int) ∉ st → ¬ ex d → ∀ g, g < T.length → iget L (bTo T d g) = (k : Int)
section
variable {T : List (List Int)} {n i k : Nat} {L0 L st : List Int} {ex : Nat → Prop}
theorem dok_start (hT : Leads T n) (hi : i < n) (hl : L0.length = n) (hnew : ∀ d, d < n → rch T n i d = true → iget L0 d = -1) : DOK T n i k L0 (fun _ => False) (L0.set i (k : Int)) [(i : Int)] := by
  refine ⟨by simpa using hl, fun z hz => ?_, fun d hd => ?_, by rw [iget_setD, if_pos ⟨rfl, by omega⟩], fun d hd hr he hn => ?_⟩
  · obtain rfl : z = (i : Int) := by simpa using hz
    exact ⟨i, rfl, hi, rch_refl hT hi, by rw [iget_setD, if_pos ⟨rfl, by omega⟩]⟩
  · rw [iget_setD]
    split
    · rename_i h; obtain ⟨rfl, _⟩ := h; exact .inr ⟨rfl, rch_refl hT hi⟩
    · exact .inl rfl
  · exfalso
    have hne : i ≠ d := fun e => hn (by simp [e])
    rw [iget_setD, if_neg (fun h => hne h.1), hnew d hd hr] at he
    omega
theorem dok_pop {m x : Nat} (h : DOK T n i k L0 (fun _ => False) L st) (hm : st.length = m + 1) (hx : iget st m = (x : Int)) : DOK T n i k L0 (fun d => d = x) L (st.take m) := by
  refine ⟨h.len, fun z hz => h.st_ z (List.mem_of_mem_take hz), h.eq, h.self, fun d hd hr he hn hne => ?_⟩
  refine h.cl d hd hr he (fun hs => ?_) (fun f => f)
  have hst : st = st.take m ++ [(x : Int)] := by
    have := take_iget (zs := st) (k := m) (by omega)
    rw [hx, ← hm, List.take_length] at this; exact this
  rw [hst] at hs
  rcases List.mem_append.1 hs with hs | hs
  · exact hn hs
  · have : (d : Int) = x := by simpa using hs
    exact hne (by omega)
theorem dok_step {y : Nat} (h : DOK T n i k L0 ex L st) (hy : y < n) (hr : rch T n i y = true) (hl : iget L y < 0) : DOK T n i k L0 ex (L.set y (k : Int)) (st ++ [(y : Int)]) := by
  have hyl : y < L.length := by rw [h.len]; exact hy
  have keep : ∀ d, iget L d = (k : Int) → iget (L.set y (k : Int)) d = (k : Int) := fun d hd => by
    rw [iget_setD]; split
    · rfl
    · exact hd
  refine ⟨by rw [List.length_set]; exact h.len, fun z hz => ?_, fun d hd => ?_, keep i h.self, fun d hd hrd he hn hne => ?_⟩
  · rcases List.mem_append.1 hz with hz | hz
    · obtain ⟨d, h1, h2, h3, h4⟩ := h.st_ z hz
      exact ⟨d, h1, h2, h3, keep d h4⟩
    · obtain rfl : z = (y : Int) := by simpa using hz
      exact ⟨y, rfl, hy, hr, by rw [iget_setD, if_pos ⟨rfl, hyl⟩]⟩
  · rw [iget_setD]
    split
    · rename_i e; obtain ⟨rfl, _⟩ := e; exact .inr ⟨rfl, hr⟩
    · exact h.eq d hd
  · have hyd : y ≠ d := fun e => hn (by subst e; simp)
    rw [iget_setD, if_neg (fun e => hyd e.1)] at he
    exact fun g hg => keep _ (h.cl d hd hrd he (fun hs => hn (List.mem_append_left _ hs)) hne g hg)
theorem dok_end {x : Nat} (h : DOK T n i k L0 (fun d => d = x) L st) (hx : ∀ g, g < T.length → iget L (bTo T x g) = (k : Int)) : DOK T n i k L0 (fun _ => False) L st :=
  ⟨h.len, h.st_, h.eq, h.self, fun d hd hr he hn _ => by
    by_cases e : d = x
    · subst e; exact hx
    · exact h.cl d hd hr he hn e⟩
theorem dok_done (hT : Leads T n) (hi : i < n) (h : DOK T n i k L0 (fun _ => False) L []) : L = (labSet T n i (L0, k)).1 := by
  refine iget_ext (by rw [h.len, labSet_len]) fun d hd => ?_
  rw [h.len] at hd
  rw [labSet_get hd]
  have hall : ∀ d, d < n → rch T n i d = true → iget L d = (k : Int) :=
    fun d hd hr => (rch_in (p := fun d => iget L d = (k : Int) ∧ rch T n i d = true) hT hi ⟨h.self, rch_refl hT hi⟩ (fun e he hp g hg => ⟨h.cl e he hp.2 hp.1 (by simp) (fun f => f) g hg, rch_on hT hi he hp.2 hg⟩) d hd hr).1
  split
  · rename_i hr; exact hall d hd hr
  · rename_i hr
    rcases h.eq d hd with h1 | h1
    · exact h1
    · exact absurd h1.2 hr
end
end Go.Proofs.Ytmdhljleaijkbaa

/- slices.Repeat at []int64. -/
namespace Go.Proofs.Ytmdhljleaijkbaa
open Go.RowKit

theorem ofInt_u64 (a : Nat) (ha : a < 18446744073709551616) : (BitVec.ofInt 64 (a : Int)).toNat = a := by
  rw [BitVec.ofInt_natCast, BitVec.toNat_ofNat]; exact Nat.mod_eq_of_lt (by omega)
theorem and_low (a : Nat) (ha : a ≤ 1048576) : bits .and .u64 (a : Int) 4294967295 = (a : Int) := by
  show IntKind.u64.wrap ((BitVec.ofInt 64 (a : Int) &&& BitVec.ofInt 64 ((4294967295 : Nat) : Int)).toNat : Int) = _
  rw [BitVec.toNat_and, ofInt_u64 a (by omega), ofInt_u64 4294967295 (by omega), show (4294967295 : Nat) = 2 ^ 32 - 1 from rfl, Nat.and_two_pow_sub_one_eq_mod, Nat.mod_eq_of_lt (by omega)]
  simp [IntKind.wrap, IntKind.signed, IntKind.bits]; omega

theorem wrap_u64_nat (a : Nat) (ha : a ≤ 4294967295) : IntKind.u64.wrap ((a : Nat) : Int) = (a : Int) := by
  simp [IntKind.wrap, IntKind.signed, IntKind.bits]; omega

set_option maxHeartbeats 400000 in
theorem bitsMul_any (a b : Nat) (w : World) (ha : a ≤ 1048576) (hb : b ≤ 1048576) (hab : a * b ≤ 4294967295) :
    Calls Try.prog 125 #[.int .u64 a, .int .u64 b] w fun e w' => e = .returned (.tuple #[.int .u64 0, .int .u64 ((a * b : Nat) : Int)]) ∧ w = w' := by
  have e1 : (a : Int) / 4294967296 = 0 := by omega
  have e2 : (b : Int) / 4294967296 = 0 := by omega
  have e3 : bits .and .u64 (a : Int) 4294967295 = (a : Int) := and_low a ha
  have e4 : bits .and .u64 (b : Int) 4294967295 = (b : Int) := and_low b hb
  have e5 : (a : Int) * (b : Int) = ((a * b : Nat) : Int) := by rw [Int.natCast_mul]
  have e6 : IntKind.u64.wrap ((a : Int) * (b : Int)) = ((a * b : Nat) : Int) := by rw [e5]; exact wrap_u64_nat _ hab
  have e7 : ((a : Int) * (b : Int)) / 4294967296 = 0 := by rw [e5]; omega
  have e8 : bits .and .u64 0 4294967295 = 0 := by decide +kernel
  have e9 : IntKind.u64.wrap 0 = 0 := by decide +kernel
  have H6 := Lib.hid e6
  have H5 := Lib.hid e5
  clear e5 e6
  have e10 : IntKind.u64.wrap ((a : Int) * (b : Int)) = (a : Int) * (b : Int) := by rw [H6.out, H5.out]
  go_enter Try.func125, Try.ntmps125
  go_wp2
  go_ret2
  exact ⟨by simp, rfl⟩

/-- a list again and again -/
def repL {α : Type} (zs : List α) (count : Nat) : List α := (List.replicate count zs).flatten
theorem length_repL {α : Type} (zs : List α) (count : Nat) : (repL zs count).length = zs.length * count := by
  unfold repL; rw [List.length_flatten]; simp; exact Nat.mul_comm _ _
theorem repL_add {α : Type} (zs : List α) (a b : Nat) : repL zs (a + b) = repL zs a ++ repL zs b := by
  unfold repL; rw [← List.replicate_append_replicate, List.flatten_append]
theorem repL_one {α : Type} (zs : List α) : repL zs 1 = zs := by simp [repL]
/-- what is copied from the front to behind place k, k a multiple of the period -/
theorem repL_double {α : Type} {zs : List α} {count j c : Nat} (hj : j ≤ count) (hc : c ≤ zs.length * (count - j)) : (repL zs count).take (zs.length * j + c) = (repL zs count).take (zs.length * j) ++ (repL zs count).take c := by
  have h1 : repL zs count = repL zs j ++ repL zs (count - j) := by rw [← repL_add]; congr 1; omega
  have h2 : repL zs count = repL zs (count - j) ++ repL zs j := by rw [← repL_add]; congr 1; omega
  have l1 := length_repL zs j
  have l2 := length_repL zs (count - j)
  have e3 : (repL zs count).take c = (repL zs (count - j)).take c := by rw [h2, List.take_append_of_le_length (by omega)]
  have e4 : (repL zs count).take (zs.length * j) = repL zs j := by rw [h1, ← l1, List.take_left']; rfl
  rw [e3, e4, h1, List.take_append, List.take_of_length_le (by omega)]
  congr 2; omega

theorem splice_pad {α : Type} {R : List α} {z : α} {k c T : Nat} (hR : R.length = T) (hk : k + c ≤ T) (h : R.take (k + c) = R.take k ++ R.take c) : splice (R.take k ++ List.replicate (T - k) z) k (R.take c) = R.take (k + c) ++ List.replicate (T - (k + c)) z := by
  unfold splice
  have l1 : (R.take k).length = k := by simp; omega
  have l2 : (R.take c).length = c := by simp; omega
  rw [List.take_append_of_le_length (by omega), List.take_of_length_le (by omega), l2, List.drop_append, List.drop_of_length_le (by omega), l1, h]
  simp
  omega

theorem splice_map {α β : Type} (f : α → β) (xs : List α) (k : Nat) (ys : List α) : (splice xs k ys).map f = splice (xs.map f) k (ys.map f) := by
  unfold splice; simp

/-- a whole row of the call's own, cell by cell -/
theorem Own.heap_ {w : World} {base E g T : Nat} {xs : List Value} (h : Own w base E (some ⟨g, 0, none⟩) T T xs) : w.heap[g]? = some (.cells xs.toArray E (0, 0)) := by
  rcases h.1.2 with ⟨h2, _⟩ | ⟨g', cap, cur, hv, _, hh, _, _, hs, ht⟩
  · cases h2
  · injection hv with h1 h2 h3
    injection h1 with h1; injection h1 with h1
    subst h1 h3
    have : cur.toList = xs := by rw [← ht, List.take_of_length_le]; rw [Array.length_toList, hs]; exact Nat.le_refl _
    rw [hh, ← this, Array.toArray_toList]
theorem Own.of_heap {w w' : World} {base E g T : Nat} {xs ys : List Value} (h : Own w base E (some ⟨g, 0, none⟩) T T xs) (hh : w'.heap[g]? = some (.cells ys.toArray E (0, 0))) (hl : ys.length = T) : Own w' base E (some ⟨g, 0, none⟩) T T ys := by
  refine ⟨⟨by rw [hl, Nat.mul_one], .inr ⟨g, T, ys.toArray, rfl, (h.lt g rfl).1, hh, Nat.le_refl _, by have := h.2; simp [maxLen]; omega, by simp [hl], ?_⟩⟩, h.2⟩
  simp [← hl]
section
variable {P : Program} {ops : Array Oper} {rest : List Oper} {o : Oper} {a : Act} {Q : Exit → Act → World → Prop}
/-- copy into a row of the call's own -/
theorem wpList_cp {S E : TypeId} {z : Value} {bytes : Nat} (et : ET P S E z bytes) (w : World) (hg : o.guard = none) (d s : Operand) (ho : o.op = .call { callee := .builtin .copy, args := #[d, s], argTypes := #[S, S] })
    (base g T off : Nat) (xs cs : List Value) (hown : Own w base E (some ⟨g, 0, none⟩) T T xs) (dp : Option Addr) (dLen dCap : Nat) (hd : a.eval d = .slice dp dLen dCap) (sp : Option Addr) (sLen sCap : Nat) (hs : a.eval s = .slice sp sLen sCap)
    (hn : cs.length = Nat.min sLen dLen) (hpos : 0 < cs.length → dp = some ⟨g, off, none⟩ ∧ ∃ ad, sp = some ad ∧ ∀ j v, cs[j]? = some v → w.cell? (ad.add j) = some v) (hfit : off + cs.length ≤ T) (h1 : ∀ v ∈ cs, v.oneCell' = true)
    (h : ∀ w', Own w' base E (some ⟨g, 0, none⟩) T T (splice xs off cs) → Below g w w' → wpList P ops Q rest (a.put o.dst (goInt cs.length)) w') : wpList P ops Q (o :: rest) a w := by
  obtain ⟨i, hi, hz, hsz, hby⟩ := info_parts et.info
  refine wpList_copy_splice hg d s S S ho E et.und (by rw [hi]; simp [hsz]) dp sp dLen dCap sLen sCap hd hs g off xs E hown.heap_ cs hn hpos (by rw [hown.len]; exact hfit) h1 g w (Below.refl _ _) (Nat.le_refl _) ?_
  intro w' hh hb
  exact h w' (hown.of_heap hh.out (by rw [length_splice _ _ _ (by rw [hown.len]; exact hfit), hown.len])) hb
theorem step_cp {S E : TypeId} {z : Value} {bytes : Nat} (et : ET P S E z bytes) {w : World} {K : Act → World → Prop} {X : Prop} (hg : o.guard = none) (d s : Operand) (ho : o.op = .call { callee := .builtin .copy, args := #[d, s], argTypes := #[S, S] })
    (base g T off : Nat) (xs cs : List Value) (hown : Own w base E (some ⟨g, 0, none⟩) T T xs) (dp : Option Addr) (dLen dCap : Nat) (hd : a.eval d = .slice dp dLen dCap) (sp : Option Addr) (sLen sCap : Nat) (hs : a.eval s = .slice sp sLen sCap)
    (hn : cs.length = Nat.min sLen dLen) (hpos : 0 < cs.length → dp = some ⟨g, off, none⟩ ∧ ∃ ad, sp = some ad ∧ ∀ j v, cs[j]? = some v → w.cell? (ad.add j) = some v) (hfit : off + cs.length ≤ T) (h1 : ∀ v ∈ cs, v.oneCell' = true)
    (h : ∀ w', Own w' base E (some ⟨g, 0, none⟩) T T (splice xs off cs) → Below g w w' → K (a.put o.dst (goInt cs.length)) w') : if Region.wanted o (yielded ops a.tmps) = true then Oper.wp P o a w K Q else X := by
  obtain ⟨i, hi, hz, hsz, hby⟩ := info_parts et.info
  refine step_copy_splice hg d s S S ho E et.und (by rw [hi]; simp [hsz]) dp sp dLen dCap sLen sCap hd hs g off xs E hown.heap_ cs hn hpos (by rw [hown.len]; exact hfit) h1 g w (Below.refl _ _) (Nat.le_refl _) ?_
  intro w' hh hb
  exact h w' (hown.of_heap hh.out (by rw [length_splice _ _ _ (by rw [hown.len]; exact hfit), hown.len])) hb
end

set_option maxRecDepth 100000 in
set_option maxHeartbeats 3200000 in
theorem repeat_any (ao : Option Addr) (n c count : Nat) (zs : List Int) (w : World) (h : Ints w ao n zs) (hn : n ≤ 1048576) (hc : count ≤ 1048576) (hnc : n * count ≤ 1048576) (hpos : 0 < n * count) :
    Calls Try.prog 108 #[.slice ao n c, .int .i64 count] w fun e w' => ∃ ao' c', e = .returned (.slice ao' (n * count) c') ∧ Own w' w.heap.size 2 ao' (n * count) c' ((repL zs count).map (Value.int .i64)) ∧ Below w.heap.size w w' := by
  have HL := Lib.hid h.1
  have hn0 : 0 < n := Nat.pos_of_mul_pos_right hpos
  have hc0 : 0 < count := Nat.pos_of_mul_pos_left hpos
  have hle : n ≤ n * count := Nat.le_mul_of_pos_right _ hc0
  obtain ⟨T, hT⟩ : ∃ T, n * count = T := ⟨_, rfl⟩
  rw [hT] at hpos hle ⊢
  have HT := Lib.hid hT
  have hT2 : T ≤ 1048576 := by omega
  clear hT hnc
  have hRl : ((repL zs count)).length = T := by rw [length_repL, HL.out, HT.out]
  have HR := Lib.hid hRl
  clear hRl
  obtain ⟨b, off, rfl, hb0, hcells⟩ := h.all_ hn0
  obtain ⟨cs, hcs⟩ : ∃ cs : List Value, cs = ((repL zs count).take n).map (Value.int .i64) := ⟨_, rfl⟩
  have hcl : cs.length = n := by rw [hcs]; simp [HR.out]; omega
  have hc1 : ∀ v ∈ cs, v.oneCell' = true := by rw [hcs]; exact ints_oneCell _ _
  have hcsv : ∀ j v, cs[j]? = some v → w.cell? ⟨b, off + j, none⟩ = some v := by
    intro j v hv
    have hj : j < n := by have := (List.getElem?_eq_some_iff.1 hv).1; omega
    have hrn : (repL zs count).take n = zs := by
      have e : repL zs count = zs ++ repL zs (count - 1) := by
        have : count = 1 + (count - 1) := by omega
        conv => lhs; rw [this]
        rw [repL_add, repL_one]
      rw [e, ← HL.out, List.take_left']; rfl
    rw [hcs, hrn, List.getElem?_map, List.getElem?_eq_getElem (by rw [HL.out]; exact hj)] at hv
    rw [hcells j hj, ← hv, iget_lt (by rw [HL.out]; exact hj)]; rfl
  have HCS := Lib.hid hcs
  have HCL := Lib.hid hcl
  have HC1 := Lib.hid hc1
  have HCV := Lib.hid hcsv
  have x1 := wrap_u64_nat n (by omega)
  have x2 := wrap_u64_nat count (by omega)
  clear hcs hcl hc1 hcsv hcells
  go_enter Try.func108, Try.ntmps108
  go_wp2_with (first | (go_at_call 125; refine (bitsMul_any n count _ hn hc (by rw [HT.out]; omega)).mono ?_; rintro e w' ⟨rfl, rfl⟩; rw [HT.out]) | (at_make; refine wpList_mk etI _ rfl _ _ rfl w.heap.size _ _ _ _ T rfl rfl rfl rfl (by omega) (Nat.le_refl _) ?_; intro w1 hown hgrow hsz; have hb1 : Below w.heap.size w w1 := (Below.refl _ _).grown hgrow (Nat.le_refl _) (by simp); clear hgrow) | (with_reducible refine wpList_cp (o := ⟨some 33, _, _, _, _, _⟩) etI _ rfl (.tmp 31) (.tmp 32) rfl w.heap.size w.heap.size T 0 _ cs hown _ _ _ rfl _ _ _ rfl ?_ ?_ ?_ HC1.out ?_))
  · rw [HCL.out]; exact (Nat.min_eq_left hle).symm
  · exact fun _ j v hv => (hb1.cell (p := ⟨b, off + j, none⟩) hb0).trans (HCV.out j v hv)
  · rw [HCL.out]; omega
  intro w2 o2 b2
  have hb2 : Below w.heap.size w w2 := hb1.trans b2
  have e0 : splice (List.replicate T (Value.int .i64 0)) 0 cs = ((repL zs count).take n ++ List.replicate (T - n) 0).map (Value.int .i64) := by
    rw [HCS.out, ← List.map_replicate]
    have := splice_pad (R := repL zs count) (z := (0 : Int)) (k := 0) (c := n) HR.out (by omega) (by simp)
    simp only [List.take_zero, List.nil_append, Nat.zero_add, Nat.sub_zero] at this
    rw [← this]
    simp [splice]
  rw [e0] at o2
  rw [HCL.out]
  clear e0 hown hsz hb1 b2 HCV HC1 HCS HCL
  go_wp2
  go_loopw [8] (fun i wr => ∃ k j : Nat, i = .int .i64 k ∧ 0 < k ∧ k ≤ T ∧ (k = n * j ∧ j ≤ count ∨ k = T) ∧ Own wr w.heap.size 2 (some ⟨w.heap.size, 0, none⟩) T T (((repL zs count).take k ++ List.replicate (T - k) 0).map (Value.int .i64)) ∧ Below w.heap.size w wr) (fun i _ => T - (intOf i).toNat)
  case atStart => exact ⟨n, 1, by simp, hn0, hle, .inl ⟨by omega, by omega⟩, o2, hb2⟩
  case round =>
    obtain ⟨k, j, rfl, hk0, hkT, hkj, ho, hb⟩ := hrel
    clear o2 hb2
    have HK := Lib.hid hkj
    clear hkj
    by_cases hlt : k < T
    · obtain ⟨c2, hc2⟩ : ∃ c2, c2 = Nat.min k (T - k) := ⟨_, rfl⟩
      have hc2a : c2 ≤ k := by rw [hc2]; exact Nat.min_le_left _ _
      have hc2b : c2 ≤ T - k := by rw [hc2]; exact Nat.min_le_right _ _
      have hc2c : 0 < c2 := by rw [hc2]; exact Nat.lt_min.2 ⟨hk0, by omega⟩
      have hdb : (repL zs count).take (k + c2) = (repL zs count).take k ++ (repL zs count).take c2 := by
        rcases HK.out with ⟨e, hj⟩ | e
        · have hx : c2 ≤ zs.length * (count - j) := by rw [HL.out, Nat.mul_sub, HT.out, ← e]; exact hc2b
          have := repL_double (zs := zs) hj hx
          rwa [HL.out, ← e] at this
        · omega
      obtain ⟨cs, hcs⟩ : ∃ cs : List Value, cs = ((repL zs count).take c2).map (Value.int .i64) := ⟨_, rfl⟩
      have hcl : cs.length = c2 := by rw [hcs]; simp [HR.out]; omega
      have hc1 : ∀ v ∈ cs, v.oneCell' = true := by rw [hcs]; exact ints_oneCell _ _
      have hcsv : ∀ j v, cs[j]? = some v → wr.cell? ⟨w.heap.size, j, none⟩ = some v := by
        intro j v hv
        have hj : j < c2 := by have := (List.getElem?_eq_some_iff.1 hv).1; omega
        obtain ⟨g', eg, -, -, -, hcell, -⟩ := ho.form (by omega)
        injection eg with eg; injection eg with eg; subst eg
        rw [hcell j (by omega), ← hv, hcs, List.getElem?_map, List.getElem?_map, List.getElem?_append_left (by simp [HR.out]; omega), List.getElem?_take, List.getElem?_take, if_pos (by omega), if_pos (by omega)]
      have HD := Lib.hid hdb
      have HC := Lib.hid hcs
      have HCL := Lib.hid hcl
      have HC1 := Lib.hid hc1
      have HCV := Lib.hid hcsv
      have HC2 := Lib.hid hc2
      have hTk : ((T - k : Nat) : Int) = (T : Int) - k := by omega
      clear hdb hcs hcl hc1 hcsv hc2 hTk
      go_wp2_with fail
      have HB := Lib.hid hb
      have HS := Lib.hid (show ((k : Nat) : Int) + ((c2 : Nat) : Int) = ((k + c2 : Nat) : Int) by omega)
      have hw : IntKind.i64.wrap (((k + c2 : Nat) : Nat) : Int) = ((k + c2 : Nat) : Int) := by simp [IntKind.wrap, IntKind.signed, IntKind.bits]; omega
      have HW := Lib.hid hw
      clear hw
      go_region_held3 (fun w' => Below w.heap.size w w') (first | exact HB.out.drew | assumption) (first | (refine step_cp (o := ⟨some 45, _, _, _, _, _⟩) etI rfl (.tmp 41) (.tmp 44) rfl w.heap.size w.heap.size T k _ cs (ho.drewN 1) _ _ _ rfl _ _ _ rfl ?_ ?_ ?_ HC1.out ?_; (rw [HCL.out, HC2.out]); (intro _; exact ⟨if_neg (by omega), _, rfl, fun j v hv => by have hx := HCV.out j v hv; by_cases e : j = 0 <;> simp_all [Addr.add]⟩); (rw [HCL.out]; omega); intro w3 o3 b3; have b4 : Below w.heap.size w w3 := HB.out.drew.trans b3))
      rw [HCL.out, HS.out, HW.out]
      have o4 : Own w3 w.heap.size 2 (some ⟨w.heap.size, 0, none⟩) T T (((repL zs count).take (k + c2) ++ List.replicate (T - (k + c2)) 0).map (Value.int .i64)) := by
        have e := splice_pad (R := repL zs count) (z := (0 : Int)) (k := k) (c := c2) HR.out (by omega) HD.out
        rw [← e]
        rw [HC.out] at o3
        rw [splice_map]
        exact o3
      go_roundw
      case rel =>
        refine ⟨_, _, _, _, _, _, _, _, _, _, _, _, _, _, ⟨k + c2, 2 * j, rfl, by omega, by omega, ?_, o4, b4⟩, rfl⟩
        rcases HK.out with ⟨e, hj⟩ | e
        · by_cases hx : k ≤ T - k
          · have hc2k : c2 = k := by rw [HC2.out]; exact Nat.min_eq_left hx
            left
            have e2 : n * (2 * j) = k + k := by rw [e, Nat.mul_left_comm]; omega
            refine ⟨by omega, ?_⟩
            have : n * (2 * j) ≤ n * count := by rw [HT.out]; omega
            exact Nat.le_of_mul_le_mul_left this hn0
          · have hc2k : c2 = T - k := by rw [HC2.out]; exact Nat.min_eq_right (by omega)
            right; omega
        · omega
      case measure => simp [intOf]; omega
    · obtain rfl : k = T := by omega
      rw [Nat.sub_self, List.replicate_zero, List.append_nil, List.take_of_length_le (Nat.le_of_eq HR.out)] at ho
      go_wp2
      go_ret
      exact ⟨_, _, rfl, ho, hb⟩
end Go.Proofs.Ytmdhljleaijkbaa

/- Contracts in names of small functions: size, slices.Repeat. -/
namespace Go.Proofs.Ytmdhljleaijkbaa
open Go.RowKit

theorem sizeR_fc (x n : Nat) : FC Try.prog 53 [] [o1 (.sl x 0 n)] [] (vv (I6 n)) [] := by
  refine fc_enter (nt := 5) Try.func53 rfl rfl (by simp) fun w0 ω0 => ?_
  (refine goes_seq ?_; refine goes_region ?_; apply run_step rfl; (exact stp_assign rfl rfl); refine run_nil ?_; refine fin_seq ?_; refine goes_seq ?_; refine goes_region ?_; apply run_step rfl; (exact stp_move rfl rfl); apply run_step rfl; (exact stp_len rfl rfl rfl (by as_aux_lemma => kernel_rfl)); apply run_step rfl; (exact stp_assign rfl rfl); refine run_nil ?_; refine fin_seq ?_; refine goes_ret ?_)
  exact fin_ret1 (.inl rfl) rfl (.tmp rfl) trivial trivial
theorem sizeE_fc (x i n : Nat) : FC Try.prog 71 [] [o1 (.esl x i 0 n)] [] (vv (I6 n)) [] := by
  refine fc_enter (nt := 5) Try.func71 rfl rfl (by simp) fun w0 ω0 => ?_
  (refine goes_seq ?_; refine goes_region ?_; apply run_step rfl; (exact stp_assign rfl rfl); refine run_nil ?_; refine fin_seq ?_; refine goes_seq ?_; refine goes_region ?_; apply run_step rfl; (exact stp_move rfl rfl); apply run_step rfl; (exact stp_len rfl rfl rfl (by as_aux_lemma => kernel_rfl)); apply run_step rfl; (exact stp_assign rfl rfl); refine run_nil ?_; refine fin_seq ?_; refine goes_ret ?_)
  exact fin_ret1 (.inl rfl) rfl (.tmp rfl) trivial trivial

theorem repL_single (z : Int) : ∀ n, repL [z] n = List.replicate n z := fun n => by
  unfold repL
  induction n with
  | zero => rfl
  | succ n ih => simp [List.replicate_succ] at ih ⊢
theorem lk_self {α : Type} (x : Nat) (c : α) : lk x [(x, c)] = some c := by simp [lk]
/-- slices.Repeat of a list of one number -/
theorem repeat1_fc (x y n : Nat) (z : Int) (hn : n ≤ 1048576) (hn0 : 0 < n) :
    FC Try.prog 108 [(x, ⟨false, 2, 1, .vals (ivals [z])⟩)] [o1 (.sl x 0 1), vv (I6 n)] [(y, ⟨true, 2, 1, .vals (ivals (List.replicate n z))⟩)] (o1 (.sl y 0 n)) [] := by
  have h := fc_of_own (P := Try.prog) (f := 108) (ins := [(x, ⟨false, 2, 1, .vals (ivals [z])⟩)]) (args := [o1 (.sl x 0 1), vv (I6 n)]) (x := y) (E := 2) (zs := List.replicate n z) fun w η ω us hm hd => by
    obtain ⟨hl, ha⟩ := hd
    obtain ⟨u0, h0, d0⟩ := ha 0 _ rfl
    obtain ⟨u1, h1, d1⟩ := ha 1 _ rfl
    obtain ⟨ao, c, e0, hi⟩ := rdS (zs := [z]) (E := 2) (own := false) hm (lk_self _ _) d0 (by simp)
    have d1 : u1 = I6 n := d1
    subst e0 d1
    obtain rfl : us = [.slice ao 1 c, I6 n] := by
      match us, hl, h0, h1 with
      | [p, q], _, h0, h1 => simp at h0 h1; rw [h0, h1]
    refine (repeat_any ao 1 c n [z] w hi (by omega) hn (by omega) (by omega)).mono ?_
    rintro e w' ⟨ao', c', rfl, ho, hb⟩
    rw [Nat.one_mul, repL_single] at ho
    rw [List.length_replicate]
    exact ⟨ao', c', by rw [Nat.one_mul], ho, hb⟩
  rw [List.length_replicate] at h
  exact h
end Go.Proofs.Ytmdhljleaijkbaa

/- The numbers of orbits, the program's: orbitLabels. -/
namespace Go.Proofs.Ytmdhljleaijkbaa
open Go.RowKit

theorem ivals_take (zs : List Int) (m : Nat) : (ivals zs).take m = ivals (zs.take m) := by simp [ivals, List.map_take]
set_option maxRecDepth 100000 in
set_option maxHeartbeats 2000000 in
theorem orbI_fcS (zss : List (List Int)) (n ng : Nat) (hng : zss.length = ng) (hT : Leads zss n) (hB : SymR zss n) (hpos : 0 < n) (hn : n ≤ 1000000) (hg : ng ≤ 1000000) :
    FC Try.prog 72 [(1003, rowsRo zss)] [vv (I6 n), o1 (.sl 1003 0 ng)] [(16, leOw (labs zss n).1)] (.tup [.one (.sl 16 0 n), .one (.val (I6 (labs zss n).2))]) [] := by
  have hlen : (irows zss).length = ng := by rw [irows_len]; exact hng
  have hR : FC Try.prog 108 [(14, ⟨false, 2, 1, .vals (ivals [-1])⟩)] [o1 (.sl 14 0 1), vv (I6 n)] [(16, ⟨true, 2, 1, .vals (ivals (List.replicate n (-1)))⟩)] (o1 (.sl 16 0 n)) [] := repeat1_fc 14 16 n (-1) (by omega) hpos
  refine fc_enter (nt := 75) Try.func72 rfl rfl (by simp) fun w0 ω0 => ?_
  (refine goes_seq ?_; refine goes_region ?_; apply run_step rfl; (exact stp_assign rfl rfl); apply run_step rfl; (exact stp_assign rfl rfl); refine run_nil ?_; refine fin_seq ?_; refine goes_seq ?_; refine goes_region ?_; apply run_step rfl; (exact stp_lit1I (E := 2) rfl (by as_aux_lemma => kernel_rfl) rfl); apply run_step rfl; (exact stp_move rfl rfl); apply run_step rfl; (apply call_gate 108; exact stp_callN hR (by as_aux_lemma => kernel_rfl) rfl rfl ⟨rfl, rfl, trivial⟩ ⟨⟨_, rfl, .inr rfl⟩, trivial⟩ rfl rfl rfl); apply run_step rfl; (exact stp_assign rfl rfl); refine run_nil ?_; refine fin_seq ?_; refine goes_seq ?_; refine goes_region ?_; apply run_step rfl; (exact stp_assign rfl rfl); refine run_nil ?_; refine fin_seq ?_; refine goes_seq ?_; refine goes_seq ?_; refine goes_region ?_; apply run_step rfl; (exact stp_move rfl rfl); apply run_step rfl; (exact stp_move rfl rfl); refine run_nil ?_; refine fin_seq ?_; refine goes_block ?_)
  refine goes_loop (fun q : Nat × LSt => St.of [(1, o1 (.sl 1003 0 ng)), (6, o1 (.sl 16 0 n)), (7, vv (I6 q.2.2)), (17, vv (I6 n)), (18, vv (I6 q.1))] [(1003, rowsRo zss), (16, leOw q.2.1)]) (fun q => q.1 ≤ n ∧ labTo zss n q.1 = q.2) (fun q => n - q.1) (0, labStart n) ⟨Nat.zero_le _, rfl⟩ (Wk.of ⟨rfl, rfl, rfl, rfl, rfl, trivial⟩ ⟨rfl, rfl, trivial⟩ trivial) ?_
  rintro ⟨i, L, k⟩ ⟨hi, hl⟩
  dsimp only at hi hl ⊢
  have hOK := labTo_okS hT hB i hi
  rw [hl] at hOK
  have hLl : L.length = n := hOK.len
  have hil : n ≤ (ivals L).length := by rw [ivals_len, hLl]; exact Nat.le_refl _
  have hnext := labTo_succ (T := zss) (n := n) i
  rw [hl] at hnext
  unfold labStep at hnext
  (refine goes_seq ?_; refine goes_region ?_; apply run_step rfl; (exact stp_bin rfl rfl rfl rfl); refine run_nil ?_; refine fin_seq ?_; refine goes_seq ?_)
  refine goes_if rfl (fun h => ?_) (fun h => ?_)
  · have hin : i < n := by omega
    have gi : (ivals L)[i]? = some (I6 (iget L i)) := ivals_get (by omega)
    have hkb : k ≤ n := by
      have hk : ∀ m, m ≤ n → (labTo zss n m).2 ≤ m := by
        intro m
        induction m with
        | zero => intro _; exact Nat.le_refl _
        | succ m ih =>
          intro hm
          have := ih (by omega)
          rw [labTo_succ]; unfold labStep; split
          · omega
          · show (labTo zss n m).2 + 1 ≤ m + 1; omega
      have := hk i hi
      rw [hl] at this
      have : k ≤ i := this
      omega
    (refine goes_skip ?_; refine fin_seq ?_; refine goes_seq ?_; refine goes_block ?_; refine goes_seq ?_; refine goes_region ?_; apply run_step rfl; (exact stp_move rfl rfl); apply run_step rfl; (exact stp_assign rfl rfl); refine run_nil ?_; refine fin_seq ?_; refine goes_seq ?_; refine goes_seq ?_; refine goes_region ?_; apply run_step rfl; (exact stp_move rfl rfl); apply run_step rfl; (exact stp_move rfl rfl); apply run_step rfl; (exact stp_ix (j := i) rfl rfl rfl rfl rfl (by as_aux_lemma => kernel_rfl) rfl hin hil); apply run_step rfl; (exact stp_loadV rfl (by as_aux_lemma => kernel_rfl) rfl rfl rfl (by first | assumption | exact ivals_get (by assumption) | exact irows_get (by assumption) | exact ivals_get (by omega) | exact irows_get (by omega) | rfl)); apply run_step rfl; (exact stp_bin rfl rfl rfl rfl); refine run_nil ?_; refine fin_seq ?_)
    refine goes_if rfl (fun h1 => ?_) (fun h1 => ?_)
    · have h1' : 0 ≤ iget L i := h1
      rw [if_pos h1'] at hnext
      (refine goes_exit ?_; refine fin_exit_then ?_; refine fin_exit_eq ?_; refine fin_seq ?_; refine goes_region ?_; apply run_step rfl; (exact stp_add rfl rfl rfl (by first | exact IntWalk.i64_in _ (by omega) | rfl)); apply run_step rfl; (exact stp_move rfl rfl); refine run_nil ?_)
      exact fin_round (i + 1, L, k) ⟨hin, hnext⟩ (by show n - (i + 1) < n - i; omega) (Wk.of ⟨rfl, rfl, rfl, rfl, rfl, trivial⟩ ⟨rfl, rfl, trivial⟩ trivial)
    · have h1' : ¬ 0 ≤ iget L i := h1
      rw [if_neg h1'] at hnext
      have hnew : ∀ d, d < n → rch zss n i d = true → iget L d = -1 := fun d hd hr => lab_newS hT hB hin hOK (by dsimp only; omega) hd hr
      (refine goes_skip ?_; refine fin_seq ?_; refine goes_seq ?_; refine goes_region ?_; apply run_step rfl; (exact stp_move rfl rfl); apply run_step rfl; (exact stp_move rfl rfl); apply run_step rfl; (exact stp_move rfl rfl); apply run_step rfl; (first | exact stp_ix (j := i) rfl rfl rfl rfl rfl (by as_aux_lemma => kernel_rfl) rfl hin hil | exact stp_stI rfl rfl rfl rfl rfl (by omega) (by as_aux_lemma => kernel_rfl)); apply run_step rfl; (first | exact stp_ix (j := i) rfl rfl rfl rfl rfl (by as_aux_lemma => kernel_rfl) rfl hin hil | exact stp_stI rfl rfl rfl rfl rfl (by omega) (by as_aux_lemma => kernel_rfl)); refine run_nil ?_; refine fin_seq ?_; refine goes_seq ?_; refine goes_seq ?_; refine goes_region ?_; apply run_step rfl; (exact stp_move rfl rfl); apply run_step rfl; (exact stp_lit1I (E := 2) rfl (by as_aux_lemma => kernel_rfl) rfl); apply run_step rfl; (exact stp_assign rfl rfl); refine run_nil ?_; refine fin_seq ?_; refine goes_block ?_)
      refine goes_loop (fun q : List Int × List Int => St.of [(1, o1 (.sl 1003 0 ng)), (6, o1 (.sl 16 0 n)), (7, vv (I6 k)), (9, o1 (.sl 31 0 q.2.length)), (17, vv (I6 n)), (18, vv (I6 i))] [(1003, rowsRo zss), (16, leOw q.1), (31, leOw q.2)])
        (fun q => DOK zss n i k L (fun _ => False) q.1 q.2 ∧ 2 * negc q.1 + q.2.length ≤ 2 * n + 1) (fun q => 2 * negc q.1 + q.2.length) (L.set i (k : Int), [(i : Int)]) ⟨dok_start hT hin hLl hnew, ?_⟩ (Wk.of ⟨rfl, rfl, rfl, rfl, rfl, rfl, trivial⟩ ⟨rfl, rfl, rfl, trivial⟩ trivial) ?_
      · have h2 : negc L ≤ L.length := List.length_filter_le _ _
        have h3 := negc_set L i (k : Int) (by omega) (by omega) (by omega)
        show 2 * negc (L.set i (k : Int)) + 1 ≤ 2 * n + 1
        omega
      rintro ⟨M, st⟩ ⟨hD, hmu⟩
      dsimp only at hD hmu ⊢
      have hMl : M.length = n := hD.len
      (refine goes_seq ?_; refine goes_seq ?_; refine goes_region ?_; apply run_step rfl; (exact stp_move rfl rfl); apply run_step rfl; (exact stp_len rfl rfl rfl (by as_aux_lemma => kernel_rfl)); apply run_step rfl; (exact stp_bin rfl rfl rfl rfl); refine run_nil ?_; refine fin_seq ?_)
      refine goes_if rfl (fun h2 => ?_) (fun h2 => ?_)
      · obtain ⟨m, hm⟩ : ∃ m, st.length = m + 1 := ⟨st.length - 1, by omega⟩
        obtain ⟨x, hx1, hx2, hx3, hx4⟩ := hD.st_ (iget st m) (iget_mem (by omega))
        have hP := dok_pop hD hm hx1
        have gm : (ivals st)[m]? = some (I6 (x : Int)) := by rw [ivals_get (by omega), hx1]
        have hm1 : ((st.length : Int) - 1) = ((m : Nat) : Int) := by omega
        have hsl : m + 1 ≤ (ivals st).length := by rw [ivals_len]; omega
        have htk : (st.take m).length = m := by rw [List.length_take]; omega
        rw [hm]
        rw [hm] at hm1
        (refine goes_skip ?_; refine fin_seq ?_; refine goes_block ?_; refine goes_seq ?_; refine goes_region ?_; apply run_step rfl; (exact stp_move rfl rfl); apply run_step rfl; (exact stp_move rfl rfl); apply run_step rfl; (exact stp_len rfl rfl rfl (by as_aux_lemma => kernel_rfl)); apply run_step rfl; (first | exact stp_sub rfl rfl rfl (IntWalk.i64_in _ (by omega)) | exact stp_ix (j := m) rfl rfl rfl rfl rfl (by as_aux_lemma => kernel_rfl) hm1 (by omega) hsl | exact stp_slice (k := 1) (l := 0) (h := m) rfl rfl rfl rfl (by as_aux_lemma => kernel_rfl) (by omega) bnd_none (bnd_some rfl hm1) (by omega) (by omega) (by rw [Nat.mul_one, Nat.zero_add]; exact hsl)); apply run_step rfl; (first | exact stp_sub rfl rfl rfl (IntWalk.i64_in _ (by omega)) | exact stp_ix (j := m) rfl rfl rfl rfl rfl (by as_aux_lemma => kernel_rfl) hm1 (by omega) hsl | exact stp_slice (k := 1) (l := 0) (h := m) rfl rfl rfl rfl (by as_aux_lemma => kernel_rfl) (by omega) bnd_none (bnd_some rfl hm1) (by omega) (by omega) (by rw [Nat.mul_one, Nat.zero_add]; exact hsl)); apply run_step rfl; (exact stp_loadV rfl (by as_aux_lemma => kernel_rfl) rfl rfl rfl (by first | assumption | exact ivals_get (by assumption) | exact irows_get (by assumption) | exact ivals_get (by omega) | exact irows_get (by omega) | rfl)); apply run_step rfl; (exact stp_assign rfl rfl); refine run_nil ?_; refine fin_seq ?_; refine goes_seq ?_; refine goes_region ?_; apply run_step rfl; (exact stp_move rfl rfl); apply run_step rfl; (exact stp_move rfl rfl); apply run_step rfl; (exact stp_len rfl rfl rfl (by as_aux_lemma => kernel_rfl)); apply run_step rfl; (first | exact stp_sub rfl rfl rfl (IntWalk.i64_in _ (by omega)) | exact stp_ix (j := m) rfl rfl rfl rfl rfl (by as_aux_lemma => kernel_rfl) hm1 (by omega) hsl | exact stp_slice (k := 1) (l := 0) (h := m) rfl rfl rfl rfl (by as_aux_lemma => kernel_rfl) (by omega) bnd_none (bnd_some rfl hm1) (by omega) (by omega) (by rw [Nat.mul_one, Nat.zero_add]; exact hsl)); apply run_step rfl; (first | exact stp_sub rfl rfl rfl (IntWalk.i64_in _ (by omega)) | exact stp_ix (j := m) rfl rfl rfl rfl rfl (by as_aux_lemma => kernel_rfl) hm1 (by omega) hsl | exact stp_slice (k := 1) (l := 0) (h := m) rfl rfl rfl rfl (by as_aux_lemma => kernel_rfl) (by omega) bnd_none (bnd_some rfl hm1) (by omega) (by omega) (by rw [Nat.mul_one, Nat.zero_add]; exact hsl)); apply run_step rfl; (exact stp_assign rfl rfl); refine run_nil ?_; refine fin_seq ?_; refine goes_seq ?_; refine goes_region ?_; apply run_step rfl; (exact stp_move rfl rfl); apply run_step rfl; (exact stp_len rfl rfl rfl (by as_aux_lemma => kernel_rfl)); apply run_step rfl; (exact stp_move rfl rfl); refine run_nil ?_; refine fin_seq ?_; refine goes_block ?_)
        have hsame : 2 * negc M + m + 1 = 2 * negc M + st.length := by omega
        refine goes_loop (fun q : Nat × List Int × List Int => St.of [(1, o1 (.sl 1003 0 ng)), (6, o1 (.sl 16 0 n)), (7, vv (I6 k)), (9, o1 (.sl 31 0 q.2.2.length)), (10, vv (I6 x)), (17, vv (I6 n)), (18, vv (I6 i)), (46, o1 (.sl 1003 0 ng)), (47, vv (I6 ng)), (48, vv (I6 q.1))] [(1003, rowsRo zss), (16, leOw q.2.1), (31, leOw q.2.2)])
          (fun q => q.1 ≤ ng ∧ DOK zss n i k L (fun d => d = x) q.2.1 q.2.2 ∧ (∀ g, g < q.1 → iget q.2.1 (bTo zss x g) = (k : Int)) ∧ 2 * negc q.2.1 + q.2.2.length ≤ 2 * negc M + m) (fun q => ng - q.1) (0, M, st.take m) ⟨Nat.zero_le _, hP, fun g hg => absurd hg (by omega), by dsimp only; omega⟩
          (Wk.trans (wk_cut (n := 31) (m := m) (vs := ivals st) rfl (by rw [ivals_len]; omega)) (Wk.of ⟨rfl, rfl, rfl, by rw [htk]; rfl, rfl, rfl, rfl, rfl, rfl, rfl, trivial⟩ ⟨rfl, rfl, congrArg (fun l => some (⟨true, 2, 1, .vals l⟩ : Ch)) (ivals_take st m), trivial⟩ trivial)) ?_
        rintro ⟨g, N, su⟩ ⟨hgl, hD2, hdone, hmu2⟩
        dsimp only at hgl hD2 hdone hmu2 ⊢
        have hNl : N.length = n := hD2.len
        have hsu : su.length ≤ 2 * n + 1 := by omega
        (refine goes_seq ?_; refine goes_region ?_; apply run_step rfl; (exact stp_bin rfl rfl rfl rfl); refine run_nil ?_; refine fin_seq ?_; refine goes_seq ?_)
        refine goes_if rfl (fun h3 => ?_) (fun h3 => ?_)
        · have hgn : g < ng := by omega
          have hgz : g < zss.length := by omega
          have hd := bTo_lt hT hx2 (g := g) hgz
          have hr := rch_on hT hin hx2 hx3 hgz
          obtain ⟨y, hy⟩ : ∃ y, bTo zss x g = y := ⟨_, rfl⟩
          rw [hy] at hd hr
          have hrowg : (irows zss)[g]? = some (ivals (lget zss g)) := irows_get hgz
          have hlg : (lget zss g).length = n := hT.len g hgz
          have gx : (ivals (lget zss g))[x]? = some (I6 (y : Int)) := by rw [ivals_get (by omega), hd.2]
          have gy : (ivals N)[y]? = some (I6 (iget N y)) := ivals_get (by omega)
          have hilg : (ivals (lget zss g)).length = n := by rw [ivals_len]; exact hlg
          have hNi : n ≤ (ivals N).length := by rw [ivals_len, hNl]; exact Nat.le_refl _
          have step : ∀ (N' : List Int), (∀ e, iget N e = (k : Int) → iget N' e = (k : Int)) → iget N' y = (k : Int) → ∀ g', g' < g + 1 → iget N' (bTo zss x g') = (k : Int) := fun N' hk hyk g' hg' => by
            by_cases e : g' = g
            · subst e; rw [hy]; exact hyk
            · exact hk _ (hdone g' (by omega))
          (refine goes_skip ?_; refine fin_seq ?_; refine goes_seq ?_; refine goes_block ?_; refine goes_seq ?_; refine goes_region ?_; apply run_step rfl; (first | exact stp_ix (j := g) rfl rfl rfl rfl rfl (by as_aux_lemma => kernel_rfl) rfl hgn (Nat.le_of_eq hlen.symm) | exact stp_loadR rfl (by as_aux_lemma => kernel_rfl) rfl rfl rfl hrowg hilg | exact stp_ixE (j := x) rfl rfl rfl rfl rfl (by as_aux_lemma => kernel_rfl) hrowg rfl hx2 (Nat.le_of_eq hilg.symm) | exact stp_loadE' rfl (by as_aux_lemma => kernel_rfl) rfl rfl rfl hrowg gx | exact stp_ix (j := y) rfl rfl rfl rfl rfl (by as_aux_lemma => kernel_rfl) rfl hd.1 hNi); apply run_step rfl; (first | exact stp_ix (j := g) rfl rfl rfl rfl rfl (by as_aux_lemma => kernel_rfl) rfl hgn (Nat.le_of_eq hlen.symm) | exact stp_loadR rfl (by as_aux_lemma => kernel_rfl) rfl rfl rfl hrowg hilg | exact stp_ixE (j := x) rfl rfl rfl rfl rfl (by as_aux_lemma => kernel_rfl) hrowg rfl hx2 (Nat.le_of_eq hilg.symm) | exact stp_loadE' rfl (by as_aux_lemma => kernel_rfl) rfl rfl rfl hrowg gx | exact stp_ix (j := y) rfl rfl rfl rfl rfl (by as_aux_lemma => kernel_rfl) rfl hd.1 hNi); apply run_step rfl; (exact stp_assign rfl rfl); refine run_nil ?_; refine fin_seq ?_; refine goes_seq ?_; refine goes_region ?_; apply run_step rfl; (exact stp_move rfl rfl); apply run_step rfl; (exact stp_move rfl rfl); apply run_step rfl; (first | exact stp_ix (j := g) rfl rfl rfl rfl rfl (by as_aux_lemma => kernel_rfl) rfl hgn (Nat.le_of_eq hlen.symm) | exact stp_loadR rfl (by as_aux_lemma => kernel_rfl) rfl rfl rfl hrowg hilg | exact stp_ixE (j := x) rfl rfl rfl rfl rfl (by as_aux_lemma => kernel_rfl) hrowg rfl hx2 (Nat.le_of_eq hilg.symm) | exact stp_loadE' rfl (by as_aux_lemma => kernel_rfl) rfl rfl rfl hrowg gx | exact stp_ix (j := y) rfl rfl rfl rfl rfl (by as_aux_lemma => kernel_rfl) rfl hd.1 hNi); apply run_step rfl; (first | exact stp_ix (j := g) rfl rfl rfl rfl rfl (by as_aux_lemma => kernel_rfl) rfl hgn (Nat.le_of_eq hlen.symm) | exact stp_loadR rfl (by as_aux_lemma => kernel_rfl) rfl rfl rfl hrowg hilg | exact stp_ixE (j := x) rfl rfl rfl rfl rfl (by as_aux_lemma => kernel_rfl) hrowg rfl hx2 (Nat.le_of_eq hilg.symm) | exact stp_loadE' rfl (by as_aux_lemma => kernel_rfl) rfl rfl rfl hrowg gx | exact stp_ix (j := y) rfl rfl rfl rfl rfl (by as_aux_lemma => kernel_rfl) rfl hd.1 hNi); apply run_step rfl; (exact stp_assign rfl rfl); refine run_nil ?_; refine fin_seq ?_; refine goes_seq ?_; refine goes_region ?_; apply run_step rfl; (exact stp_move rfl rfl); apply run_step rfl; (exact stp_move rfl rfl); apply run_step rfl; (first | exact stp_ix (j := g) rfl rfl rfl rfl rfl (by as_aux_lemma => kernel_rfl) rfl hgn (Nat.le_of_eq hlen.symm) | exact stp_loadR rfl (by as_aux_lemma => kernel_rfl) rfl rfl rfl hrowg hilg | exact stp_ixE (j := x) rfl rfl rfl rfl rfl (by as_aux_lemma => kernel_rfl) hrowg rfl hx2 (Nat.le_of_eq hilg.symm) | exact stp_loadE' rfl (by as_aux_lemma => kernel_rfl) rfl rfl rfl hrowg gx | exact stp_ix (j := y) rfl rfl rfl rfl rfl (by as_aux_lemma => kernel_rfl) rfl hd.1 hNi); apply run_step rfl; (exact stp_loadV rfl (by as_aux_lemma => kernel_rfl) rfl rfl rfl (by first | assumption | exact ivals_get (by assumption) | exact irows_get (by assumption) | exact ivals_get (by omega) | exact irows_get (by omega) | rfl)); apply run_step rfl; (exact stp_bin rfl rfl rfl rfl); refine run_nil ?_; refine fin_seq ?_)
          refine goes_if rfl (fun h4 => ?_) (fun h4 => ?_)
          · have h4' : iget N y < 0 := h4
            have hN' := negc_set N y (k : Int) (by omega) h4' (by omega)
            have hkeep : ∀ e, iget N e = (k : Int) → iget (N.set y (k : Int)) e = (k : Int) := fun e he => by
              rw [iget_setD]
              split
              · rfl
              · exact he
            have hyN : iget (N.set y (k : Int)) y = (k : Int) := by rw [iget_setD, if_pos ⟨rfl, by omega⟩]
            (refine goes_seq ?_; refine goes_region ?_; apply run_step rfl; (exact stp_move rfl rfl); apply run_step rfl; (exact stp_move rfl rfl); apply run_step rfl; (exact stp_move rfl rfl); apply run_step rfl; (first | exact stp_ix (j := y) rfl rfl rfl rfl rfl (by as_aux_lemma => kernel_rfl) rfl hd.1 hNi | exact stp_stI rfl rfl rfl rfl rfl (by omega) (by as_aux_lemma => kernel_rfl)); apply run_step rfl; (first | exact stp_ix (j := y) rfl rfl rfl rfl rfl (by as_aux_lemma => kernel_rfl) rfl hd.1 hNi | exact stp_stI rfl rfl rfl rfl rfl (by omega) (by as_aux_lemma => kernel_rfl)); refine run_nil ?_; refine fin_seq ?_; refine goes_region ?_; apply run_step rfl; (exact stp_move rfl rfl); apply run_step rfl; (exact stp_move rfl rfl); apply run_step rfl; (exact stp_lit1I (E := 2) rfl (by as_aux_lemma => kernel_rfl) rfl); apply run_step rfl; (exact stp_appI rfl (by as_aux_lemma => kernel_rfl) rfl rfl rfl (by first | rfl | assumption | (simp; done)) rfl rfl (by omega)); apply run_step rfl; (exact stp_assign rfl rfl); refine run_nil ?_; refine fin_block ?_; refine fin_seq ?_; refine goes_region ?_; apply run_step rfl; (exact stp_add rfl rfl rfl (by first | exact IntWalk.i64_in _ (by omega) | rfl)); apply run_step rfl; (exact stp_move rfl rfl); refine run_nil ?_)
            exact fin_round (g + 1, N.set y (k : Int), su ++ [(y : Int)]) ⟨hgn, dok_step hD2 hd.1 hr h4', step _ hkeep hyN, by simp only [List.length_append, List.length_singleton]; omega⟩ (by show ng - (g + 1) < ng - g; omega) (Wk.of ⟨rfl, rfl, rfl, congrArg (fun x => some (o1 (.sl 31 0 x))) (by simp), rfl, rfl, rfl, rfl, rfl, rfl, trivial⟩ ⟨rfl, rfl, rfl, trivial⟩ trivial)
          · have h4' : ¬ iget N y < 0 := h4
            have hyk : iget N y = (k : Int) := by
              rcases hD2.eq y hd.1 with h5 | h5
              · rw [hnew y hd.1 hr] at h5; omega
              · exact h5.1
            (refine goes_skip ?_; refine fin_block ?_; refine fin_seq ?_; refine goes_region ?_; apply run_step rfl; (exact stp_add rfl rfl rfl (by first | exact IntWalk.i64_in _ (by omega) | rfl)); apply run_step rfl; (exact stp_move rfl rfl); refine run_nil ?_)
            exact fin_round (g + 1, N, su) ⟨hgn, hD2, step N (fun _ h => h) hyk, hmu2⟩ (by show ng - (g + 1) < ng - g; omega) (Wk.of ⟨rfl, rfl, rfl, rfl, rfl, rfl, rfl, rfl, rfl, rfl, trivial⟩ ⟨rfl, rfl, rfl, trivial⟩ trivial)
        · obtain rfl : g = ng := by omega
          (refine goes_exit ?_; refine fin_exit_then ?_; refine fin_exit_then ?_; refine fin_exit_eq ?_; refine fin_block ?_)
          exact fin_round (N, su) ⟨dok_end hD2 (fun g' hg' => hdone g' (by omega)), by dsimp only; omega⟩ (by show 2 * negc N + su.length < 2 * negc M + st.length; omega) (Wk.of ⟨rfl, rfl, rfl, rfl, rfl, rfl, trivial⟩ ⟨rfl, rfl, rfl, trivial⟩ trivial)
      · obtain rfl : st = [] := List.length_eq_zero_iff.1 (by omega)
        have hM := dok_done hT hin hD
        have hk1 : (((labSet zss n i (L, k)).2 : Nat) : Int) = (k : Int) + 1 := by show ((k + 1 : Nat) : Int) = _; omega
        (refine goes_exit ?_; refine fin_exit_then ?_; refine fin_exit_then ?_; refine fin_exit_eq ?_; refine fin_seq ?_; refine goes_region ?_; apply run_step rfl; (exact stp_move rfl rfl); apply run_step rfl; (exact stp_add rfl rfl rfl (by first | exact IntWalk.i64_in _ (by omega) | rfl)); apply run_step rfl; (exact stp_assign rfl rfl); refine run_nil ?_; refine fin_block ?_; refine fin_seq ?_; refine goes_region ?_; apply run_step rfl; (exact stp_add rfl rfl rfl (by first | exact IntWalk.i64_in _ (by omega) | rfl)); apply run_step rfl; (exact stp_move rfl rfl); refine run_nil ?_)
        exact fin_round (i + 1, labSet zss n i (L, k)) ⟨hin, hnext⟩ (by show n - (i + 1) < n - i; omega) (Wk.of ⟨rfl, rfl, congrArg (fun z => some (vv (I6 z))) hk1.symm, rfl, rfl, trivial⟩ ⟨rfl, congrArg (fun l => some (leOw l)) hM, trivial⟩ trivial)
  · obtain rfl : i = n := by omega
    have hfin : labs zss i = (L, k) := hl
    rw [hfin]
    (refine goes_exit ?_; refine fin_exit_then ?_; refine fin_exit_then ?_; refine fin_exit_eq ?_; refine fin_seq ?_; refine goes_seq ?_; refine goes_region ?_; apply run_step rfl; (exact stp_move rfl rfl); apply run_step rfl; (exact stp_move rfl rfl); apply run_step rfl; (exact stp_assign rfl rfl); apply run_step rfl; (exact stp_assign rfl rfl); refine run_nil ?_; refine fin_seq ?_; refine goes_ret ?_)
    exact fin_ret2 (.inl rfl) rfl (.tmp rfl) (.tmp rfl) ⟨rfl, trivial⟩ trivial
theorem orbI_fc (zss : List (List Int)) (n ng : Nat) (hng : zss.length = ng) (hT : Leads zss n) (hB : Back2 zss n) (hpos : 0 < n) (hn : n ≤ 1000000) (hg : ng ≤ 1000000) :
    FC Try.prog 72 [(1003, rowsRo zss)] [vv (I6 n), o1 (.sl 1003 0 ng)] [(16, leOw (labs zss n).1)] (.tup [.one (.sl 16 0 n), .one (.val (I6 (labs zss n).2))]) [] := orbI_fcS zss n ng hng hT (hB.sym hT) hpos hn hg
end Go.Proofs.Ytmdhljleaijkbaa

/- The program's within, in names. -/
namespace Go.Proofs.Ytmdhljleaijkbaa
open Go.RowKit

theorem us_three {us : List Value} {u0 u1 u2 : Value} (hl : us.length = 3) (g0 : us[0]? = some u0) (g1 : us[1]? = some u1) (g2 : us[2]? = some u2) : us = [u0, u1, u2] := by
  match us, hl with
  | [p, q, r], _ => simp at g0 g1 g2; rw [g0, g1, g2]
theorem within_fc (a b c : Int) : FC Try.prog 35 [] [vv (I6 a), vv (I6 b), vv (I6 c)] [] (vv (.bool (inB a b c))) [] :=
  fc_of_calls fun w η ω us hm ⟨hl, ha⟩ => by
    obtain ⟨u0, g0, d0⟩ := ha 0 _ rfl
    obtain ⟨u1, g1, d1⟩ := ha 1 _ rfl
    obtain ⟨u2, g2, d2⟩ := ha 2 _ rfl
    have d0 : u0 = I6 a := d0
    have d1 : u1 = I6 b := d1
    have d2 : u2 = I6 c := d2
    subst d0 d1 d2
    rw [us_three hl g0 g1 g2]
    refine (within_any a b c w).mono ?_
    rintro e w' ⟨rfl, rfl⟩
    exact ⟨rfl, Below.refl _ _⟩
end Go.Proofs.Ytmdhljleaijkbaa
