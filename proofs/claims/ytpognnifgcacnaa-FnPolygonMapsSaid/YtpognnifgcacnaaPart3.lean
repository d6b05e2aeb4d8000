/- A memory of names: a region that draws its order, in which one operation of the first ones is free to come at any time. No program in sight. -/
import Derived.Test.YtpognnifgcacnaaPart2
import Derived.Test.YtpognnifgcacnaaPart1
import Derived.Test.YtpognnifgcacnaaProg
import Derived.Maps.AppendAt
import Derived.Deep.CutBlock
import Derived.BigQuiet
namespace Go.Proofs.Ytpognnifgcacnaa
open Go.RowKit

section
variable {P : Program} {nt : Nat} {w0 w : World} {ω0 : Beg} {S S1 : St} {Q : Exit → Act → World → Prop} {a : Act}

structure ClsFOK (ops : Array Oper) (nA : Nat) (sk : List Nat) (f : Nat) (cls : List (List Nat)) : Prop where
  size : nA ≤ ops.size
  less : ∀ i o, ops[i]? = some o → i < nA → memN sk i = false → ∀ e ∈ o.after, Region.binds .any e = true → e.on < i ∧ memN sk e.on = false
  dep : ∀ i o, ops[i]? = some o → ∀ j ∈ cls.getD i [], ∃ e ∈ o.after, Region.binds .any e = true ∧ (j = e.on ∨ j ∈ cls.getD e.on [])
  late : ∀ i o, ops[i]? = some o → (nA ≤ i ∨ memN sk i = true) → ∀ j, j < nA → memN sk j = false → j ≠ f → j ∈ cls.getD i []
  lt : ∀ i o, ops[i]? = some o → i < nA → ∀ j ∈ cls.getD i [], j < i
end
end Go.Proofs.Ytpognnifgcacnaa

/- A memory of names: guards, picks, nil slices inside of aggregates. No program in sight. -/
namespace Go.Proofs.Ytpognnifgcacnaa
open Go.RowKit

section
variable {P : Program} {nt : Nat} {S S1 S' : St} {w0 w : World} {ω0 : Beg} {ω : Own?} {η : Env} {a : Act} {Q : Exit → Act → World → Prop} {ops : Array Oper} {rest : List Oper} {o : Oper}
variable {t : Nat} {ty : TypeId} {ps : String} {af : Array Edge} {gd : Option (Nat × Bool)} {x y z : Operand} {av : AV}

/-- a truth value in a slot is one or the other -/
theorem run_bool (d : Nat) {b : Bool} (hb : S.sl d = some (vv (.bool b))) (h1 : b = true → Run P w0 ω0 nt ops Q (S.put d (vv (.bool true))) rest) (h2 : b = false → Run P w0 ω0 nt ops Q (S.put d (vv (.bool false))) rest) : Run P w0 ω0 nt ops Q S rest := by
  have wk : ∀ c, b = c → Wk S (S.put d (vv (.bool c))) := fun c e => by
    refine ⟨fun w0 ω0 nt a w ⟨η, ω, hs⟩ => ⟨η, ω, { hs with slots := fun t' av ht' => ?_ }⟩⟩
    rw [sl_put] at ht'
    by_cases e' : t' = d
    · subst e'
      rw [if_pos rfl] at ht'
      obtain rfl := Option.some.inj ht'
      exact hs.slots t' _ (by rw [← e]; exact hb)
    · rw [if_neg e'] at ht'; exact hs.slots t' av ht'
  cases b with
  | true => exact ⟨fun a w hs => (h1 rfl).go a w ((wk true rfl).go _ _ _ a w hs)⟩
  | false => exact ⟨fun a w hs => (h2 rfl).go a w ((wk false rfl).go _ _ _ a w hs)⟩
theorem run_gYes {j d : Nat} {want : Bool} (hg : o.guard = some (j, want)) (hj : (ops[j]?).bind (·.dst) = some d) (hb : S.sl d = some (vv (.bool want))) (h : Stp P nt o S S1) (k : Run P w0 ω0 nt ops Q S1 rest) : Run P w0 ω0 nt ops Q S (o :: rest) :=
  run_guard hg hj hb (fun _ => ⟨S1, h, k⟩) fun e => absurd rfl e
theorem run_gNo {j d t : Nat} {want : Bool} (hg : o.guard = some (j, want)) (hj : (ops[j]?).bind (·.dst) = some d) (hb : S.sl d = some (vv (.bool (!want)))) (ht : o.dst = some t) (hn : Nat.blt t nt = true) (k : Run P w0 ω0 nt ops Q (S.put t (vv undef)) rest) : Run P w0 ω0 nt ops Q S (o :: rest) :=
  run_guard hg hj hb (fun e => by cases want <;> cases e) fun _ => ⟨t, ht, hn, k⟩
theorem stp_pickT (ht : Nat.blt t nt = true) (hx : S.op x = some (vv (.bool true))) (hy : S.op y = some av) : Stp P nt ⟨some t, .pick x y z, ty, ps, af, gd⟩ S (S.put t av) :=
  Stp.of _ fun w0 ω0 η ω a w hs => by
    have h0 := hs.opV hx
    exact ⟨a.eval y, w, by simp [execOp, h0, asBool], η, ω, hs.putV (by simpa using ht) (hs.opv hy)⟩
theorem stp_pickF (ht : Nat.blt t nt = true) (hx : S.op x = some (vv (.bool false))) (hz : S.op z = some av) : Stp P nt ⟨some t, .pick x y z, ty, ps, af, gd⟩ S (S.put t av) :=
  Stp.of _ fun w0 ω0 η ω a w hs => by
    have h0 := hs.opV hx
    exact ⟨a.eval z, w, by simp [execOp, h0, asBool], η, ω, hs.putV (by simpa using ht) (hs.opv hz)⟩

theorem stp_buildZ {T : TypeId} (zs : List Value) (ht : Nat.blt t nt = true) (hb : (P.built T []).map Array.toList = some zs) : Stp P nt ⟨some t, .build T #[], ty, ps, af, gd⟩ S (S.put t (.s (.agg (zs.map .val)))) :=
  Stp.of _ fun w0 ω0 η ω a w hs => by
    simp only [Option.map_eq_some_iff] at hb
    obtain ⟨cs, hc, rfl⟩ := hb
    refine ⟨.agg cs, w, by simp [execOp, run_build w T #[] cs hc], η, ω, hs.putV (by simpa using ht) ?_⟩
    exact (⟨cs, rfl, by simp, fun j b hb => by
      simp only [List.getElem?_map, Option.map_eq_some_iff] at hb
      obtain ⟨v, hv, rfl⟩ := hb
      exact ⟨v, by simpa using hv, rfl⟩⟩ : Den2 η (.agg (cs.toList.map .val)) (.agg cs))

end
end Go.Proofs.Ytpognnifgcacnaa

/- A memory of names: make of integers; small steps. No program in sight. -/
namespace Go.Proofs.Ytpognnifgcacnaa
open Go.RowKit

section
variable {P : Program} {nt : Nat} {S S1 : St} {w0 w : World} {ω0 : Beg} {ω : Own?} {η : Env} {a : Act} {Q : Exit → Act → World → Prop}
variable {t : Nat} {ty : TypeId} {ps : String} {af : Array Edge} {gd : Option (Nat × Bool)} {x y : Operand} {av : AV}
end
end Go.Proofs.Ytpognnifgcacnaa

/- A memory of names: a region that draws, with several operations free to come at any time. No program in sight. -/
namespace Go.Proofs.Ytpognnifgcacnaa
open Go.RowKit

section
variable {P : Program} {nt : Nat} {S S1 : St} {w0 w : World} {ω0 : Beg} {ω : Own?} {η : Env} {a : Act} {Q : Exit → Act → World → Prop}

def AllSubs : List Nat → (List Nat → Prop) → Prop
  | [], p => p []
  | f :: r, p => AllSubs r p ∧ AllSubs r (fun ks => p (f :: ks))
theorem AllSubs.filter {q : Nat → Bool} : ∀ {fs : List Nat} {p : List Nat → Prop}, AllSubs fs p → p (fs.filter q)
  | [], p, h => h
  | f :: r, p, h => by
    rw [List.filter_cons]
    split
    · exact AllSubs.filter (p := fun ks => p (f :: ks)) h.2
    · exact AllSubs.filter (p := p) h.1
theorem AllSubs.map {p p' : List Nat → Prop} (h : ∀ ks, p ks → p' ks) : ∀ {fs : List Nat}, AllSubs fs p → AllSubs fs p'
  | [], k => h _ k
  | _ :: _, k => ⟨AllSubs.map h k.1, AllSubs.map (fun ks => h _) k.2⟩
structure ClsLOK (ops : Array Oper) (nA : Nat) (sk : List Nat) (fs : List Nat) (cls : List (List Nat)) : Prop where
  size : nA ≤ ops.size
  less : ∀ i o, ops[i]? = some o → i < nA → memN sk i = false → ∀ e ∈ o.after, Region.binds .any e = true → e.on < i ∧ memN sk e.on = false
  dep : ∀ i o, ops[i]? = some o → ∀ j ∈ cls.getD i [], ∃ e ∈ o.after, Region.binds .any e = true ∧ (j = e.on ∨ j ∈ cls.getD e.on [])
  late : ∀ i o, ops[i]? = some o → (nA ≤ i ∨ memN sk i = true) → ∀ j, j < nA → memN sk j = false → memN fs j = false → j ∈ cls.getD i []
  lt : ∀ i o, ops[i]? = some o → i < nA → ∀ j ∈ cls.getD i [], j < i
end
end Go.Proofs.Ytpognnifgcacnaa

/- From contracts in names to contracts in words (RdS, OwSS, ..), and back. No program in sight. -/
namespace Go.Proofs.Ytpognnifgcacnaa
open Go.RowKit

/-- nobody's blocks -/
def noOwn : Own? := fun _ => none
/-- a chunk that is only read lies at the head h, its rows at the heads r -/
def Hv (w : World) (x : Nm) (c : Ch) (h : Hd) (r : Nat → Hd) : Prop := ∀ η : Env, (∀ i, η.r x i = r i) → ChIs η noOwn w x h c
abbrev Lay := List (Nm × (Ch × Hd × (Nat → Hd)))
def envOf (l : Lay) : Env := { h := fun x => (lk x l).map fun q => q.2.1, r := fun x i => match lk x l with | some q => q.2.2 i | none => ⟨none, 0, 1⟩ }
theorem lk_map {α β : Type} (f : α → β) : ∀ (l : List (Nat × α)) (x : Nat), lk x (l.map fun p => (p.1, f p.2)) = (lk x l).map f
  | [], x => rfl
  | p :: r, x => by
    simp only [List.map_cons, lk]
    rw [lk_map f r x]
    cases Nat.beq x p.1 <;> rfl
theorem mem_of {w : World} {l : Lay} (h : ∀ p ∈ l, Hv w p.1 p.2.1 p.2.2.1 p.2.2.2) : Mem (envOf l) noOwn w (fun x => lk x (l.map fun p => (p.1, p.2.1))) := by
  have hl : ∀ x, lk x (l.map fun p => (p.1, p.2.1)) = (lk x l).map fun q => q.1 := fun x => lk_map (fun q => q.1) l x
  refine ⟨fun x c hx => ?_, fun x hx => ?_⟩
  · replace hx := (hl x).symm.trans hx
    obtain ⟨q, hq, rfl⟩ := Option.map_eq_some_iff.1 hx
    refine ⟨q.2.1, by simp [envOf, hq], h (x, q) (lk_mem hq) _ fun i => by simp [envOf, hq]⟩
  · replace hx := (hl x).symm.trans hx
    have : lk x l = none := by simpa using hx
    simp [envOf, this]
theorem den_sl {l : Lay} {x : Nm} {q : Ch × Hd × (Nat → Hd)} {n : Nat} (h : lk x l = some q) : Den1 (envOf l) (.sl x 0 n) (.slice q.2.1.ao n q.2.1.c) :=
  ⟨⟨_, _, rfl⟩, fun h' hh => by
    have hh : (lk x l).map (fun q => q.2.1) = some h' := hh
    rw [h] at hh; simp at hh; subst hh
    exact ⟨_, rfl, fun _ => rfl, fun h0 => absurd h0 (by omega)⟩⟩

theorem ofS {E : Nat} {w : World} {v : Value} {zs : List Int} (x E' : Nat) (h : OwS E w v zs) : ∃ hd r, v = .slice hd.ao zs.length hd.c ∧ Hv w x ⟨false, E', 1, .vals (ivals zs)⟩ hd r := by
  obtain ⟨ao, n, c, rfl, ho⟩ := h
  have hl := ho.len
  simp at hl
  subst hl
  refine ⟨⟨ao, c, 1⟩, fun _ => ⟨none, 0, 1⟩, rfl, fun η _ => ⟨rfl, ?_, fun j hj => ?_⟩⟩
  · show (ivals zs).length ≤ c * 1
    rw [ivals_len, Nat.mul_one]
    rcases Nat.eq_zero_or_pos zs.length with h0 | h0
    · omega
    · obtain ⟨g, _, _, _, h1, _⟩ := ho.form h0; exact h1
  · have hj : j < zs.length := by have : j < (ivals zs).length := hj; rwa [ivals_len] at this
    obtain ⟨g, rfl, _, hlt, _, hc, _⟩ := ho.form (by omega)
    refine ⟨g, 0, I6 (iget zs j), rfl, rfl, hlt, ?_, ivals_get hj⟩
    rw [Nat.zero_add, hc j hj]
    exact ivals_get hj
theorem ofSS {E1 E : Nat} {w : World} {lo hi : Nat} {v : Value} {zss : List (List Int)} (x E' E1' : Nat) (h : OwSS E1 E w lo hi v zss) : ∃ hd r, v = .slice hd.ao zss.length hd.c ∧ Hv w x ⟨false, E', 1, .rows E1' (irows zss) []⟩ hd r := by
  obtain ⟨ao, n, c, us, rfl, ho⟩ := h
  have hl := ho.len
  subst hl
  have hr : ∀ j, ∃ q : Hd, q.k = 1 ∧ ∀ u d, us[j]? = some u → zss[j]? = some d → u = Value.slice q.ao d.length q.c ∧ ∀ (η : Env), VecR noOwn w q (ivals d).length fun i u => (ivals d)[i]? = some u := fun j => by
    by_cases hj : j < zss.length
    · obtain ⟨u, d, hu, hd, ⟨a', n', c', rfl, h1⟩, _⟩ := ho.get hj
      have hl := h1.len
      simp at hl
      subst hl
      refine ⟨⟨a', c', 1⟩, rfl, fun u2 d2 hu2 hd2 => ?_⟩
      rw [hu] at hu2; rw [hd] at hd2
      obtain rfl := Option.some.inj hu2
      obtain rfl := Option.some.inj hd2
      obtain ⟨hd', r', e1, e2⟩ := ofS x E' (⟨a', _, c', rfl, h1⟩ : OwS E1 w _ d)
      injection e1 with f1 f2 f3
      refine ⟨rfl, fun η => ?_⟩
      have e3 := e2 { h := fun _ => none, r := fun _ => r' } (fun _ => rfl)
      obtain ⟨e4, e5⟩ := e3
      have e5 : VecR noOwn w hd' (ivals d).length _ := e5
      have : hd' = ⟨a', c', 1⟩ := by
        cases hd'; simp at f1 f3 e4; simp [f1, f3, e4]
      subst this
      exact e5
    · refine ⟨⟨none, 0, 1⟩, rfl, fun u d _ hd => ?_⟩
      rw [List.getElem?_eq_none (by omega)] at hd; cases hd
  refine ⟨⟨ao, c, 1⟩, fun j => Classical.choose (hr j), rfl, fun η he => ⟨rfl, ?_, fun j hj => ?_⟩⟩
  · show (irows zss).length ≤ c * 1
    rw [irows_len, Nat.mul_one]
    rcases Nat.eq_zero_or_pos zss.length with h0 | h0
    · omega
    · obtain ⟨g, _, _, _, h1, _⟩ := ho.own.form h0; exact h1
  · have hj : j < zss.length := by have : j < (irows zss).length := hj; rwa [irows_len] at this
    obtain ⟨g, rfl, _, hlt, _, hc, _⟩ := ho.own.form (by omega)
    obtain ⟨u, d, hu, hd, h1, _⟩ := ho.get hj
    have hs := Classical.choose_spec (hr j)
    obtain ⟨k1, k2⟩ := hs.2 u d hu hd
    refine ⟨g, 0, u, rfl, rfl, hlt, by rw [Nat.zero_add, hc j hj, hu], by rw [k1]; rfl, fun _ vs hvs => ?_⟩
    have hvd : vs = ivals d := by
      have : (irows zss)[j]? = some (ivals d) := by simp [irows, hd]
      rw [this] at hvs; exact (Option.some.inj hvs).symm
    subst hvd
    rw [he j]
    exact ⟨by rw [k1, ivals_len], hs.1, k2 η⟩

/-- what a contract in names says of a call whose arguments are only read -/
theorem FC.call {P : Program} {f : FuncId} {ins outs : List (Nm × Ch)} {args : List AV} {res : AV} {back : List (Nat × AV)} (h : FC P f ins args outs res back) {w : World} {l : Lay} {us : List Value} (hl : ∀ p ∈ l, Hv w p.1 p.2.1 p.2.2.1 p.2.2.2) (hi : (l.map fun p => (p.1, p.2.1)) = ins)
    (hd : DenL (envOf l) args us) : Calls P f us.toArray w fun e w' => ∃ v η ω, e = .returned v ∧ Den η res v ∧ Mem η ω w' (fun x => lk x outs) ∧ Below w.heap.size w w' ∧ ∀ b, b < w.heap.size → ω b = none := by
  subst hi
  refine (h w (envOf l) noOwn us (mem_of hl) hd).mono ?_
  rintro e w' ⟨v, η, ω, he, h1, h2, h3, _⟩
  exact ⟨v, η, ω, he, h1, h2, ⟨h3.os, h3.tape, h3.output, h3.size, fun b hb => (h3.block b hb rfl).1⟩, fun b hb => (h3.block b hb rfl).2⟩

section
variable {η : Env} {ω : Own?} {w' : World} {lo : Nat} {outs : List (Nm × Ch)}
/-- a vector of the call's own is a row of the words -/
theorem VecO.own {ow : Nm × Option Nat} {h : Hd} {E : Nat} {xs : List Value} {len : Nat} {cell : Nat → Value → Prop} (hk : h.k = 1) (hv : VecO ω w' ow h E len cell) (hlo : ∀ b, b < lo → ω b = none) (hn : len ≤ 4398046511104) (hx : xs.length = len)
    (hc : ∀ j u, j < len → (∃ b o, h.ao = some ⟨b, o, none⟩ ∧ w'.cell? ⟨b, o + j, none⟩ = some u) → xs[j]? = some u) :
    Own w' lo E h.ao len h.c xs ∧ ∀ g, bk h.ao = some g → g < w'.heap.size ∧ ω g = some ow := by
  rcases hv with ⟨h1, h2, h3⟩ | ⟨b, o, cs, h1, h2, h3, ⟨h4, h4'⟩, h5, h6, h7⟩
  · subst h3
    refine ⟨⟨⟨by simpa using hx, .inl ⟨by rw [h1, h2], rfl⟩⟩, hn⟩, fun g hg => by rw [h1] at hg; cases hg⟩
  · subst h4
    rw [hk, Nat.mul_one] at h4' h5
    have hb : lo ≤ b := by
      rcases Nat.lt_or_ge b lo with h8 | h8
      · rw [hlo b h8] at h2; cases h2
      · exact h8
    refine ⟨⟨⟨by simpa using hx, .inr ⟨b, h.c, cs, by rw [h1], hb, h3, h5, h6, by rw [h4', Nat.mul_one], ?_⟩⟩, hn⟩, fun g hg => ?_⟩
    · apply List.ext_getElem?
      intro j
      rw [Nat.mul_one, List.getElem?_take]
      by_cases hj : j < len
      · obtain ⟨u, hu, _⟩ := h7 j hj
        rw [Nat.zero_add] at hu
        rw [if_pos hj, hc j u hj ⟨b, 0, h1, by rw [Nat.zero_add, cell_of_row w' b j cs E (0, 0) h3]; exact hu⟩]
        simpa using hu
      · rw [if_neg hj, List.getElem?_eq_none (by omega)]
    · rw [h1] at hg
      simp [bk] at hg
      subst hg
      exact ⟨lt_of_heap h3, h2⟩
theorem toS {x E : Nat} {zs : List Int} {v : Value} (hm : Mem η ω w' (fun x => lk x outs)) (hlo : ∀ b, b < lo → ω b = none) (hx : lk x outs = some ⟨true, E, 1, .vals (ivals zs)⟩) (hv : Den1 η (.sl x 0 zs.length) v) (hn : zs.length ≤ 4398046511104) : OwnS E w' lo w'.heap.size v zs := by
  obtain ⟨h, h1, h2, h3⟩ := hm.1 x _ hx
  obtain ⟨ao, rfl, h4, _⟩ := hv.2 h h1
  have h3 : VecO ω w' (x, none) h E (ivals zs).length (cellsOK η ω w' true x (.vals (ivals zs))) := h3
  rw [h4 rfl, Nat.sub_zero]
  obtain ⟨k1, k2⟩ := VecO.own (xs := ivals zs) h2 h3 hlo (by rw [ivals_len]; exact hn) rfl fun j u hj ⟨b, o, e1, e2⟩ => by
    obtain ⟨b', o', u', f1, f2, f3⟩ := Vec.get (own := true) h3 hj
    rw [e1] at f1; injection f1 with f1; injection f1 with f1 f1'; subst f1 f1'
    rw [e2] at f2
    obtain rfl := Option.some.inj f2
    exact f3
  rw [ivals_len] at k1
  exact ⟨⟨_, _, _, rfl, k1.mono (Nat.zero_le _)⟩, fun g hg => by
    rw [ownBlock_slice] at hg
    exact ⟨(k1.lt g hg).1, (k2 g hg).1⟩⟩
theorem toSS {x E F : Nat} {zss : List (List Int)} {v : Value} (hm : Mem η ω w' (fun x => lk x outs)) (hlo : ∀ b, b < lo → ω b = none) (hx : lk x outs = some ⟨true, E, 1, .rows F (irows zss) []⟩) (hv : Den1 η (.sl x 0 zss.length) v) (hn : zss.length ≤ 4398046511104) (hr : ∀ zs ∈ zss, zs.length ≤ 4398046511104) :
    OwSS F E w' lo w'.heap.size v zss := by
  obtain ⟨h, h1, h2, h3⟩ := hm.1 x _ hx
  obtain ⟨ao, rfl, h4, _⟩ := hv.2 h h1
  have h3 : VecO ω w' (x, none) h E (irows zss).length (cellsOK η ω w' true x (.rows F (irows zss) [])) := h3
  rw [h4 rfl, Nat.sub_zero]
  have hlen : (irows zss).length = zss.length := irows_len zss
  obtain ⟨us, hus, hul⟩ : ∃ us : List Value, (∀ j, j < zss.length → us[j]? = some (.slice (η.r x j).ao (lget zss j).length (η.r x j).c)) ∧ us.length = zss.length :=
    ⟨(List.range zss.length).map fun j => .slice (η.r x j).ao (lget zss j).length (η.r x j).c, fun j hj => by simp [hj], by simp⟩
  have cell : ∀ j, j < zss.length → ∃ b o, h.ao = some ⟨b, o, none⟩ ∧ w'.cell? ⟨b, o + j, none⟩ = some (.slice (η.r x j).ao (lget zss j).length (η.r x j).c) ∧ (η.r x j).k = 1 ∧ VecO ω w' (x, some j) (η.r x j) F (ivals (lget zss j)).length fun i u => (ivals (lget zss j))[i]? = some u := fun j hj => by
    obtain ⟨b', o', u', f1, f2, f3, f4⟩ := Vec.get (own := true) h3 (j := j) (by rw [hlen]; exact hj)
    obtain ⟨g1, g2, g3⟩ := f4 (by simp) (ivals (lget zss j)) (irows_get hj)
    rw [ivals_len] at g1
    exact ⟨b', o', f1, by rw [f2, g1], g2, g3⟩
  obtain ⟨k1, k2⟩ := VecO.own (xs := us) h2 h3 hlo (by rw [hlen]; exact hn) (by rw [hul, hlen]) fun j u hj ⟨b, o, e1, e2⟩ => by
    rw [hlen] at hj
    obtain ⟨b', o', f1, f2, _⟩ := cell j hj
    rw [e1] at f1; injection f1 with f1; injection f1 with f1 f1'; subst f1 f1'
    rw [e2] at f2
    rw [hus j hj, Option.some.inj f2]
  rw [hlen] at k1
  have row : ∀ j, j < zss.length → Own w' lo F (η.r x j).ao (lget zss j).length (η.r x j).c (ivals (lget zss j)) ∧ ∀ g, bk (η.r x j).ao = some g → g < w'.heap.size ∧ ω g = some (x, some j) := fun j hj => by
    obtain ⟨_, _, _, _, g2, g3⟩ := cell j hj
    have hb : (lget zss j).length ≤ 4398046511104 := hr _ (lget_mem hj)
    have := VecO.own (lo := lo) (xs := ivals (lget zss j)) g2 g3 hlo (by rw [ivals_len]; exact hb) rfl fun i u hi ⟨b, o, e1, e2⟩ => by
      obtain ⟨b', o', u', f1, f2, f3⟩ := Vec.get (own := true) g3 hi
      rw [e1] at f1; injection f1 with f1; injection f1 with f1 f1'; subst f1 f1'
      rw [e2] at f2
      obtain rfl := Option.some.inj f2
      exact f3
    rw [ivals_len] at this
    exact this
  have hlt : ∀ {j : Nat} {u : Value}, us[j]? = some u → j < zss.length ∧ u = .slice (η.r x j).ao (lget zss j).length (η.r x j).c := fun {j u} hu => by
    have hj : j < zss.length := by have := (List.getElem?_eq_some_iff.1 hu).1; omega
    rw [hus j hj] at hu
    exact ⟨hj, (Option.some.inj hu).symm⟩
  refine ⟨_, _, _, us, rfl, { own := k1, top := fun g hg => (k2 g hg).1, len := rfl, el := fun j u d hu hd => ?_, rng := fun j u hu g hg => ?_, out := fun j u g hu hg => ?_, apart := fun i j u u' g hij hu hu' hg => ?_ }⟩
  · obtain ⟨hj, rfl⟩ := hlt hu
    have : d = lget zss j := (lget_get? hd).symm
    subst this
    exact ⟨_, _, _, rfl, (row j hj).1.mono (Nat.zero_le _)⟩
  · obtain ⟨hj, rfl⟩ := hlt hu
    rw [ownBlock_slice] at hg
    exact ⟨((row j hj).1.lt g hg).1, ((row j hj).2 g hg).1⟩
  · obtain ⟨hj, rfl⟩ := hlt hu
    rw [ownBlock_slice] at hg
    intro e
    have h8 := ((row j hj).2 g hg).2
    rw [(k2 g e).2] at h8
    simp at h8
  · obtain ⟨hi, rfl⟩ := hlt hu
    obtain ⟨hj, rfl⟩ := hlt hu'
    rw [ownBlock_slice] at hg ⊢
    intro e
    have h8 := ((row i hi).2 g hg).2
    rw [((row j hj).2 g e).2] at h8
    simp at h8
    omega
end

/-- a contract in words of a function that reads, as a contract in names -/
theorem fc_of_calls {P : Program} {f : FuncId} {ins : List (Nm × Ch)} {args : List AV} {r : Value} (h : ∀ w η ω us, Mem η ω w (fun x => lk x ins) → DenL η args us → Calls P f us.toArray w fun e w' => e = .returned r ∧ Below w.heap.size w w') : FC P f ins args [] (vv r) [] := by
  intro w η ω us hm hd
  refine (h w η ω us hm hd).mono ?_
  rintro e w' ⟨rfl, hb⟩
  exact ⟨r, { h := fun _ => none, r := η.r }, ω, rfl, rfl, ⟨fun x c hx => (nomatch hx), fun x _ => rfl⟩, ⟨hb.os, hb.tape, hb.output, hb.size, fun b hlt hn => ⟨hb.block b hlt, hn⟩⟩, fun t av ht => (nomatch ht)⟩
section
variable {η : Env} {ω : Own?} {w : World} {ins : List (Nm × Ch)}
theorem rdS {x : Nat} {own : Bool} {E : Nat} {zs : List Int} {v : Value} (hm : Mem η ω w (fun x => lk x ins)) (hx : lk x ins = some ⟨own, E, 1, .vals (ivals zs)⟩) (hv : Den1 η (.sl x 0 zs.length) v) (hn : zs.length ≤ 17592186044416) : ∃ ao c, v = .slice ao zs.length c ∧ Ints w ao zs.length zs := by
  obtain ⟨h, h1, h2, h3⟩ := hm.1 x _ hx
  obtain ⟨ao, rfl, h4, _⟩ := hv.2 h h1
  have h3 : Vec own ω w (x, none) h E (ivals zs).length (cellsOK η ω w own x (.vals (ivals zs))) := h3
  rw [h4 rfl]
  refine ⟨_, _, rfl, rfl, hn, fun h0 => ?_⟩
  obtain ⟨b, o, u, f1, _, _⟩ := h3.get (j := 0) (by rw [ivals_len]; exact h0)
  refine ⟨b, o, f1, fun j hj => ?_⟩
  obtain ⟨b', o', u', g1, g2, g3⟩ := h3.get (j := j) (by rw [ivals_len]; exact hj)
  rw [f1] at g1; injection g1 with g1; injection g1 with g1 g1'; subst g1 g1'
  have g3 : (ivals zs)[j]? = some u' := g3
  rw [ivals_get hj] at g3
  rw [g2, ← g3]
end
end Go.Proofs.Ytpognnifgcacnaa

/- A memory of names: calls that make one vector; rows taken out and laid back; slices of rows; literals of rows and of arrays. No program in sight. -/
namespace Go.Proofs.Ytpognnifgcacnaa
open Go.RowKit

section
variable {P : Program} {nt : Nat} {S S1 S2 : St} {w0 w : World} {ω0 : Beg} {ω : Own?} {η : Env} {a : Act} {Q : Exit → Act → World → Prop} {ops : Array Oper} {rest : List Oper}
variable {t : Nat} {ty : TypeId} {ps : String} {af : Array Edge} {gd : Option (Nat × Bool)} {x y : Operand} {av : AV} {o : Oper}

theorem nbeq_comm (x y : Nat) : Nat.beq x y = Nat.beq y x := by
  cases h : Nat.beq x y with
  | true => rw [beq_true h]; simp
  | false =>
    cases h2 : Nat.beq y x with
    | false => rfl
    | true => rw [beq_true h2] at h; simp at h
theorem inL_one (x y : Nm) (c : Ch) : inL [(x, c)] y = Nat.beq x y := by
  unfold inL; simp only [lk]
  rw [nbeq_comm x y]
  cases Nat.beq y x <;> rfl
theorem bad_one (x : Nm) (c : Ch) (a : A1) : a.bad (inL [(x, c)]) (memB []) = a.has x := by
  cases a with
  | val v => rfl
  | any => rfl
  | sl y _ _ => exact inL_one x y c
  | ptr y _ => show (inL [(x, c)] y && !memB [] y) = _; rw [inL_one]; simp [memB, A1.has]
  | esl y _ _ _ => exact inL_one x y c
  | eptr y _ _ => exact inL_one x y c
  | clo f xs => show xs.any (fun p => inL [(x, c)] p.1 && !memB [] p.1) = xs.any fun p => Nat.beq x p.1; congr 1; funext p; rw [inL_one]; simp [memB]
theorem bad_one2 (x : Nm) (c : Ch) (a : A2) : a.bad (inL [(x, c)]) (memB []) = a.has x := by
  cases a with
  | one a => exact bad_one x c a
  | agg l => show l.any _ = l.any _; congr 1; funext a; exact bad_one x c a
theorem bad_one3 (x : Nm) (c : Ch) (a : AV) : a.bad (inL [(x, c)]) (memB []) = a.has x := by
  cases a with
  | s a => exact bad_one2 x c a
  | tup l => show l.any _ = l.any _; congr 1; funext a; exact bad_one2 x c a
theorem clean_one (x : Nm) (c d : Ch) : d.clean (inL [(x, c)]) (memB []) = d.forget x := by
  obtain ⟨ow, E, k, d⟩ := d
  unfold Ch.clean Ch.forget Dat.clean Dat.forget
  cases d with
  | flat l =>
    have : (l.map fun a => bif a.bad (inL [(x, c)]) (memB []) then A1.any else a) = l.map (A1.forget x) := List.map_congr_left fun a _ => by rw [bad_one]; rfl
    simp only [this]
  | vals vs => rfl
  | rows F vss hs => rfl
  | mix cs => rfl
/-- a call that reads and makes one chunk -/
theorem wk_after1 {ins : List (Nm × Ch)} {t : Nat} {res : AV} {x : Nm} {c : Ch} (hro : (ins.all fun p => !p.2.own) = true) : Wk ((S.after ins [(x, c)] []).putO (some t) res) ((S.new x c).put t res) := by
  have hc : ∀ x, consB ins x = false := fun x => by
    unfold consB
    cases h : lk x ins with
    | none => rfl
    | some c => have := List.all_eq_true.1 hro _ (lk_mem h); simpa using this
  refine Wk.less (fun t' av h => ?_) (fun y d h => ?_) fun t' av h => ?_
  · rw [sl_put] at h
    show ((S.after ins [(x, c)] []).put t res).sl t' = some av
    rw [sl_put]
    by_cases e : t' = t
    · rw [if_pos e] at h ⊢; exact h
    · rw [if_neg e] at h ⊢
      obtain ⟨h1, h2⟩ := sl_new h
      show ((S.sl t').bind fun av => bif av.bad (inL [(x, c)]) (memB []) then none else some av) = some av
      rw [h1, Option.bind_some, bad_one3, h2]; rfl
  · have h' : (S.new x c).ch y = some d := h
    clear h
    rw [ch_new] at h'
    show (match lk y [(x, c)] with | some c => some c | none => bif consB ins y then none else (S.ch y).map (Ch.clean (inL [(x, c)]) (memB []))) = some d
    simp only [lk]
    by_cases e : y = x
    · rw [if_pos e] at h'; subst e; simpa using h'
    · rw [if_neg e] at h'
      rw [beq_ne e, cond_false, hc, cond_false]
      have : Ch.clean (inL [(x, c)]) (memB []) = Ch.forget x := funext fun d => clean_one x c d
      rw [this]; exact h'
  · have h : (S.new x c).ph t' = some av := h
    obtain ⟨h1, h2⟩ := ph_new h
    show ((S.ph t').bind fun av => bif av.bad (inL [(x, c)]) (memB []) then none else some av) = some av
    rw [h1, Option.bind_some, bad_one3, h2]; rfl
theorem stp_callN {f : FuncId} {xs : Array Operand} {ts : Array TypeId} {ins : List (Nm × Ch)} {args args' : List AV} {res : AV} {back : List (Nat × AV)} {x : Nm} {c : Ch}
    (hfc : FC P f ins args [(x, c)] res back) (hf : goFnB P f = true) (ht : Nat.blt t nt = true) (hx' : opL S xs.toList = some args') (hto : allTo args' args) (hin : allIn S ins) (hro : (ins.all fun p => !p.2.own) = true) (hnr : (res.names.all (inL [(x, c)])) = true) (hno : ([(x, c)].all fun p => p.2.own && p.2.names.all (inL [(x, c)])) = true) :
    Stp P nt ⟨some t, .call { callee := .value (.func f), args := xs, argTypes := ts }, ty, ps, af, gd⟩ S ((S.new x c).put t res) :=
  (stp_call (kp := []) hfc hf (by simp [ht]) hx' hto hin trivial hnr hno).wk (wk_after1 hro)

/-- a contract in words of a function that hands back integers of its own, as a contract in names -/
theorem vecO_of {x : Nm × Option Nat} {w' : World} {lo E n c : Nat} {ao : Option Addr} {xs : List Value} (h : Own w' lo E ao n c xs) {ω' : Own?} (ho : ∀ g, bk ao = some g → ω' g = some x) : VecO ω' w' x ⟨ao, c, 1⟩ E xs.length fun j u => xs[j]? = some u := by
  have hl := h.len
  rcases h.1.2 with ⟨h2, h3⟩ | ⟨g, cap, cur, hv, hg, hh, h4, h5, h6, h7⟩
  · injection h2 with e1 e2 e3
    subst e1 e3
    exact .inl ⟨rfl, rfl, by omega⟩
  · injection hv with e1 e2 e3
    subst e1 e3
    refine .inr ⟨g, 0, cur, rfl, ho g rfl, hh, ⟨rfl, h6⟩, by show xs.length ≤ c * 1; omega, h5, fun j hj => ?_⟩
    have h8 : xs[j]? = some xs[j] := List.getElem?_eq_getElem hj
    refine ⟨xs[j], ?_, h8⟩
    have h9 : (cur.toList.take (n * 1))[j]? = some xs[j] := by rw [h7]; exact h8
    rw [List.getElem?_take] at h9
    split at h9
    · rw [Nat.zero_add]; simpa using h9
    · cases h9
theorem fc_of_own {f : FuncId} {ins : List (Nm × Ch)} {args : List AV} {x E : Nat} {zs : List Int} (h : ∀ w η ω us, Mem η ω w (fun x => lk x ins) → DenL η args us → Calls P f us.toArray w fun e w' => ∃ ao c, e = .returned (.slice ao zs.length c) ∧ Own w' w.heap.size E ao zs.length c (ivals zs) ∧ Below w.heap.size w w') :
    FC P f ins args [(x, ⟨true, E, 1, .vals (ivals zs)⟩)] (o1 (.sl x 0 zs.length)) [] := by
  intro w η ω us hm hd
  refine (h w η ω us hm hd).mono ?_
  rintro e w' ⟨ao, c, rfl, ho, hb⟩
  refine ⟨_, { h := fun y => if y = x then some ⟨ao, c, 1⟩ else none, r := η.r }, fun b => if bk ao = some b then some (x, none) else ω b, rfl, ⟨⟨_, _, rfl⟩, fun hd' he => ?_⟩, ⟨fun y d hy => ?_, fun y hy => ?_⟩, ⟨hb.os, hb.tape, hb.output, hb.size, fun b hlt hn => ⟨hb.block b hlt, ?_⟩⟩, fun t av ht => (nomatch ht)⟩
  · simp only [if_true, Option.some.injEq] at he
    subst he
    exact ⟨_, rfl, fun _ => rfl, fun h0 => absurd h0 (by omega)⟩
  · have hy : lk y [(x, (⟨true, E, 1, .vals (ivals zs)⟩ : Ch))] = some d := hy
    simp only [lk] at hy
    cases hb' : Nat.beq y x with
    | false => rw [hb'] at hy; simp at hy
    | true =>
      rw [hb'] at hy; simp at hy; subst hy
      obtain rfl := beq_true hb'
      exact ⟨⟨ao, c, 1⟩, if_pos rfl, rfl, vecO_of ho fun g hg => if_pos hg⟩
  · have hy : lk y [(x, (⟨true, E, 1, .vals (ivals zs)⟩ : Ch))] = none := hy
    have : y ≠ x := fun e => by subst e; simp [lk] at hy
    exact if_neg this
  · show (if bk ao = some b then some (x, none) else ω b) = none
    rw [if_neg fun e => by have := (ho.lt b e).1; omega]; exact hn

end
end Go.Proofs.Ytpognnifgcacnaa

/- A memory of names: mixed vectors: structs with slices in them, and rows of structs. No program in sight. -/
namespace Go.Proofs.Ytpognnifgcacnaa
open Go.RowKit

section
variable {P : Program} {nt : Nat} {S S1 S2 : St} {w0 w : World} {ω0 : Beg} {ω : Own?} {η : Env} {a : Act} {Q : Exit → Act → World → Prop} {ops : Array Oper} {rest : List Oper}
variable {t : Nat} {ty : TypeId} {ps : String} {af : Array Edge} {gd : Option (Nat × Bool)} {x y : Operand} {av : AV} {o : Oper}

/-- plain cells, of which a nil slice may be taken for an empty row -/
def celNew : Cel → Value → Prop
  | .v y, u => u = y
  | .r _ _ m vs, u => m = 0 ∧ vs = [] ∧ u = .slice none 0 0
  | .any, _ => True
def celK : Cel → Nat
  | .r _ k _ _ => k
  | _ => 1
theorem celNew.ok {own : Bool} {n : Nm} {j : Nat} {c : Cel} {u : Value} (hr : η.r n j = ⟨none, 0, celK c⟩) (h : celNew c u) : celOK η ω w true n j c u := by
  cases c with
  | v y => exact h
  | any => trivial
  | r F k m vs =>
    obtain ⟨rfl, rfl, rfl⟩ := h
    refine ⟨by simp, by rw [hr], by rw [hr]; rfl, ?_⟩
    rw [hr]
    exact .inl ⟨rfl, rfl, rfl⟩
theorem range3 (f : Nat → Value) : Array.map f (Array.range 3) = #[f 0, f 1, f 2] := by apply Array.ext'; simp [Array.toList_range, List.range_succ]
end
end Go.Proofs.Ytpognnifgcacnaa

/- Walks in names: shifts, bits, conversions between integers, three results. -/
namespace Go.Proofs.Ytpognnifgcacnaa
open Go.RowKit

section
variable {P : Program} {nt : Nat} {S : St} {t : Nat} {ty : TypeId} {ps : String} {af : Array Edge} {gd : Option (Nat × Bool)} {x y : Operand}
end
section
variable {P : Program} {w0 : World} {ω0 : Beg} {nt : Nat} {S : St}
end
end Go.Proofs.Ytpognnifgcacnaa

/- A memory of names: a region that draws its order and holds guards, walked once. No program in sight. -/
namespace Go.Proofs.Ytpognnifgcacnaa
open Go.RowKit

section
variable {P : Program} {nt : Nat} {w0 w : World} {ω0 : Beg} {S S1 : St} {Q : Exit → Act → World → Prop} {a : Act}
/-- an operation, run or passed over, as its guard says -/
inductive GSt (P : Program) (nt : Nat) (ops : Array Oper) (o : Oper) (S1 : St) (A : Add) : Prop where
  | run (hg : o.guard = none) (h : Stp P nt o S1 (S1.add A))
  | yes {j d : Nat} {want : Bool} (hg : o.guard = some (j, want)) (hj : (ops[j]?).bind (·.dst) = some d) (hb : S1.sl d = some (vv (.bool want))) (h : Stp P nt o S1 (S1.add A))
  | no {j d : Nat} {want : Bool} (hg : o.guard = some (j, want)) (hj : (ops[j]?).bind (·.dst) = some d) (hb : S1.sl d = some (vv (.bool (!want)))) (ht : o.dst = some A.t) (hn : Nat.blt A.t nt = true) (ha : A.av = vv undef) (hx : A.news = none)
/-- the operations, one behind the other in the text's order: each may look at what it depends on alone -/
inductive DrawG (P : Program) (nt : Nat) (ops0 : Array Oper) (S : St) (cls : List (List Nat)) (sk : List Nat) : List Oper → List Add → List Add → Prop where
  | nil {done : List Add} : DrawG P nt ops0 S cls sk [] done done
  | skip {o : Oper} {rest : List Oper} {done all : List Add} (A : Add) (hs : memN sk done.length = true) (k : DrawG P nt ops0 S cls sk rest (A :: done) all) : DrawG P nt ops0 S cls sk (o :: rest) done all
  | cons {o : Oper} {rest : List Oper} {done all : List Add} (A : Add)
      (h : ∀ S1, (S.partR (memN (cls.getD done.length [])) done).le S1 → GSt P nt ops0 o S1 A) (k : DrawG P nt ops0 S cls sk rest (A :: done) all) : DrawG P nt ops0 S cls sk (o :: rest) done all
theorem DrawG.spec {ops0 : Array Oper} {cls : List (List Nat)} {sk : List Nat} {ops : List Oper} {done all : List Add} (h : DrawG P nt ops0 S cls sk ops done all) : (∃ r, all.reverse = done.reverse ++ r ∧ r.length = ops.length) ∧ ∀ (i : Nat) (o : Oper), ops[i]? = some o → memN sk (done.length + i) = false →
    ∃ A, all.reverse[done.length + i]? = some A ∧ ∀ S1, (S.partR (memN (cls.getD (done.length + i) [])) (all.reverse.take (done.length + i)).reverse).le S1 → GSt P nt ops0 o S1 A := by
  induction h with
  | nil => exact ⟨⟨[], by simp⟩, fun i o h => by simp at h⟩
  | @skip o rest done all A hs k ih =>
    obtain ⟨⟨r, hr, hl⟩, h2⟩ := ih
    refine ⟨⟨A :: r, by rw [hr]; simp, by simp [hl]⟩, fun i o' hi hsk => ?_⟩
    cases i with
    | zero => rw [Nat.add_zero, hs] at hsk; cases hsk
    | succ i =>
      have e : (A :: done).length + i = done.length + (i + 1) := by simp; omega
      rw [← e] at hsk ⊢
      exact h2 i o' (by simpa using hi) hsk
  | @cons o rest done all A h k ih =>
    obtain ⟨⟨r, hr, hl⟩, h2⟩ := ih
    refine ⟨⟨A :: r, by rw [hr]; simp, by simp [hl]⟩, fun i o' hi hsk => ?_⟩
    cases i with
    | zero =>
      simp at hi; subst hi
      refine ⟨A, by rw [hr]; simp, fun S1 hS => h S1 ?_⟩
      have : (all.reverse.take (done.length + 0)).reverse = done := by rw [hr]; simp
      rw [this] at hS
      exact hS
    | succ i =>
      have e : (A :: done).length + i = done.length + (i + 1) := by simp; omega
      rw [← e] at hsk ⊢
      exact h2 i o' (by simpa using hi) hsk

theorem drawG_main {l : List Oper} {nA : Nat} {sk : List Nat} {cls : List (List Nat)} {ds nms : List Nat} {adds done : List Add} (hcl : ClsOK l.toArray nA sk cls) (hdr : DrawG P nt l.toArray (S.clear ds nms) cls sk (l.take nA) [] done) (hdn : done.reverse = adds) (ok : AddsOK adds cls ds nms)
    (hk : Rest P w0 ω0 nt l.toArray Q (l.length - missing sk #[] nA) (doneL nA sk l.length) ((S.clear ds nms).part (fun j => !memN sk j) adds)) :
    ∀ (d : Nat) (L : Array Bool) (a : Act) (w : World), missing sk L nA = d → L.size = l.length → (∀ j, L.getD j false = true → j < nA ∧ memN sk j = false) → (∀ i, L.getD i false = true → ∀ j ∈ cls.getD i [], L.getD j false = true) →
      Sat w0 ω0 nt ((S.clear ds nms).part (fun j => L.getD j false) adds) a w → wpAny P .any l.toArray Q (l.length - missing sk #[] nA + d) L a w := by
  have hsz : nA ≤ l.length := by have := hcl.size; simpa using this
  obtain ⟨⟨r, hr, hrl⟩, hob⟩ := hdr.spec
  rw [hdn] at hr hob
  have hal : adds.length = nA := by rw [hr]; simp [hrl]; omega
  have hfull : ∀ (L : Array Bool) (i : Nat), i ∈ Region.ready .any l.toArray L → (∀ i, L.getD i false = true → ∀ j ∈ cls.getD i [], L.getD j false = true) → (∃ o, l.toArray[i]? = some o ∧ L.getD i true = false) ∧ ∀ j ∈ cls.getD i [], L.getD j false = true := by
    intro L i hi hclosed
    obtain ⟨h0, o, ho, he⟩ := mem_ready.1 hi
    refine ⟨⟨o, ho, h0⟩, fun j hj => ?_⟩
    obtain ⟨e, hem, hb, hje⟩ := hcl.dep i o ho j hj
    have h1 := he e hem hb
    rcases hje with rfl | hje
    · exact h1
    · exact hclosed e.on h1 j hje
  intro d
  induction d with
  | zero =>
    intro L a w hm hs hsub hclosed hsat
    have hall := missing_zero hm
    have hL : L = doneL nA sk l.length := by
      apply Array.ext
      · simp [hs, doneL]
      · intro j h1 h2
        have h3 : L[j]? = some L[j] := Array.getElem?_eq_getElem h1
        have h4 := doneL_at (nA := nA) (sk := sk) (n := l.length) (j := j) (by omega)
        rw [Array.getElem?_eq_getElem h2] at h4
        rw [Option.some.inj h4]
        cases hb : L[j] with
        | true =>
          have := hsub j (by simp [h1, hb])
          simp [this.1, this.2]
        | false =>
          by_cases hj : j < nA
          · cases hsk : memN sk j with
            | true => simp
            | false =>
              have := hall j hj hsk
              simp [h1, hb] at this
          · simp [hj]
    refine hk.go a w ((St.le.wk (part_le (ℓ1 := fun j => !memN sk j) (ℓ2 := fun j => L.getD j false) ok (fun _ _ h => h) fun j A hj hsk => ?_) fun _ _ h => h).go _ _ _ a w hsat) |> fun h => by rw [← hL] at h; exact h
    have hjl : j < adds.length := (List.getElem?_eq_some_iff.1 hj).1
    exact hall j (by omega) (by simpa using hsk)
  | succ d ih =>
    intro L a w hm hs hsub hclosed hsat
    refine ⟨fun hnil => ?_, fun i hi => ?_⟩
    · exfalso
      obtain ⟨j, hj, hjs', hjf, hlo⟩ := missing_least (k := nA) (by omega : missing sk L nA ≠ 0)
      have hjl : j < l.length := by omega
      have hjs : j < L.size := by omega
      have : j ∈ Region.ready .any l.toArray L := by
        refine mem_ready.2 ⟨?_, l[j], by simp [hjl], fun e he hb => ?_⟩
        · simp [hjs] at hjf ⊢
          exact hjf
        · have h5 := hcl.less j l[j] (by simp [hjl]) hj hjs' e he hb
          exact hlo e.on h5.1 h5.2
      rw [hnil] at this; cases this
    · obtain ⟨⟨o, ho, hi0⟩, hdep⟩ := hfull L i hi hclosed
      have hil : i < l.length := by have := (Array.getElem?_eq_some_iff.1 ho).1; simpa using this
      have his : i < L.size := by omega
      have hif : L.getD i false = false := by simp [his] at hi0 ⊢; exact hi0
      have hnl : ¬ (nA ≤ i ∨ memN sk i = true) := fun h => by
        have := missing_full (sk := sk) (L := L) (k := nA) fun j hj hsk => hdep j (hcl.late i o ho h j hj hsk)
        omega
      have hiA : i < nA := by
        rcases Nat.lt_or_ge i nA with h | h
        · exact h
        · exact absurd (.inl h) hnl
      have hisk : memN sk i = false := by
        cases hsk : memN sk i with
        | false => rfl
        | true => exact absurd (.inr hsk) hnl
      have hot : (l.take nA)[i]? = some o := by rw [List.getElem?_take, if_pos hiA]; simpa using ho
      obtain ⟨A, hA, hstp⟩ := hob i o hot (by simpa using hisk)
      simp only [List.length_nil, Nat.zero_add] at hA hstp
      have hle : ((S.clear ds nms).partR (memN (cls.getD i [])) (adds.take i).reverse).le ((S.clear ds nms).part (fun j => L.getD j false) adds) := partR_le ok (fun j B hj => by
          rw [List.reverse_reverse] at hj
          rw [List.getElem?_take] at hj; split at hj
          · exact hj
          · cases hj) fun j B _ hj => hdep j (memN_iff.1 hj)
      have cont : ∀ a' w', Sat w0 ω0 nt (((S.clear ds nms).part (fun j => L.getD j false) adds).add A) a' w' → wpAny P .any l.toArray Q (l.length - missing sk #[] nA + d) (L.setIfInBounds i true) a' w' := fun a' w' hsat' => by
        have hsat2 := (wk_add ok hA hif fun j hj hm' => by have := hclosed j hj i hm'; rw [hif] at this; cases this).go _ _ _ a' w' hsat'
        have hnew : ∀ j, (L.setIfInBounds i true).getD j false = (Nat.beq j i || L.getD j false) := fun j => by
          by_cases e : j = i
          · subst e; simp [his]
          · rw [getD_set_ne false (fun e' => e e'.symm), beq_ne e, Bool.false_or]
        refine ih (L.setIfInBounds i true) a' w' ?_ (by simp [hs]) (fun j hj => ?_) (fun j hj k hk' => ?_) ?_
        · have := missing_set his hif hisk nA hiA; omega
        · rw [hnew] at hj
          by_cases e : j = i
          · rw [e]; exact ⟨hiA, hisk⟩
          · rw [beq_ne e, Bool.false_or] at hj; exact hsub j hj
        · rw [hnew] at hj ⊢
          by_cases e : j = i
          · subst e; rw [hdep k hk']; simp
          · rw [beq_ne e, Bool.false_or] at hj; rw [hclosed j hj k hk']; simp
        · have : (fun j => (L.setIfInBounds i true).getD j false) = fun j => (Nat.beq j i || L.getD j false) := funext hnew
          rw [this]; exact hsat2
      have hy : ∀ {j dd : Nat} {b : Bool}, (l.toArray[j]?).bind (·.dst) = some dd → ((S.clear ds nms).part (fun j => L.getD j false) adds).sl dd = some (vv (.bool b)) → yielded l.toArray a.tmps j = some b := fun {j dd b} hj hb => by
        obtain ⟨η, ω, hs⟩ := hsat
        obtain ⟨u, k1, k2⟩ := hs.slots dd _ hb
        have k2 : u = .bool b := k2
        subst k2
        unfold yielded
        cases hoj : l.toArray[j]? with
        | none => rw [hoj] at hj; cases hj
        | some oj =>
          rw [hoj] at hj
          simp only [Option.bind_some] at hj
          simp [hj, k1]
      unfold wpOp
      simp only [ho]
      cases hstp _ hle with
      | run hg h =>
        rw [if_pos (by simp [Region.wanted, hg])]
        exact .inl (Oper.wp_mono (fun a' w' hsat' => cont a' w' hsat') (h.go w0 ω0 a w Q hsat))
      | yes hg hj hb h =>
        rw [if_pos (by simp [Region.wanted, hg, hy hj hb])]
        exact .inl (Oper.wp_mono (fun a' w' hsat' => cont a' w' hsat') (h.go w0 ω0 a w Q hsat))
      | @no j dd want hg hj hb ht hn ha hx =>
        rw [if_neg (by simp [Region.wanted, hg, hy hj hb])]
        refine cont _ _ ?_
        obtain ⟨η, ω, hs⟩ := hsat
        refine ⟨η, ω, ?_⟩
        have e : ((S.clear ds nms).part (fun j => L.getD j false) adds).add A = ((S.clear ds nms).part (fun j => L.getD j false) adds).put A.t (vv undef) := by unfold St.add; rw [hx, ha]; rfl
        rw [e, ht]
        exact hs.putV (by simpa using hn) rfl

theorem goes_drawG {id : Nat} {l : List Oper} (nA : Nat) (sk : List Nat) (cls : List (List Nat)) (ds nms : List Nat) {done : List Add} (hm : P.follows .mixedOrders = true) (hcl : clsB l.toArray nA sk cls = true) (hdr : DrawG P nt l.toArray (S.clear ds nms) cls sk (l.take nA) [] done) (ok : addsB done.reverse cls ds nms = true)
    (hk : Rest P w0 ω0 nt l.toArray Q (l.length - missing sk #[] nA) (doneL nA sk l.length) ((S.clear ds nms).partR (fun j => !memN sk j) done)) : Goes P w0 ω0 nt S (.region id l.toArray true) Q := by
  have hc := clsB_spec hcl
  have hsz : nA ≤ l.length := by have := hc.size; simpa using this
  have hk' : Rest P w0 ω0 nt l.toArray Q (l.length - missing sk #[] nA) (doneL nA sk l.length) ((S.clear ds nms).part (fun j => !memN sk j) done.reverse) :=
    ⟨fun a w hs => hk.go a w ((St.le.wk (partR_le (addsB_spec ok) (fun _ _ h => h) fun _ _ _ h => h) fun _ _ h => h).go _ _ _ a w hs)⟩
  have hle : ∀ k, missing sk #[] k ≤ k := fun k => by
    induction k with
    | zero => exact Nat.le_refl _
    | succ k ih => simp only [missing]; split <;> omega
  refine ⟨fun a w hs => wp_region_any hm ?_⟩
  have hfin := drawG_main hc hdr rfl (addsB_spec ok) hk' (missing sk #[] nA) (Array.replicate l.length false) a { w with drawn := w.drawn + 1 } ?_ (by simp) (fun j hj => ?_) (fun i hi => ?_) ?_
  · have := hle nA
    rw [show l.length - missing sk #[] nA + missing sk #[] nA = l.length by omega] at hfin
    simpa using hfin
  · have : ∀ k, k ≤ l.length → missing sk (Array.replicate l.length false) k = missing sk #[] k := fun k => by
      induction k with
      | zero => intro _; rfl
      | succ k ih =>
        intro hk
        simp only [missing]
        rw [ih (by omega)]
        have : (Array.replicate l.length false).getD k false = false := by simp [show k < l.length by omega]
        rw [this]; rfl
    exact this nA hsz
  · exfalso
    by_cases h : j < l.length
    · simp [h] at hj
    · simp [h] at hj
  · exfalso
    by_cases h : i < l.length
    · simp [h] at hi
    · simp [h] at hi
  · have h1 := (wk_clear S ds nms).go _ _ _ a _ (sat_drew hs)
    have hf : ∀ j, (Array.replicate l.length false).getD j false = false := fun j => by
      by_cases h : j < l.length <;> simp [h]
    refine (Wk.less (S := S.clear ds nms) (S' := (S.clear ds nms).part (fun j => (Array.replicate l.length false).getD j false) done.reverse) (fun t av h => ?_) (fun x c h => ?_) fun _ _ h => h).go _ _ _ a _ h1
    · have h : (match lkT (fun j => (Array.replicate l.length false).getD j false) 0 done.reverse t with | some av => some av | none => (S.clear ds nms).sl t) = some av := h
      split at h
      · rename_i av' h2
        obtain ⟨j, A, _, h3, _⟩ := lkT_some h2
        rw [hf] at h3; cases h3
      · exact h
    · have h : (match lkN (fun j => (Array.replicate l.length false).getD j false) 0 done.reverse x with | some c => some c | none => (S.clear ds nms).ch x) = some c := h
      split at h
      · rename_i av' h2
        obtain ⟨j, A, _, h3, _⟩ := lkN_some h2
        rw [hf] at h3; cases h3
      · exact h

end
section
variable {P : Program} {nt : Nat} {S : St} {cls : List (List Nat)} {sk : List Nat} {o : Oper} {rest : List Oper} {done all : List Add} {ops0 : Array Oper} {t : Nat} {ty : TypeId} {ps : String} {af : Array Edge} {gd : Option (Nat × Bool)} {x y : Operand}
theorem drawG_put {t : Nat} {av : AV} (hg : o.guard = none) (h : ∀ S1, (S.partR (memN (cls.getD done.length [])) done).le S1 → Stp P nt o S1 (S1.put t av)) (k : DrawG P nt ops0 S cls sk rest (⟨t, av, none⟩ :: done) all) : DrawG P nt ops0 S cls sk (o :: rest) done all := .cons ⟨t, av, none⟩ (fun S1 hS => .run hg (h S1 hS)) k
theorem drawG_yes {t j d : Nat} {want : Bool} {av : AV} (hg : o.guard = some (j, want)) (hj : (ops0[j]?).bind (·.dst) = some d) (hb : (S.partR (memN (cls.getD done.length [])) done).sl d = some (vv (.bool want))) (h : ∀ S1, (S.partR (memN (cls.getD done.length [])) done).le S1 → Stp P nt o S1 (S1.put t av)) (k : DrawG P nt ops0 S cls sk rest (⟨t, av, none⟩ :: done) all) : DrawG P nt ops0 S cls sk (o :: rest) done all := .cons ⟨t, av, none⟩ (fun S1 hS => .yes hg hj (hS.sl _ _ hb) (h S1 hS)) k
theorem drawG_no {t j d : Nat} {want : Bool} (hg : o.guard = some (j, want)) (hj : (ops0[j]?).bind (·.dst) = some d) (hb : (S.partR (memN (cls.getD done.length [])) done).sl d = some (vv (.bool (!want)))) (ht : o.dst = some t) (hn : Nat.blt t nt = true) (k : DrawG P nt ops0 S cls sk rest (⟨t, vv undef, none⟩ :: done) all) : DrawG P nt ops0 S cls sk (o :: rest) done all := .cons ⟨t, vv undef, none⟩ (fun S1 hS => .no hg hj (hS.sl _ _ hb) ht hn rfl rfl) k
end
end Go.Proofs.Ytpognnifgcacnaa

/- Lists of points and of marks; lists that lead points. No program in sight. -/
namespace Go.Proofs.Ytpognnifgcacnaa

theorem iget_app_lt {zs : List Int} {z : Int} {j : Nat} (h : j < zs.length) : iget (zs ++ [z]) j = iget zs j := by
  simp [iget, List.getElem?_append_left h]
theorem iget_app_eq {zs : List Int} {z : Int} : iget (zs ++ [z]) zs.length = z := by simp [iget]
theorem lget_app_lt {zss : List (List Int)} {z : List Int} {j : Nat} (h : j < zss.length) : lget (zss ++ [z]) j = lget zss j := by
  simp [lget, List.getElem?_append_left h]
theorem lget_app_eq {zss : List (List Int)} {z : List Int} : lget (zss ++ [z]) zss.length = z := by simp [lget]
theorem iget_rep {n j : Nat} {z : Int} (h : j < n) : iget (List.replicate n z) j = z := by simp [iget, h]

/-- where a word leads a point -/
def leadL (qs : List (List Int)) (c : Int) (w : List Int) : Int := w.foldl (fun c g => iget (lget qs g.toNat) c.toNat) c
/-- each list holds m points, each leads within them -/
structure Leads (qs : List (List Int)) (m : Nat) : Prop where
  len : ∀ k, k < qs.length → (lget qs k).length = m
  within : ∀ k, k < qs.length → ∀ x, x < m → 0 ≤ iget (lget qs k) x ∧ iget (lget qs k) x < m
theorem Leads.lead {qs : List (List Int)} {m : Nat} (h : Leads qs m) {c : Int} (hc : 0 ≤ c ∧ c < m) {w : List Int} (hw : ∀ z ∈ w, 0 ≤ z ∧ z < qs.length) : 0 ≤ leadL qs c w ∧ leadL qs c w < m := by
  induction w generalizing c with
  | nil => exact hc
  | cons g r ih =>
    have h1 := hw g (List.mem_cons_self ..)
    have h2 := h.within g.toNat (by omega) c.toNat (by omega)
    exact ih h2 fun z hz => hw z (List.mem_cons_of_mem _ hz)

def bat (bs : List Bool) (k : Nat) : Bool := bs.getD k false
theorem bat_set {bs : List Bool} {i j : Nat} {b : Bool} : bat (bs.set i b) j = if i = j ∧ i < bs.length then b else bat bs j := by
  simp only [bat, List.getD_eq_getElem?_getD, List.getElem?_set]
  by_cases h : i = j
  · subst h
    by_cases h2 : i < bs.length
    · simp [h2]
    · simp [h2]
  · simp [h]
def bcnt (bs : List Bool) : Nat := (bs.filter fun b => b).length
theorem bcnt_le (bs : List Bool) : bcnt bs ≤ bs.length := List.length_filter_le _ _
theorem bcnt_set : ∀ (l : List Bool) (d : Nat), d < l.length → bat l d = false → bcnt (l.set d true) = bcnt l + 1
  | [], d, h, _ => by simp at h
  | x :: r, 0, _, h => by
    have h : x = false := by simpa [bat] using h
    simp [bcnt, h]
  | x :: r, d + 1, hd, h => by
    have ih := bcnt_set r d (by simpa using hd) (by simpa [bat] using h)
    unfold bcnt at ih ⊢
    simp only [List.set_cons_succ, List.filter_cons]
    split
    · simp only [List.length_cons]; omega
    · exact ih
def bTo (T : List (List Int)) (c g : Nat) : Nat := (iget (lget T g) c).toNat
theorem bTo_lt {T : List (List Int)} {n : Nat} (hT : Leads T n) {c g : Nat} (hc : c < n) (hg : g < T.length) : bTo T c g < n ∧ iget (lget T g) c = (bTo T c g : Int) := by
  have := hT.within g hg c hc
  unfold bTo; omega
def bvals (bs : List Bool) : List Value := bs.map Value.bool
theorem bvals_len (bs : List Bool) : (bvals bs).length = bs.length := by simp [bvals]
theorem bvals_get {bs : List Bool} {k : Nat} (h : k < bs.length) : (bvals bs)[k]? = some (.bool (bat bs k)) := by simp [bvals, bat, h]
theorem bvals_set (bs : List Bool) (k : Nat) (b : Bool) : (bvals bs).set k (.bool b) = bvals (bs.set k b) := by simp [bvals, List.map_set]
theorem bvals_rep (n : Nat) : bvals (List.replicate n false) = List.replicate n (.bool false) := by simp [bvals]
end Go.Proofs.Ytpognnifgcacnaa

/- Chunks of the everyday kinds. -/
namespace Go.Proofs.Ytpognnifgcacnaa
open Go.RowKit

abbrev imOw (im : List (List Int)) : Ch := ⟨true, 49, 1, .rows 2 (irows im) []⟩
abbrev leOw (less : List Int) : Ch := ⟨true, 2, 1, .vals (ivals less)⟩
abbrev rowsRo (wss : List (List Int)) : Ch := ⟨false, 49, 1, .rows 2 (irows wss) []⟩
abbrev boOw (bs : List Bool) : Ch := ⟨true, 4, 1, .vals (bvals bs)⟩
section
variable {P : Program} {nt : Nat} {S : St} {t : Nat} {ty : TypeId} {ps : String} {af : Array Edge} {gd : Option (Nat × Bool)} {x y : Operand}
theorem stp_makeB {T E n : Nat} {l c : Operand} {kl kc : IntKind} {L C : Int} (ht : Nat.blt t nt = true) (hT : elZ P T E 1 = true) (hz : (P.info? E).bind (·.zero) = some (.bool false)) (hl : S.op l = some (vv (.int kl L))) (hc : S.op c = some (vv (.int kc C)))
    (hL : L = (n : Int)) (hC : C = (n : Int)) (hn : n ≤ 2199023255552) : Stp P nt ⟨some t, .makeSlice T l c, ty, ps, af, gd⟩ S ((S.new t ⟨true, E, 1, .vals (bvals (List.replicate n false))⟩).put t (o1 (.sl t 0 n))) := by
  rw [bvals_rep]
  exact stp_make (ts := #[]) ht hT hz hl hc hL hC hn rfl
theorem stp_stB {T : TypeId} {n : Nm} {i : Nat} {c : Ch} {bs : List Bool} {b : Bool} (hx : S.op x = some (o1 (.ptr n i))) (hy : S.op y = some (vv (.bool b))) (hc : S.ch n = some c) (hown : c.own = true) (hd : c.d = .vals (bvals bs)) (hi : i < bs.length) (hT : sizeB P T 1 = true) :
    Stp P nt ⟨none, .store T x y, ty, ps, af, gd⟩ S (S.set n { c with d := .vals (bvals (bs.set i b)) }) := by
  have := stp_storeV (P := P) (nt := nt) (ty := ty) (ps := ps) (af := af) (gd := gd) hx hy hc hown hd (by rw [bvals_len]; exact hi) hT rfl
  rwa [bvals_set] at this
end
end Go.Proofs.Ytpognnifgcacnaa

/- A memory of names: rows as words; vectors cut short. No program in sight. -/
namespace Go.Proofs.Ytpognnifgcacnaa
open Go.RowKit

section
variable {η : Env} {ω : Own?} {w : World} {ins : List (Nm × Ch)}
theorem rdRow {x i : Nat} {own : Bool} {E F : Nat} {zss : List (List Int)} {v : Value} (hm : Mem η ω w (fun x => lk x ins)) (hx : lk x ins = some ⟨own, E, 1, .rows F (irows zss) []⟩) (hi : i < zss.length) (hv : Den1 η (.esl x i 0 (lget zss i).length) v) (hn : (lget zss i).length ≤ 17592186044416) :
    ∃ ao c, v = .slice ao (lget zss i).length c ∧ Ints w ao (lget zss i).length (lget zss i) := by
  obtain ⟨h, h1, h2, h3⟩ := hm.1 x _ hx
  obtain ⟨ao, rfl, h4, _⟩ := hv.2 h h1
  have h3 : Vec own ω w (x, none) h E (irows zss).length (cellsOK η ω w own x (.rows F (irows zss) [])) := h3
  obtain ⟨b', o', u', g1, g2, g3, g4⟩ := h3.get (j := i) (by rw [irows_len]; exact hi)
  obtain ⟨k1, k2, k3⟩ := g4 (by simp) (ivals (lget zss i)) (irows_get hi)
  rw [h4 rfl]
  refine ⟨_, _, rfl, rfl, hn, fun h0 => ?_⟩
  obtain ⟨b2, o2, u2, m1, _, _⟩ := k3.get (j := 0) (by rw [ivals_len]; exact h0)
  refine ⟨b2, o2, m1, fun j hj => ?_⟩
  obtain ⟨b3, o3, u3, n1, n2, n3⟩ := k3.get (j := j) (by rw [ivals_len]; exact hj)
  rw [m1] at n1; injection n1 with n1; injection n1 with n1 n1'; subst n1 n1'
  rw [ivals_get hj] at n3
  rw [n2, ← n3]
end
section
variable {P : Program} {nt : Nat} {S : St} {t : Nat} {ty : TypeId} {ps : String} {af : Array Edge} {gd : Option (Nat × Bool)} {x y : Operand}
/-- of a vector of the call's own only the front is remembered -/
theorem wk_cut {n : Nm} {E k m : Nat} {vs : List Value} (hc : S.ch n = some ⟨true, E, k, .vals vs⟩) (hm : m ≤ vs.length) : Wk S (S.set n ⟨true, E, k, .vals (vs.take m)⟩) := by
  refine ⟨fun w0 ω0 nt a w ⟨η, ω, h⟩ => ?_⟩
  obtain ⟨hd, e1, e2, e3⟩ := h.chunk hc
  have e3 : VecO ω w (n, none) hd E vs.length (cellsOK η ω w true n (.vals vs)) := e3
  refine ⟨η, ω, h.write e1 (Calm.refl _ _ _) ⟨e2, ?_⟩⟩
  show VecO ω w (n, none) hd E (vs.take m).length _
  have hl : (vs.take m).length = m := by rw [List.length_take]; omega
  rw [hl]
  rcases e3 with ⟨h1, h2, h3⟩ | ⟨b, o, cs, h1, h2, h3, h4, h5, h6, h7⟩
  · exact .inl ⟨h1, h2, by omega⟩
  · refine .inr ⟨b, o, cs, h1, h2, h3, h4, by omega, h6, fun j hj => ?_⟩
    obtain ⟨u, hu, hk⟩ := h7 j (by omega)
    refine ⟨u, hu, ?_⟩
    have hk : vs[j]? = some u := hk
    show (vs.take m)[j]? = some u
    rw [List.getElem?_take, if_pos hj]; exact hk
/-- an index into a part of a vector -/
theorem stp_ixO {T : TypeId} {n : Nm} {off len j : Nat} {c : Ch} {ki : IntKind} {i : Int} (ht : Nat.blt t nt = true) (hx : S.op x = some (o1 (.sl n off len))) (hy : S.op y = some (vv (.int ki i))) (hc : S.ch n = some c) (hk : c.k = 1) (hT : elemB P T 1 = true)
    (hi : i = (j : Int)) (hj : j < len) (hl : off + len ≤ c.d.len) : Stp P nt ⟨some t, .indexAddr T x y, ty, ps, af, gd⟩ S (S.put t (o1 (.ptr n (off + j)))) := by
  have := stp_indexAddr (P := P) (nt := nt) (t := t) (ty := ty) (ps := ps) (af := af) (gd := gd) (k := 1) ht hx hy hc hk hT hi hj (by rw [Nat.mul_one]; exact hl) (by omega)
  rwa [Nat.mul_one] at this
theorem stp_ixK {T : TypeId} {n : Nm} {off len j K : Nat} {c : Ch} {ki : IntKind} {i : Int} (ht : Nat.blt t nt = true) (hx : S.op x = some (o1 (.sl n off len))) (hy : S.op y = some (vv (.int ki i))) (hc : S.ch n = some c) (hk : c.k = 1) (hT : elemB P T 1 = true)
    (hi : i = (j : Int)) (hj : j < len) (hl : off + len ≤ c.d.len) (hK : off + j = K) : Stp P nt ⟨some t, .indexAddr T x y, ty, ps, af, gd⟩ S (S.put t (o1 (.ptr n K))) := by
  subst hK; exact stp_ixO ht hx hy hc hk hT hi hj hl
theorem stp_minN {ts : Array TypeId} {m n : Nat} (ht : Nat.blt t nt = true) (hx : S.op x = some (vv (I6 (m : Int)))) (hy : S.op y = some (vv (I6 (n : Int)))) :
    Stp P nt ⟨some t, .call { callee := .builtin .min, args := #[x, y], argTypes := ts }, ty, ps, af, gd⟩ S (S.put t (vv (I6 ((min m n : Nat) : Int)))) := by
  have := stp_min (P := P) (nt := nt) (ty := ty) (ps := ps) (af := af) (gd := gd) (ts := ts) ht hx hy
  rwa [show (if (n : Int) < m then (n : Int) else m) = ((min m n : Nat) : Int) by split <;> omega] at this
end
end Go.Proofs.Ytpognnifgcacnaa

/- From contracts in names to contracts in words: the doors of the functions that the laws call. -/
namespace Go.Proofs.Ytpognnifgcacnaa
open Go.RowKit

def Fit (zss : List (List Int)) : Prop := zss.length ≤ 4398046511104 ∧ ∀ zs ∈ zss, zs.length ≤ 4398046511104
theorem fit_of {E1 E : Nat} {w : World} {lo hi : Nat} {v : Value} {zss : List (List Int)} (h : OwSS E1 E w lo hi v zss) : Fit zss := by
  obtain ⟨ao, n, c, us, rfl, ho⟩ := h
  refine ⟨by have := ho.own.2; have := ho.len; omega, fun zs hz => ?_⟩
  obtain ⟨j, hj, rfl⟩ := List.getElem_of_mem hz
  obtain ⟨u, d, hu, hd, ⟨a', n', c', rfl, h1⟩, _⟩ := ho.get (j := j) (by have := ho.len; omega)
  rw [List.getElem?_eq_getElem hj] at hd
  have := h1.len
  have h2 := h1.2
  rw [Option.some.inj hd]
  simp at this; omega
theorem denL1 {η : Env} {a : AV} {u : Value} (h : Den η a u) : DenL η [a] [u] := ⟨rfl, fun j av hj => by
  match j, hj with
  | 0, hj => simp at hj; subst hj; exact ⟨u, rfl, h⟩⟩
theorem denL2 {η : Env} {a b : AV} {u v : Value} (h : Den η a u) (h' : Den η b v) : DenL η [a, b] [u, v] := ⟨rfl, fun j av hj => by
  match j, hj with
  | 0, hj => simp at hj; subst hj; exact ⟨u, rfl, h⟩
  | 1, hj => simp at hj; subst hj; exact ⟨v, rfl, h'⟩⟩
theorem den_tup2 {η : Env} {a b : A2} {v : Value} (h : Den η (.tup [a, b]) v) : ∃ u u', v = .tuple #[u, u'] ∧ Den2 η a u ∧ Den2 η b u' := by
  obtain ⟨us, rfl, hl, ha⟩ := h
  obtain ⟨u0, g0, d0⟩ := ha 0 _ rfl
  obtain ⟨u1, g1, d1⟩ := ha 1 _ rfl
  refine ⟨u0, u1, ?_, d0, d1⟩
  match us, hl with
  | ⟨[p, q]⟩, _ => simp at g0 g1; rw [g0, g1]
theorem one_val {P : Program} {f : FuncId} {args : Array Value} {w : World} {a : Value} {outs : List (Nm × Ch)} (h : Calls P f args w fun e w' => ∃ v η ω, e = .returned v ∧ Den η (vv a) v ∧ Mem η ω w' (fun x => lk x outs) ∧ Below w.heap.size w w' ∧ ∀ b, b < w.heap.size → ω b = none) :
    Calls P f args w fun e w' => e = .returned a ∧ Below w.heap.size w w' := by
  refine h.mono ?_
  rintro e w' ⟨v, η, ω, rfl, hd, _, hb, _⟩
  have hd : v = a := hd
  subst hd
  exact ⟨rfl, hb⟩
/-- a maniplex -/
abbrev mA (R : Nat) : AV := .s (.agg [.sl 1003 0 R])
theorem ofM {E1 E : Nat} {w : World} {lo hi : Nat} {v : Value} {d : List (List Int)} (h : OwM E1 E w lo hi v d) : ∃ u, v = .agg #[u] ∧ OwSS E1 E w lo hi u d := by
  obtain ⟨ao, n, c, us, rfl, ho⟩ := h
  exact ⟨_, rfl, _, _, _, us, rfl, ho⟩
theorem denM {η : Env} {R : Nat} {u : Value} (h : Den1 η (.sl 1003 0 R) u) : Den η (mA R) (.agg #[u]) := ⟨_, rfl, rfl, fun j b hb => by
  match j, hb with
  | 0, hb => simp at hb; subst hb; exact ⟨_, by simp, h⟩⟩
theorem callM {f : FuncId} {outs : List (Nm × Ch)} {res : AV} {d : List (List Int)} (hf : Fit d → FC Try.prog f [(1003, rowsRo d)] [mA d.length] outs res []) {E1 E : Nat} {w : World} {lo hi : Nat} {v : Value} (h : OwM E1 E w lo hi v d) :
    Calls Try.prog f #[v] w fun e w' => ∃ v η ω, e = .returned v ∧ Den η res v ∧ Mem η ω w' (fun x => lk x outs) ∧ Below w.heap.size w w' ∧ ∀ b, b < w.heap.size → ω b = none := by
  obtain ⟨u, rfl, hs⟩ := ofM h
  obtain ⟨hd, r, rfl, hv⟩ := ofSS 1003 49 2 hs
  exact (hf (fit_of hs)).call (l := [(1003, (rowsRo d, hd, r))]) (us := [_]) (fun p hp => by simp at hp; subst hp; exact hv) rfl (denL1 (denM (den_sl (q := (rowsRo d, hd, r)) rfl)))
end Go.Proofs.Ytpognnifgcacnaa

/- Lists of lists that are read, whatever shares their rows: from words to names. -/
namespace Go.Proofs.Ytpognnifgcacnaa
open Go.RowKit

/-- v is a slice that reads as lists of integers, each within its capacity -/
def RdSSc (w : World) (v : Value) (zss : List (List Int)) : Prop := ∃ ao c, v = .slice ao zss.length c ∧ zss.length ≤ 17592186044416 ∧ (0 < zss.length → zss.length ≤ c ∧ ∃ b off, ao = some ⟨b, off, none⟩ ∧ b < w.heap.size ∧
  ∀ j, j < zss.length → ∃ a' c', w.cell? ⟨b, off + j, none⟩ = some (.slice a' (lget zss j).length c') ∧ (lget zss j).length ≤ c' ∧ Ints w a' (lget zss j).length (lget zss j))
theorem RdSSc.rd {w : World} {v : Value} {zss : List (List Int)} (h : RdSSc w v zss) : RdSS w v zss := by
  obtain ⟨ao, c, rfl, hn, hc⟩ := h
  refine ⟨ao, _, c, rfl, rfl, hn, fun h0 => ?_⟩
  obtain ⟨_, b, off, e, _, h1⟩ := hc h0
  refine ⟨b, off, e, fun j hj => ?_⟩
  obtain ⟨a', c', h2, _, h3⟩ := h1 j hj
  exact ⟨_, h2, a', _, c', rfl, h3⟩
theorem RdSSc.below {w w' : World} {v : Value} {zss : List (List Int)} (h : RdSSc w v zss) (hb : Below w.heap.size w w') : RdSSc w' v zss := by
  obtain ⟨ao, c, rfl, hn, hc⟩ := h
  refine ⟨ao, c, rfl, hn, fun h0 => ?_⟩
  obtain ⟨h1, b, off, e, hlt, h2⟩ := hc h0
  refine ⟨h1, b, off, e, Nat.lt_of_lt_of_le hlt hb.size, fun j hj => ?_⟩
  obtain ⟨a', c', h3, h4, h5⟩ := h2 j hj
  exact ⟨a', c', (hb.cell (p := ⟨b, off + j, none⟩) hlt).trans h3, h4, h5.below hb⟩
theorem RdSSc.drewN {w : World} {v : Value} {zss : List (List Int)} (h : RdSSc w v zss) (m : Nat) : RdSSc (w.drewN m) v zss := h
theorem OwSS.rdc {E1 E : Nat} {w : World} {lo hi : Nat} {v : Value} {zss : List (List Int)} (h : OwSS E1 E w lo hi v zss) : RdSSc w v zss := by
  obtain ⟨ao, n, c, us, rfl, ho⟩ := h
  have hl := ho.len
  subst hl
  refine ⟨ao, c, rfl, by have := ho.own.2; omega, fun h0 => ?_⟩
  obtain ⟨g, rfl, _, hlt, hc, hcell, _⟩ := ho.own.form h0
  refine ⟨hc, g, 0, rfl, hlt, fun j hj => ?_⟩
  obtain ⟨u, d, hu, hd, ⟨a', n', c', rfl, h1⟩, _⟩ := ho.get hj
  have hd' : lget zss j = d := lget_get? hd
  rw [hd']
  have hl := h1.len
  rw [List.length_map] at hl
  subst hl
  refine ⟨a', c', by rw [Nat.zero_add, hcell j hj, hu], ?_, h1.ints⟩
  rcases Nat.eq_zero_or_pos d.length with h2 | h2
  · omega
  · obtain ⟨_, _, _, _, h3, _⟩ := h1.form h2; exact h3
theorem ofSSc {w : World} {v : Value} {zss : List (List Int)} (x E' E1' : Nat) (h : RdSSc w v zss) : ∃ hd r, v = .slice hd.ao zss.length hd.c ∧ Hv w x ⟨false, E', 1, .rows E1' (irows zss) []⟩ hd r := by
  obtain ⟨ao, c, rfl, hn, hc⟩ := h
  rcases Nat.eq_zero_or_pos zss.length with h0 | h0
  · refine ⟨⟨ao, c, 1⟩, fun _ => ⟨none, 0, 1⟩, rfl, fun η he => ⟨rfl, ?_, fun j hj => ?_⟩⟩
    · show (irows zss).length ≤ c * 1
      rw [irows_len]; omega
    · have hj : j < (irows zss).length := hj
      rw [irows_len] at hj; omega
  · obtain ⟨h1, b, off, rfl, hlt, h2⟩ := hc h0
    have hr : ∀ j, ∃ q : Hd, q.k = 1 ∧ (j < zss.length → w.cell? ⟨b, off + j, none⟩ = some (.slice q.ao (lget zss j).length q.c) ∧ VecR noOwn w q (ivals (lget zss j)).length fun i u => (ivals (lget zss j))[i]? = some u) := fun j => by
      by_cases hj : j < zss.length
      · obtain ⟨a', c', h3, h4, h5⟩ := h2 j hj
        refine ⟨⟨a', c', 1⟩, rfl, fun _ => ⟨h3, by rw [ivals_len]; show _ ≤ c' * 1; omega, fun i hi => ?_⟩⟩
        rw [ivals_len] at hi
        obtain ⟨b', o', e', hb', hcell⟩ := h5.all_ (by omega)
        exact ⟨b', o', I6 (iget (lget zss j) i), e', rfl, hb', hcell i hi, ivals_get hi⟩
      · exact ⟨⟨none, 0, 1⟩, rfl, fun h => absurd h hj⟩
    refine ⟨⟨some ⟨b, off, none⟩, c, 1⟩, fun j => Classical.choose (hr j), rfl, fun η he => ⟨rfl, ?_, fun j hj => ?_⟩⟩
    · show (irows zss).length ≤ c * 1
      rw [irows_len]; omega
    · have hj : j < zss.length := by have : j < (irows zss).length := hj; rwa [irows_len] at this
      obtain ⟨k1, k2⟩ := Classical.choose_spec (hr j)
      obtain ⟨k3, k4⟩ := k2 hj
      refine ⟨b, off, .slice (Classical.choose (hr j)).ao (lget zss j).length (Classical.choose (hr j)).c, rfl, rfl, hlt, k3, rfl, fun _ vs hvs => ?_⟩
      have hvd : vs = ivals (lget zss j) := by
        rw [irows_get hj] at hvs; exact (Option.some.inj hvs).symm
      subst hvd
      rw [he j]
      exact ⟨congrArg (fun m => Value.slice (Classical.choose (hr j)).ao m (Classical.choose (hr j)).c) (ivals_len _).symm, k1, k4⟩
/-- a function of a number and rows that are read -/
theorem callNR {f : FuncId} {outs : List (Nm × Ch)} {res : AV} {d : List (List Int)} {n : Int} (hf : FC Try.prog f [(1003, rowsRo d)] [vv (I6 n), o1 (.sl 1003 0 d.length)] outs res []) {w : World} {v : Value} (h : RdSSc w v d) :
    Calls Try.prog f #[.int .i64 n, v] w fun e w' => ∃ v η ω, e = .returned v ∧ Den η res v ∧ Mem η ω w' (fun x => lk x outs) ∧ Below w.heap.size w w' ∧ ∀ b, b < w.heap.size → ω b = none := by
  obtain ⟨hd, r, rfl, hv⟩ := ofSSc 1003 49 2 h
  exact hf.call (l := [(1003, (rowsRo d, hd, r))]) (us := [_, _]) (fun p hp => by simp at hp; subst hp; exact hv) rfl (denL2 rfl (den_sl (q := (rowsRo d, hd, r)) rfl))
end Go.Proofs.Ytpognnifgcacnaa

/- The reference's l01Own. -/
namespace Go.Proofs.Ytpognnifgcacnaa
open Go.RowKit

set_option maxRecDepth 100000 in
set_option maxHeartbeats 400000 in
theorem own_any (ao : Option Addr) (n c : Nat) (zs : List Int) (w : World) (h : Ints w ao n zs) (hn : n ≤ 1048576) :
    Calls Try.prog 121 #[.slice ao n c] w fun e w' => ∃ ao' c', e = .returned (.slice ao' n c') ∧ Own w' w.heap.size 2 ao' n c' (zs.map (Value.int .i64)) ∧ Below w.heap.size w w' := by
  have h2 : Ints (w.alloc (.cells #[] 2)) ao n zs := h.below (below_alloc1 _ _)
  have H2 := Lib.hid h2
  clear h2
  go_enter Try.func121, Try.ntmps121
  go_wp2_with (at_builtin; refine wpList_apN etI _ rfl _ _ rfl w.heap.size _ 0 0 [] rfl (Own.empty_ w _ (Nat.le_refl _)) ao n c zs rfl H2.out (by omega) (by simp) ?_; intro ao2 c2 w2 ho2 hg2 hblk)
  go_ret
  refine ⟨_, _, rfl, by simpa using ho2, (below_alloc1 w _).grown hg2 (by simp) (fun g hg => ?_)⟩
  simp [bk] at hg; omega

end Go.Proofs.Ytpognnifgcacnaa

/- The draw of polygons: DrawMapOfPolygons. -/
namespace Go.Proofs.Ytpognnifgcacnaa
open Go.RowKit

section
variable {D : Type} {Ow1 : World → Value → D → Prop} {w w' : World} {lo hi E : Nat} {ao : Option Addr} {n c : Nat} {us : List Value} {ds : List D}
/-- none of its blocks has turned -/
theorem OwR.sameB (I : Inner Ow1) (h : OwR Ow1 w lo hi E ao n c us ds) (h1 : ∀ g, bk ao = some g → w'.heap[g]? = w.heap[g]?) (h2 : ∀ (j : Nat) (u : Value) (g : Nat), us[j]? = some u → u.ownBlock = some g → w'.heap[g]? = w.heap[g]?) : OwR Ow1 w' lo hi E ao n c us ds :=
  { own := h.own.same h1, top := h.top, len := h.len, rng := h.rng, out := h.out, apart := h.apart
    el := fun j u d hu hd => I.loc (h.el j u d hu hd) fun g hg => h2 j u g hu hg }
/-- more elements, each in a new block of its own -/
theorem OwR.pushs (I : Inner Ow1) (h : OwR Ow1 w lo hi E ao n c us ds) {vs : List Value} {es : List D} {k : Nat} {ao' : Option Addr} {c' hi' : Nat} (hk : vs.length = k) (hl : es.length = k) (hown : Own w' lo E ao' (n + k) c' (us ++ vs)) (hg : w.grownBy w' (bk ao)) (hlo : lo ≤ hi)
    (hel : ∀ (j : Nat) (u : Value) (d : D), vs[j]? = some u → es[j]? = some d → Ow1 w' u d) (hr : ∀ (j : Nat) (u : Value), vs[j]? = some u → In hi hi' u) (hao : ∀ g, bk ao' = some g → g < hi') (hhi : hi ≤ hi')
    (hat : bk ao' = bk ao ∨ ∃ g, bk ao' = some g ∧ hi ≤ g ∧ ∀ (j : Nat) (u : Value), vs[j]? = some u → u.ownBlock ≠ some g)
    (hap : ∀ (i j : Nat) (u u' : Value) (g : Nat), i ≠ j → vs[i]? = some u → vs[j]? = some u' → u.ownBlock = some g → u'.ownBlock ≠ some g) : OwR Ow1 w' lo hi' E ao' (n + k) c' (us ++ vs) (ds ++ es) := by
  have hul : us.length = n := h.ulen
  have hdl := h.len
  have split1 : ∀ {j v}, (us ++ vs)[j]? = some v → (us[j]? = some v ∧ j < n) ∨ (n ≤ j ∧ vs[j - n]? = some v) := by
    intro j v hj
    rw [List.getElem?_append] at hj
    split at hj
    · exact .inl ⟨hj, by omega⟩
    · exact .inr ⟨by omega, by rw [← hul]; exact hj⟩
  refine { own := hown, top := hao, len := by rw [List.length_append]; omega, el := ?_, rng := ?_, out := ?_, apart := ?_ }
  · intro j v x hv hx
    rcases split1 hv with ⟨h1, hj⟩ | ⟨hj, h1⟩
    · rw [List.getElem?_append_left (by omega)] at hx
      exact I.loc (h.el j v x h1 hx) fun g hgg => hg.block g (I.lt (h.el j v x h1 hx) g hgg) fun e => h.out j v g h1 hgg e.symm
    · rw [List.getElem?_append_right (by omega), hdl] at hx
      exact hel _ v x h1 hx
  · intro j v hv
    rcases split1 hv with ⟨h1, hj⟩ | ⟨hj, h1⟩
    · exact (h.rng j v h1).mono (Nat.le_refl _) hhi
    · exact (hr _ v h1).mono hlo (Nat.le_refl _)
  · intro j v g hv hgg e
    rcases split1 hv with ⟨h1, hj⟩ | ⟨hj, h1⟩
    · rcases hat with h2 | ⟨g', h2, h3, h4⟩
      · exact h.out j v g h1 hgg (h2 ▸ e)
      · rw [h2] at e; obtain rfl := Option.some.inj e
        have := (h.rng j v h1 _ hgg).2; omega
    · rcases hat with h2 | ⟨g', h2, h3, h4⟩
      · have := h.top g (h2 ▸ e); have := (hr _ v h1 _ hgg).1; omega
      · rw [h2] at e; obtain rfl := Option.some.inj e
        exact h4 _ v h1 hgg
  · intro i j v v' g hij hv hv' hgg e
    rcases split1 hv with ⟨h1, hi1⟩ | ⟨hi1, h1⟩
    · rcases split1 hv' with ⟨h2, hj1⟩ | ⟨hj1, h2⟩
      · exact h.apart i j v v' g hij h1 h2 hgg e
      · have := (h.rng i v h1 _ hgg).2; have := (hr _ v' h2 _ e).1; omega
    · rcases split1 hv' with ⟨h2, hj1⟩ | ⟨hj1, h2⟩
      · have := (h.rng j v' h2 _ e).2; have := (hr _ v h1 _ hgg).1; omega
      · exact hap (i - n) (j - n) v v' g (by omega) h1 h2 hgg e
end
theorem in_lit {lo hi g k c : Nat} (h1 : lo ≤ g) (h2 : g < hi) : In lo hi (.slice (some ⟨g, 0, none⟩) k c) := in_slice fun x hx => by simp [bk] at hx; omega
theorem ownBlock_lit (g k c : Nat) : (Value.slice (some ⟨g, 0, none⟩) k c).ownBlock = some g := by rw [ownBlock_slice]; rfl
/-- polygons being drawn: the source's box is the first block behind those of w -/
structure PG (w wr : World) (ao : Option Addr) (m c : Nat) (us : List Value) (ds : List (List Int)) : Prop where
  src : Src wr w.heap.size
  row : OwR (OwS 2) wr (w.heap.size + 1) wr.heap.size 49 ao m c us ds
  len : ∀ d ∈ ds, 3 ≤ d.length ∧ d.length ≤ 9
  bel : Below w.heap.size w wr
  sz : w.heap.size < wr.heap.size
section
variable {w wr w2 : World} {ao : Option Addr} {m c : Nat} {us : List Value} {ds : List (List Int)}
theorem PG.next (h : PG w wr ao m c us ds) (s2 : Src w2 w.heap.size) (o2 : Only w.heap.size (w.heap.size + 1) wr w2) : PG w w2 ao m c us ds :=
  ⟨s2, (h.row.only (innerS _) o2 (.inr (by omega))).mono (Nat.le_refl _) o2.size, h.len, h.bel.trans (o2.below (Nat.le_refl _) (Nat.le_of_lt h.sz)), Nat.lt_of_lt_of_le h.sz o2.size⟩
theorem PG.below (h : PG w wr ao m c us ds) (b2 : Below wr.heap.size wr w2) : PG w w2 ao m c us ds :=
  ⟨h.src.far fun g hg => b2.block g (by have := h.sz; omega), (h.row.below (innerS _) b2).mono (Nat.le_refl _) b2.size, h.len, h.bel.trans (b2.mono (Nat.le_of_lt h.sz)), Nat.lt_of_lt_of_le h.sz b2.size⟩
theorem PG.nil (h : PG w wr ao m c us ds) : PG w wr none 0 0 [] [] := ⟨h.src, OwR.empty_ (Own.nil_ _ _ _) (fun g hg => nomatch hg), (fun d hd => by simp at hd), h.bel, h.sz⟩
theorem PG.rows (h : PG w wr ao m c us ds) {vs : List Value} {es : List (List Int)} {k : Nat} {w4 : World} {ao4 : Option Addr} {c4 : Nat} (b : Below wr.heap.size wr w2) (hk : vs.length = k) (hl : es.length = k)
    (hel : ∀ (j : Nat) (u : Value) (d : List Int), vs[j]? = some u → es[j]? = some d → OwS 2 w2 u d) (hr : ∀ (j : Nat) (u : Value), vs[j]? = some u → In wr.heap.size w2.heap.size u)
    (hap : ∀ (i j : Nat) (u u' : Value) (g : Nat), i ≠ j → vs[i]? = some u → vs[j]? = some u' → u.ownBlock = some g → u'.ownBlock ≠ some g) (h9 : ∀ d ∈ es, 3 ≤ d.length ∧ d.length ≤ 9)
    (hown : Own w4 (w.heap.size + 1) 49 ao4 (m + k) c4 (us ++ vs)) (hg : w2.grownBy w4 (bk ao)) (hat : bk ao4 = bk ao ∨ ∃ g, bk ao4 = some g ∧ w2.heap.size ≤ g) : PG w w4 ao4 (m + k) c4 (us ++ vs) (ds ++ es) := by
  have hsz := h.sz
  have hb := b.size
  have hgs := hg.size
  have hP := h.below b
  have top : ∀ g, bk ao = some g → w.heap.size + 1 ≤ g ∧ g < wr.heap.size := fun g e => ⟨(h.row.own.lt g e).1, h.row.top g e⟩
  have hR2 : OwR (OwS 2) w2 (w.heap.size + 1) wr.heap.size 49 ao m c us ds := h.row.below (innerS _) b
  refine ⟨?_, ?_, ?_, ?_, by omega⟩
  · exact hP.src.far fun g e => hg.block g (by omega) (fun q => by have := top g q.symm; omega)
  · refine hR2.pushs (innerS _) hk hl hown hg (by omega) (fun j u d hu hd => ?_) (fun j u hu => (hr j u hu).mono (Nat.le_refl _) hgs) (fun g e => (hown.lt g e).2) (by omega) ?_ hap
    · exact (innerS _).loc (hel j u d hu hd) fun g e => by
        have := hr j u hu g e
        exact hg.block g (by omega) (fun q => by have := top g q.symm; omega)
    · rcases hat with e | ⟨g, e, hge⟩
      · exact .inl e
      · exact .inr ⟨g, e, by omega, fun j u hu q => by have := (hr j u hu g q).2; omega⟩
  · intro d hd
    rcases List.mem_append.1 hd with e | e
    · exact h.len d e
    · exact h9 d e
  · exact hP.bel.grown hg (by omega) (fun g e => by have := top g e; omega)
theorem PG.side (h : PG w wr ao m c us ds) {a9 : Option Addr} (hg : wr.grownBy w2 (bk a9)) (h9 : ∀ g, bk a9 = some g → w.heap.size + 1 ≤ g ∧ bk ao ≠ some g ∧ ∀ (j : Nat) (u : Value), us[j]? = some u → u.ownBlock ≠ some g) : PG w w2 ao m c us ds :=
  ⟨h.src.far fun g e => hg.block g (by have := h.sz; omega) (fun q => by have := (h9 g q.symm).1; omega),
   (h.row.sameB (innerS _) (fun g e => hg.block g (h.row.own.lt g e).2 (fun q => (h9 g q.symm).2.1 e)) (fun j u g hu e => hg.block g (by have := (h.row.rng j u hu g e).2; omega) (fun q => (h9 g q.symm).2.2 j u hu e))).mono (Nat.le_refl _) hg.size, h.len,
   h.bel.grown hg (Nat.le_of_lt h.sz) (fun g e => by have := (h9 g e).1; omega), Nat.lt_of_lt_of_le h.sz hg.size⟩
theorem rng_len (k : Nat) : ((List.range k).map fun (i : Nat) => (i : Int)).length = k := by simp
theorem rng_succ (k : Nat) : ((List.range (k + 1)).map fun (i : Nat) => (i : Int)).map (Value.int .i64) = ((List.range k).map fun (i : Nat) => (i : Int)).map (Value.int .i64) ++ [Value.int .i64 (k : Int)] := by rw [List.range_succ, List.map_append, List.map_append]; rfl
theorem PG.rdc (h : PG w wr ao m c us ds) : RdSSc wr (.slice ao m c) ds := OwSS.rdc (⟨ao, m, c, us, rfl, h.row⟩ : OwSS 2 49 wr (w.heap.size + 1) wr.heap.size (.slice ao m c) ds)
end
theorem own_row {w : World} {zs : List Int} {us : List Value} {g k : Nat} (hg : w.heap.size = g) (hu : us = zs.map (Value.int .i64)) (hk : zs.length = k) (hk2 : k ≤ 1000) : Own (w.alloc (.cells us.toArray 2)) w.heap.size 2 (some ⟨g, 0, none⟩) k k (zs.map (Value.int .i64)) := by
  subst hu hk
  have := own_lit (w := w) (base := w.heap.size) (E := 2) (us := zs.map (Value.int .i64)) hg (Nat.le_refl _) (by simp; omega)
  simpa using this
theorem ows_of {w : World} {lo E g k c : Nat} {zs : List Int} (h : Own w lo E (some ⟨g, 0, none⟩) k c (zs.map (Value.int .i64))) : OwS E w (.slice (some ⟨g, 0, none⟩) k c) zs := ⟨_, _, _, rfl, h.mono (Nat.zero_le _)⟩
theorem own_vals {w : World} {lo E n c : Nat} {ao : Option Addr} {us : List Value} (h : Own w lo E ao n c us) : Vals w ao n us := by
  refine ⟨h.len, by have := h.2; omega, fun hn => ?_⟩
  obtain ⟨g, e, -, -, -, hc, -⟩ := h.form hn
  subst e
  exact ⟨g, 0, rfl, fun j u hu => by
    have hj : j < n := by have := (List.getElem?_eq_some_iff.1 hu).1; rw [h.len] at this; exact this
    rw [Nat.zero_add, hc j hj, hu]⟩
theorem src_below {w w2 : World} {sb : Nat} (h : Src w sb) (hs : sb < w.heap.size) (b2 : Below w.heap.size w w2) : Src w2 sb := h.far fun g hg => b2.block g (by omega)
/-- numbers that lie in memory, at the end of a row of the call's own, in a region that draws its order -/
theorem step_apI {P : Program} {S E : TypeId} {z : Value} {bytes : Nat} (et : ET P S E z bytes) {ops : Array Oper} {o : Oper} {a : Act} {Q : Exit → Act → World → Prop} {w : World} {K : Act → World → Prop} {X : Prop} (hg : o.guard = none) (s x : Operand) (ho : o.op = .call { callee := .builtin .append, args := #[s, x], argTypes := #[S, S] })
    (base : Nat) (ao : Option Addr) (n c : Nat) (xs : List Value) (hs : a.eval s = .slice ao n c) (hown : Own w base E ao n c xs) (b off m mc : Nat) (news : List Value) (hx : a.eval x = .slice (some ⟨b, off, none⟩) m mc) (hl : news.length = m)
    (hc : ∀ j u, news[j]? = some u → w.cell? ⟨b, off + j, none⟩ = some u) (hu : ∀ u ∈ news, u.oneCell' = true) (hn : n + m ≤ 4398046511104) (h0 : 0 < n) (hbase : base ≤ w.heap.size)
    (h : ∀ ao' c' w', Own w' base E ao' (n + m) c' (xs ++ news) → w.grownBy w' (bk ao) → (bk ao' = bk ao ∨ bk ao' = some w.heap.size) → K (a.put o.dst (.slice ao' (n + m) c')) w') : if Region.wanted o (yielded ops a.tmps) = true then Oper.wp P o a w K Q else X := by
  obtain ⟨i, hi, hz, hsz, hby⟩ := info_parts et.info
  have hw : Region.wanted o (yielded ops a.tmps) = true := by simp [Region.wanted, hg]
  rw [if_pos hw]
  obtain ⟨v', w', hr, h2, h3, h4, h5⟩ := run_append_own_at (P := P) w base S o.type E i z 1 bytes et.und hi hz hsz hby (by rw [et.one]; rfl) (by omega) (.slice ao n c) n xs hown.1 ⟨b, off, none⟩ m mc news (by simp [hl])
    (by intro j u' hu'; rw [Addr.add_lit]; exact hc j u' hu') hu (by simp [maxLen]; omega) (by have := et.small; have : (n + m) * bytes ≤ (n + m) * 32 := Nat.mul_le_mul_left _ this; omega) hbase
  unfold Oper.wp execOp
  simp only [ho, resolve, invoke, builtin, Sem.run_bind, Sem.run_pure, Result.andThen_ok, List.map_toArray, List.map_cons, List.map_nil, hs, hx, hr]
  obtain ⟨g, cap, rfl, hb, hlt⟩ := h2.form (by omega)
  rw [ownBlock_slice] at h3
  refine h _ _ _ ⟨h2, hn⟩ h3 ?_
  rw [ownBlock_slice, ownBlock_slice] at h5
  exact h5
/-- the polygons are turned: the source's box sb, behind the blocks of w4 only new ones -/
structure OG (w4 wr : World) (sb : Nat) (ao : Option Addr) (m c : Nat) (us : List Value) (ds : List (List Int)) : Prop where
  src : Src wr sb
  row : OwR (OwS 2) wr w4.heap.size wr.heap.size 49 ao m c us ds
  len : ∀ d ∈ ds, 3 ≤ d.length ∧ d.length ≤ 9
  only : Only sb (sb + 1) w4 wr
  lt : sb < w4.heap.size
theorem OG.next {w4 wr w2 : World} {sb : Nat} {ao : Option Addr} {m c : Nat} {us : List Value} {ds : List (List Int)} (h : OG w4 wr sb ao m c us ds) (s2 : Src w2 sb) (o2 : Only sb (sb + 1) wr w2) : OG w4 w2 sb ao m c us ds :=
  ⟨s2, (h.row.only (innerS _) o2 (.inr (by have := h.lt; omega))).mono (Nat.le_refl _) o2.size, h.len, h.only.trans o2, h.lt⟩
theorem OG.below {w4 wr w2 : World} {sb : Nat} {ao : Option Addr} {m c : Nat} {us : List Value} {ds : List (List Int)} (h : OG w4 wr sb ao m c us ds) (b : Below wr.heap.size wr w2) : OG w4 w2 sb ao m c us ds :=
  ⟨h.src.far fun g hg => b.block g (by have := h.only.size; have := h.lt; omega), (h.row.below (innerS _) b).mono (Nat.le_refl _) b.size, h.len, ⟨b.os.trans h.only.os, b.tape.trans h.only.tape, b.output.trans h.only.output, Nat.le_trans h.only.size b.size, fun k hk hd => (b.block k (by have := h.only.size; omega)).trans (h.only.block k hk hd)⟩, h.lt⟩
/-- a new row is laid at the end -/
theorem OG.push {w4 wr w2 w3 w5 : World} {sb n' c' : Nat} {ao ao' ao2 : Option Addr} {m c c2 : Nat} {us : List Value} {ds : List (List Int)} {zs : List Int} (h : OG w4 wr sb ao m c us ds) (hb : Below wr.heap.size wr w2) (hu : Own w2 wr.heap.size 2 ao' n' c' (zs.map (Value.int .i64))) (hb3 : Below w2.heap.size w2 w3)
    (hown : Own w5 w4.heap.size 49 ao2 (m + 1) c2 (us ++ [.slice ao' n' c'])) (hg : w3.grownBy w5 (bk ao)) (hat : bk ao2 = bk ao ∨ bk ao2 = some w3.heap.size) (h9 : 3 ≤ zs.length ∧ zs.length ≤ 9) : OG w4 w5 sb ao2 (m + 1) c2 (us ++ [.slice ao' n' c']) (ds ++ [zs]) := by
  have h3 := (h.below hb).below hb3
  have hs := h.only.size
  refine ⟨h3.src.far fun g e => hg.block g (by have := h3.only.size; have := h3.lt; omega) (fun q => by have := (h.row.own.lt g q.symm).1; have := h.lt; omega), ?_, low3 h.len h9, only_grown h3.only hg (fun g e => (h.row.own.lt g e).1), h.lt⟩
  exact rows_pushP h.row (by omega) hb hu hb3 hown hg (hat.imp id fun e => ⟨_, e, hb3.size⟩)
def PGx (w wx : World) (s5 s6 : Value) : Prop := ∃ (ao : Option Addr) (m c : Nat) (us : List Value) (ds : List (List Int)) (N : Nat), s5 = .slice ao m c ∧ s6 = .int .i64 N ∧ 2 ≤ m ∧ m ≤ 20 ∧ 1 ≤ N ∧ N ≤ 20 ∧ PG w wx ao m c us ds
theorem lenSS_le9 : ∀ {ds : List (List Int)}, (∀ d ∈ ds, 3 ≤ d.length ∧ d.length ≤ 9) → lenSS ds ≤ 9 * ds.length
  | [], _ => Nat.zero_le _
  | d :: r, h => by
    have h1 := lenSS_le9 (ds := r) fun x hx => h x (by simp [hx])
    have h2 := (h d (by simp)).2
    have e : lenSS (d :: r) = d.length + lenSS r := by simp [lenSS]
    rw [e, List.length_cons]; omega
def PGy (w wx : World) (s6 s13 : Value) : Prop := ∃ (z : Int) (ps : List (List Int)) (a : Option Addr) (n c : Nat), s6 = .int .i64 z ∧ s13 = .slice a n c ∧ -1000 ≤ z ∧ z ≤ 1000 ∧ ps.length ≤ 20 ∧ lenSS ps ≤ 200 ∧ RdSSc wx (.slice a n c) ps ∧ Below w.heap.size w wx
theorem rdc_tail {w : World} {g m c : Nat} {d : List Int} {ds : List (List Int)} (h : RdSSc w (.slice (some ⟨g, 0, none⟩) m c) (d :: ds)) : RdSSc w (.slice (some ⟨g, 1, none⟩) (m - 1) (c - 1)) ds := by
  obtain ⟨ao, c', e, hn, hc⟩ := h
  injection e with e1 e2 e3
  subst e1 e2 e3
  refine ⟨_, _, by rw [List.length_cons, Nat.add_sub_cancel], by simp at hn; omega, fun h0 => ?_⟩
  obtain ⟨h1, b, off, e, hlt, h2⟩ := hc (by simp)
  injection e with e; injection e with e1 e2
  subst e1 e2
  refine ⟨by simp at h1; omega, g, 1, rfl, hlt, fun j hj => ?_⟩
  obtain ⟨a', c', h3, h4, h5⟩ := h2 (j + 1) (by simp; omega)
  have el : lget (d :: ds) (j + 1) = lget ds j := by simp [lget]
  rw [el] at h3 h4 h5
  exact ⟨a', c', by rw [← h3]; congr 2; omega, h4, h5⟩
theorem rdc_set0 {w : World} {lo hi g m c g0 n0 c0 : Nat} {us : List Value} {d : List Int} {ds : List (List Int)} (h : OwR (OwS 2) w lo hi 49 (some ⟨g, 0, none⟩) m c (.slice (some ⟨g0, 0, none⟩) n0 c0 :: us) (d :: ds)) (h0 : 1 ≤ n0) :
    RdSSc (w.setCell ⟨g, 0, none⟩ (.slice (some ⟨g0, 1, none⟩) (n0 - 1) (c0 - 1))) (.slice (some ⟨g, 0, none⟩) m c) (d.tail :: ds) := by
  have hm : m = ds.length + 1 := by have := h.len; simpa using this.symm
  obtain ⟨g', e, -, hlt, hmc, hcell, -⟩ := h.own.form (by omega)
  injection e with e; injection e with e; subst e
  have h4 := h.own.2
  have hw : ∀ x, x ≠ g → (w.setCell ⟨g, 0, none⟩ (.slice (some ⟨g0, 1, none⟩) (n0 - 1) (c0 - 1))).heap[x]? = w.heap[x]? := fun x hx => Below.heap_setCell _ _ _ x (by exact hx)
  obtain ⟨st, -⟩ := h.own.stored 0 (.slice (some ⟨g0, 1, none⟩) (n0 - 1) (c0 - 1))
  have hrow : ∀ (j : Nat) (a : Option Addr) (n c : Nat) (x : List Int), (Value.slice (some ⟨g0, 0, none⟩) n0 c0 :: us)[j]? = some (.slice a n c) → (d :: ds)[j]? = some x → Own (w.setCell ⟨g, 0, none⟩ (.slice (some ⟨g0, 1, none⟩) (n0 - 1) (c0 - 1))) 0 2 a n c (x.map (Value.int .i64)) := fun j a n c x hu hx => by
    obtain ⟨a', n', c', e, ho⟩ := h.el j _ _ hu hx
    injection e with e1 e2 e3
    subst e1 e2 e3
    exact ho.same fun y hy => hw y (fun q => by subst q; exact h.out j _ y hu (by rw [ownBlock_slice]; exact hy) rfl)
  refine ⟨_, c, by rw [List.length_cons, ← hm], by rw [List.length_cons]; omega, fun _ => ⟨by rw [List.length_cons]; omega, g, 0, rfl, by simpa [World.setCell] using hlt, fun j hj => ?_⟩⟩
  obtain ⟨g', e, -, -, -, hcell', -⟩ := st.form (by omega)
  injection e with e; injection e with e; subst e
  rw [List.length_cons] at hj
  rw [Nat.zero_add, hcell' j (by omega)]
  cases j with
  | zero =>
    have ho := hrow 0 _ _ _ d rfl rfl
    have hl : d.length = n0 := by have := ho.len; simpa using this
    refine ⟨some ⟨g0, 1, none⟩, c0 - 1, by simp [lget, hl], ?_, ?_⟩
    · obtain ⟨_, _, _, _, hc, _, _⟩ := ho.form (by omega)
      simp [lget]; omega
    · refine ⟨rfl, by have := ho.2; simp [lget]; omega, fun hp => ⟨g0, 1, rfl, fun i hi => ?_⟩⟩
      have := own_int ho (k := 1 + i) (by simp [lget] at hi; omega)
      have e : iget (lget (d.tail :: ds) 0) i = iget d (1 + i) := by
        cases d with
        | nil => simp [lget, iget]
        | cons a r => simp [lget, iget, Nat.add_comm 1 i]
      rw [e]; exact this
  | succ j =>
    have hju : j + 1 < (Value.slice (some ⟨g0, 0, none⟩) n0 c0 :: us).length := by rw [h.ulen]; omega
    obtain ⟨u, x, hu, hx, ⟨a', n', c', rfl, ho⟩, _⟩ := h.get (j := j + 1) (by omega)
    have hoR := hrow (j + 1) _ _ _ x hu hx
    have hl : x.length = n' := by have := ho.len; simpa using this
    have ex : lget (d.tail :: ds) (j + 1) = x := by
      have : ds[j]? = some x := by simpa using hx
      simp [lget, this]
    rw [ex]
    refine ⟨a', c', ?_, ?_, ?_⟩
    · rw [List.getElem?_set_ne (by omega), hu, hl]
    · rcases Nat.eq_zero_or_pos n' with e | e
      · omega
      · obtain ⟨_, _, _, _, hc, _, _⟩ := ho.form e; omega
    · rw [hl]; exact hoR.ints
theorem pick101 {N : Nat} {p : Nat} (hp : p < 4) (hN : N ≤ 20) : -1000 ≤ iget [0, 101, (N : Int) - 1, (N : Int) + 1] p ∧ iget [0, 101, (N : Int) - 1, (N : Int) + 1] p ≤ 1000 := by
  match p, hp with
  | 0, _ => show -1000 ≤ (0 : Int) ∧ (0 : Int) ≤ 1000; omega
  | 1, _ => show -1000 ≤ (101 : Int) ∧ (101 : Int) ≤ 1000; omega
  | 2, _ => show -1000 ≤ (N : Int) - 1 ∧ (N : Int) - 1 ≤ 1000; omega
  | 3, _ => show -1000 ≤ (N : Int) + 1 ∧ (N : Int) + 1 ≤ 1000; omega
/-- what is drawn -/
def DrawnM (w : World) (e : Ending) (w' : World) : Prop := ∃ (z : Int) (v : Value) (ps : List (List Int)), e = .returned (.tuple #[.int .i64 z, v]) ∧ -1000 ≤ z ∧ z ≤ 1000 ∧ ps.length ≤ 20 ∧ lenSS ps ≤ 200 ∧ RdSSc w' v ps ∧ Below w.heap.size w w'
set_option maxRecDepth 100000 in
set_option maxHeartbeats 6400000 in
theorem drawMp_any (ao : Option Addr) (n c : Nat) (w : World) (h : Bts w ao n w.heap.size) : Calls Try.prog 48 #[.slice ao n c] w (DrawnM w) := by
  unfold DrawnM
  go_enter Try.func48, Try.ntmps48
  go_wp2_with fail
  refine (from_any ao n c w h).mono ?_
  rintro e w1 ⟨rfl, s1, z1, b1⟩
  have S1 := Lib.hid (src_below s1 z1 (below_alloc1 w1 (.cells #[] 49)))
  have B1 := Lib.hid (b1.alloc b1.size (.cells #[] 49))
  have E1 := Lib.hid (Own.empty_ w1 49 (base := w.heap.size + 1) z1)
  have Z1 := Lib.hid (show w.heap.size + 1 < (w1.alloc (.cells #[] 49)).heap.size by simp; omega)
  clear s1 b1 h
  go_wp2_with fail
  generalize w1.alloc (.cells #[] 49) = w2 at *
  have hz2 := Z1.out
  refine (next_any w.heap.size _ _ S1.out (by omega)).mono ?_
  rintro e w3 ⟨r, rfl, -, r3, s3, o3⟩
  have hr := r3 (by omega)
  have P3 : PG w w3 (some ⟨w1.heap.size, 0, none⟩) 0 0 [] [] := PG.next ⟨S1.out, OwR.empty_ E1.out (fun g hg => (E1.out.lt g hg).2), (fun d hd => by simp at hd), B1.out, by omega⟩ s3 o3
  have PH := Lib.hid P3
  clear r3 s3 o3 P3 S1 B1 E1 Z1
  go_upto_block 0 with (fail)
  go_cut [5, 6] (fun s5 s6 wx => PGx w wx s5 s6)
  case first =>
    by_cases hq0 : r = 0
    · subst hq0
      have hz3 := PH.out.sz
      have HP := Lib.hid (PH.out.nil.below (below_alloc1 w3 (.cells #[] 2)))
      have HE := Lib.hid (Own.empty_ w3 2 (base := w.heap.size + 1) hz3)
      have hze : (w3.alloc (.cells #[] 2)).heap.size = w3.heap.size + 1 := by simp
      clear PH
      go_wp2_with fail
      generalize w3.alloc (.cells #[] 2) = w4 at *
      refine (next_any w.heap.size _ _ HP.out.src (by omega)).mono ?_
      rintro e w5 ⟨r', rfl, -, r5, s5, o5⟩
      have hr' := r5 (by omega)
      have HP5 := Lib.hid (HP.out.next s5 o5)
      have HE5 := Lib.hid (HE.out.only o5 (lo' := w.heap.size + 1) (hi' := w3.heap.size + 1) (fun g hg => ⟨(HE.out.lt g hg).1, by have := (HE.out.lt g hg).2; omega⟩) (.inr (Nat.le_refl _)))
      clear HP HE r5 s5 o5 hze
      obtain ⟨N, hN⟩ : ∃ N : Nat, (3 : Int) + r' = N := ⟨3 + r', by omega⟩
      have hN3 : 3 ≤ N := by omega
      have hN9 : N ≤ 9 := by omega
      have hww : IntKind.i64.wrap ((3 : Int) + r') = (N : Int) := by rw [hN]; exact IntWalk.i64_in _ (by omega)
      go_wp2_with fail
      try simp only [hN]
      clear hww hN
      go_loopw [7, 8] (fun s7 s8 wr => ∃ (k : Nat) (a7 : Option Addr) (c7 : Nat), k ≤ N ∧ s7 = .slice a7 k c7 ∧ s8 = .int .i64 k ∧ Own wr (w.heap.size + 1) 2 a7 k c7 (((List.range k).map fun (i : Nat) => (i : Int)).map (Value.int .i64)) ∧ PG w wr none 0 0 [] []) (fun _ s8 _ => N - (intOf s8).toNat)
      case atStart => exact ⟨0, _, _, Nat.zero_le _, rfl, rfl, by simpa using HE5.out, HP5.out⟩
      case round =>
        clear HE5 HP5
        obtain ⟨k, a7, c7, hk, rfl, rfl, ho, pg⟩ := hrel
        have hsz := pg.sz
        by_cases hlt : k < N
        · have HO := Lib.hid ho
          have PN := Lib.hid pg
          clear ho pg
          go_wp2_with (at_builtin; refine wpList_ap1 etI _ rfl _ _ rfl (w.heap.size + 1) a7 k c7 _ rfl HO.out (.int .i64 (k : Int)) rfl rfl (by omega) hsz ?_; intro ao2 c2 w8 ho2 hg2 hblk)
          have HO2 := Lib.hid ho2
          have PN2 := Lib.hid (PN.out.side hg2 (fun g hg => ⟨(HO.out.lt g hg).1, by simp [bk], fun j u hu => nomatch hu⟩))
          clear ho2 hg2 hblk HO PN
          go_wp2_with fail
          go_roundw
          case rel => first | exact ⟨k + 1, ao2, c2, by omega, rfl, by go_num, by rw [rng_succ]; exact HO2.out, PN2.out⟩ | ((repeat apply Exists.intro); exact ⟨⟨k + 1, ao2, c2, by omega, rfl, by go_num, by rw [rng_succ]; exact HO2.out, PN2.out⟩, rfl⟩)
          case measure => simp [intOf]; omega
        · obtain rfl : k = N := by omega
          have HO := Lib.hid ho
          have PN := Lib.hid pg
          clear ho pg
          go_wp2_with fail
          refine (own_any a7 k c7 _ _ HO.out.ints (by omega)).mono ?_
          rintro e w8 ⟨a8, c8, rfl, o8, b8⟩
          have hz8 := b8.size
          have PN8 := PN.out.below b8
          have HO8 := HO.out.below b8
          have hR : OwR (OwS 2) (w8.alloc (.cells #[.slice a7 k c7, .slice a8 k c8] 49)) (w.heap.size + 1) (w8.heap.size + 1) 49 (some ⟨w8.heap.size, 0, none⟩) 2 2 [.slice a7 k c7, .slice a8 k c8] [(List.range k).map fun (i : Nat) => (i : Int), (List.range k).map fun (i : Nat) => (i : Int)] :=
            OwR.lit2 (hi := w8.heap.size) (innerS _) (by omega) (Nat.le_refl _) ⟨_, _, _, rfl, HO8.mono (Nat.zero_le _)⟩ ⟨_, _, _, rfl, o8.mono (Nat.zero_le _)⟩ (in_slice fun g e => HO8.lt g e) (in_slice fun g e => ⟨by have := (o8.lt g e).1; omega, (o8.lt g e).2⟩) (fun g e q => by
              rw [ownBlock_slice] at e q
              have := (HO.out.lt g e).2
              have := (o8.lt g q).1
              omega)
          have bA := below_alloc1 w8 (.cells #[.slice a7 k c7, .slice a8 k c8] 49)
          have HPG := Lib.hid (show PG w (w8.alloc (.cells #[.slice a7 k c7, .slice a8 k c8] 49)) (some ⟨w8.heap.size, 0, none⟩) 2 2 [.slice a7 k c7, .slice a8 k c8] [(List.range k).map fun (i : Nat) => (i : Int), (List.range k).map fun (i : Nat) => (i : Int)] from ⟨(PN8.below bA).src, hR.mono (Nat.le_refl _) (by simp), (fun d hd => by simp at hd; subst hd; rw [rng_len]; exact ⟨hN3, hN9⟩), (PN8.below bA).bel, (PN8.below bA).sz⟩)
          clear hR bA PN8 HO8 o8 b8 HO PN
          go_wp2_with fail
          go_meet
          case rel => exact ⟨_, 2, _, _, _, k, rfl, rfl, by omega, by omega, by omega, by omega, HPG.out⟩
    · by_cases hq1 : r = 1
      · subst hq1
        have hz3 := PH.out.sz
        have PH0 := PH.out
        clear PH
        go_wp2_with fail
        refine (next_any w.heap.size _ _ PH0.src (by omega)).mono ?_
        rintro e w5 ⟨r', rfl, -, r5, s5, o5⟩
        have hr' := r5 (by omega)
        have P5 := PH0.next s5 o5
        have hz5 := P5.sz
        have HP5 := Lib.hid (P5.below (below_alloc1 w5 (.cells #[] 2)))
        have HE5 := Lib.hid (Own.empty_ w5 2 (base := w.heap.size + 1) hz5)
        have h15 : w1.heap.size < w5.heap.size := (P5.row.own.lt _ rfl).2
        clear PH0 P5 r5 s5 o5
        obtain ⟨N, hN⟩ : ∃ N : Nat, (4 : Int) + r' = N := ⟨4 + r', by omega⟩
        have hN4 : 4 ≤ N := by omega
        have hN8 : N ≤ 8 := by omega
        have hww : IntKind.i64.wrap ((4 : Int) + r') = (N : Int) := by rw [hN]; exact IntWalk.i64_in _ (by omega)
        go_wp2_with fail
        try simp only [hN]
        clear hww hN
        go_loopw [5, 9, 10] (fun s5 s9 s10 wr => ∃ (k : Nat) (a5 : Option Addr) (c5 : Nat) (us : List Value) (ds : List (List Int)) (a9 : Option Addr) (c9 : Nat), k + 1 ≤ N ∧ s5 = .slice a5 k c5 ∧ s9 = .slice a9 k c9 ∧ s10 = .int .i64 k ∧ PG w wr a5 k c5 us ds ∧ Own wr (w.heap.size + 1) 2 a9 k c9 (((List.range k).map fun (i : Nat) => (i : Int)).map (Value.int .i64)) ∧ ∀ g, bk a9 = some g → bk a5 ≠ some g ∧ ∀ (j : Nat) (u : Value), us[j]? = some u → u.ownBlock ≠ some g) (fun _ _ s10 _ => N - (intOf s10).toNat)
        case atStart => exact ⟨0, _, _, _, _, _, _, by omega, rfl, rfl, rfl, HP5.out, by simpa using HE5.out, fun g hg => ⟨fun e => by simp [bk] at hg e; omega, fun j u hu => by simp at hu⟩⟩
        case round =>
          clear HE5 HP5 h15
          obtain ⟨k, a5, c5, us, ds, a9, c9, hk, rfl, rfl, rfl, pg, ho, hab⟩ := hrel
          have hsz := pg.sz
          by_cases hlt : k + 1 < N
          · have hr1 : ((k : Int) + 1).tmod ((N : Int) - 1) = (((k + 1) % (N - 1) : Nat) : Int) := by
              rw [show ((k : Int) + 1) = ((k + 1 : Nat) : Int) by omega, show ((N : Int) - 1) = ((N - 1 : Nat) : Int) by omega]; rfl
            generalize (k + 1) % (N - 1) = x1 at *
            have hN1 : ¬ ((N : Int) - 1 = 0) := by omega
            have hw1 : IntKind.i64.wrap (x1 : Int) = (x1 : Int) ∨ True := .inr trivial
            have HO := Lib.hid ho
            have PN := Lib.hid pg
            have AB := Lib.hid hab
            clear ho pg hab hw1
            go_upto_region 24 with (at_builtin; refine wpList_ap1 etI _ rfl _ _ rfl (w.heap.size + 1) a9 k c9 _ rfl HO.out (.int .i64 (k : Int)) rfl rfl (by omega) hsz ?_; intro a9' c9' wA oA gA hA)
            have PA := PN.out.side gA (fun g hg => ⟨(HO.out.lt g hg).1, AB.out g hg⟩)
            have hAB : ∀ g, bk a9' = some g → bk a5 ≠ some g ∧ ∀ (j : Nat) (u : Value), us[j]? = some u → u.ownBlock ≠ some g := fun g hg => by
              rcases hA with h | h
              · exact AB.out g (h ▸ hg)
              · rw [h] at hg
                obtain rfl := Option.some.inj hg
                exact ⟨fun e => by have := PN.out.row.top _ e; omega, fun j u hu e => by have := (PN.out.row.rng j u hu _ e).2; omega⟩
            have OA := Lib.hid oA
            have ABA := Lib.hid hAB
            have PAH := Lib.hid PA
            have hszA := PA.sz
            clear PN HO AB oA gA hA hAB PA
            have HW := Lib.hid ((PAH.out.row.own).alloc (.cells #[.int .i64 k, .int .i64 x1, .int .i64 ((N : Int) - 1)] 2))
            have hBW : w.heap.size + 1 ≤ (wA.alloc (.cells #[.int .i64 k, .int .i64 x1, .int .i64 ((N : Int) - 1)] 2)).heap.size := by simp; omega
            go_wp2_with (at_builtin; refine wpList_ap1 etSS _ rfl _ _ rfl (w.heap.size + 1) a5 k c5 us rfl HW.out (.slice (some ⟨wA.heap.size, 0, none⟩) 3 3) (by simp [Act.eval]) rfl (by omega) hBW ?_; intro a5' c5' w4 o4 g4 hat)
            have q0 : Own (wA.alloc (.cells #[.int .i64 k, .int .i64 x1, .int .i64 ((N : Int) - 1)] 2)) wA.heap.size 2 (some ⟨wA.heap.size, 0, none⟩) 3 3 (([(k : Int), (x1 : Int), (N : Int) - 1] : List Int).map (Value.int .i64)) := own_row (us := [.int .i64 k, .int .i64 x1, .int .i64 ((N : Int) - 1)]) rfl rfl rfl (by simp)
            have hsW : (wA.alloc (.cells #[.int .i64 k, .int .i64 x1, .int .i64 ((N : Int) - 1)] 2)).heap.size = wA.heap.size + 1 := by simp
            have hPG := PAH.out.rows (w4 := w4) (vs := [.slice (some ⟨wA.heap.size, 0, none⟩) 3 3]) (es := [[(k : Int), (x1 : Int), (N : Int) - 1]]) (k := 1) (below_alloc1 wA (.cells #[.int .i64 k, .int .i64 x1, .int .i64 ((N : Int) - 1)] 2)) rfl rfl (fun j u d hu hd => by
                match j, hu, hd with
                | 0, hu, hd => simp at hu hd; subst hu hd; exact ows_of q0) (fun j u hu => by
                match j, hu with
                | 0, hu => simp at hu; subst hu; exact in_lit (Nat.le_refl _) (by omega)) (fun i j u u' g hij hu hu' hg e => by
                have hi : i < 1 := (List.getElem?_eq_some_iff.1 hu).1
                have hj : j < 1 := (List.getElem?_eq_some_iff.1 hu').1
                omega) (fun d hd => by simp at hd; subst hd; simp) o4 g4 (hat.elim .inl fun h => .inr ⟨_, h, by omega⟩)
            have hO4 : Own w4 (w.heap.size + 1) 2 a9' (k + 1) c9' (((List.range (k + 1)).map fun (i : Nat) => (i : Int)).map (Value.int .i64)) := by
              rw [rng_succ]
              exact (OA.out.alloc _).same fun g hg => g4.block g (by have := (OA.out.lt g hg).2; omega) (fun e => (ABA.out g hg).1 e.symm)
            have hAB4 : ∀ g, bk a9' = some g → bk a5' ≠ some g ∧ ∀ (j : Nat) (u : Value), (us ++ [.slice (some ⟨wA.heap.size, 0, none⟩) 3 3])[j]? = some u → u.ownBlock ≠ some g := fun g hg => by
              have hl := (OA.out.lt g hg).2
              refine ⟨fun e => ?_, fun j u hu e => ?_⟩
              · rcases hat with h | h
                · exact (ABA.out g hg).1 (h ▸ e)
                · rw [h] at e; have := Option.some.inj e; omega
              · rw [List.getElem?_append] at hu
                split at hu
                · exact (ABA.out g hg).2 j u hu e
                · cases hj : j - us.length with
                  | zero => rw [hj] at hu; simp at hu; subst hu; rw [ownBlock_lit] at e; have := Option.some.inj e; omega
                  | succ n => rw [hj] at hu; simp at hu
            have HPG := Lib.hid hPG
            have HO4 := Lib.hid hO4
            have HAB4 := Lib.hid hAB4
            clear hPG hO4 hAB4 q0 hsW o4 g4 hat HW hBW OA ABA PAH hr1
            go_wp2_with fail
            go_roundw
            case rel => first | exact ⟨k + 1, a5', c5', _, _, a9', c9', by omega, rfl, rfl, by go_num, HPG.out, HO4.out, HAB4.out⟩ | ((repeat apply Exists.intro); exact ⟨⟨k + 1, a5', c5', _, _, a9', c9', by omega, rfl, rfl, by go_num, HPG.out, HO4.out, HAB4.out⟩, rfl⟩)
            case measure => simp [intOf]; omega
          · have hkN : N = k + 1 := by omega
            have HO := Lib.hid ho
            have PN := Lib.hid pg
            have AB := Lib.hid hab
            clear ho pg hab
            go_wp2_with (at_builtin; refine wpList_ap1 etSS _ rfl _ _ rfl (w.heap.size + 1) a5 k c5 us rfl PN.out.row.own (.slice a9 k c9) rfl rfl (by omega) hsz ?_; intro a5' c5' w4 o4 g4 hat)
            have hz4 := g4.size
            have hO4 : Own w4 (w.heap.size + 1) 2 a9 k c9 (((List.range k).map fun (i : Nat) => (i : Int)).map (Value.int .i64)) := HO.out.same fun g hg => g4.block g (HO.out.lt g hg).2 (fun e => (AB.out g hg).1 e.symm)
            have hR := PN.out.row.push (innerS _) (d := (List.range k).map fun (i : Nat) => (i : Int)) o4 g4 (⟨_, _, _, rfl, hO4.mono (Nat.zero_le _)⟩ : OwS 2 w4 (.slice a9 k c9) _) (hi' := w4.heap.size) (in_slice fun g e => hO4.lt g e) (fun g e => (o4.lt g e).2) hz4 (fun g e => by
                rcases hat with h | h
                · exact .inl (h ▸ e)
                · rw [h] at e; obtain rfl := Option.some.inj e
                  exact .inr fun j u hu q => by have := (PN.out.row.rng j u hu _ q).2; omega) (fun g e => by
                rw [ownBlock_slice] at e
                refine ⟨fun q => ?_, (AB.out g e).2⟩
                rcases hat with h | h
                · exact (AB.out g e).1 (h ▸ q)
                · rw [h] at q; have := Option.some.inj q; have := (HO.out.lt g e).2; omega)
            have P4 : PG w w4 a5' (k + 1) c5' (us ++ [.slice a9 k c9]) (ds ++ [(List.range k).map fun (i : Nat) => (i : Int)]) :=
              ⟨PN.out.src.far fun g e => g4.block g (by omega) (fun q => by have := (PN.out.row.own.lt g q.symm).1; omega), hR, low3 PN.out.len (by rw [rng_len]; omega), PN.out.bel.grown g4 (by omega) (fun g e => by have := (PN.out.row.own.lt g e).1; omega), by omega⟩
            have HPG := Lib.hid P4
            clear P4 hR hO4 o4 g4 hat HO PN AB
            go_wp2_with fail
            go_meet
            case rel => exact ⟨_, k + 1, _, _, _, N, rfl, by rw [show (N : Int) = (k : Int) + 1 by omega], by omega, by omega, by omega, by omega, HPG.out⟩
      · by_cases hq2 : r = 2
        · subst hq2
          have P0 := PH.out.nil
          have hb3 := below_alloc3 w3 (.cells #[.int .i64 0, .int .i64 1, .int .i64 2, .int .i64 3] 2) (.cells #[.int .i64 0, .int .i64 1, .int .i64 3, .int .i64 2] 2) (.cells #[.int .i64 0, .int .i64 2, .int .i64 1, .int .i64 3] 2)
          have q0 : Own (((w3.alloc (.cells #[.int .i64 0, .int .i64 1, .int .i64 2, .int .i64 3] 2)).alloc (.cells #[.int .i64 0, .int .i64 1, .int .i64 3, .int .i64 2] 2)).alloc (.cells #[.int .i64 0, .int .i64 2, .int .i64 1, .int .i64 3] 2)) w3.heap.size 2 (some ⟨w3.heap.size, 0, none⟩) 4 4 (([0, 1, 2, 3] : List Int).map (Value.int .i64)) := ((own_row (us := [.int .i64 0, .int .i64 1, .int .i64 2, .int .i64 3]) rfl rfl rfl (by decide)).alloc _).alloc _
          have q1 : Own (((w3.alloc (.cells #[.int .i64 0, .int .i64 1, .int .i64 2, .int .i64 3] 2)).alloc (.cells #[.int .i64 0, .int .i64 1, .int .i64 3, .int .i64 2] 2)).alloc (.cells #[.int .i64 0, .int .i64 2, .int .i64 1, .int .i64 3] 2)) _ 2 (some ⟨w3.heap.size + 1, 0, none⟩) 4 4 (([0, 1, 3, 2] : List Int).map (Value.int .i64)) := (own_row (us := [.int .i64 0, .int .i64 1, .int .i64 3, .int .i64 2]) (by simp) rfl rfl (by decide)).alloc _
          have q2 : Own (((w3.alloc (.cells #[.int .i64 0, .int .i64 1, .int .i64 2, .int .i64 3] 2)).alloc (.cells #[.int .i64 0, .int .i64 1, .int .i64 3, .int .i64 2] 2)).alloc (.cells #[.int .i64 0, .int .i64 2, .int .i64 1, .int .i64 3] 2)) _ 2 (some ⟨w3.heap.size + 2, 0, none⟩) 4 4 (([0, 2, 1, 3] : List Int).map (Value.int .i64)) := own_row (us := [.int .i64 0, .int .i64 2, .int .i64 1, .int .i64 3]) (by simp) rfl rfl (by decide)
          have hs3 : (((w3.alloc (.cells #[.int .i64 0, .int .i64 1, .int .i64 2, .int .i64 3] 2)).alloc (.cells #[.int .i64 0, .int .i64 1, .int .i64 3, .int .i64 2] 2)).alloc (.cells #[.int .i64 0, .int .i64 2, .int .i64 1, .int .i64 3] 2)).heap.size = w3.heap.size + 3 := by simp
          have hPG := P0.rows (vs := [.slice (some ⟨w3.heap.size, 0, none⟩) 4 4, .slice (some ⟨w3.heap.size + 1, 0, none⟩) 4 4, .slice (some ⟨w3.heap.size + 2, 0, none⟩) 4 4]) (es := [[0, 1, 2, 3], [0, 1, 3, 2], [0, 2, 1, 3]]) (k := 3) hb3 rfl rfl (fun j u d hu hd => by
              match j, hu, hd with
              | 0, hu, hd => simp at hu hd; subst hu hd; exact ows_of q0
              | 1, hu, hd => simp at hu hd; subst hu hd; exact ows_of q1
              | 2, hu, hd => simp at hu hd; subst hu hd; exact ows_of q2) (fun j u hu => by
              match j, hu with
              | 0, hu => simp at hu; subst hu; exact in_lit (by omega) (by omega)
              | 1, hu => simp at hu; subst hu; exact in_lit (by omega) (by omega)
              | 2, hu => simp at hu; subst hu; exact in_lit (by omega) (by omega)) (fun i j u u' g hij hu hu' hg e => by
              have key : ∀ (j : Nat) (u : Value), [Value.slice (some ⟨w3.heap.size, 0, none⟩) 4 4, .slice (some ⟨w3.heap.size + 1, 0, none⟩) 4 4, .slice (some ⟨w3.heap.size + 2, 0, none⟩) 4 4][j]? = some u → u.ownBlock = some g → g = w3.heap.size + j := fun j u hu hg => by
                match j, hu with
                | 0, hu => simp at hu; subst hu; rw [ownBlock_lit] at hg; injection hg with hg; omega
                | 1, hu => simp at hu; subst hu; rw [ownBlock_lit] at hg; injection hg with hg; omega
                | 2, hu => simp at hu; subst hu; rw [ownBlock_lit] at hg; injection hg with hg; omega
              have := key i u hu hg
              have := key j u' hu' e
              omega) (fun d hd => by simp at hd; rcases hd with rfl | rfl | rfl <;> decide)
            (w4 := (((w3.alloc (.cells #[.int .i64 0, .int .i64 1, .int .i64 2, .int .i64 3] 2)).alloc (.cells #[.int .i64 0, .int .i64 1, .int .i64 3, .int .i64 2] 2)).alloc (.cells #[.int .i64 0, .int .i64 2, .int .i64 1, .int .i64 3] 2)).alloc (.cells #[.slice (some ⟨w3.heap.size, 0, none⟩) 4 4, .slice (some ⟨w3.heap.size + 1, 0, none⟩) 4 4, .slice (some ⟨w3.heap.size + 2, 0, none⟩) 4 4] 49)) (ao4 := some ⟨w3.heap.size + 3, 0, none⟩) (c4 := 3)
            (own_lit (us := [.slice (some ⟨w3.heap.size, 0, none⟩) 4 4, .slice (some ⟨w3.heap.size + 1, 0, none⟩) 4 4, .slice (some ⟨w3.heap.size + 2, 0, none⟩) 4 4]) hs3 (by have := P0.sz; omega) (by simp)) (World.grownBy_alloc _ _ none) (.inr ⟨_, rfl, by rw [hs3]; exact Nat.le_refl _⟩)
          have HPG := Lib.hid hPG
          clear hPG q0 q1 q2 hs3 hb3 P0
          go_wp2_with fail
          go_meet
          case rel => exact ⟨_, 3, 3, _, _, 4, rfl, rfl, by omega, by omega, by omega, by omega, HPG.out⟩
        · by_cases hq3 : r = 3
          · subst hq3
            have hI : Ints (w3.alloc (.cells #[.int .i64 0, .int .i64 1, .int .i64 2, .int .i64 0, .int .i64 2, .int .i64 3, .int .i64 0, .int .i64 3, .int .i64 4, .int .i64 0, .int .i64 4, .int .i64 5, .int .i64 0, .int .i64 5, .int .i64 1, .int .i64 1, .int .i64 2, .int .i64 4, .int .i64 2, .int .i64 3, .int .i64 5, .int .i64 3, .int .i64 4, .int .i64 1, .int .i64 4, .int .i64 5, .int .i64 2, .int .i64 5, .int .i64 1, .int .i64 3] 2)) (some ⟨w3.heap.size, 0, none⟩) (3 * 10) [0, 1, 2, 0, 2, 3, 0, 3, 4, 0, 4, 5, 0, 5, 1, 1, 2, 4, 2, 3, 5, 3, 4, 1, 4, 5, 2, 5, 1, 3] := (own_row (zs := [0, 1, 2, 0, 2, 3, 0, 3, 4, 0, 4, 5, 0, 5, 1, 1, 2, 4, 2, 3, 5, 3, 4, 1, 4, 5, 2, 5, 1, 3]) (us := [.int .i64 0, .int .i64 1, .int .i64 2, .int .i64 0, .int .i64 2, .int .i64 3, .int .i64 0, .int .i64 3, .int .i64 4, .int .i64 0, .int .i64 4, .int .i64 5, .int .i64 0, .int .i64 5, .int .i64 1, .int .i64 1, .int .i64 2, .int .i64 4, .int .i64 2, .int .i64 3, .int .i64 5, .int .i64 3, .int .i64 4, .int .i64 1, .int .i64 4, .int .i64 5, .int .i64 2, .int .i64 5, .int .i64 1, .int .i64 3]) rfl rfl rfl (by decide)).ints
            have hP := PH.out.nil.below (below_alloc1 w3 (.cells #[.int .i64 0, .int .i64 1, .int .i64 2, .int .i64 0, .int .i64 2, .int .i64 3, .int .i64 0, .int .i64 3, .int .i64 4, .int .i64 0, .int .i64 4, .int .i64 5, .int .i64 0, .int .i64 5, .int .i64 1, .int .i64 1, .int .i64 2, .int .i64 4, .int .i64 2, .int .i64 3, .int .i64 5, .int .i64 3, .int .i64 4, .int .i64 1, .int .i64 4, .int .i64 5, .int .i64 2, .int .i64 5, .int .i64 1, .int .i64 3] 2))
            have HI := Lib.hid hI
            have HP := Lib.hid hP
            clear hI hP
            go_wp2_with fail
            refine (poly3_any _ 10 30 _ _ HI.out (by omega)).mono ?_
            rintro e w6 ⟨a6, c6, us6, ds6, rfl, o6, h6, b6⟩
            have HPG := Lib.hid (show PG w w6 a6 10 c6 us6 ds6 from ⟨(HP.out.below b6).src, o6.mono (by have := HP.out.sz; omega) (Nat.le_refl _), h6, (HP.out.below b6).bel, (HP.out.below b6).sz⟩)
            clear HI HP o6 h6 b6
            go_wp2_with fail
            go_meet
            case rel => exact ⟨_, 10, _, _, _, 6, rfl, rfl, by omega, by omega, by omega, by omega, HPG.out⟩
          · have hq4 : r = 4 := by omega
            subst hq4
            have hz3 := PH.out.sz
            have PN := Lib.hid PH.out.nil
            go_wp2_with fail
            go_loopw [5, 11] (fun s5 s11 wr => ∃ (k : Nat) (a5 : Option Addr) (c5 : Nat) (us5 : List Value) (ds5 : List (List Int)), k ≤ 7 ∧ s5 = .slice a5 (2 * k) c5 ∧ s11 = .int .i64 k ∧ PG w wr a5 (2 * k) c5 us5 ds5) (fun _ s11 _ => 7 - (intOf s11).toNat)
            case atStart => exact ⟨0, _, _, _, _, by omega, rfl, rfl, PH.out⟩
            case round =>
              clear PH PN hz3
              obtain ⟨k, a5, c5, us5, ds5, hk, rfl, rfl, pg⟩ := hrel
              by_cases hlt : k < 7
              · have hr1 : ((k : Int) + 1).tmod 7 = (((k + 1) % 7 : Nat) : Int) := by rw [show ((k : Int) + 1) = ((k + 1 : Nat) : Int) by omega]; rfl
                have hr3 : ((k : Int) + 3).tmod 7 = (((k + 3) % 7 : Nat) : Int) := by rw [show ((k : Int) + 3) = ((k + 3 : Nat) : Int) by omega]; rfl
                have hr2 : ((k : Int) + 2).tmod 7 = (((k + 2) % 7 : Nat) : Int) := by rw [show ((k : Int) + 2) = ((k + 2 : Nat) : Int) by omega]; rfl
                generalize (k + 1) % 7 = x1 at *
                generalize (k + 3) % 7 = x3 at *
                generalize (k + 2) % 7 = x2 at *
                have b2 := below_alloc2 wr (.cells #[.int .i64 k, .int .i64 x1, .int .i64 x3] 2) (.cells #[.int .i64 k, .int .i64 x3, .int .i64 x2] 2)
                have q0 : Own ((wr.alloc (.cells #[.int .i64 k, .int .i64 x1, .int .i64 x3] 2)).alloc (.cells #[.int .i64 k, .int .i64 x3, .int .i64 x2] 2)) wr.heap.size 2 (some ⟨wr.heap.size, 0, none⟩) 3 3 (([(k : Int), (x1 : Int), (x3 : Int)] : List Int).map (Value.int .i64)) := (own_row (us := [.int .i64 k, .int .i64 x1, .int .i64 x3]) rfl rfl rfl (by simp)).alloc _
                have q1 : Own ((wr.alloc (.cells #[.int .i64 k, .int .i64 x1, .int .i64 x3] 2)).alloc (.cells #[.int .i64 k, .int .i64 x3, .int .i64 x2] 2)) _ 2 (some ⟨wr.heap.size + 1, 0, none⟩) 3 3 (([(k : Int), (x3 : Int), (x2 : Int)] : List Int).map (Value.int .i64)) := own_row (us := [.int .i64 k, .int .i64 x3, .int .i64 x2]) (by simp) rfl rfl (by simp)
                have hs2 : ((wr.alloc (.cells #[.int .i64 k, .int .i64 x1, .int .i64 x3] 2)).alloc (.cells #[.int .i64 k, .int .i64 x3, .int .i64 x2] 2)).heap.size = wr.heap.size + 2 := by simp
                have hV : Vals (((wr.alloc (.cells #[.int .i64 k, .int .i64 x1, .int .i64 x3] 2)).alloc (.cells #[.int .i64 k, .int .i64 x3, .int .i64 x2] 2)).alloc (.cells #[.slice (some ⟨wr.heap.size, 0, none⟩) 3 3, .slice (some ⟨wr.heap.size + 1, 0, none⟩) 3 3] 49)) (some ⟨wr.heap.size + 2, 0, none⟩) 2 [.slice (some ⟨wr.heap.size, 0, none⟩) 3 3, .slice (some ⟨wr.heap.size + 1, 0, none⟩) 3 3] := own_vals (own_lit (us := [.slice (some ⟨wr.heap.size, 0, none⟩) 3 3, .slice (some ⟨wr.heap.size + 1, 0, none⟩) 3 3]) hs2 (Nat.zero_le _) (by simp))
                have b3 := b2.alloc (o := .cells #[.slice (some ⟨wr.heap.size, 0, none⟩) 3 3, .slice (some ⟨wr.heap.size + 1, 0, none⟩) 3 3] 49) b2.size
                have hO := pg.row.own.below b3
                have hB : w.heap.size + 1 ≤ (((wr.alloc (.cells #[.int .i64 k, .int .i64 x1, .int .i64 x3] 2)).alloc (.cells #[.int .i64 k, .int .i64 x3, .int .i64 x2] 2)).alloc (.cells #[.slice (some ⟨wr.heap.size, 0, none⟩) 3 3, .slice (some ⟨wr.heap.size + 1, 0, none⟩) 3 3] 49)).heap.size := by have := b3.size; have := pg.sz; omega
                have HPu := Lib.hid (fun (w4 : World) (ao4 : Option Addr) (c4 : Nat) (hown : Own w4 (w.heap.size + 1) 49 ao4 (2 * k + 2) c4 (us5 ++ [.slice (some ⟨wr.heap.size, 0, none⟩) 3 3, .slice (some ⟨wr.heap.size + 1, 0, none⟩) 3 3])) (hg : (((wr.alloc (.cells #[.int .i64 k, .int .i64 x1, .int .i64 x3] 2)).alloc (.cells #[.int .i64 k, .int .i64 x3, .int .i64 x2] 2)).alloc (.cells #[.slice (some ⟨wr.heap.size, 0, none⟩) 3 3, .slice (some ⟨wr.heap.size + 1, 0, none⟩) 3 3] 49)).grownBy w4 (bk a5)) (hat : bk ao4 = bk a5 ∨ ∃ g, bk ao4 = some g ∧ wr.heap.size + 2 ≤ g) =>
                  pg.rows (w2 := ((wr.alloc (.cells #[.int .i64 k, .int .i64 x1, .int .i64 x3] 2)).alloc (.cells #[.int .i64 k, .int .i64 x3, .int .i64 x2] 2))) (vs := [.slice (some ⟨wr.heap.size, 0, none⟩) 3 3, .slice (some ⟨wr.heap.size + 1, 0, none⟩) 3 3]) (es := [[(k : Int), (x1 : Int), (x3 : Int)], [(k : Int), (x3 : Int), (x2 : Int)]]) (k := 2) b2 rfl rfl (fun j u d hu hd => by
                    match j, hu, hd with
                    | 0, hu, hd => simp at hu hd; subst hu hd; exact ows_of q0
                    | 1, hu, hd => simp at hu hd; subst hu hd; exact ows_of q1) (fun j u hu => by
                    match j, hu with
                    | 0, hu => simp at hu; subst hu; exact in_lit (by omega) (by omega)
                    | 1, hu => simp at hu; subst hu; exact in_lit (by omega) (by omega)) (fun i j u u' g hij hu hu' hg e => by
                    have key : ∀ (j : Nat) (u : Value), [Value.slice (some ⟨wr.heap.size, 0, none⟩) 3 3, .slice (some ⟨wr.heap.size + 1, 0, none⟩) 3 3][j]? = some u → u.ownBlock = some g → g = wr.heap.size + j := fun j u hu hg => by
                      match j, hu with
                      | 0, hu => simp at hu; subst hu; rw [ownBlock_lit] at hg; injection hg with hg; omega
                      | 1, hu => simp at hu; subst hu; rw [ownBlock_lit] at hg; injection hg with hg; omega
                    have := key i u hu hg
                    have := key j u' hu' e
                    omega) (fun d hd => by simp at hd; rcases hd with rfl | rfl <;> simp) hown (grown_tr (World.grownBy_alloc _ _ _) hg) (hat.elim .inl fun ⟨g, e, h⟩ => .inr ⟨g, e, by rw [hs2]; exact h⟩))
                have HV := Lib.hid hV
                have HO := Lib.hid hO
                clear hV hO q0 q1 hs2 b2 b3 pg
                go_wp2_with (at_builtin; refine wpList_apV etSS _ rfl _ _ rfl (w.heap.size + 1) a5 (2 * k) c5 us5 rfl HO.out (some ⟨wr.heap.size + 2, 0, none⟩) 2 2 [.slice (some ⟨wr.heap.size, 0, none⟩) 3 3, .slice (some ⟨wr.heap.size + 1, 0, none⟩) 3 3] rfl HV.out (by intro u hu; simp at hu; rcases hu with rfl | rfl <;> rfl) (by omega) hB ?_; intro ao4 c4 w4 o4 g4 hat)
                have HPG := Lib.hid (HPu.out w4 ao4 c4 o4 g4 (hat.elim .inl fun h => .inr ⟨_, h, by simp⟩))
                clear HPu HO HV o4 g4 hat hB hr1 hr2 hr3
                go_wp2_with fail
                go_roundw
                case rel => (repeat apply Exists.intro); exact ⟨⟨k + 1, ao4, c4, _, _, by omega, rfl, by go_num, HPG.out⟩, rfl⟩
                case measure => simp [intOf]; omega
              · obtain rfl : k = 7 := by omega
                have HPG := Lib.hid pg
                clear pg
                go_wp2_with fail
                go_meet
                case rel => exact ⟨_, 14, _, _, _, 7, rfl, rfl, by omega, by omega, by omega, by omega, HPG.out⟩
  case rest =>
    obtain ⟨a2, m, c2, us, ds, N, rfl, rfl, hm1, hm2, hN1, hN2, pg⟩ := hcut
    clear PH
    have PG2 := Lib.hid pg
    have hsz := pg.sz
    clear pg
    go_wp2_with fail
    refine (perm_any w.heap.size m _ PG2.out.src hsz (by omega)).mono ?_
    rintro e w4 ⟨a4, c4, zs, rfl, hlen, hlow, o4, s4, q4⟩
    have PG4 := Lib.hid (PG2.out.next s4 q4)
    have O4 := Lib.hid (show Own w4 (w.heap.size + 1) 2 a4 m c4 (zs.map (Value.int .i64)) from o4.mono hsz)
    have HW := Lib.hid hlow
    have HL := Lib.hid hlen
    have hz4 := q4.size
    clear hlow hlen o4 s4 q4 PG2
    have hOG := Lib.hid (show OG w4 (w4.alloc (.cells #[] 49)) w.heap.size (some ⟨w4.heap.size, 0, none⟩) 0 0 [] [] from
      ⟨(PG4.out.below (below_alloc1 w4 _)).src, OwR.empty_ (Own.empty_ w4 49 (base := w4.heap.size) (Nat.le_refl _)) (fun g e => by simp [bk] at e; simp; omega), (fun d hd => by simp at hd), only_grown (Only.refl _ _ _) (World.grownBy_alloc w4 _ none) (fun g e => by cases e), by omega⟩)
    go_wp2_with fail
    go_loopw [13, 14] (fun s13 s14 wr => ∃ (k : Nat) (a5 : Option Addr) (c5 : Nat) (us5 : List Value) (ds5 : List (List Int)), k ≤ m ∧ s13 = .slice a5 k c5 ∧ s14 = .int .i64 k ∧ OG w4 wr w.heap.size a5 k c5 us5 ds5) (fun _ s14 _ => m - (intOf s14).toNat)
    case atStart => exact ⟨0, _, _, _, _, Nat.zero_le _, rfl, rfl, hOG.out⟩
    case round =>
      clear hOG
      obtain ⟨k, a5, c5, us5, ds5, hk, rfl, rfl, og⟩ := hrel
      have OGH := Lib.hid og
      have hzr := og.only.size
      clear og
      by_cases hlt : k < m
      · have hO := O4.out.only OGH.out.only (lo' := w.heap.size + 1) (hi' := w4.heap.size) (fun g e => O4.out.lt g e) (.inr (Nat.le_refl _))
        have hRw := PG4.out.row.only (innerS _) OGH.out.only (.inr (Nat.le_refl _))
        have hzl := HL.out
        have hj := low_get HW.out (k := k) (by omega)
        obtain ⟨j, hjv⟩ := Int.eq_ofNat_of_zero_le hj.1
        obtain ⟨g4, rfl, -, hg4, -, -, -⟩ := hO.form (by omega)
        have x4 := own_int hO hlt
        rw [hjv] at x4
        have hjm : j < m := by omega
        obtain ⟨u, d, hu, hd, ⟨ap, np, cp, rfl, owp⟩, hin⟩ := hRw.get hjm
        obtain ⟨g2, rfl, -, -, -, -, -⟩ := hRw.own.form (by omega)
        have x2 := hRw.cell hu
        have hdl : d.length = np := by have := owp.len; simpa using this
        have h9 := PG4.out.len d (List.mem_of_getElem? hd)
        rw [hdl] at h9
        obtain ⟨gp, rfl, -, hgp, hcp, -, -⟩ := owp.form (by omega)
        have OWP := Lib.hid owp
        have HIN := Lib.hid (hin gp (ownBlock_lit _ _ _))
        clear hO hRw hj hjv hu hd hin owp
        have hj0 : (0 : Int) ≤ (j : Int) := by omega
        have hj1 : (j : Int) < (m : Int) := by omega
        go_wp2_with fail
        refine (next_any w.heap.size _ _ OGH.out.src (by omega)).mono ?_
        rintro e w6 ⟨r, rfl, -, r6, s6, o6⟩
        have hr := r6 (by omega)
        have OG6 := Lib.hid (OGH.out.next s6 o6)
        have OP6 := Lib.hid (OWP.out.only o6 (lo' := w.heap.size + 1) (hi' := w4.heap.size) (fun g e => by simp [bk] at e; have := HIN.out; omega) (.inr (Nat.le_refl _)))
        clear r6 s6 o6 x4 x2 OGH OWP
        obtain ⟨q, rfl⟩ : ∃ q, np = q + r := ⟨np - r, by omega⟩
        have hq0 : 0 < q := by omega
        have HI := Lib.hid (show Ints w6.drew (some ⟨gp, r, none⟩) q (d.drop r) from ⟨by simp; omega, by omega, fun _ => ⟨gp, r, rfl, fun j hj => by
          have := own_int OP6.out (k := r + j) (by omega)
          have e : iget (d.drop r) j = iget d (r + j) := by simp [iget]
          rw [e]; exact this⟩⟩)
        have HC := Lib.hid (show ∀ w7 : World, Below w6.heap.size w6 w7 → ∀ j u, ((d.take r).map (Value.int .i64))[j]? = some u → w7.cell? ⟨gp, 0 + j, none⟩ = some u from fun w7 b7 j u hu => by
          have hjl : j < r := by have := (List.getElem?_eq_some_iff.1 hu).1; simp at this; omega
          have h1 := own_int OP6.out (k := j) (by omega)
          rw [Nat.zero_add, b7.cell (p := ⟨gp, j, none⟩) (by have := (OP6.out.lt gp rfl).2; exact this), h1, ← hu, List.getElem?_map, List.getElem?_take_of_lt hjl, List.getElem?_eq_getElem (by omega), iget_lt (by omega)]; rfl)
        have hlt1 : ((d.take r).map (Value.int .i64)).length = r := by simp; omega
        have hone : ∀ u ∈ (d.take r).map (Value.int .i64), u.oneCell' = true := fun u hu => by obtain ⟨z, -, rfl⟩ := List.mem_map.1 hu; rfl
        have hzs : 3 ≤ (d.drop r ++ d.take r).length ∧ (d.drop r ++ d.take r).length ≤ 9 := by simp; omega
        have hr1 : (r : Int) ≤ (q : Int) + r := by omega
        have hr0 : (0 : Int) ≤ (r : Int) := by omega
        have hcr : ¬ (cp = r) := by omega
        have hrc : r ≤ cp := by omega
        have HLT := Lib.hid hlt1
        have HON := Lib.hid hone
        have HZS := Lib.hid hzs
        have hz6 := OG6.out.only.size
        clear hlt1 hone hzs
        go_upto_region 38 with fail
        go_region_law (first | (refine step_ap1 (o := ⟨some 138, _, _, _, _, _⟩) etSS rfl (.tmp 128) (.tmp 137) rfl w4.heap.size a5 k c5 us5 rfl O9 (.slice a8 (q + r) c8) w8.heap.size 1 rfl W90 rfl (by omega) W91 ?_; intro ao10 c10 w10 o10 g10 hat10) | (refine step_apI (o := ⟨some 136, _, _, _, _, _⟩) etI rfl (.tmp 132) (.tmp 135) rfl w6.heap.size a7 q c7 ((d.drop r).map (Value.int .i64)) rfl o7 gp 0 r cp ((d.take r).map (Value.int .i64)) rfl HLT.out C7 HON.out (by omega) hq0 W7 ?_; intro a8 c8 w8 o8 g8 hat8; have B8 : Below w6.heap.size w6 w8 := B7.grown g8 W7 (fun g e => (o7.lt g e).1); have O9 := (OG6.out.row.own.below B8).alloc (.cells #[.slice a8 (q + r) c8] 49); have W90 : (w8.alloc (.cells #[.slice a8 (q + r) c8] 49)).cell? ⟨w8.heap.size, 0, none⟩ = some (.slice a8 (q + r) c8) := (show Blk (w8.alloc (.cells #[.slice a8 (q + r) c8] 49)) w8.heap.size 49 #[.slice a8 (q + r) c8] from blk_at rfl).cell 0; have W91 : w4.heap.size ≤ (w8.alloc (.cells #[.slice a8 (q + r) c8] 49)).heap.size := by (have := B8.size); simp; omega) | (go_simp; go_at_call 121; refine (own_any _ q _ (d.drop r) _ HI.out (by omega)).mono ?_; rintro e w7 ⟨a7, c7, rfl, o7, b7⟩; have B7 : Below w6.heap.size w6 w7 := below_tr b7 (below_drew1 w6); have C7 := HC.out w7 B7; have W7 : w6.heap.size ≤ w7.heap.size := B7.size))
        all_goals
          have hnew := OG6.out.push B8 (zs := d.drop r ++ d.take r) (by rw [List.map_append]; exact o8) (below_alloc1 w8 _) o10 g10 hat10 HZS.out
          have HN := Lib.hid hnew
          clear hnew o7 o8 o10 g8 g10 hat8 hat10 B7 B8 C7 O9 W7 W90 W91 HI HC OG6
          go_wp2_with fail
          go_roundw
          case rel => first | exact ⟨k + 1, ao10, c10, _, _, by omega, rfl, by go_num, HN.out⟩ | ((repeat apply Exists.intro); exact ⟨⟨k + 1, ao10, c10, _, _, by omega, rfl, by go_num, HN.out⟩, rfl⟩)
          case measure => simp [intOf]; omega
      · obtain rfl : k = m := by omega
        go_wp2_with fail
        refine (next_any w.heap.size _ _ OGH.out.src (by omega)).mono ?_
        rintro e w6 ⟨r, rfl, -, r6, s6, o6⟩
        have hr := r6 (by omega)
        have OG6 := Lib.hid (OGH.out.next s6 o6)
        clear r6 s6 o6 OGH
        have hzo := OG6.out.only.size
        have hbl := Lib.hid (PG4.out.bel.trans (OG6.out.only.below (Nat.le_refl _) (by omega)))
        have hdl := OG6.out.row.len
        have hLS := lenSS_le9 OG6.out.len
        rw [hdl] at hLS
        go_upto_block 9 with (fail)
        go_cut [6, 13] (fun s6 s13 wx => PGy w wx s6 s13)
        case first =>
          obtain ⟨g5, rfl, hg5, hg5b, hmc, -, hf5⟩ := OG6.out.row.own.form (by omega)
          have RD := Lib.hid (OwSS.rdc (⟨_, _, _, _, rfl, OG6.out.row⟩ : OwSS 2 49 w6 w4.heap.size w6.heap.size (.slice (some ⟨g5, 0, none⟩) k c5) ds5))
          by_cases hq0 : r = 0
          · subst hq0
            obtain ⟨d0, ds6, rfl⟩ : ∃ d0 ds6, ds5 = d0 :: ds6 := by
              cases ds5 with
              | nil => simp at hdl; omega
              | cons a b => exact ⟨a, b, rfl⟩
            have hcr : ¬ (c5 = 1) := by omega
            have h1k : 1 ≤ k := by omega
            have hk1 : ((k : Int) - 1).toNat = k - 1 := by omega
            have hR := Lib.hid (rdc_tail RD.out)
            simp at hdl
            have e1 : lenSS (d0 :: ds6) = d0.length + lenSS ds6 := by simp [lenSS]
            go_wp2_with fail
            go_meet
            case rel => exact ⟨N, ds6, _, _, _, rfl, rfl, by omega, by omega, by omega, by omega, hR.out, hbl.out⟩
          · by_cases hq1 : r = 1
            · subst hq1
              obtain ⟨u0, d0, hu0, hd0, ⟨a0, n0, c0, rfl, ow0⟩, hin0⟩ := OG6.out.row.get (j := 0) (by omega)
              have hd9 := OG6.out.len d0 (List.mem_of_getElem? hd0)
              have hl0 : d0.length = n0 := by have := ow0.len; simpa using this
              obtain ⟨g0, rfl, -, hg0b, hc0, -, hf0⟩ := ow0.form (by omega)
              have hg04 := (hin0 g0 (ownBlock_lit _ _ _)).1
              have x5 : w6.cell? ⟨g5, 0, none⟩ = some (.slice (some ⟨g0, 0, none⟩) n0 c0) := OG6.out.row.cell hu0
              have y1 := own_int ow0 (k := 1) (by omega)
              generalize iget d0 1 = v1 at *
              have hA := (below_alloc1 w6 (.cells #[.int .i64 (-1), .int .i64 (N : Int), .int .i64 v1, .int .i64 0] 2)).drew
              have OGA := Lib.hid (OG6.out.below hA)
              have hP : Ints (w6.alloc (.cells #[.int .i64 (-1), .int .i64 (N : Int), .int .i64 v1, .int .i64 0] 2)).drew (some ⟨w6.heap.size, 0, none⟩) 4 [-1, (N : Int), v1, 0] := (own_row (us := [.int .i64 (-1), .int .i64 (N : Int), .int .i64 v1, .int .i64 0]) rfl rfl rfl (by simp)).ints
              have HP := Lib.hid hP
              have hne : bk (some ⟨w6.heap.size, 0, none⟩) ≠ some w.heap.size := by have := OG6.out.lt; simp [bk]; omega
              have x5d : w6.drew.cell? ⟨g5, 0, none⟩ = some (.slice (some ⟨g0, 0, none⟩) n0 c0) := x5
              have x5a : (w6.alloc (.cells #[.int .i64 (-1), .int .i64 (N : Int), .int .i64 v1, .int .i64 0] 2)).drew.cell? ⟨g5, 0, none⟩ = some (.slice (some ⟨g0, 0, none⟩) n0 c0) := (hA.cell (p := ⟨g5, 0, none⟩) hg5b).trans x5
              have y1d : w6.drew.cell? ⟨g0, 1, none⟩ = some (.int .i64 v1) := y1
              have hn1 : (1 : Int) < (n0 : Int) := by omega
              have hn1' : 1 < n0 := by omega
              have hn0' : 0 < n0 := by omega
              have hk0' : 0 < k := by omega
              have HU0 := Lib.hid hu0
              have HD0 := Lib.hid hd0
              have hsb := OG6.out.lt
              clear hP hu0 hd0 ow0 hin0 hf0
              go_upto_region 43 with fail
              go_region_law (go_simp; go_at_call 124; refine (pick_any w.heap.size _ 4 4 [-1, (N : Int), v1, 0] _ OGA.out.src HP.out (by omega) (by omega) hne).mono ?_; rintro e w7 ⟨p, hp, rfl, s7, o7⟩; have OG7 := OGA.out.next s7 o7; obtain ⟨u0, d0', hu0, hd0, ⟨a0, n0', c0', e0, ow7⟩, -⟩ := OG7.row.get (j := 0) (by omega); rw [HU0.out] at hu0; obtain rfl := Option.some.inj hu0; rw [HD0.out] at hd0; obtain rfl := Option.some.inj hd0; injection e0 with e1 e2 e3; subst e1 e2 e3; have x7 : w7.cell? ⟨g5, 0, none⟩ = some (.slice (some ⟨g0, 0, none⟩) n0 c0) := OG7.row.cell HU0.out; have y7 := own_int ow7 (k := 0) (by omega); obtain ⟨gq, eq, -, -, -, -, hfq⟩ := ow7.form (by omega); injection eq with eq; injection eq with eq; subst eq; have f7 := hfq 0; generalize iget [-1, (N : Int), v1, 0] p = X at *; generalize hyy : iget d0 0 = Y at *; clear hyy)
              all_goals
                obtain ⟨st, gst⟩ := ow7.stored 0 (.int .i64 X)
                rw [← List.map_set] at st
                have row8 := OG7.row.upd (innerS _) HU0.out (by rw [ownBlock_lit]; exact gst) (⟨_, _, _, rfl, st⟩ : OwS 2 _ (.slice (some ⟨g0, 0, none⟩) n0 c0) (d0.set 0 X))
                have RD8 := Lib.hid (OwSS.rdc (⟨_, _, _, _, rfl, row8⟩ : OwSS 2 49 _ w4.heap.size w7.heap.size (.slice (some ⟨g5, 0, none⟩) k c5) (ds5.set 0 (d0.set 0 X))))
                have hB8 := Lib.hid ((PG4.out.bel.trans (OG7.only.below (Nat.le_refl _) (by omega))).setCell (p := ⟨g0, 0, none⟩) (by show w.heap.size ≤ g0; omega) (.int .i64 X))
                have hL8 : lenSS (ds5.set 0 (d0.set 0 X)) = lenSS ds5 := by
                  have hd := HD0.out
                  cases ds5 with
                  | nil => simp at hd
                  | cons a b => simp at hd; subst hd; simp [lenSS]
                clear st gst row8 ow7 OG7 s7 o7
                go_wp2_with fail
                go_meet
                case rel => exact ⟨N, ds5.set 0 (d0.set 0 X), _, _, _, rfl, rfl, by omega, by omega, by rw [List.length_set]; omega, by omega, RD8.out, hB8.out⟩
            · by_cases hq2 : r = 2
              · subst hq2
                have hP : Ints (w6.alloc (.cells #[.int .i64 0, .int .i64 101, .int .i64 ((N : Int) - 1), .int .i64 ((N : Int) + 1)] 2)) (some ⟨w6.heap.size, 0, none⟩) 4 [0, 101, (N : Int) - 1, (N : Int) + 1] := (own_row (us := [.int .i64 0, .int .i64 101, .int .i64 ((N : Int) - 1), .int .i64 ((N : Int) + 1)]) rfl rfl rfl (by simp)).ints
                have hA := below_alloc1 w6 (.cells #[.int .i64 0, .int .i64 101, .int .i64 ((N : Int) - 1), .int .i64 ((N : Int) + 1)] 2)
                have HP := Lib.hid hP
                have OGA := Lib.hid (OG6.out.below hA)
                have hne : bk (some ⟨w6.heap.size, 0, none⟩) ≠ some w.heap.size := by have := OG6.out.lt; simp [bk]; omega
                clear hP
                go_wp2_with fail
                refine (pick_any w.heap.size _ 4 4 [0, 101, (N : Int) - 1, (N : Int) + 1] _ OGA.out.src HP.out (by omega) (by omega) hne).mono ?_
                rintro e w7 ⟨p, hp, rfl, s7, o7⟩
                have hpk := pick101 hp hN2
                generalize iget [0, 101, (N : Int) - 1, (N : Int) + 1] p = z at *
                have OG7 := Lib.hid (OGA.out.next s7 o7)
                have hbl7 := Lib.hid (PG4.out.bel.trans (OG7.out.only.below (Nat.le_refl _) (by omega)))
                have RD7 := Lib.hid (OwSS.rdc (⟨_, _, _, _, rfl, OG7.out.row⟩ : OwSS 2 49 w7 w4.heap.size w7.heap.size (.slice (some ⟨g5, 0, none⟩) k c5) ds5))
                clear s7 o7 hA hne
                go_wp2_with fail
                go_meet
                case rel => exact ⟨z, ds5, _, _, _, rfl, rfl, hpk.1, hpk.2, by omega, by omega, RD7.out, hbl7.out⟩
              · by_cases hq3 : r = 3
                · subst hq3
                  obtain ⟨u0, d0, hu0, hd0, ⟨a0, n0, c0, rfl, ow0⟩, -⟩ := OG6.out.row.get (j := 0) (by omega)
                  have hd9 := OG6.out.len d0 (List.mem_of_getElem? hd0)
                  have hl0 : d0.length = n0 := by have := ow0.len; simpa using this
                  obtain ⟨g0, rfl, -, -, hc0, -, -⟩ := ow0.form (by omega)
                  obtain ⟨us6, rfl⟩ : ∃ us6, us5 = .slice (some ⟨g0, 0, none⟩) n0 c0 :: us6 := by
                    cases us5 with
                    | nil => simp at hu0
                    | cons a b => simp at hu0; subst hu0; exact ⟨b, rfl⟩
                  obtain ⟨ds6, rfl⟩ : ∃ ds6, ds5 = d0 :: ds6 := by
                    cases ds5 with
                    | nil => simp at hd0
                    | cons a b => simp at hd0; subst hd0; exact ⟨b, rfl⟩
                  have x5 : w6.cell? ⟨g5, 0, none⟩ = some (.slice (some ⟨g0, 0, none⟩) n0 c0) := OG6.out.row.cell hu0
                  have f5 := hf5 0
                  have hR := Lib.hid (rdc_set0 OG6.out.row (by omega))
                  have hB := Lib.hid (hbl.out.setCell (p := ⟨g5, 0, none⟩) (by show w.heap.size ≤ g5; have := OG6.out.lt; omega) (.slice (some ⟨g0, 1, none⟩) (n0 - 1) (c0 - 1)))
                  have hcr : ¬ (c0 = 1) := by omega
                  have h1n : 1 ≤ n0 := by omega
                  have hn1 : ((n0 : Int) - 1).toNat = n0 - 1 := by omega
                  simp at hdl
                  have e1 : lenSS (d0.tail :: ds6) ≤ lenSS (d0 :: ds6) := by simp [lenSS]
                  clear hu0 hd0 ow0
                  go_wp2_with fail
                  go_meet
                  case rel => exact ⟨N, d0.tail :: ds6, _, _, _, rfl, rfl, by omega, by omega, by rw [List.length_cons]; omega, by omega, hR.out, hB.out⟩
                · have hq3' : ((r : Int) == 3) = false := by simp; omega
                  go_wp2_with fail
                  go_meet
                  case rel => exact ⟨N, ds5, _, _, _, rfl, rfl, by omega, by omega, by omega, by omega, RD.out, hbl.out⟩
        case rest =>
          obtain ⟨z, ps, a9, n9, c9, rfl, rfl, hz1, hz2, hl1, hl2, hrd, hbw⟩ := hcut
          have HRD := Lib.hid hrd
          clear hrd
          go_wp2_with fail
          exact bodyPost_ret (v := .tuple #[.int .i64 z, .slice a9 n9 c9]) (by simp [results, Try.f48, go_sem]) rfl ⟨z, _, ps, rfl, hz1, hz2, hl1, hl2, HRD.out, hbw⟩
end Go.Proofs.Ytpognnifgcacnaa

/- IsPresentation: words, presentations, the program's and the reference's. -/
namespace Go.Proofs.Ytpognnifgcacnaa
open Go.RowKit

end Go.Proofs.Ytpognnifgcacnaa

/- isPresentation, the program's: areWithin, isLetters, slices.ContainsFunc at [][]int64. -/
namespace Go.Proofs.Ytpognnifgcacnaa
open Go.RowKit

theorem areWithinFn_any (z lo hi : Int) (b1 b2 : Nat) (w : World) (h1 : w.cell? ⟨b1, 0, none⟩ = some (.int .i64 lo)) (h2 : w.cell? ⟨b2, 0, none⟩ = some (.int .i64 hi)) :
    Calls Try.prog 216 #[.int .i64 z, .pointer (some ⟨b1, 0, none⟩), .pointer (some ⟨b2, 0, none⟩)] w fun e w' => e = .returned (.bool (!inB z lo hi)) ∧ w' = w := by
  go_enter Try.func216, Try.ntmps216
  go_wp2_with (go_at_call 97; refine (within_any _ _ _ _).mono ?_; rintro e w' ⟨rfl, rfl⟩)
  go_ret
  exact ⟨rfl, rfl⟩

set_option maxHeartbeats 400000 in
set_option maxRecDepth 100000 in
theorem areWithin_any (ao : Option Addr) (n c : Nat) (zs : List Int) (lo hi : Int) (w : World) (h : Ints w ao n zs) :
    Calls Try.prog 188 #[.slice ao n c, .int .i64 lo, .int .i64 hi] w fun e w' => e = .returned (.bool (zs.all (fun z => inB z lo hi))) ∧ Below w.heap.size w w' := by
  have hmf : ∀ (fn : Fn) (first cap : Array Value) (w : World), (Instr.makeFunc fn first cap).run Try.prog w = .ok (.func fn first cap) w := fun _ _ _ _ => rfl
  have hany : zs.any (fun z => !inB z lo hi) = !(zs.all (fun z => inB z lo hi)) := by rw [List.any_eq_not_all_not]; simp
  have HA := Lib.hid hany
  clear hany
  have hb := below_alloc2 w (.cells #[.int .i64 lo] 2) (.cells #[.int .i64 hi] 2)
  have k1 : Blk ((w.alloc (.cells #[.int .i64 lo] 2)).alloc (.cells #[.int .i64 hi] 2)) w.heap.size 2 #[.int .i64 lo] := (blk_at rfl).alloc _
  have k2 : Blk ((w.alloc (.cells #[.int .i64 lo] 2)).alloc (.cells #[.int .i64 hi] 2)) (w.heap.size + 1) 2 #[.int .i64 hi] := blk_at (by simp)
  go_enter Try.func188, Try.ntmps188
  go_wp2_with fail
  refine (containsFunc_any 216 #[.pointer (some ⟨w.heap.size, 0, none⟩), .pointer (some ⟨w.heap.size + 1, 0, none⟩)] (fun z => !inB z lo hi) ao n c zs _ (h.below hb) (fun _ _ => by rfl)
    (fun j hj w' hb' => (areWithinFn_any _ lo hi w.heap.size (w.heap.size + 1) w' ((k1.belowS hb').cell 0) ((k2.belowS hb').cell 0)).mono ?_)).mono ?_
  · rintro e w1 ⟨rfl, rfl⟩; exact ⟨rfl, Below.refl _ _⟩
  rintro e w1 ⟨rfl, hb1⟩
  go_wp2
  go_ret
  exact ⟨ret_bool (by rw [HA.out]; simp), hb.trans (hb1.mono hb.size)⟩

end Go.Proofs.Ytpognnifgcacnaa

/- Maps of polygons: what a list of polygons must be; the reference's test, the program's test of one. -/
namespace Go.Proofs.Ytpognnifgcacnaa
open Go.RowKit

/-- a polygon with vertices below n -/
def polyAt (n : Int) (p : List Int) (i : Nat) : Bool := inB (iget p i) 0 (n - 1) && !(iget p i == iget p ((i + 1) % p.length))
def polyOk (n : Int) (p : List Int) : Bool := decide (3 ≤ p.length) && (List.range p.length).all (polyAt n p)
/-- the first k are polygons, with at most 200 corners -/
def polysUp (n : Int) (ps : List (List Int)) (k : Nat) : Bool := (List.range k).all fun j => polyOk n (lget ps j) && decide (lenSS (ps.take (j + 1)) ≤ 200)
def polys (n : Int) (ps : List (List Int)) : Bool := decide (0 < ps.length) && polysUp n ps ps.length
theorem polysUp_succ (n : Int) (ps : List (List Int)) (k : Nat) : polysUp n ps (k + 1) = (polysUp n ps k && (polyOk n (lget ps k) && decide (lenSS (ps.take (k + 1)) ≤ 200))) := by simp [polysUp, List.range_succ]
theorem polysUp_no {n : Int} {ps : List (List Int)} {k m : Nat} (hk : k < m) (h : (polyOk n (lget ps k) && decide (lenSS (ps.take (k + 1)) ≤ 200)) = false) : polysUp n ps m = false := by
  unfold polysUp
  rw [List.all_eq_false]
  exact ⟨k, List.mem_range.2 hk, by rw [h]; simp⟩
theorem polys_no {n : Int} {ps : List (List Int)} {k : Nat} (hk : k < ps.length) (h : (polyOk n (lget ps k) && decide (lenSS (ps.take (k + 1)) ≤ 200)) = false) : polys n ps = false := by
  unfold polys; rw [polysUp_no hk h]; simp
theorem polyOk_no {n : Int} {p : List Int} {i : Nat} (hi : i < p.length) (h : polyAt n p i = false) : polyOk n p = false := by
  unfold polyOk
  rw [show (List.range p.length).all (polyAt n p) = false from by rw [List.all_eq_false]; exact ⟨i, List.mem_range.2 hi, by rw [h]; simp⟩]
  simp
theorem polyUp_succ (n : Int) (p : List Int) (i : Nat) : (List.range (i + 1)).all (polyAt n p) = ((List.range i).all (polyAt n p) && polyAt n p i) := by simp [List.range_succ]
theorem polysUp_le {n : Int} {ps : List (List Int)} {k : Nat} (hk : k ≤ ps.length) (h : polysUp n ps k = true) : lenSS (ps.take k) ≤ 200 := by
  cases k with
  | zero => simp [lenSS]
  | succ k => rw [polysUp_succ] at h; simp at h; exact h.2.2
theorem polyOk_all {n : Int} {p : List Int} (h : polyOk n p = true) : p.all (fun z => inB z 0 (n - 1)) = true := by
  unfold polyOk at h
  simp only [Bool.and_eq_true, List.all_eq_true, List.mem_range, polyAt] at h
  rw [List.all_eq_true]
  intro z hz
  obtain ⟨i, hi, rfl⟩ := List.getElem_of_mem hz
  have := (h.2 i hi).1
  rwa [iget_lt hi] at this
theorem polyOk_of {n : Int} {p : List Int} (h1 : 3 ≤ p.length) (h2 : p.all (fun z => inB z 0 (n - 1)) = true) (h3 : ∀ i, i < p.length → iget p i ≠ iget p ((i + 1) % p.length)) : polyOk n p = true := by
  unfold polyOk
  simp only [Bool.and_eq_true, List.all_eq_true, List.mem_range, polyAt]
  refine ⟨by simpa using h1, fun i hi => ⟨?_, by simpa using h3 i hi⟩⟩
  rw [List.all_eq_true] at h2
  exact h2 _ (iget_mem hi)

set_option maxRecDepth 100000 in
set_option maxHeartbeats 800000 in
theorem isPoly_any (n : Int) (hn : 0 ≤ n) (hn2 : n ≤ 1000) (ao : Option Addr) (m c : Nat) (p : List Int) (w : World) (h : Ints w ao m p) :
    Calls Try.prog 117 #[.slice ao m c, .int .i64 n] w fun e w' => e = .returned (.bool (polyOk n p)) ∧ Below w.heap.size w w' := by
  have hm := h.2.1
  have HL := Lib.hid h.1
  have hw : IntKind.i64.wrap (n - 1) = n - 1 := IntWalk.i64_in _ (by omega)
  go_enter Try.func117, Try.ntmps117
  by_cases h3 : m < 3
  · have hno : polyOk n p = false := by unfold polyOk; rw [HL.out]; simp; omega
    have hd : decide ((m : Int) < 3) = true := by simp; omega
    go_wp2
    go_ret
    exact ⟨ret_bool hno.symm, Below.refl _ _⟩
  have hd : decide ((m : Int) < 3) = false := by simp; omega
  cases ha : p.all (fun z => inB z 0 (n - 1)) with
  | false =>
    have hno : polyOk n p = false := by
      cases hx : polyOk n p with
      | false => rfl
      | true => rw [polyOk_all hx] at ha; cases ha
    have HA := Lib.hid ha
    clear ha
    go_wp2_with (go_at_call 188; refine (areWithin_any ao m c p 0 (n - 1) _ h).mono ?_; rintro e w1 ⟨rfl, b1⟩; rw [HA.out])
    go_ret
    exact ⟨ret_bool hno.symm, b1⟩
  | true =>
    have HA := Lib.hid ha
    clear ha
    go_wp2_with (go_at_call 188; refine (areWithin_any ao m c p 0 (n - 1) _ h).mono ?_; rintro e w1 ⟨rfl, b1⟩; rw [HA.out])
    have h1 := h.below b1
    clear h
    go_loop [19] (fun i => ∃ k : Nat, k ≤ m ∧ i = .int .i64 k ∧ ∀ j, j < k → iget p j ≠ iget p ((j + 1) % p.length)) (fun i => m - (intOf i).toNat)
    case atStart => exact ⟨0, Nat.zero_le _, rfl, fun j hj => absurd hj (by omega)⟩
    case round =>
      obtain ⟨k, hk, rfl, hpre⟩ := hrel
      have HP := Lib.hid hpre
      clear hpre
      by_cases hlt : k < m
      · obtain ⟨b, off, rfl, hc⟩ := h1.at_ hlt
        have hq : (k + 1) % m < m := Nat.mod_lt _ (by omega)
        obtain ⟨b', off', e', hc'⟩ := h1.at_ hq
        injection e' with e'
        injection e' with e1 e2
        subst e1 e2
        have hr : ((k : Int) + 1).tmod (m : Int) = (((k + 1) % m : Nat) : Int) := by rw [show ((k : Int) + 1) = ((k + 1 : Nat) : Int) by omega]; rfl
        have hq0 : (0 : Int) ≤ (((k + 1) % m : Nat) : Int) := by omega
        have hrw : IntKind.i64.wrap ((((k + 1) % m : Nat) : Int)) = (((k + 1) % m : Nat) : Int) := IntWalk.i64_in _ (by omega)
        generalize hQ : (k + 1) % m = q at *
        have HQ := Lib.hid hQ
        clear hQ
        by_cases he : iget p k = iget p q
        · have hno : polyOk n p = false := polyOk_no (i := k) (by rw [HL.out]; exact hlt) (by unfold polyAt; rw [HL.out, HQ.out, he]; simp)
          go_wp2
          go_ret
          exact ⟨rfl, b1⟩
        · have hne : (iget p k == iget p q) = false := by simpa using he
          go_wp2
          go_round
          case rel => exact ⟨k + 1, by omega, by go_num, fun j hj => if e : j = k then by subst e; rw [HL.out, HQ.out]; exact he else HP.out j (by omega)⟩
          case measure => simp [intOf]; omega
      · obtain rfl : k = m := by omega
        go_wp2
        go_ret
        exact ⟨ret_bool (polyOk_of (by rw [HL.out]; omega) HA.out (by rw [HL.out]; have := HP.out; rwa [HL.out] at this)).symm, b1⟩
end Go.Proofs.Ytpognnifgcacnaa

/- A region that draws its order, whose operations only read and whose callees make new memory alone: one walk, in the order of the text. (The steps are printed by fill.py out of the mark CALM.) -/
namespace Go.Proofs.Ytpognnifgcacnaa
open Go.RowKit

section
variable {P : Program} {ops : Array Oper} {C : World → Prop} {o : Oper} {a : Act} {K : Act → Prop}
theorem quiet_val {u : Value} (h : ∀ w, C w → (execOp a.eval o).run P w = .ok (.value u) w) (hk : K (a.put o.dst u)) : o.quiet P a C K :=
  ⟨u, fun w hw => by unfold Oper.quietAt; rw [h w hw]; exact ⟨rfl, rfl⟩, hk⟩
theorem quiet_call {f : FuncId} {args : Array Value} {v : Value} (h : ∀ w, C w → (execOp a.eval o).run P w = .ok (.enter f args) w) (hc : ∀ w, C w → Calls P f args w (fun e w'' => e = .returned v ∧ C w'')) (hk : K (a.put o.dst v)) : o.quiet P a C K :=
  ⟨v, fun w hw => by unfold Oper.quietAt; rw [h w hw]; exact ⟨rfl, hc w hw⟩, hk⟩
theorem wp_region_calm {id : Nat} {Q : Exit → Act → World → Prop} {w : World} {l : List Oper} (hm : P.follows .mixedOrders = true) (hB : Region.lexB .any l.toArray = true)
    (h : wpQuiet P l.toArray (fun w' => Below w.heap.size w w') (fun a' => ∀ w', Below w.heap.size w w' → Q .normal a' w') l a) : (Code.region id l.toArray true).wp P Q a w :=
  wp_region_quiet (C := fun w' => Below w.heap.size w w') hm hB (below_drew1 w) (by simpa using h)
end

end Go.Proofs.Ytpognnifgcacnaa

/- Maps of polygons: the reference's test of a list of polygons. -/
namespace Go.Proofs.Ytpognnifgcacnaa
open Go.RowKit

set_option maxRecDepth 100000 in
set_option maxHeartbeats 1600000 in
theorem specPolys_any (n : Int) (hn : 0 ≤ n) (hn2 : n ≤ 1000) (ao : Option Addr) (m c : Nat) (ps : List (List Int)) (w : World) (h : Intss w ao m ps) :
    Calls Try.prog 115 #[.int .i64 n, .slice ao m c] w fun e w' => e = .returned (.bool (polys n ps)) ∧ Below w.heap.size w w' := by
  have hm := h.2.1
  have HL := Lib.hid h.1
  have hw : IntKind.i64.wrap (n - 1) = n - 1 := IntWalk.i64_in _ (by omega)
  go_enter Try.func115, Try.ntmps115
  go_wp2
  go_loopw [5, 6] (fun cv iv wr => ∃ k s : Nat, k ≤ m ∧ cv = .int .i64 s ∧ iv = .int .i64 k ∧ s ≤ 200 ∧ s = lenSS (ps.take k) ∧ polysUp n ps k = true ∧ Below w.heap.size w wr) (fun _ i _ => m - (intOf i).toNat)
  case atStart => exact ⟨0, 0, Nat.zero_le _, rfl, rfl, by omega, by simp [lenSS], by simp [polysUp], Below.refl _ _⟩
  case round =>
    obtain ⟨k, s, hk, rfl, rfl, hs2, hs, hpre, hb⟩ := hrel
    have HS := Lib.hid hs
    have HP := Lib.hid hpre
    clear hpre hs
    by_cases hlt : k < m
    · obtain ⟨b, off, a1, n1, c1, rfl, hc, hin⟩ := (h.below hb).at_ hlt
      have hn1 := hin.2.1
      have HN := Lib.hid hin.1
      have hkl : k < ps.length := by rw [HL.out]; exact hlt
      have hsum : lenSS (ps.take (k + 1)) = s + n1 := by rw [lenSS_take hkl, HN.out, HS.out]
      have HM := Lib.hid hsum
      clear hsum
      by_cases h3 : n1 < 3
      · have hno : polys n ps = false := polys_no hkl (by unfold polyOk; rw [HN.out]; simp; omega)
        have HO := Lib.hid hno
        clear hno
        have hd : decide ((n1 : Int) < 3) = true := by simp; omega
        go_wp2
        go_ret
        exact ⟨ret_bool HO.out.symm, hb⟩
      have hd : decide ((n1 : Int) < 3) = false := by simp; omega
      by_cases h200 : 200 < s + n1
      · have hno : polys n ps = false := polys_no hkl (by rw [HM.out]; simp; omega)
        have HO := Lib.hid hno
        clear hno
        go_wp2
        go_ret
        exact ⟨ret_bool HO.out.symm, hb⟩
      go_wp2
      go_loopw [8] (fun iv wi => ∃ i : Nat, i ≤ n1 ∧ iv = .int .i64 i ∧ (List.range i).all (polyAt n (lget ps k)) = true ∧ Below wr.heap.size wr wi) (fun i _ => n1 - (intOf i).toNat)
      case atStart => exact ⟨0, Nat.zero_le _, rfl, by simp, Below.refl _ _⟩
      case round =>
        obtain ⟨i, hi, rfl, hpre, hbi⟩ := hrel
        have HI := Lib.hid hpre
        clear hpre
        have hbb := below_tr hbi hb
        by_cases hlt2 : i < n1
        · have hin2 := hin.below hbi
          obtain ⟨b2, off2, ea, hc2⟩ := hin2.at_ hlt2
          subst ea
          have hq : (i + 1) % n1 < n1 := Nat.mod_lt _ (by omega)
          obtain ⟨b', off', e', hc3⟩ := hin2.at_ hq
          injection e' with e'
          injection e' with e1 e2
          subst e1 e2
          have hr : ((i : Int) + 1).tmod (n1 : Int) = (((i + 1) % n1 : Nat) : Int) := by rw [show ((i : Int) + 1) = ((i + 1 : Nat) : Int) by omega]; rfl
          have hrw : IntKind.i64.wrap ((((i + 1) % n1 : Nat) : Int)) = (((i + 1) % n1 : Nat) : Int) := IntWalk.i64_in _ (by omega)
          generalize hQ : (i + 1) % n1 = q at *
          have HQ := Lib.hid hQ
          clear hQ
          have hcell : ∀ w', Below wr.heap.size wr w' → w'.cell? ⟨b2, off2 + i, none⟩ = some (.int .i64 (iget (lget ps k) i)) ∧ w'.cell? ⟨b2, off2 + q, none⟩ = some (.int .i64 (iget (lget ps k) q)) := fun w' hb => ⟨(hb.cell (p := ⟨b2, off2 + i, none⟩) (World.block_lt_of_cell? wr _ hc2)).trans hc2, (hb.cell (p := ⟨b2, off2 + q, none⟩) (World.block_lt_of_cell? wr _ hc3)).trans hc3⟩
          have HC := Lib.hid hcell
          have hz1 : ¬ (n1 = 0) := by omega
          have hwi : IntKind.i64.wrap ((i : Int) + 1) = (i : Int) + 1 := IntWalk.i64_in _ (by omega)
          have hz2 : ((n1 : Int) == 0) = false := by simp; omega
          have hz3 : ¬ ((n1 : Int) = 0) := by omega
          have hq0 : (0 : Int) ≤ (q : Int) := by omega
          have hq1 : (q : Int) < (n1 : Int) := by omega
          clear hcell hin2
          cases hx : inB (iget (lget ps k) i) 0 (n - 1) with
          | false =>
            have hno : polys n ps = false := polys_no hkl (by rw [polyOk_no (i := i) (by rw [HN.out]; exact hlt2) (by unfold polyAt; rw [hx]; rfl)]; rfl)
            have HO := Lib.hid hno
            have HX := Lib.hid hx
            clear hno hx
            go_wp2_with fail
            (refine wp_region_calm (by kernel_rfl) (by kernel_rfl) ?_; (repeat (first | go_big_quiet_skip | (go_big_quiet_want; first | (go_big_quiet_op; go_big_quiet_on) | (apply quiet_val; (· (intro _ hw; have f1 := (HC.out _ hw).1; have f2 := (HC.out _ hw).2; go_simp; exact rfl)); go_simp; go_big_quiet_on) | (apply quiet_call; (· (intro _ _; go_simp; exact ⟨rfl, rfl⟩)); (· (intro _ hw; go_at_call 95; refine (specIn_any _ _ _ _).mono ?_; rintro e w' ⟨rfl, rfl⟩; rw [HX.out]; exact ⟨rfl, hw⟩)); go_simp; go_big_quiet_on)))); refine wpQuiet_nil ?_; intro wq bq)
            go_wp2_with fail
            go_ret
            exact ⟨ret_bool HO.out.symm, below_tr bq hbb⟩
          | true =>
            have HX := Lib.hid hx
            clear hx
            by_cases he : iget (lget ps k) i = iget (lget ps k) q
            · have hno : polys n ps = false := polys_no hkl (by rw [polyOk_no (i := i) (by rw [HN.out]; exact hlt2) (by unfold polyAt; rw [HN.out, HQ.out, he]; simp)]; rfl)
              have HO := Lib.hid hno
              clear hno
              have hbe : (iget (lget ps k) i == iget (lget ps k) q) = true := by simpa using he
              clear he
              go_wp2_with fail
              (refine wp_region_calm (by kernel_rfl) (by kernel_rfl) ?_; (repeat (first | go_big_quiet_skip | (go_big_quiet_want; first | (go_big_quiet_op; go_big_quiet_on) | (apply quiet_val; (· (intro _ hw; have f1 := (HC.out _ hw).1; have f2 := (HC.out _ hw).2; go_simp; exact rfl)); go_simp; go_big_quiet_on) | (apply quiet_call; (· (intro _ _; go_simp; exact ⟨rfl, rfl⟩)); (· (intro _ hw; go_at_call 95; refine (specIn_any _ _ _ _).mono ?_; rintro e w' ⟨rfl, rfl⟩; rw [HX.out]; exact ⟨rfl, hw⟩)); go_simp; go_big_quiet_on)))); refine wpQuiet_nil ?_; intro wq bq)
              go_wp2_with fail
              go_ret
              exact ⟨ret_bool HO.out.symm, below_tr bq hbb⟩
            · have hbe : (iget (lget ps k) i == iget (lget ps k) q) = false := by simpa using he
              clear he
              have HE := Lib.hid hbe
              go_wp2_with fail
              (refine wp_region_calm (by kernel_rfl) (by kernel_rfl) ?_; (repeat (first | go_big_quiet_skip | (go_big_quiet_want; first | (go_big_quiet_op; go_big_quiet_on) | (apply quiet_val; (· (intro _ hw; have f1 := (HC.out _ hw).1; have f2 := (HC.out _ hw).2; go_simp; exact rfl)); go_simp; go_big_quiet_on) | (apply quiet_call; (· (intro _ _; go_simp; exact ⟨rfl, rfl⟩)); (· (intro _ hw; go_at_call 95; refine (specIn_any _ _ _ _).mono ?_; rintro e w' ⟨rfl, rfl⟩; rw [HX.out]; exact ⟨rfl, hw⟩)); go_simp; go_big_quiet_on)))); refine wpQuiet_nil ?_; intro wq bq)
              go_wp2_with fail
              go_round
              case rel => exact ⟨i + 1, by omega, by go_num, by rw [polyUp_succ, HI.out]; unfold polyAt; rw [HX.out, HN.out, HQ.out, HE.out]; rfl, below_tr bq hbi⟩
              case measure => simp [intOf]; omega
        · obtain rfl : i = n1 := by omega
          have hok : polyOk n (lget ps k) = true := by unfold polyOk; rw [HN.out, HI.out]; simp; omega
          have HO := Lib.hid hok
          clear hok
          go_wp2
          go_round
          case rel => exact ⟨k + 1, s + i, by omega, by go_num, by go_num, by omega, HM.out.symm, by rw [polysUp_succ, HP.out, HO.out, HM.out]; simp; omega, hbb⟩
          case measure => simp [intOf]; omega
    · obtain rfl : k = m := by omega
      have hP := HP.out
      by_cases h0 : k = 0
      · subst h0
        have hno : polys n ps = false := by unfold polys; rw [HL.out]; rfl
        have HO := Lib.hid hno
        clear hno hP
        go_wp2
        go_ret
        exact ⟨ret_bool HO.out.symm, hb⟩
      · have hyes : polys n ps = true := by unfold polys; rw [HL.out, hP]; simp; omega
        have HO := Lib.hid hyes
        clear hyes hP
        have hgt : decide ((k : Int) > 0) = true := by simp; omega
        have hgt2 : decide ((0 : Int) < k) = true := by simp; omega
        go_wp2
        go_ret
        exact ⟨ret_bool (by rw [HO.out]; simp; omega), hb⟩
end Go.Proofs.Ytpognnifgcacnaa

/- Maps of polygons: corners, sides and moves. No program in sight. -/
namespace Go.Proofs.Ytpognnifgcacnaa
open Go.RowKit

/-- the next corner, the corner before -/
def nxP : List (List Int) → Nat → Nat
  | [], c => c
  | p :: r, c => if c < p.length then (c + 1) % p.length else p.length + nxP r (c - p.length)
def pvP : List (List Int) → Nat → Nat
  | [], c => c
  | p :: r, c => if c < p.length then (c + p.length - 1) % p.length else p.length + pvP r (c - p.length)
def begP (ps : List (List Int)) (k : Nat) : Nat := lenSS (ps.take k)
theorem begP_zero (ps : List (List Int)) : begP ps 0 = 0 := by simp [begP, lenSS]
theorem begP_succ {ps : List (List Int)} {k : Nat} (h : k < ps.length) : begP ps (k + 1) = begP ps k + (lget ps k).length := lenSS_take h
theorem begP_all (ps : List (List Int)) : begP ps ps.length = lenSS ps := by unfold begP; rw [List.take_length]
theorem lget_cons (p : List Int) (r : List (List Int)) (k : Nat) : lget (p :: r) (k + 1) = lget r k := by simp [lget]
theorem begP_cons (p : List Int) (r : List (List Int)) (k : Nat) : begP (p :: r) (k + 1) = p.length + begP r k := by simp [begP, lenSS]
theorem nxP_at : ∀ (ps : List (List Int)) (k i : Nat), k < ps.length → i < (lget ps k).length → nxP ps (begP ps k + i) = begP ps k + (i + 1) % (lget ps k).length
  | [], k, i, hk, _ => by simp at hk
  | p :: r, 0, i, _, hi => by
    have h0 : lget (p :: r) 0 = p := rfl
    rw [h0] at hi ⊢
    rw [begP_zero, Nat.zero_add, Nat.zero_add]; unfold nxP; rw [if_pos hi]
  | p :: r, k + 1, i, hk, hi => by
    rw [lget_cons] at hi ⊢
    rw [begP_cons]
    unfold nxP
    rw [if_neg (by omega), show p.length + begP r k + i - p.length = begP r k + i by omega, nxP_at r k i (by simpa using hk) hi]; omega
theorem pvP_at : ∀ (ps : List (List Int)) (k i : Nat), k < ps.length → i < (lget ps k).length → pvP ps (begP ps k + i) = begP ps k + (i + (lget ps k).length - 1) % (lget ps k).length
  | [], k, i, hk, _ => by simp at hk
  | p :: r, 0, i, _, hi => by
    have h0 : lget (p :: r) 0 = p := rfl
    rw [h0] at hi ⊢
    rw [begP_zero, Nat.zero_add, Nat.zero_add]; unfold pvP; rw [if_pos hi]
  | p :: r, k + 1, i, hk, hi => by
    rw [lget_cons] at hi ⊢
    rw [begP_cons]
    unfold pvP
    rw [if_neg (by omega), show p.length + begP r k + i - p.length = begP r k + i by omega, pvP_at r k i (by simpa using hk) hi]; omega
theorem flat_at : ∀ (ps : List (List Int)) (k i : Nat), k < ps.length → i < (lget ps k).length → iget ps.flatten (begP ps k + i) = iget (lget ps k) i
  | [], k, i, hk, _ => by simp at hk
  | p :: r, 0, i, _, hi => by
    have h0 : lget (p :: r) 0 = p := rfl
    rw [h0] at hi ⊢
    rw [begP_zero, Nat.zero_add]
    show iget (p ++ r.flatten) i = _
    unfold iget
    rw [List.getD_eq_getElem?_getD, List.getElem?_append_left hi, ← List.getD_eq_getElem?_getD]
  | p :: r, k + 1, i, hk, hi => by
    rw [lget_cons] at hi ⊢
    rw [begP_cons]
    have ih := flat_at r k i (by simpa using hk) hi
    rw [← ih]
    show iget (p ++ r.flatten) _ = _
    unfold iget
    rw [List.getD_eq_getElem?_getD, List.getElem?_append_right (by omega), ← List.getD_eq_getElem?_getD, show p.length + begP r k + i - p.length = begP r k + i by omega]
/-- each corner is corner i of a polygon k -/
theorem corner_of : ∀ (ps : List (List Int)) (c : Nat), c < lenSS ps → ∃ k i, k < ps.length ∧ i < (lget ps k).length ∧ c = begP ps k + i
  | [], c, h => by simp [lenSS] at h
  | p :: r, c, h => by
    by_cases hc : c < p.length
    · exact ⟨0, c, by simp, hc, by rw [begP_zero]; omega⟩
    · obtain ⟨k, i, h1, h2, h3⟩ := corner_of r (c - p.length) (by simp [lenSS] at h ⊢; omega)
      exact ⟨k + 1, i, by simpa using h1, by rw [lget_cons]; exact h2, by rw [begP_cons]; omega⟩
theorem corner_lt {ps : List (List Int)} {k i : Nat} (hk : k < ps.length) (hi : i < (lget ps k).length) : begP ps k + i < lenSS ps := by
  have h1 := begP_succ hk
  have h2 : begP ps (k + 1) ≤ lenSS ps := lenSS_take_le _ _
  omega
theorem back_next {m i : Nat} (h : i < m) : ((i + 1) % m + m - 1) % m = i := by
  by_cases e : i + 1 = m
  · rw [e, Nat.mod_self, Nat.zero_add, Nat.mod_eq_of_lt (by omega)]; omega
  · rw [Nat.mod_eq_of_lt (a := i + 1) (by omega), show i + 1 + m - 1 = i + m by omega, Nat.add_mod_right, Nat.mod_eq_of_lt h]
theorem next_back {m i : Nat} (h : i < m) : ((i + m - 1) % m + 1) % m = i := by
  by_cases e : i = 0
  · subst e; rw [Nat.mod_eq_of_lt (a := 0 + m - 1) (by omega), show 0 + m - 1 + 1 = m by omega, Nat.mod_self]
  · rw [show i + m - 1 = (i - 1) + m by omega, Nat.add_mod_right, Nat.mod_eq_of_lt (a := i - 1) (by omega), show i - 1 + 1 = i by omega, Nat.mod_eq_of_lt h]
theorem nxP_lt {ps : List (List Int)} {c : Nat} (h : c < lenSS ps) : nxP ps c < lenSS ps := by
  obtain ⟨k, i, h1, h2, rfl⟩ := corner_of ps c h
  rw [nxP_at ps k i h1 h2]
  exact corner_lt h1 (Nat.mod_lt _ (by omega))
theorem pvP_lt {ps : List (List Int)} {c : Nat} (h : c < lenSS ps) : pvP ps c < lenSS ps := by
  obtain ⟨k, i, h1, h2, rfl⟩ := corner_of ps c h
  rw [pvP_at ps k i h1 h2]
  exact corner_lt h1 (Nat.mod_lt _ (by omega))
theorem pv_nx {ps : List (List Int)} {c : Nat} (h : c < lenSS ps) : pvP ps (nxP ps c) = c := by
  obtain ⟨k, i, h1, h2, rfl⟩ := corner_of ps c h
  rw [nxP_at ps k i h1 h2, pvP_at ps k _ h1 (Nat.mod_lt _ (by omega)), back_next h2]
theorem nx_pv {ps : List (List Int)} {c : Nat} (h : c < lenSS ps) : nxP ps (pvP ps c) = c := by
  obtain ⟨k, i, h1, h2, rfl⟩ := corner_of ps c h
  rw [pvP_at ps k i h1 h2, nxP_at ps k _ h1 (Nat.mod_lt _ (by omega)), next_back h2]
/-- two entries at each corner -/
def dupL (f g : Nat → Int) : Nat → List Int
  | 0 => []
  | n + 1 => dupL f g n ++ [f n, g n]
theorem dupL_len (f g : Nat → Int) : ∀ n, (dupL f g n).length = 2 * n
  | 0 => rfl
  | n + 1 => by simp [dupL, dupL_len f g n]; omega
theorem dupL_get (f g : Nat → Int) : ∀ n c, c < n → iget (dupL f g n) (2 * c) = f c ∧ iget (dupL f g n) (2 * c + 1) = g c
  | 0, c, h => by omega
  | n + 1, c, h => by
    have hl := dupL_len f g n
    by_cases e : c = n
    · subst e
      constructor
      · unfold iget dupL; rw [List.getD_eq_getElem?_getD, List.getElem?_append_right (by omega), hl, Nat.sub_self]; rfl
      · unfold iget dupL; rw [List.getD_eq_getElem?_getD, List.getElem?_append_right (by omega), hl, show 2 * c + 1 - 2 * c = 1 by omega]; rfl
    · obtain ⟨h1, h2⟩ := dupL_get f g n c (by omega)
      constructor
      · rw [← h1]; unfold iget; rw [dupL, List.getD_eq_getElem?_getD, List.getElem?_append_left (by omega), ← List.getD_eq_getElem?_getD]
      · rw [← h2]; unfold iget; rw [dupL, List.getD_eq_getElem?_getD, List.getElem?_append_left (by omega), ← List.getD_eq_getElem?_getD]
/-- vertex of a corner; of each flag its vertex, the other vertex of its side; the moves -/
def vtx (ps : List (List Int)) (c : Nat) : Int := iget ps.flatten c
def ownL (ps : List (List Int)) (n : Nat) : List Int := dupL (vtx ps) (vtx ps) n
def othL (ps : List (List Int)) (n : Nat) : List Int := dupL (fun c => vtx ps (nxP ps c)) (fun c => vtx ps (pvP ps c)) n
def zerL (ps : List (List Int)) (n : Nat) : List Int := dupL (fun c => ((2 * nxP ps c + 1 : Nat) : Int)) (fun c => ((2 * pvP ps c : Nat) : Int)) n
def oneL (n : Nat) : List Int := dupL (fun c => ((2 * c + 1 : Nat) : Int)) (fun c => ((2 * c : Nat) : Int)) n
/-- the other flags below g with the same vertices -/
def fndB (ps : List (List Int)) (N f g : Nat) : Bool := !(((g : Int)) == ((f : Int))) && (iget (ownL ps N) g == iget (ownL ps N) f) && (iget (othL ps N) g == iget (othL ps N) f)
def fndL (ps : List (List Int)) (N f : Nat) : Nat → List Int
  | 0 => []
  | g + 1 => if fndB ps N f g = true then fndL ps N f g ++ [(g : Int)] else fndL ps N f g
theorem fndL_len (ps : List (List Int)) (N f : Nat) : ∀ g, (fndL ps N f g).length ≤ g
  | 0 => Nat.le_refl _
  | g + 1 => by have := fndL_len ps N f g; unfold fndL; split <;> simp <;> omega
def twoL (ps : List (List Int)) (N : Nat) : Nat → List Int
  | 0 => []
  | f + 1 => twoL ps N f ++ [iget (fndL ps N f (2 * N)) 0]
theorem twoL_len (ps : List (List Int)) (N : Nat) : ∀ f, (twoL ps N f).length = f
  | 0 => rfl
  | f + 1 => by simp [twoL, twoL_len ps N f]
def goodUp (ps : List (List Int)) (N f : Nat) : Bool := (List.range f).all fun i => decide ((fndL ps N i (2 * N)).length = 1)
theorem goodUp_succ (ps : List (List Int)) (N f : Nat) : goodUp ps N (f + 1) = (goodUp ps N f && decide ((fndL ps N f (2 * N)).length = 1)) := by simp [goodUp, List.range_succ]
theorem goodUp_no {ps : List (List Int)} {N f m : Nat} (hf : f < m) (h : (fndL ps N f (2 * N)).length ≠ 1) : goodUp ps N m = false := by
  unfold goodUp
  rw [List.all_eq_false]
  exact ⟨f, List.mem_range.2 hf, by simpa using h⟩
def mpGood (ps : List (List Int)) : Bool := goodUp ps (lenSS ps) (2 * lenSS ps)
def mpM (ps : List (List Int)) : List (List Int) := [zerL ps (lenSS ps), oneL (lenSS ps), twoL ps (lenSS ps) (2 * lenSS ps)]
end Go.Proofs.Ytpognnifgcacnaa

/- Permutations: the program's isPermutation and the reference's l01Perm compute one Bool. -/
namespace Go.Proofs.Ytpognnifgcacnaa
open Go.RowKit

theorem etB : ET Try.prog 70 4 (.bool false) 1 := ⟨Try.underlying70, by kernel_rfl, rfl, by omega⟩

/-- the numbers that are still to come are within 0 to n - 1, and none of them has been seen, nor comes twice -/
def permGo (n : Nat) : List Bool → List Int → Bool
  | _, [] => true
  | seen, z :: r => inB z 0 ((n : Int) - 1) && !(seen.getD z.toNat false) && permGo n (seen.set z.toNat true) r
/-- a permutation of at most 400 points -/
def isPerm (zs : List Int) : Bool := decide (zs.length ≤ 400) && permGo zs.length (List.replicate zs.length false) zs

theorem permGo_step {n : Nat} {seen : List Bool} {zs : List Int} {k : Nat} (hk : k < zs.length) :
    permGo n seen (zs.drop k) = (inB (iget zs k) 0 ((n : Int) - 1) && !(seen.getD (iget zs k).toNat false) && permGo n (seen.set (iget zs k).toNat true) (zs.drop (k + 1))) := by
  rw [List.drop_eq_getElem_cons hk, ← iget_lt hk]; rfl

/-- a slice of bools, k of them looked up -/
def bget (bs : List Bool) (k : Nat) : Bool := bs.getD k false
theorem permGo_out {n : Nat} {seen : List Bool} {zs : List Int} {k : Nat} (hk : k < zs.length) (hx : inB (iget zs k) 0 ((n : Int) - 1) = false) : permGo n seen (zs.drop k) = false := by
  rw [permGo_step hk, hx]; rfl
theorem permGo_met {n : Nat} {seen : List Bool} {zs : List Int} {k m : Nat} (hk : k < zs.length) (hm : iget zs k = m) (hb : bget seen m = true) : permGo n seen (zs.drop k) = false := by
  unfold bget at hb
  rw [permGo_step hk, hm, Int.toNat_natCast, hb]; simp
theorem permGo_on {n : Nat} {seen : List Bool} {zs : List Int} {k m : Nat} (hk : k < zs.length) (hm : iget zs k = m) (hx : inB m 0 ((n : Int) - 1) = true) (hb : bget seen m = false) : permGo n seen (zs.drop k) = permGo n (seen.set m true) (zs.drop (k + 1)) := by
  unfold bget at hb
  rw [permGo_step hk, hm, Int.toNat_natCast, hb, hx]; simp
theorem own_bget {w : World} {base E : Nat} {g n c : Nat} {bs : List Bool} (h : Own w base E (some ⟨g, 0, none⟩) n c (bs.map Value.bool)) {k : Nat} (hk : k < n) : w.cell? ⟨g, k, none⟩ = some (.bool (bget bs k)) := by
  obtain ⟨g', hg, _, _, _, hc, _⟩ := h.form (by omega)
  obtain rfl : g = g' := by injection hg with hg; injection hg
  have hl : bs.length = n := by have := h.len; simpa using this
  rw [hc k hk, List.getElem?_map, List.getElem?_eq_getElem (by omega)]
  simp [bget, List.getD, List.getElem?_eq_getElem (show k < bs.length by omega)]
theorem own_frozen {w : World} {base E : Nat} {g n c : Nat} {xs : List Value} (h : Own w base E (some ⟨g, 0, none⟩) n c xs) (k : Nat) : w.frozen? ⟨g, k, none⟩ = false := h.1.frozenAt k

set_option maxHeartbeats 800000 in
theorem specPerm_any (ao : Option Addr) (n c : Nat) (zs : List Int) (w : World) (h : Ints w ao n zs) :
    Calls Try.prog 175 #[.slice ao n c] w fun e w' => e = .returned (.bool (isPerm zs)) ∧ Below w.heap.size w w' := by
  have hn := h.2.1
  have hl := h.1
  have HL := Lib.hid hl
  clear hl
  by_cases hs : n ≤ 400
  · have h1 : decide ((400 : Int) < n) = false := by simp; omega
    have hp : isPerm zs = permGo n (List.replicate n false) zs := by unfold isPerm; rw [HL.out]; simp [hs]
    have HP := Lib.hid hp
    clear hp
    go_enter Try.func175, Try.ntmps175
    go_wp2_with (at_make; refine wpList_mk etB _ rfl _ _ rfl w.heap.size _ _ _ _ n rfl rfl rfl rfl (by omega) (Nat.le_refl _) ?_; intro w1 hown hgrow hsz)
    have hb1 : Below w.heap.size w w1 := (Below.refl _ _).grown hgrow (Nat.le_refl _) (by simp)
    clear hgrow
    go_loopw [4] (fun i wr => ∃ (k : Nat) (seen : List Bool), k ≤ n ∧ i = .int .i64 k ∧ Own wr w.heap.size 4 (some ⟨w.heap.size, 0, none⟩) n n (seen.map Value.bool) ∧ isPerm zs = permGo n seen (zs.drop k) ∧ Below w.heap.size w wr) (fun i _ => n - (intOf i).toNat)
    case atStart => exact ⟨0, _, Nat.zero_le _, rfl, by rw [List.map_replicate]; exact hown, HP.out, hb1⟩
    case round =>
      obtain ⟨k, seen, hk, rfl, ho, hinv, hb⟩ := hrel
      clear hown hb1 hsz
      have HI := Lib.hid hinv
      clear hinv
      by_cases hlt : k < n
      · obtain ⟨b, off, rfl, hc⟩ := (h.below hb).at_ hlt
        have HK : Hid (k < zs.length) := by have := HL.out; show k < zs.length; omega
        have HH := Lib.hid h
        clear h
        cases hin : inB (iget zs k) 0 ((n : Int) - 1) with
        | false =>
          have HX := Lib.hid hin
          clear hin
          go_wp2_with (go_at_call 95; refine (specIn_any _ _ _ _).mono ?_; rintro e w' ⟨rfl, rfl⟩; rw [HX.out])
          go_ret
          exact ⟨ret_bool (HI.out.trans (permGo_out HK.out HX.out)).symm, hb⟩
        | true =>
          have HX := Lib.hid hin
          obtain ⟨hz0, hz1⟩ := inB_true.1 hin
          obtain ⟨m, hm⟩ := Int.eq_ofNat_of_zero_le hz0
          rw [hm] at hc hz1
          have HM := Lib.hid hm
          have hmn : m < n := by omega
          have hsc := own_bget ho hmn
          have hfr := own_frozen ho m
          have HXm : Hid (inB (m : Int) 0 ((n : Int) - 1) = true) := by have := HX.out; rwa [HM.out] at this
          clear hin hz0 hz1 hm
          cases hsb : bget seen m with
          | true =>
            rw [hsb] at hsc
            have HB := Lib.hid hsb
            clear hsb
            go_wp2_with (go_at_call 95; refine (specIn_any _ _ _ _).mono ?_; rintro e w' ⟨rfl, rfl⟩; rw [HXm.out])
            go_ret
            exact ⟨ret_bool (HI.out.trans (permGo_met HK.out HM.out HB.out)).symm, hb⟩
          | false =>
            rw [hsb] at hsc
            obtain ⟨st1, st2⟩ := ho.stored m (.bool true)
            have HB := Lib.hid hsb
            have HS1 := Lib.hid st1
            have HS2 := Lib.hid st2
            clear hsb st1 st2
            go_wp2_with (go_at_call 95; refine (specIn_any _ _ _ _).mono ?_; rintro e w' ⟨rfl, rfl⟩; rw [HXm.out])
            go_roundw
            case rel =>
              exact ⟨k + 1, seen.set m true, by omega, by go_num, by rw [List.map_set]; exact HS1.out, HI.out.trans (permGo_on HK.out HM.out HXm.out HB.out), hb.grown HS2.out hb.size (by intro g hg; injection hg with hg; omega)⟩
            case measure => simp [intOf]; omega
      · obtain rfl : k = n := by omega
        go_wp2
        go_ret
        exact ⟨ret_bool (by rw [HI.out, List.drop_of_length_le (Nat.le_of_eq HL.out)]; rfl), hb⟩
  · have h1 : decide ((400 : Int) < n) = true := by simp; omega
    go_enter Try.func175, Try.ntmps175
    go_wp2
    go_ret
    exact ⟨ret_bool (by unfold isPerm; rw [HL.out]; simp; intro; omega), Below.refl _ _⟩

theorem size_any (ao : Option Addr) (n c : Nat) (w : World) : Calls Try.prog 139 #[.slice ao n c] w fun e w' => e = .returned (.int .i64 n) ∧ w' = w := by
  go_enter Try.func139, Try.ntmps139
  go_wp2
  go_ret
  exact ⟨rfl, rfl⟩

set_option maxHeartbeats 800000 in
theorem implPerm_any (ao : Option Addr) (n c : Nat) (zs : List Int) (w : World) (h : Ints w ao n zs) :
    Calls Try.prog 200 #[.slice ao n c] w fun e w' => e = .returned (.bool (isPerm zs)) ∧ Below w.heap.size w w' := by
  have hn := h.2.1
  have hl := h.1
  have HL := Lib.hid hl
  clear hl
  by_cases hs : n ≤ 400
  · have h1 : decide ((400 : Int) < n) = false := by simp; omega
    have hp : isPerm zs = permGo n (List.replicate n false) zs := by unfold isPerm; rw [HL.out]; simp [hs]
    have HP := Lib.hid hp
    clear hp
    go_enter Try.func200, Try.ntmps200
    go_wp2_with (at_make; refine wpList_mk etB _ rfl _ _ rfl w.heap.size _ _ _ _ n rfl rfl rfl rfl (by omega) (Nat.le_refl _) ?_; intro w1 hown hgrow hsz)
    have hb1 : Below w.heap.size w w1 := (Below.refl _ _).grown hgrow (Nat.le_refl _) (by simp)
    clear hgrow
    go_loopw [14] (fun i wr => ∃ (k : Nat) (seen : List Bool), k ≤ n ∧ i = .int .i64 k ∧ Own wr w.heap.size 4 (some ⟨w.heap.size, 0, none⟩) n n (seen.map Value.bool) ∧ isPerm zs = permGo n seen (zs.drop k) ∧ Below w.heap.size w wr) (fun i _ => n - (intOf i).toNat)
    case atStart => exact ⟨0, _, Nat.zero_le _, rfl, by rw [List.map_replicate]; exact hown, HP.out, hb1⟩
    case round =>
      obtain ⟨k, seen, hk, rfl, ho, hinv, hb⟩ := hrel
      clear hown hb1 hsz
      have HI := Lib.hid hinv
      clear hinv
      by_cases hlt : k < n
      · obtain ⟨b, off, rfl, hc⟩ := (h.below hb).at_ hlt
        have HK : Hid (k < zs.length) := by have := HL.out; show k < zs.length; omega
        have HH := Lib.hid h
        clear h
        cases hin : inB (iget zs k) 0 ((n : Int) - 1) with
        | false =>
          have HX := Lib.hid hin
          clear hin
          go_wp2_with (first | (go_at_call 139; refine (size_any _ _ _ _).mono ?_; rintro e w' ⟨rfl, rfl⟩) | (go_at_call 97; refine (within_any _ _ _ _).mono ?_; rintro e w' ⟨rfl, rfl⟩; rw [HX.out]))
          go_ret
          exact ⟨ret_bool (HI.out.trans (permGo_out HK.out HX.out)).symm, hb⟩
        | true =>
          have HX := Lib.hid hin
          obtain ⟨hz0, hz1⟩ := inB_true.1 hin
          obtain ⟨m, hm⟩ := Int.eq_ofNat_of_zero_le hz0
          rw [hm] at hc hz1
          have HM := Lib.hid hm
          have hmn : m < n := by omega
          have hsc := own_bget ho hmn
          have hfr := own_frozen ho m
          have HXm : Hid (inB (m : Int) 0 ((n : Int) - 1) = true) := by have := HX.out; rwa [HM.out] at this
          clear hin hz0 hz1 hm
          cases hsb : bget seen m with
          | true =>
            rw [hsb] at hsc
            have HB := Lib.hid hsb
            clear hsb
            go_wp2_with (first | (go_at_call 139; refine (size_any _ _ _ _).mono ?_; rintro e w' ⟨rfl, rfl⟩) | (go_at_call 97; refine (within_any _ _ _ _).mono ?_; rintro e w' ⟨rfl, rfl⟩; rw [HXm.out]))
            go_ret
            exact ⟨ret_bool (HI.out.trans (permGo_met HK.out HM.out HB.out)).symm, hb⟩
          | false =>
            rw [hsb] at hsc
            obtain ⟨st1, st2⟩ := ho.stored m (.bool true)
            have HB := Lib.hid hsb
            have HS1 := Lib.hid st1
            have HS2 := Lib.hid st2
            clear hsb st1 st2
            go_wp2_with (first | (go_at_call 139; refine (size_any _ _ _ _).mono ?_; rintro e w' ⟨rfl, rfl⟩) | (go_at_call 97; refine (within_any _ _ _ _).mono ?_; rintro e w' ⟨rfl, rfl⟩; rw [HXm.out]))
            go_roundw
            case rel =>
              exact ⟨k + 1, seen.set m true, by omega, by go_num, by rw [List.map_set]; exact HS1.out, HI.out.trans (permGo_on HK.out HM.out HXm.out HB.out), hb.grown HS2.out hb.size (by intro g hg; injection hg with hg; omega)⟩
            case measure => simp [intOf]; omega
      · obtain rfl : k = n := by omega
        go_wp2
        go_ret
        exact ⟨ret_bool (by rw [HI.out, List.drop_of_length_le (Nat.le_of_eq HL.out)]; rfl), hb⟩
  · have h1 : decide ((400 : Int) < n) = true := by simp; omega
    go_enter Try.func200, Try.ntmps200
    go_wp2
    go_ret
    exact ⟨ret_bool (by unfold isPerm; rw [HL.out]; simp; intro; omega), Below.refl _ _⟩
end Go.Proofs.Ytpognnifgcacnaa

/- IsRotation, the program's and the reference's. -/
namespace Go.Proofs.Ytpognnifgcacnaa
open Go.RowKit

end Go.Proofs.Ytpognnifgcacnaa

/- Cosets that some generators lead to, and the first fault of intersections, on lists. No program in sight. -/
namespace Go.Proofs.Ytpognnifgcacnaa

/-- whether a mask holds a generator -/
def mBit (mask g : Nat) : Bool := mask / 2 ^ g % 2 == 1
/-- which are met, the queue -/
abbrev MSt := List Bool × List Int
def mStep (T : List (List Int)) (mask c : Nat) (s : MSt) (g : Nat) : MSt := if mBit mask g = true ∧ bat s.1 (bTo T c g) = false then (s.1.set (bTo T c g) true, s.2 ++ [(bTo T c g : Int)]) else s
def mRow (T : List (List Int)) (mask ng c : Nat) (s : MSt) : MSt := (List.range ng).foldl (mStep T mask c) s
def mLoop (T : List (List Int)) (mask ng : Nat) : Nat → Nat → MSt → MSt
  | 0, _, s => s
  | f + 1, i, s => if i < s.2.length then mLoop T mask ng f (i + 1) (mRow T mask ng (iget s.2 i).toNat s) else s
def mStart (n : Nat) : MSt := ((List.replicate n false).set 0 true, [0])
def mem (T : List (List Int)) (ng n mask : Nat) : MSt := mLoop T mask ng (n + 1) 0 (mStart n)
structure MOK (n : Nat) (s : MSt) : Prop where
  l : s.1.length = n
  q : ∀ k, k < s.2.length → ∃ d : Nat, iget s.2 k = (d : Int) ∧ d < n ∧ bat s.1 d = true
  cnt : bcnt s.1 = s.2.length
  cov : ∀ d, d < n → bat s.1 d = true → ∃ k, k < s.2.length ∧ iget s.2 k = (d : Int)
theorem MOK.le {n : Nat} {s : MSt} (h : MOK n s) : s.2.length ≤ n := by
  have := bcnt_le s.1; rw [h.cnt, h.l] at this; exact this
structure MGrow (s s' : MSt) : Prop where
  len : s.2.length ≤ s'.2.length
  pre : ∀ k, k < s.2.length → iget s'.2 k = iget s.2 k
  met : ∀ d, bat s.1 d = true → bat s'.1 d = true
theorem MGrow.refl (s : MSt) : MGrow s s := ⟨Nat.le_refl _, fun _ _ => rfl, fun _ h => h⟩
theorem MGrow.trans {a b c : MSt} (h : MGrow a b) (k : MGrow b c) : MGrow a c :=
  ⟨Nat.le_trans h.len k.len, fun i hi => (k.pre i (Nat.lt_of_lt_of_le hi h.len)).trans (h.pre i hi), fun d hd => k.met d (h.met d hd)⟩
section
variable {T : List (List Int)} {ng n mask : Nat}
theorem mStep_grow (s : MSt) (c g : Nat) : MGrow s (mStep T mask c s g) := by
  unfold mStep
  split
  · refine ⟨by simp, fun k hk => iget_app_lt hk, fun d hd => ?_⟩
    dsimp only
    rw [bat_set]
    split
    · rfl
    · exact hd
  · exact MGrow.refl s
theorem mStep_ok {s : MSt} {c g : Nat} (h : MOK n s) (hd : bTo T c g < n) : MOK n (mStep T mask c s g) := by
  unfold mStep
  generalize bTo T c g = d at *
  split
  · rename_i hm
    have hm := hm.2
    refine ⟨by rw [List.length_set]; exact h.l, fun k hk => ?_, ?_, fun e he hb => ?_⟩
    · dsimp only at hk ⊢
      by_cases e : k < s.2.length
      · obtain ⟨d', h1, h2, h3⟩ := h.q k e
        refine ⟨d', by rw [iget_app_lt e]; exact h1, h2, ?_⟩
        rw [bat_set]; split
        · rfl
        · exact h3
      · obtain rfl : k = s.2.length := by simp at hk; omega
        exact ⟨d, iget_app_eq, hd, by rw [bat_set, if_pos ⟨rfl, by rw [h.l]; exact hd⟩]⟩
    · dsimp only; rw [bcnt_set _ _ (by rw [h.l]; exact hd) hm, h.cnt]; simp
    · dsimp only at hb ⊢
      by_cases e2 : d = e
      · subst e2; exact ⟨s.2.length, by simp, iget_app_eq⟩
      · rw [bat_set, if_neg (fun h => e2 h.1)] at hb
        obtain ⟨k, h1, h2⟩ := h.cov e he hb
        exact ⟨k, by rw [List.length_append]; omega, by rw [iget_app_lt h1]; exact h2⟩
  · exact h
theorem mStep_met {s : MSt} {c g : Nat} (h : MOK n s) (hd : bTo T c g < n) (hb : mBit mask g = true) : bat (mStep T mask c s g).1 (bTo T c g) = true := by
  unfold mStep
  cases hm : bat s.1 (bTo T c g) with
  | false => rw [if_pos ⟨hb, rfl⟩]; dsimp only; rw [bat_set, if_pos ⟨rfl, by rw [h.l]; exact hd⟩]
  | true => rw [if_neg (fun h => by cases h.2)]; exact hm
theorem mRow_ok (hT : Leads T n) (hng : T.length = ng) {c : Nat} (hc : c < n) {s : MSt} (h : MOK n s) : ∀ m, m ≤ ng → MOK n ((List.range m).foldl (mStep T mask c) s) ∧ MGrow s ((List.range m).foldl (mStep T mask c) s) ∧ ∀ g, g < m → mBit mask g = true → bat ((List.range m).foldl (mStep T mask c) s).1 (bTo T c g) = true
  | 0, _ => ⟨h, MGrow.refl s, fun g hg => by omega⟩
  | m + 1, hm => by
    obtain ⟨h1, h2, h3⟩ := mRow_ok hT hng hc h m (by omega)
    rw [List.range_succ, List.foldl_append]
    generalize (List.range m).foldl (mStep T mask c) s = t at *
    have hd := (bTo_lt hT hc (g := m) (by omega)).1
    refine ⟨mStep_ok h1 hd, h2.trans (mStep_grow t c m), fun g hg hb => ?_⟩
    show bat (mStep T mask c t m).1 (bTo T c g) = true
    by_cases e : g = m
    · subst e; exact mStep_met h1 hd hb
    · exact (mStep_grow t c m).met _ (h3 g (by omega) hb)
def MSeen (T : List (List Int)) (mask ng i : Nat) (s : MSt) : Prop := ∀ k, k < i → ∀ g, g < ng → mBit mask g = true → bat s.1 (bTo T (iget s.2 k).toNat g) = true
theorem mLoop_step {f i : Nat} {s : MSt} (h : i < s.2.length) : mLoop T mask ng (f + 1) i s = mLoop T mask ng f (i + 1) (mRow T mask ng (iget s.2 i).toNat s) := by rw [mLoop, if_pos h]
theorem mLoop_ok (hT : Leads T n) (hng : T.length = ng) : ∀ (f i : Nat) (s : MSt), MOK n s → MOK n (mLoop T mask ng f i s) ∧ MGrow s (mLoop T mask ng f i s)
  | 0, _, s, h => ⟨h, MGrow.refl s⟩
  | f + 1, i, s, h => by
    unfold mLoop
    split
    · rename_i hi
      obtain ⟨d, h1, h2, _⟩ := h.q i hi
      obtain ⟨k1, k2, _⟩ := mRow_ok (mask := mask) hT hng (c := (iget s.2 i).toNat) (by omega) h ng (Nat.le_refl _)
      obtain ⟨m1, m2⟩ := mLoop_ok hT hng f (i + 1) _ k1
      exact ⟨m1, k2.trans m2⟩
    · exact ⟨h, MGrow.refl s⟩
theorem mLoop_seen (hT : Leads T n) (hng : T.length = ng) : ∀ (f i : Nat) (s : MSt), MOK n s → MSeen T mask ng i s → i ≤ s.2.length → n + 1 ≤ f + i → MSeen T mask ng (mLoop T mask ng f i s).2.length (mLoop T mask ng f i s)
  | 0, i, s, h, hs, hi, hf => by have := h.le; omega
  | f + 1, i, s, h, hs, hi, hf => by
    unfold mLoop
    split
    · rename_i hlt
      obtain ⟨d, h1, h2, _⟩ := h.q i hlt
      obtain ⟨k1, k2, k3⟩ := mRow_ok (mask := mask) hT hng (c := (iget s.2 i).toNat) (by omega) h ng (Nat.le_refl _)
      refine mLoop_seen hT hng f (i + 1) _ k1 (fun k hk g hg hb => ?_) (Nat.le_trans hlt k2.len) (by omega)
      have e : iget (mRow T mask ng (iget s.2 i).toNat s).2 k = iget s.2 k := k2.pre k (by omega)
      rw [e]
      by_cases e2 : k = i
      · subst e2; exact k3 g hg hb
      · exact k2.met _ (hs k (by omega) g hg hb)
    · obtain rfl : i = s.2.length := by omega
      exact hs
/-- what is closed holds all that is met -/
theorem mLoop_in (hT : Leads T n) (hng : T.length = ng) {p : Nat → Prop} (hp : ∀ c, c < n → p c → ∀ g, g < ng → mBit mask g = true → p (bTo T c g)) : ∀ (f i : Nat) (s : MSt), MOK n s → (∀ d, d < n → bat s.1 d = true → p d) → ∀ d, d < n → bat (mLoop T mask ng f i s).1 d = true → p d
  | 0, _, s, _, hs => hs
  | f + 1, i, s, h, hs => by
    unfold mLoop
    split
    · rename_i hlt
      obtain ⟨c, h1, h2, h3⟩ := h.q i hlt
      have hpc := hs c h2 h3
      rw [h1, Int.toNat_natCast]
      obtain ⟨k1, _, _⟩ := mRow_ok (mask := mask) hT hng h2 h ng (Nat.le_refl _)
      refine mLoop_in hT hng hp f (i + 1) _ k1 ?_
      have key : ∀ m, m ≤ ng → ∀ d, d < n → bat ((List.range m).foldl (mStep T mask c) s).1 d = true → p d := by
        intro m
        induction m with
        | zero => intro _; exact hs
        | succ m ih =>
          intro hm d hd hb
          rw [List.range_succ, List.foldl_append] at hb
          have hb : bat (mStep T mask c ((List.range m).foldl (mStep T mask c) s) m).1 d = true := hb
          unfold mStep at hb
          split at hb
          · rename_i hc
            dsimp only at hb
            rw [bat_set] at hb
            split at hb
            · rename_i e; rw [← e.1]; exact hp c h2 hpc m (by omega) hc.1
            · exact ih (by omega) d hd hb
          · exact ih (by omega) d hd hb
      exact key ng (Nat.le_refl _)
    · exact hs
end
end Go.Proofs.Ytpognnifgcacnaa
