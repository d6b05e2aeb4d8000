/- A memory of names: how it goes on when names are laid, dropped, and written. No program in sight. -/
import Derived.Test.YtnfkhgamnapgmaaPart1
namespace Go.Proofs.Ytnfkhgamnapgmaa
open Go.RowKit

def A1.mono (η η' : Env) (a : A1) : Prop := ∀ x, a.has x = true → η'.h x = none ∨ (η'.h x = η.h x ∧ ∀ i, η'.r x i = η.r x i)
theorem beq_r (x : Nat) : Nat.beq x x = true := by simp
theorem Den1.mono {η η' : Env} {a : A1} {u : Value} (hm : a.mono η η') (h : Den1 η a u) : Den1 η' a u := by
  cases a with
  | val v => exact h
  | any => exact h
  | sl x off n => exact ⟨h.1, fun hd he => (hm x (beq_r x)).elim (fun e => by rw [e] at he; cases he) (fun e => h.2 hd (e.1 ▸ he))⟩
  | ptr x off => exact ⟨h.1, fun hd he => (hm x (beq_r x)).elim (fun e => by rw [e] at he; cases he) (fun e => h.2 hd (e.1 ▸ he))⟩
  | esl x i off n => exact ⟨h.1, fun hd he => (hm x (beq_r x)).elim (fun e => by rw [e] at he; cases he) (fun e => by rw [e.2 i]; exact h.2 hd (e.1 ▸ he))⟩
  | eptr x i off => exact ⟨h.1, fun hd he => (hm x (beq_r x)).elim (fun e => by rw [e] at he; cases he) (fun e => by rw [e.2 i]; exact h.2 hd (e.1 ▸ he))⟩
  | clo f xs =>
    obtain ⟨us, h1, h2, h3⟩ := h
    refine ⟨us, h1, h2, fun j p hp => ?_⟩
    obtain ⟨q, hq, hq1, hq2⟩ := h3 j p hp
    refine ⟨q, hq, hq1, fun hd he => ?_⟩
    have hx : (A1.clo f xs).has p.1 = true := by simp only [A1.has, List.any_eq_true]; exact ⟨p, List.mem_of_getElem? hp, beq_r _⟩
    exact (hm p.1 hx).elim (fun e => by rw [e] at he; cases he) (fun e => hq2 hd (e.1 ▸ he))
theorem Den1.one {η : Env} {a : A1} {u : Value} (h : Den1 η a u) (hv : ∀ v, a = .val v → v.oneCell' = true) : u.oneCell' = true := by
  cases a with
  | val v => have h : u = v := h; subst h; exact hv _ rfl
  | any => exact h
  | sl x off n => obtain ⟨⟨ao, c, rfl⟩, _⟩ := h; rfl
  | ptr x off => obtain ⟨⟨ao, rfl⟩, _⟩ := h; rfl
  | esl x i off n => obtain ⟨⟨ao, c, rfl⟩, _⟩ := h; rfl
  | eptr x i off => obtain ⟨⟨ao, rfl⟩, _⟩ := h; rfl
  | clo f xs => obtain ⟨us, rfl, _⟩ := h; rfl
theorem has_not_val {a : A1} {x : Nm} (h : a.has x = true) : ∀ v, a = .val v → v.oneCell' = true := by rintro v rfl; cases h
theorem Den1.forget {η η' : Env} {a : A1} {u : Value} {x : Nm} (hm : ∀ y, y ≠ x → η'.h y = none ∨ (η'.h y = η.h y ∧ ∀ i, η'.r y i = η.r y i)) (h : Den1 η a u) : Den1 η' (a.forget x) u := by
  unfold A1.forget
  cases hx : a.has x with
  | true => exact h.one (has_not_val hx)
  | false => exact Den1.mono (a := a) (fun y hy => hm y fun e => by rw [e, hx] at hy; cases hy) h
def A2.mono (η η' : Env) (a : A2) : Prop := ∀ x, a.has x = true → η'.h x = none ∨ (η'.h x = η.h x ∧ ∀ i, η'.r x i = η.r x i)
theorem Den2.mono {η η' : Env} {a : A2} {u : Value} (hm : a.mono η η') (h : Den2 η a u) : Den2 η' a u := by
  cases a with
  | one a => exact Den1.mono hm h
  | agg l =>
    obtain ⟨us, h1, h2, h3⟩ := h
    refine ⟨us, h1, h2, fun j a ha => ?_⟩
    obtain ⟨u', h4, h5⟩ := h3 j a ha
    exact ⟨u', h4, h5.mono fun x hx => hm x (by simp only [A2.has, List.any_eq_true]; exact ⟨a, List.mem_of_getElem? ha, hx⟩)⟩
def AV.mono (η η' : Env) (a : AV) : Prop := ∀ x, a.has x = true → η'.h x = none ∨ (η'.h x = η.h x ∧ ∀ i, η'.r x i = η.r x i)
theorem Den.mono {η η' : Env} {a : AV} {u : Value} (hm : a.mono η η') (h : Den η a u) : Den η' a u := by
  cases a with
  | s a => exact Den2.mono hm h
  | tup l =>
    obtain ⟨us, h1, h2, h3⟩ := h
    refine ⟨us, h1, h2, fun j a ha => ?_⟩
    obtain ⟨u', h4, h5⟩ := h3 j a ha
    exact ⟨u', h4, h5.mono fun x hx => hm x (by simp only [AV.has, List.any_eq_true]; exact ⟨a, List.mem_of_getElem? ha, hx⟩)⟩

section
variable {w0 w w' : World} {ω0 : Beg} {ω ω' : Own?} {nt : Nat} {S : St} {η η' : Env} {a : Act}

/-- the blocks that answer to p have not turned -/
def Same (ω : Own?) (w : World) (ω' : Own?) (w' : World) (p : Option (Nm × Option Nat) → Prop) : Prop :=
  w.heap.size ≤ w'.heap.size ∧ ∀ b, b < w.heap.size → p (ω b) → w'.heap[b]? = w.heap[b]? ∧ ω' b = ω b

theorem lt_of_heap {b : Nat} {o : Obj} (h : w.heap[b]? = some o) : b < w.heap.size := by
  rcases Nat.lt_or_ge b w.heap.size with hlt | hge
  · exact hlt
  · rw [Array.getElem?_eq_none hge] at h; cases h

theorem Vec.same {own : Bool} {ow : Nm × Option Nat} {h : Hd} {E : TypeId} {len : Nat} {cell cell' : Nat → Value → Prop} {p : Option (Nm × Option Nat) → Prop} (hs : Same ω w ω' w' p) (hp : p none) (hp' : p (some ow))
    (hc : ∀ j u, cell j u → cell' j u) (hv : Vec own ω w ow h E len cell) : Vec own ω' w' ow h E len cell' := by
  cases own with
  | true =>
    rcases hv with h0 | ⟨b, o, cs, h1, h2, h3, h4, h5, h6, h7⟩
    · exact .inl h0
    · have hb := hs.2 b (lt_of_heap h3) (by rw [h2]; exact hp')
      refine .inr ⟨b, o, cs, h1, hb.2.trans h2, hb.1.trans h3, h4, h5, h6, fun j hj => ?_⟩
      obtain ⟨u, hu, hcu⟩ := h7 j hj
      exact ⟨u, hu, hc j u hcu⟩
  | false =>
    refine ⟨hv.1, fun j hj => ?_⟩
    obtain ⟨b, o, u, h1, h2, h3, h4, h5⟩ := hv.2 j hj
    have hb := hs.2 b h3 (by rw [h2]; exact hp)
    exact ⟨b, o, u, h1, hb.2.trans h2, Nat.lt_of_lt_of_le h3 hs.1, (World.cell?_of_block hb.1).trans h4, hc j u h5⟩

theorem ChIs.same {x : Nm} {h : Hd} {c : Ch} {p : Option (Nm × Option Nat) → Prop} (hs : Same ω w ω' w' p) (hp : p none) (hp' : ∀ i, p (some (x, i))) (hr : ∀ i, η'.r x i = η.r x i)
    (hm : ∀ l, c.d = .flat l → ∀ a ∈ l, a.mono η η') (hc : ChIs η ω w x h c) : ChIs η' ω' w' x h c := by
  refine ⟨hc.1, hc.2.same hs hp (hp' none) fun j u hu => ?_⟩
  cases hd : c.d with
  | flat l => rw [hd] at hu; exact fun a ha => (hu a ha).mono (hm l hd a (List.mem_of_getElem? ha))
  | vals vs => rw [hd] at hu; exact hu
  | rows E vss holes =>
    rw [hd] at hu
    refine ⟨hu.1, fun hj vs hvs => ?_⟩
    obtain ⟨h1, h2, h3⟩ := hu.2 hj vs hvs
    rw [hr j]
    exact ⟨h1, h2, h3.same hs hp (hp' (some j)) fun _ _ h => h⟩
  | mix cs => rw [hd] at hu; exact ⟨hu.1, fun c hc => (hu.2 c hc).move (hr j) fun _ _ _ _ _ h3 => h3.same hs hp (hp' (some j)) fun _ _ h => h⟩

theorem ChIs.forget {x y : Nm} {h : Hd} {c : Ch} {p : Option (Nm × Option Nat) → Prop} (hs : Same ω w ω' w' p) (hp : p none) (hp' : ∀ i, p (some (x, i))) (hr : ∀ i, η'.r x i = η.r x i)
    (hm : ∀ z, z ≠ y → η'.h z = none ∨ (η'.h z = η.h z ∧ ∀ i, η'.r z i = η.r z i)) (hc : ChIs η ω w x h c) : ChIs η' ω' w' x h (c.forget y) := by
  refine ⟨hc.1, ?_⟩
  have hl : (c.forget y).d.len = c.d.len := by unfold Ch.forget Dat.forget; cases c.d <;> simp [Dat.len]
  rw [hl]
  refine hc.2.same hs hp (hp' none) fun j u hu => ?_
  unfold Ch.forget Dat.forget
  cases hd : c.d with
  | flat l =>
    rw [hd] at hu
    intro a ha
    simp only [List.getElem?_map, Option.map_eq_some_iff] at ha
    obtain ⟨b, hb, rfl⟩ := ha
    exact (hu b hb).forget hm
  | vals vs => rw [hd] at hu; exact hu
  | rows E vss holes =>
    rw [hd] at hu
    refine ⟨hu.1, fun hj vs hvs => ?_⟩
    obtain ⟨h1, h2, h3⟩ := hu.2 hj vs hvs
    rw [hr j]
    exact ⟨h1, h2, h3.same hs hp (hp' (some j)) fun _ _ h => h⟩
  | mix cs => rw [hd] at hu; exact ⟨hu.1, fun c hc => (hu.2 c hc).move (hr j) fun _ _ _ _ _ h3 => h3.same hs hp (hp' (some j)) fun _ _ h => h⟩

/-- the owners that are alive, and nobody -/
def live (S : St) (o : Option (Nm × Option Nat)) : Prop := o = none ∨ ∃ y i c, o = some (y, i) ∧ S.ch y = some c
structure Calm (S : St) (ω : Own?) (w : World) (ω' : Own?) (w' : World) : Prop where
  os : w'.os = w.os
  tape : w'.tape = w.tape
  output : w'.output = w.output
  same : Same ω w ω' w' (live S)
theorem Calm.fr {ω0 : Own?} (h : Calm S ω w ω' w') (hf : Fr ω0 w0 ω w) : Fr ω0 w0 ω' w' :=
  ⟨h.os.trans hf.os, h.tape.trans hf.tape, h.output.trans hf.output, Nat.le_trans hf.size h.same.1, fun b hb hn => by
    have h1 := hf.block b hb hn
    have h2 := h.same.2 b (Nat.lt_of_lt_of_le hb hf.size) (.inl h1.2)
    exact ⟨h2.1.trans h1.1, h2.2.trans h1.2⟩⟩

/-- the environment with a new name -/
def Env.new (η : Env) (x : Nm) (hd : Hd) (r : Nat → Hd) : Env := { h := fun y => if y = x then some hd else η.h y, r := fun y i => if y = x then r i else η.r y i }
theorem Env.new_ne (η : Env) {x : Nm} (hd : Hd) (r : Nat → Hd) (y : Nm) (h : y ≠ x) : (η.new x hd r).h y = none ∨ ((η.new x hd r).h y = η.h y ∧ ∀ i, (η.new x hd r).r y i = η.r y i) :=
  .inr ⟨by simp [Env.new, h], fun i => by simp [Env.new, h]⟩

/-- a chunk is laid under a name that is free -/
theorem SatE.lay (h : SatE w0 ω0 nt S η ω a w) {x : Nm} {c : Ch} {hd : Hd} {r : Nat → Hd} (hk : Calm S ω w ω' w') (hc : ChIs (η.new x hd r) ω' w' x hd c) : SatE w0 ω0 nt (S.new x c) (η.new x hd r) ω' a w' :=
  { dfr := h.dfr, tsz := h.tsz, fr := hk.fr h.fr
    slots := fun t av ht => by
      obtain ⟨h1, h2⟩ := sl_new ht
      obtain ⟨u, h3, h4⟩ := h.slots t av h1
      exact ⟨u, h3, h4.mono fun y hy => Env.new_ne η hd r y fun e => by rw [e, h2] at hy; cases hy⟩
    phs := fun t av ht => by
      obtain ⟨h1, h2⟩ := ph_new ht
      obtain ⟨u, h3, h4⟩ := h.phs t av h1
      exact ⟨u, h3, h4.mono fun y hy => Env.new_ne η hd r y fun e => by rw [e, h2] at hy; cases hy⟩
    mem := ⟨fun y d hy => by
      rw [ch_new] at hy
      by_cases e : y = x
      · subst e
        rw [if_pos rfl] at hy
        obtain rfl := Option.some.inj hy
        exact ⟨hd, by simp [Env.new], hc⟩
      · rw [if_neg e, Option.map_eq_some_iff] at hy
        obtain ⟨d', hy', rfl⟩ := hy
        obtain ⟨h', e1, e2⟩ := h.mem.1 y d' hy'
        exact ⟨h', by simp [Env.new, e, e1], e2.forget hk.same (.inl rfl) (fun i => .inr ⟨y, i, d', rfl, hy'⟩) (fun i => by simp [Env.new, e]) fun z hz => Env.new_ne η hd r z hz⟩,
     fun y hy => by
      rw [ch_new] at hy
      by_cases e : y = x
      · rw [if_pos e] at hy; cases hy
      · rw [if_neg e, Option.map_eq_none_iff] at hy
        simp [Env.new, e, h.mem.2 y hy]⟩ }

/-- a name is dropped -/
def Env.drop (η : Env) (x : Nm) : Env := { η with h := fun y => if y = x then none else η.h y }
theorem Env.drop_any (η : Env) (x y : Nm) : (η.drop x).h y = none ∨ ((η.drop x).h y = η.h y ∧ ∀ i, (η.drop x).r y i = η.r y i) := by
  by_cases e : y = x
  · exact .inl (by simp [Env.drop, e])
  · exact .inr ⟨by simp [Env.drop, e], fun _ => rfl⟩
theorem Same.refl (ω : Own?) (w : World) (p : Option (Nm × Option Nat) → Prop) : Same ω w ω w p := ⟨Nat.le_refl _, fun _ _ _ => ⟨rfl, rfl⟩⟩
theorem Calm.refl (S : St) (ω : Own?) (w : World) : Calm S ω w ω w := ⟨rfl, rfl, rfl, Same.refl _ _ _⟩
theorem SatE.drop (h : SatE w0 ω0 nt S η ω a w) (x : Nm) : SatE w0 ω0 nt (S.rm x) (η.drop x) ω a w :=
  { dfr := h.dfr, tsz := h.tsz, fr := h.fr
    slots := fun t av ht => by
      obtain ⟨u, h3, h4⟩ := h.slots t av ht
      exact ⟨u, h3, h4.mono fun y _ => Env.drop_any η x y⟩
    phs := fun t av ht => by
      obtain ⟨u, h3, h4⟩ := h.phs t av ht
      exact ⟨u, h3, h4.mono fun y _ => Env.drop_any η x y⟩
    mem := ⟨fun y d hy => by
      rw [ch_rm] at hy
      by_cases e : y = x
      · rw [if_pos e] at hy; cases hy
      · rw [if_neg e] at hy
        obtain ⟨h', e1, e2⟩ := h.mem.1 y d hy
        exact ⟨h', by simp [Env.drop, e, e1], ChIs.same (η := η) (p := fun _ => True) (Same.refl _ _ _) trivial (fun _ => trivial) (fun _ => rfl) (fun l _ a _ z _ => Env.drop_any η x z) e2⟩,
     fun y hy => by
      rw [ch_rm] at hy
      by_cases e : y = x
      · simp [Env.drop, e]
      · rw [if_neg e] at hy
        simp [Env.drop, e, h.mem.2 y hy]⟩ }

/-- a chunk of the call's own is written in its place: its handle stays -/
theorem SatE.write (h : SatE w0 ω0 nt S η ω a w) {x : Nm} {c' : Ch} {hd : Hd} (he : η.h x = some hd) (hk : Calm (S.rm x) ω w ω' w') (hc : ChIs η ω' w' x hd c') :
    SatE w0 ω0 nt (S.set x c') η ω' a w' :=
  { dfr := h.dfr, tsz := h.tsz, fr := hk.fr h.fr, slots := h.slots, phs := h.phs
    mem := ⟨fun y d hy => by
      rw [ch_set] at hy
      by_cases e : y = x
      · subst e
        rw [if_pos rfl] at hy
        obtain rfl := Option.some.inj hy
        exact ⟨hd, he, hc⟩
      · rw [if_neg e] at hy
        obtain ⟨h', e1, e2⟩ := h.mem.1 y d hy
        exact ⟨h', e1, e2.same hk.same (.inl rfl) (fun i => .inr ⟨y, i, d, rfl, by rw [ch_rm, if_neg e]; exact hy⟩) (fun _ => rfl) fun l _ a _ z _ => .inr ⟨rfl, fun _ => rfl⟩⟩,
     fun y hy => by
      rw [ch_set] at hy
      by_cases e : y = x
      · rw [if_pos e] at hy; cases hy
      · rw [if_neg e] at hy; exact h.mem.2 y hy⟩ }
end
end Go.Proofs.Ytnfkhgamnapgmaa

/- A memory of names: the operations that make no memory, and the loads. No program in sight. -/
namespace Go.Proofs.Ytnfkhgamnapgmaa
open Go.RowKit

def cv : Value → AV
  | .agg cs => .s (.agg (cs.toList.map .val))
  | v => vv v
def St.op (S : St) : Operand → Option AV
  | .tmp t => S.sl t
  | .const v => some (cv v)
  | .func f => some (o1 (.clo (.func f) []))
  | .global _ => none

theorem den_cv (η : Env) (v : Value) : Den η (cv v) v := by
  cases v <;> try exact rfl
  rename_i cs
  refine ⟨cs, rfl, by simp, fun j a ha => ?_⟩
  simp only [List.getElem?_map, Option.map_eq_some_iff] at ha
  obtain ⟨u, hu, rfl⟩ := ha
  exact ⟨u, by simpa using hu, rfl⟩

structure Stp (P : Program) (nt : Nat) (o : Oper) (S S' : St) : Prop where
  go : ∀ (w0 : World) (ω0 : Beg) (a : Act) (w : World) (Q : Exit → Act → World → Prop), Sat w0 ω0 nt S a w → o.wp P a w (Sat w0 ω0 nt S') Q

section
variable {P : Program} {nt : Nat} {S S' : St} {w0 w : World} {ω0 : Beg} {ω : Own?} {η : Env} {a : Act}

theorem SatE.opv (h : SatE w0 ω0 nt S η ω a w) {x : Operand} {av : AV} (hx : S.op x = some av) : Den η av (a.eval x) := by
  cases x with
  | tmp t =>
    obtain ⟨u, h1, h2⟩ := h.slots t av hx
    have : a.eval (.tmp t) = u := by simp [Act.eval, h1]
    rw [this]; exact h2
  | const v => obtain rfl := Option.some.inj hx; exact den_cv η v
  | func f => obtain rfl := Option.some.inj hx; exact ⟨#[], rfl, rfl, fun j p hp => by simp at hp⟩
  | global g => cases hx
theorem SatE.opV (h : SatE w0 ω0 nt S η ω a w) {x : Operand} {v : Value} (hx : S.op x = some (vv v)) : a.eval x = v := h.opv hx

theorem Stp.of (o : Oper) (h : ∀ w0 ω0 η ω a w, SatE w0 ω0 nt S η ω a w → ∃ v w', (execOp a.eval o).run P w = .ok (.value v) w' ∧ Sat w0 ω0 nt S' (a.put o.dst v) w') : Stp P nt o S S' := by
  refine ⟨fun w0 ω0 a w Q ⟨η, ω, hs⟩ => ?_⟩
  obtain ⟨v, w', h1, h2⟩ := h w0 ω0 η ω a w hs
  unfold Oper.wp
  rw [h1]
  exact h2
theorem Stp.pure {o : Oper} {t : Nat} {av : AV} (hd : o.dst = some t) (ht : Nat.blt t nt = true) (h : ∀ w0 ω0 η ω a w, SatE w0 ω0 nt S η ω a w → ∃ v, (execOp a.eval o).run P w = .ok (.value v) w ∧ Den η av v) : Stp P nt o S (S.put t av) := by
  refine Stp.of o fun w0 ω0 η ω a w hs => ?_
  obtain ⟨v, h1, h2⟩ := h w0 ω0 η ω a w hs
  exact ⟨v, w, h1, η, ω, by rw [hd]; exact hs.putV (by simpa using ht) h2⟩

variable {t : Nat} {ty : TypeId} {ps : String} {af : Array Edge} {gd : Option (Nat × Bool)} {x y : Operand} {av : AV}

theorem stp_move (ht : Nat.blt t nt = true) (hx : S.op x = some av) : Stp P nt ⟨some t, .move x, ty, ps, af, gd⟩ S (S.put t av) :=
  Stp.pure rfl ht fun _ _ η _ a _ hs => ⟨a.eval x, by simp [execOp], hs.opv hx⟩
theorem stp_assign (ht : Nat.blt t nt = true) (hx : S.op x = some av) : Stp P nt ⟨some t, .assign x, ty, ps, af, gd⟩ S (S.put t av) :=
  Stp.pure rfl ht fun _ _ η _ a _ hs => ⟨a.eval x, by simp [execOp], hs.opv hx⟩

/-- the integer operations -/
def binI (k : IntKind) : BinOp → Int → Int → Option Value
  | .add, m, n => some (.int k (k.wrap (m + n)))
  | .sub, m, n => some (.int k (k.wrap (m - n)))
  | .mul, m, n => some (.int k (k.wrap (m * n)))
  | .eql, m, n => some (.bool (m == n))
  | .neq, m, n => some (.bool (m != n))
  | .lss, m, n => some (.bool (decide (m < n)))
  | .leq, m, n => some (.bool (decide (m ≤ n)))
  | .gtr, m, n => some (.bool (decide (m > n)))
  | .geq, m, n => some (.bool (decide (m ≥ n)))
  | _, _, _ => none
theorem stp_bin {op : BinOp} {xt yt : TypeId} {k : IntKind} {m n : Int} {r : Value} (ht : Nat.blt t nt = true) (hx : S.op x = some (vv (.int k m))) (hy : S.op y = some (vv (.int k n))) (hr : binI k op m n = some r) :
    Stp P nt ⟨some t, .binOp op xt x y yt, ty, ps, af, gd⟩ S (S.put t (vv r)) :=
  Stp.pure rfl ht fun _ _ η _ a w hs => by
    refine ⟨r, ?_, rfl⟩
    simp only [execOp, hs.opV hx, hs.opV hy]
    cases op <;> simp only [binI, Option.some.injEq, reduceCtorEq] at hr <;> subst hr <;> simp [eqGuard, binOp, Op.intArith, Op.intCmp]
theorem stp_add {xt yt : TypeId} {k : IntKind} {m n r : Int} (ht : Nat.blt t nt = true) (hx : S.op x = some (vv (.int k m))) (hy : S.op y = some (vv (.int k n))) (hr : k.wrap (m + n) = r) :
    Stp P nt ⟨some t, .binOp .add xt x y yt, ty, ps, af, gd⟩ S (S.put t (vv (.int k r))) := hr ▸ stp_bin ht hx hy rfl
theorem stp_sub {xt yt : TypeId} {k : IntKind} {m n r : Int} (ht : Nat.blt t nt = true) (hx : S.op x = some (vv (.int k m))) (hy : S.op y = some (vv (.int k n))) (hr : k.wrap (m - n) = r) :
    Stp P nt ⟨some t, .binOp .sub xt x y yt, ty, ps, af, gd⟩ S (S.put t (vv (.int k r))) := hr ▸ stp_bin ht hx hy rfl
theorem stp_mul {xt yt : TypeId} {k : IntKind} {m n r : Int} (ht : Nat.blt t nt = true) (hx : S.op x = some (vv (.int k m))) (hy : S.op y = some (vv (.int k n))) (hr : k.wrap (m * n) = r) :
    Stp P nt ⟨some t, .binOp .mul xt x y yt, ty, ps, af, gd⟩ S (S.put t (vv (.int k r))) := hr ▸ stp_bin ht hx hy rfl
theorem stp_not {xt : TypeId} {b : Bool} (ht : Nat.blt t nt = true) (hx : S.op x = some (vv (.bool b))) : Stp P nt ⟨some t, .unOp .not xt x, ty, ps, af, gd⟩ S (S.put t (vv (.bool !b))) :=
  Stp.pure rfl ht fun _ _ η _ a w hs => ⟨.bool !b, by simp [execOp, hs.opV hx, Op.unary], rfl⟩
theorem stp_extract {l : List A2} {i : Nat} {a2 : A2} (ht : Nat.blt t nt = true) (hx : S.op x = some (.tup l)) (hi : l[i]? = some a2) : Stp P nt ⟨some t, .extract x i, ty, ps, af, gd⟩ S (S.put t (.s a2)) :=
  Stp.pure rfl ht fun _ _ η _ a w hs => by
    obtain ⟨us, h1, h2, h3⟩ := hs.opv hx
    obtain ⟨u, h4, h5⟩ := h3 i a2 hi
    exact ⟨u, by simp [execOp, h1, Instr.extract, h4], h5⟩

/-- a cell behind a name -/
theorem SatE.chunk (h : SatE w0 ω0 nt S η ω a w) {x : Nm} {c : Ch} (hx : S.ch x = some c) : ∃ hd, η.h x = some hd ∧ hd.k = c.k ∧ Vec c.own ω w (x, none) hd c.E c.d.len (cellsOK η ω w c.own x c.d) :=
  have ⟨hd, h1, h2, h3⟩ := h.mem.1 x c hx
  ⟨hd, h1, h2, h3⟩

theorem stp_nilCheck {n : Nm} {i : Nat} {c : Ch} (ht : Nat.blt t nt = true) (hx : S.op x = some (o1 (.ptr n i))) (hc : S.ch n = some c) : Stp P nt ⟨some t, .nilCheck x, ty, ps, af, gd⟩ S (S.put t (o1 (.ptr n i))) :=
  Stp.pure rfl ht fun _ _ η _ a w hs => by
    obtain ⟨hd, h1, _⟩ := hs.chunk hc
    have hd1 : Den1 η (.ptr n i) (a.eval x) := hs.opv hx
    obtain ⟨b, o, e1, e2⟩ := hd1.2 hd h1
    exact ⟨a.eval x, by simp [execOp, e2], hd1⟩

/-- the field f of the struct T begins at cell d, and has some cells -/
def fieldAtB (P : Program) (T : TypeId) (f d : Nat) : Bool :=
  match P.underlying T with
  | some (.struct fs) => match fs[f]? with
    | some fd => fd.offset == d && (match P.info? fd.type with | some i => i.size != 0 | none => false)
    | none => false
  | _ => false
theorem fieldAtB_run {T : TypeId} {f d : Nat} (h : fieldAtB P T f d = true) (b o : Nat) (w : World) : (Instr.fieldAt T (.pointer (some ⟨b, o, none⟩)) f).run P w = .ok (.pointer (some ⟨b, o + d, none⟩)) w := by
  unfold fieldAtB at h
  split at h
  · rename_i fs hfs
    split at h
    · rename_i fd hfd
      simp only [Bool.and_eq_true, beq_iff_eq] at h
      obtain ⟨h1, h2⟩ := h
      split at h2
      · rename_i i hi
        have h3 : i.size ≠ 0 := by simpa using h2
        subst h1
        simp [Instr.fieldAt, run_underlying hfs, hfd, Instr.sureAddr, fieldPlace, sizeOf, typeInfo, hi, h3, Addr.add_lit]
      · cases h2
    · cases h
  · cases h
theorem stp_fieldAddr {T : TypeId} {f d : Nat} {n : Nm} {i : Nat} {c : Ch} (ht : Nat.blt t nt = true) (hx : S.op x = some (o1 (.ptr n i))) (hc : S.ch n = some c) (hf : fieldAtB P T f d = true) :
    Stp P nt ⟨some t, .fieldAddr T x f, ty, ps, af, gd⟩ S (S.put t (o1 (.ptr n (i + d)))) :=
  Stp.pure rfl ht fun _ _ η _ a w hs => by
    obtain ⟨hd, h1, _⟩ := hs.chunk hc
    have hd1 : Den1 η (.ptr n i) (a.eval x) := hs.opv hx
    obtain ⟨b, o, e1, e2⟩ := hd1.2 hd h1
    refine ⟨.pointer (some ⟨b, o + i + d, none⟩), by simp [execOp, e2, fieldAtB_run hf], ⟨_, rfl⟩, fun hd' he => ?_⟩
    rw [h1] at he; obtain rfl := Option.some.inj he
    exact ⟨b, o, e1, by rw [Nat.add_assoc]⟩

/-- a type of one cell -/
def oneB (P : Program) (T : TypeId) : Bool :=
  match P.underlying T with
  | some (.struct _) | some (.array _ _) | none => false
  | _ => true
theorem oneB_agg {T : TypeId} (h : oneB P T = true) (w : World) : (isAgg T).run P w = .ok false w := by
  unfold oneB at h
  cases hu : P.underlying T with
  | none => rw [hu] at h; cases h
  | some d => rw [hu] at h; cases d <;> first | (cases h; done) | simp [isAgg, run_underlying hu]
theorem run_load1 {T : TypeId} (h : oneB P T = true) {p : Addr} {w : World} {u : Value} (hc : w.cell? p = some u) : (Instr.loadAt T (.pointer (some p))).run P w = .ok u w := by
  simp [Instr.loadAt, Instr.sureAddr, loadVar, oneB_agg h, hc]

/-- what lies in cell j of a chunk -/
def Dat.at_ (x : Nm) : Dat → Nat → Option A1
  | .flat l, j => l[j]?
  | .vals vs, j => vs[j]?.map .val
  | .rows _ vss holes, j => if holes.contains j then none else vss[j]?.map fun vs => .esl x j 0 vs.length
  | .mix cs, j => match cs[j]? with
    | some (.v y) => some (.val y)
    | some (.r _ _ m _) => some (.esl x j 0 m)
    | some .any => some .any
    | none => none
theorem den_at {x : Nm} {own : Bool} {d : Dat} {j : Nat} {u : Value} {b : A1} (hu : cellsOK η ω w own x d j u) (hb : d.at_ x j = some b) : Den1 η b u := by
  cases d with
  | flat l => exact hu b hb
  | vals vs =>
    have hu : vs[j]? = some u := hu
    have hb : vs[j]?.map A1.val = some b := hb
    rw [hu] at hb; simp at hb; subst hb; exact rfl
  | rows E vss holes =>
    have hb : (if holes.contains j then none else vss[j]?.map fun vs => A1.esl x j 0 vs.length) = some b := hb
    split at hb
    · cases hb
    · rename_i hh
      rw [Option.map_eq_some_iff] at hb
      obtain ⟨vs, hvs, rfl⟩ := hb
      obtain ⟨rfl, h2, _⟩ := hu.2 (by simpa using hh) vs hvs
      exact ⟨⟨_, _, rfl⟩, fun hd _ => ⟨_, rfl, fun _ => rfl, fun h => absurd h (by omega)⟩⟩
  | mix cs =>
    simp only [Dat.at_] at hb
    cases hc : cs[j]? with
    | none => rw [hc] at hb; cases hb
    | some c =>
      rw [hc] at hb
      have hk := hu.2 c hc
      cases c with
      | v y => obtain rfl := Option.some.inj hb; exact hk
      | any => obtain rfl := Option.some.inj hb; exact hu.1
      | r F k m vs =>
        obtain rfl := Option.some.inj hb
        obtain ⟨_, rfl, _, _⟩ := hk
        exact ⟨⟨_, _, rfl⟩, fun hd _ => ⟨_, rfl, fun _ => rfl, fun h => absurd h (by omega)⟩⟩
theorem Dat.at_lt {x : Nm} {d : Dat} {j : Nat} {b : A1} (h : d.at_ x j = some b) : j < d.len := by
  cases d with
  | flat l => exact (List.getElem?_eq_some_iff.1 h).1
  | vals vs =>
    have h : vs[j]?.map A1.val = some b := h
    rw [Option.map_eq_some_iff] at h
    obtain ⟨v, hv, _⟩ := h
    exact (List.getElem?_eq_some_iff.1 hv).1
  | rows E vss holes =>
    have h : (if holes.contains j then none else vss[j]?.map fun vs => A1.esl x j 0 vs.length) = some b := h
    split at h
    · cases h
    · rw [Option.map_eq_some_iff] at h
      obtain ⟨vs, hvs, rfl⟩ := h
      exact (List.getElem?_eq_some_iff.1 hvs).1
  | mix cs =>
    simp only [Dat.at_] at h
    cases hc : cs[j]? with
    | none => rw [hc] at h; cases h
    | some c => exact (List.getElem?_eq_some_iff.1 hc).1

theorem stp_load {T : TypeId} {n : Nm} {i : Nat} {c : Ch} {b : A1} (ht : Nat.blt t nt = true) (hT : oneB P T = true) (hx : S.op x = some (o1 (.ptr n i))) (hc : S.ch n = some c) (hb : c.d.at_ n i = some b) :
    Stp P nt ⟨some t, .load T x, ty, ps, af, gd⟩ S (S.put t (o1 b)) :=
  Stp.pure rfl ht fun _ _ η _ a w hs => by
    obtain ⟨hd, h1, _, h3⟩ := hs.chunk hc
    have hd1 : Den1 η (.ptr n i) (a.eval x) := hs.opv hx
    obtain ⟨bb, o, e1, e2⟩ := hd1.2 hd h1
    obtain ⟨b', o', u, f1, f2, f3⟩ := h3.get (Dat.at_lt hb)
    rw [e1] at f1; injection f1 with f1; injection f1 with f1 f1'; subst f1 f1'
    exact ⟨u, by simp [execOp, e2, run_load1 hT f2], den_at f3 hb⟩
/-- a cell of a row -/
theorem stp_loadE {T : TypeId} {n : Nm} {i j : Nat} {c : Ch} {E : TypeId} {vss : List (List Value)} {holes : List Nat} {vs : List Value} {v : Value} (ht : Nat.blt t nt = true) (hT : oneB P T = true) (hx : S.op x = some (o1 (.eptr n i j))) (hc : S.ch n = some c)
    (hd : c.d = .rows E vss holes) (hh : i ∉ holes) (hi : vss[i]? = some vs) (hj : vs[j]? = some v) : Stp P nt ⟨some t, .load T x, ty, ps, af, gd⟩ S (S.put t (vv v)) :=
  Stp.pure rfl ht fun _ _ η ω a w hs => by
    obtain ⟨hq, h1, _, h3⟩ := hs.chunk hc
    have hd1 : Den1 η (.eptr n i j) (a.eval x) := hs.opv hx
    obtain ⟨bb, o, e1, e2⟩ := hd1.2 hq h1
    rw [hd] at h3
    obtain ⟨b', o', u, f1, f2, f3⟩ := h3.get (j := i) (List.getElem?_eq_some_iff.1 hi).1
    obtain ⟨_, _, g3⟩ := f3.2 hh vs hi
    obtain ⟨b'', o'', u', k1, k2, k3⟩ := g3.get (j := j) (List.getElem?_eq_some_iff.1 hj).1
    rw [e1] at k1; injection k1 with k1; injection k1 with k1 k1'; subst k1 k1'
    rw [hj] at k3
    obtain rfl := Option.some.inj k3
    exact ⟨v, by simp [execOp, e2, run_load1 hT k2], rfl⟩

/-- the slice type T has elements of k cells -/
def elemB (P : Program) (T : TypeId) (k : Nat) : Bool :=
  match P.underlying T with
  | some (.slice e) => match P.info? e with
    | some i => i.size == k
    | none => false
  | _ => false
theorem elemB_spec {T : TypeId} {k : Nat} (h : elemB P T k = true) : ∃ e i, P.underlying T = some (.slice e) ∧ P.info? e = some i ∧ i.size = k := by
  unfold elemB at h
  split at h
  · rename_i e he
    split at h
    · rename_i i hi
      exact ⟨e, i, he, hi, by simpa using h⟩
    · cases h
  · cases h
theorem run_indexAddr {T : TypeId} {k : Nat} (h : elemB P T k = true) {b o n c j : Nat} (hj : j < n) {ki : IntKind} {i : Int} (hi : i = (j : Int)) (w : World) :
    (Instr.indexAt T (.slice (some ⟨b, o, none⟩) n c) (.int ki i)).run P w = .ok (.pointer (some ⟨b, o + j * k, none⟩)) w := by
  obtain ⟨e, inf, h1, h2, rfl⟩ := elemB_spec h
  subst hi
  have hj' : ((j : Int) < (n : Int)) := by omega
  have h0 : (0 : Int) ≤ (j : Int) := by omega
  simp [Instr.indexAt, asIntOf, run_underlying h1, hj, sizeOf, typeInfo, h2, Addr.add_lit]
theorem stp_indexAddr {T : TypeId} {n : Nm} {off len j k : Nat} {c : Ch} {ki : IntKind} {i : Int} (ht : Nat.blt t nt = true) (hx : S.op x = some (o1 (.sl n off len))) (hy : S.op y = some (vv (.int ki i))) (hc : S.ch n = some c) (hk : c.k = k) (hT : elemB P T k = true)
    (hi : i = (j : Int)) (hj : j < len) (hl : (off + len) * k ≤ c.d.len) (hk0 : 0 < k) : Stp P nt ⟨some t, .indexAddr T x y, ty, ps, af, gd⟩ S (S.put t (o1 (.ptr n ((off + j) * k)))) :=
  Stp.pure rfl ht fun _ _ η _ a w hs => by
    obtain ⟨hd, h1, h2, h3⟩ := hs.chunk hc
    have hd1 : Den1 η (.sl n off len) (a.eval x) := hs.opv hx
    obtain ⟨ao, e1, e2, e3⟩ := hd1.2 hd h1
    have hl0 : 0 < c.d.len := Nat.lt_of_lt_of_le (Nat.mul_pos (by omega) hk0) hl
    obtain ⟨b', o', u, f1, f2, f3⟩ := h3.get hl0
    have hao : ao = some ⟨b', o' + off * k, none⟩ := by
      rcases Nat.eq_zero_or_pos off with h0 | h0
      · rw [e2 h0, f1, h0]; simp
      · rw [e3 h0 ?_, f1]
        · simp [h2, hk]
        · have hcap := h3.cap
          rw [h2, hk] at hcap
          have h5 : (off + len) * k ≤ hd.c * k := Nat.le_trans hl hcap
          have := Nat.le_of_mul_le_mul_right h5 hk0
          omega
    subst hao
    refine ⟨.pointer (some ⟨b', o' + off * k + j * k, none⟩), by simp only [execOp, e1, hs.opV hy]; simp [run_indexAddr hT hj hi], ⟨_, rfl⟩, fun hd' he => ?_⟩
    rw [h1] at he; obtain rfl := Option.some.inj he
    exact ⟨b', o', f1, by rw [Nat.add_mul, Nat.add_assoc]⟩
end
end Go.Proofs.Ytnfkhgamnapgmaa

/- A memory of names: indices of rows and arrays, lengths, slices of slices, aggregates, closures. No program in sight. -/
namespace Go.Proofs.Ytnfkhgamnapgmaa
open Go.RowKit

section
variable {P : Program} {nt : Nat} {S S' : St} {w0 w : World} {ω0 : Beg} {ω : Own?} {η : Env} {a : Act}
variable {t : Nat} {ty : TypeId} {ps : String} {af : Array Edge} {gd : Option (Nat × Bool)} {x y : Operand} {av : AV}

theorem stp_indexAddrE {T : TypeId} {n : Nm} {i0 off len j : Nat} {c : Ch} {E : TypeId} {vss : List (List Value)} {holes : List Nat} {vs : List Value} {ki : IntKind} {i : Int} (ht : Nat.blt t nt = true) (hx : S.op x = some (o1 (.esl n i0 off len)))
    (hy : S.op y = some (vv (.int ki i))) (hc : S.ch n = some c) (hd : c.d = .rows E vss holes) (hT : elemB P T 1 = true) (hh : i0 ∉ holes) (hi0 : vss[i0]? = some vs) (hi : i = (j : Int)) (hj : j < len) (hl : off + len ≤ vs.length) :
    Stp P nt ⟨some t, .indexAddr T x y, ty, ps, af, gd⟩ S (S.put t (o1 (.eptr n i0 (off + j)))) :=
  Stp.pure rfl ht fun _ _ η _ a w hs => by
    obtain ⟨hq, h1, h2, h3⟩ := hs.chunk hc
    have hd1 : Den1 η (.esl n i0 off len) (a.eval x) := hs.opv hx
    obtain ⟨ao, e1, e2, e3⟩ := hd1.2 hq h1
    rw [hd] at h3
    obtain ⟨_, _, _, _, _, f3⟩ := h3.get (j := i0) (List.getElem?_eq_some_iff.1 hi0).1
    obtain ⟨_, g2, g3⟩ := f3.2 hh vs hi0
    obtain ⟨b', o', u', k1, k2, k3⟩ := g3.get (j := 0) (by omega)
    have hao : ao = some ⟨b', o' + off, none⟩ := by
      rcases Nat.eq_zero_or_pos off with h0 | h0
      · rw [e2 h0, k1, h0]; simp
      · rw [e3 h0 ?_, k1]
        · simp [g2]
        · have hcap := g3.cap
          rw [g2] at hcap
          omega
    subst hao
    refine ⟨.pointer (some ⟨b', o' + off + j * 1, none⟩), by simp only [execOp, e1, hs.opV hy]; simp [run_indexAddr hT hj hi], ⟨_, rfl⟩, fun hd' he => ?_⟩
    exact ⟨b', o', k1, by rw [Nat.mul_one, Nat.add_assoc]⟩

/-- the array type T has n elements of k cells -/
def arrB (P : Program) (T : TypeId) (n k : Nat) : Bool :=
  match P.underlying T with
  | some (.array m e) => m == n && (match P.info? e with | some i => i.size == k | none => false)
  | _ => false
theorem arrB_spec {T : TypeId} {n k : Nat} (h : arrB P T n k = true) : ∃ e i, P.underlying T = some (.array n e) ∧ P.info? e = some i ∧ i.size = k := by
  unfold arrB at h
  split at h
  · rename_i m e he
    simp only [Bool.and_eq_true, beq_iff_eq] at h
    obtain ⟨rfl, h⟩ := h
    split at h
    · rename_i i hi
      exact ⟨e, i, he, hi, by simpa using h⟩
    · cases h
  · cases h
theorem stp_indexArr {T : TypeId} {n : Nm} {off len j k : Nat} {c : Ch} {ki : IntKind} {i : Int} (ht : Nat.blt t nt = true) (hx : S.op x = some (o1 (.ptr n off))) (hy : S.op y = some (vv (.int ki i))) (hc : S.ch n = some c) (hT : arrB P T len k = true)
    (hi : i = (j : Int)) (hj : j < len) : Stp P nt ⟨some t, .indexAddr T x y, ty, ps, af, gd⟩ S (S.put t (o1 (.ptr n (off + j * k)))) :=
  Stp.pure rfl ht fun _ _ η _ a w hs => by
    obtain ⟨hd, h1, h2, h3⟩ := hs.chunk hc
    have hd1 : Den1 η (.ptr n off) (a.eval x) := hs.opv hx
    obtain ⟨b, o, e1, e2⟩ := hd1.2 hd h1
    obtain ⟨e, inf, g1, g2, rfl⟩ := arrB_spec hT
    subst hi
    have hj' : ((j : Int) < (len : Int)) := by omega
    refine ⟨.pointer (some ⟨b, o + off + j * inf.size, none⟩), ?_, ⟨_, rfl⟩, fun hd' he => ?_⟩
    · simp only [execOp, e2, hs.opV hy]
      simp [Instr.indexAt, asIntOf, run_underlying g1, Instr.sureAddr, hj, sizeOf, typeInfo, g2, Addr.add_lit]
    · rw [h1] at he; obtain rfl := Option.some.inj he
      exact ⟨b, o, e1, by rw [Nat.add_assoc]⟩

def sliceB (P : Program) (T : TypeId) : Bool :=
  match P.underlying T with
  | some (.slice _) => true
  | _ => false
theorem sliceB_spec {T : TypeId} (h : sliceB P T = true) : ∃ e, P.underlying T = some (.slice e) := by
  unfold sliceB at h
  split at h
  · exact ⟨_, by assumption⟩
  · cases h
theorem run_len {T : TypeId} (h : sliceB P T = true) (ao : Option Addr) (n c : Nat) (w : World) : (Builtin.len_ #[T] ty #[.slice ao n c]).run P w = .ok (.int .i64 n) w := by
  obtain ⟨e, he⟩ := sliceB_spec h
  simp [Builtin.len_, run_underlying he, goInt]
/-- how long a slice is -/
def A1.len : A1 → Option Nat
  | .sl _ _ n => some n
  | .esl _ _ _ n => some n
  | .val (.slice _ n _) => some n
  | _ => none
theorem Den1.len_ {b : A1} {n : Nat} {u : Value} (h : Den1 η b u) (hn : b.len = some n) : ∃ ao c, u = .slice ao n c := by
  cases b with
  | sl x off m => obtain rfl := Option.some.inj hn; exact h.1
  | esl x i off m => obtain rfl := Option.some.inj hn; exact h.1
  | val v =>
    have h : u = v := h
    subst h
    cases u <;> simp [A1.len] at hn
    rename_i ao m c
    subst hn; exact ⟨ao, c, rfl⟩
  | _ => cases hn
theorem stp_len {T : TypeId} {b : A1} {n : Nat} (ht : Nat.blt t nt = true) (hx : S.op x = some (o1 b)) (hn : b.len = some n) (hT : sliceB P T = true) :
    Stp P nt ⟨some t, .call { callee := .builtin .len, args := #[x], argTypes := #[T] }, ty, ps, af, gd⟩ S (S.put t (vv (.int .i64 n))) :=
  Stp.pure rfl ht fun _ _ η _ a w hs => by
    have hd1 : Den1 η b (a.eval x) := hs.opv hx
    obtain ⟨ao, c, e⟩ := hd1.len_ hn
    exact ⟨.int .i64 n, by simp [execOp, resolve, invoke, builtin, e, run_len hT], rfl⟩

theorem run_min {k : IntKind} {m n : Int} (w : World) (ts : Array TypeId) : (Builtin.min_ ts ty #[.int k m, .int k n]).run P w = .ok (.int k (if n < m then n else m)) w := by
  simp [Builtin.min_, Builtin.min2]
theorem run_max {k : IntKind} {m n : Int} (w : World) (ts : Array TypeId) : (Builtin.max_ ts ty #[.int k m, .int k n]).run P w = .ok (.int k (if n > m then n else m)) w := by
  simp [Builtin.max_, Builtin.max2]
theorem stp_min {ts : Array TypeId} {k : IntKind} {m n : Int} (ht : Nat.blt t nt = true) (hx : S.op x = some (vv (.int k m))) (hy : S.op y = some (vv (.int k n))) :
    Stp P nt ⟨some t, .call { callee := .builtin .min, args := #[x, y], argTypes := ts }, ty, ps, af, gd⟩ S (S.put t (vv (.int k (if n < m then n else m)))) :=
  Stp.pure rfl ht fun _ _ η _ a w hs => ⟨_, by simp [execOp, resolve, invoke, builtin, hs.opV hx, hs.opV hy, run_min], rfl⟩
theorem stp_max {ts : Array TypeId} {k : IntKind} {m n : Int} (ht : Nat.blt t nt = true) (hx : S.op x = some (vv (.int k m))) (hy : S.op y = some (vv (.int k n))) :
    Stp P nt ⟨some t, .call { callee := .builtin .max, args := #[x, y], argTypes := ts }, ty, ps, af, gd⟩ S (S.put t (vv (.int k (if n > m then n else m)))) :=
  Stp.pure rfl ht fun _ _ η _ a w hs => ⟨_, by simp [execOp, resolve, invoke, builtin, hs.opV hx, hs.opV hy, run_max], rfl⟩

/-- a bound of a slice -/
def bnd (S : St) (z : Option Operand) (dflt l : Nat) : Prop :=
  match z with
  | none => l = dflt
  | some z => ∃ ki i, S.op z = some (vv (.int ki i)) ∧ i = (l : Int)
theorem bnd_none {S : St} {l : Nat} : bnd S none l l := rfl
theorem bnd_some {S : St} {z : Operand} {d l : Nat} {ki : IntKind} {i : Int} (h : S.op z = some (vv (.int ki i))) (hi : i = (l : Int)) : bnd S (some z) d l := ⟨ki, i, h, hi⟩
theorem run_sliceBound {ki : IntKind} {l y : Nat} (h : l ≤ y) (cd : BoundsCode) (w : World) : (Instr.sliceBound (.int ki (l : Int)) y cd).run P w = .ok l w := by
  simp [Instr.sliceBound, asIntOf, h]
theorem run_sliceT {T : TypeId} {e : TypeId} {inf : TypeInfo} (h1 : P.underlying T = some (.slice e)) (h2 : P.info? e = some inf) (hs : SatE w0 ω0 nt S η ω a w) {lo hi : Option Operand} {l h len m : Nat} {ao : Option Addr} (hlo : bnd S lo 0 l) (hhi : bnd S hi len h) (hlh : l ≤ h) (hhm : h ≤ m) :
    (Instr.sliceAt T (.slice ao len m) (lo.map a.eval) (hi.map a.eval) none).run P w = .ok (.slice (if m = l then ao else ao.map (·.add (l * inf.size))) (h - l) (m - l)) w := by
  have key : (Instr.sliceBounds true len m (lo.map a.eval) (hi.map a.eval) none).run P w = .ok (l, h, m) w := by
    unfold Instr.sliceBounds
    cases hi with
    | none =>
      obtain rfl : h = len := hhi
      cases lo with
      | none => obtain rfl : l = 0 := hlo; simp
      | some z => obtain ⟨ki, i, hz, rfl⟩ := hlo; simp [hs.opV hz, run_sliceBound hlh]
    | some z' =>
      obtain ⟨ki', i', hz', rfl⟩ := hhi
      cases lo with
      | none => obtain rfl : l = 0 := hlo; simp [hs.opV hz', run_sliceBound hhm]
      | some z => obtain ⟨ki, i, hz, rfl⟩ := hlo; simp [hs.opV hz', hs.opV hz, run_sliceBound hhm, run_sliceBound hlh]
  simp [Instr.sliceAt, run_underlying h1, Instr.slice, key, sizeOf, typeInfo, h2]
theorem stp_slice {T : TypeId} {n : Nm} {off len k l h : Nat} {c : Ch} {lo hi : Option Operand} (ht : Nat.blt t nt = true) (hx : S.op x = some (o1 (.sl n off len))) (hc : S.ch n = some c) (hk : c.k = k) (hT : elemB P T k = true) (hk0 : 0 < k)
    (hlo : bnd S lo 0 l) (hhi : bnd S hi len h) (hlh : l ≤ h) (hhl : h ≤ len) (hl : (off + len) * k ≤ c.d.len) : Stp P nt ⟨some t, .slice T x lo hi none, ty, ps, af, gd⟩ S (S.put t (o1 (.sl n (off + l) (h - l)))) :=
  Stp.pure rfl ht fun _ _ η _ a w hs => by
    obtain ⟨hd, h1, h2, h3⟩ := hs.chunk hc
    have hd1 : Den1 η (.sl n off len) (a.eval x) := hs.opv hx
    obtain ⟨ao, e1, e2, e3⟩ := hd1.2 hd h1
    obtain ⟨e, inf, g1, g2, rfl⟩ := elemB_spec hT
    have hcap := h3.cap
    rw [h2, hk] at hcap
    have h5 : off + len ≤ hd.c := Nat.le_of_mul_le_mul_right (Nat.le_trans hl hcap) hk0
    refine ⟨.slice (if hd.c - off = l then ao else ao.map (·.add (l * inf.size))) (h - l) (hd.c - off - l), by simp only [execOp, e1]; simp [run_sliceT g1 g2 hs hlo hhi hlh (m := hd.c - off) (by omega)], ⟨_, _, rfl⟩, fun hd' he => ?_⟩
    rw [h1] at he; obtain rfl := Option.some.inj he
    refine ⟨_, by rw [Nat.sub_sub], fun h0 => ?_, fun h0 hlt => ?_⟩
    · obtain ⟨rfl, rfl⟩ : off = 0 ∧ l = 0 := by omega
      rw [e2 rfl]
      split
      · rfl
      · simp [Addr.add]
    · rw [if_neg (by omega)]
      by_cases hl0 : 0 < c.d.len
      · obtain ⟨b', o', u, f1, _, _⟩ := h3.get hl0
        rcases Nat.eq_zero_or_pos off with h00 | h00
        · subst h00; rw [e2 rfl, f1]; simp [Addr.add_lit, h2, hk]
        · rw [e3 h00 (by omega), f1]; simp [Addr.add_lit, h2, hk, Nat.add_mul, Nat.add_assoc]
      · exfalso
        have h6 : (off + len) * inf.size ≤ 0 := by omega
        have h7 : off + len = 0 := by
          rcases Nat.eq_zero_or_pos (off + len) with h8 | h8
          · exact h8
          · have := Nat.mul_pos h8 hk0; omega
        omega
end
end Go.Proofs.Ytnfkhgamnapgmaa

/- A memory of names: new chunks (boxes, variables, literals, make). No program in sight. -/
namespace Go.Proofs.Ytnfkhgamnapgmaa
open Go.RowKit

section
variable {P : Program} {nt : Nat} {S S' : St} {w0 w : World} {ω0 : Beg} {ω : Own?} {η : Env} {a : Act}
variable {t : Nat} {ty : TypeId} {ps : String} {af : Array Edge} {gd : Option (Nat × Bool)} {x y : Operand} {av : AV}

def Own?.new (ω : Own?) (b : Nat) (o : Nm × Option Nat) : Own? := fun b' => if b' = b then some o else ω b'
theorem calm_alloc (S : St) (ω : Own?) (w : World) (o : Obj) (ow : Nm × Option Nat) : Calm S ω w (Own?.new ω w.heap.size ow) (w.alloc o) :=
  ⟨rfl, rfl, rfl, by simp, fun b hb _ => ⟨Below.heap_alloc w o b hb, by simp [Own?.new, Nat.ne_of_lt hb]⟩⟩
/-- a new block under the name x -/
theorem SatE.alloc (h : SatE w0 ω0 nt S η ω a w) {x : Nm} {c : Ch} {cs : Array Value} {r : Nat → Hd} {n : Nat} (hown : c.own = true) (hn : cs.size = n * c.k) (hl : c.d.len ≤ n * c.k) (hm : n ≤ maxLen)
    (hc : ∀ j, j < c.d.len → ∃ u, cs[j]? = some u ∧ cellsOK (η.new x ⟨some ⟨w.heap.size, 0, none⟩, n, c.k⟩ r) (Own?.new ω w.heap.size (x, none)) (w.alloc (.cells cs c.E)) true x c.d j u) :
    SatE w0 ω0 nt (S.new x c) (η.new x ⟨some ⟨w.heap.size, 0, none⟩, n, c.k⟩ r) (Own?.new ω w.heap.size (x, none)) a (w.alloc (.cells cs c.E)) :=
  h.lay (calm_alloc S ω w _ _) ⟨rfl, by
    rw [hown]
    refine .inr ⟨w.heap.size, 0, cs, rfl, by simp [Own?.new], heap_alloc_new w _, ⟨rfl, hn⟩, hl, hm, fun j hj => ?_⟩
    obtain ⟨u, h1, h2⟩ := hc j hj
    exact ⟨u, by simpa using h1, h2⟩⟩

def A2.list : A2 → List A1
  | .one a => [a]
  | .agg l => l
theorem den2_cells {a2 : A2} {u : Value} (h : Den2 η a2 u) (h1 : ∀ v, a2 = .one (.val v) → v.oneCell' = true) : u.cells.size = a2.list.length ∧ ∀ (j : Nat) (b : A1), a2.list[j]? = some b → ∃ u', u.cells[j]? = some u' ∧ Den1 η b u' := by
  cases a2 with
  | agg l =>
    obtain ⟨us, rfl, h2, h3⟩ := h
    exact ⟨h2, h3⟩
  | one b =>
    have ho : u.oneCell' = true := Den1.one (a := b) h fun v hv => h1 v (by rw [hv])
    have hc : u.cells = #[u] := by cases u <;> first | rfl | cases ho
    rw [hc]
    refine ⟨rfl, fun j b' hb => ?_⟩
    cases j with
    | zero => simp [A2.list] at hb; subst hb; exact ⟨u, by simp, h⟩
    | succ j => simp [A2.list] at hb
/-- a plain value of the walk's is of one cell -/
def A2.okB : A2 → Bool
  | .one (.val v) => v.oneCell'
  | _ => true
theorem A2.okB_spec {a2 : A2} (h : a2.okB = true) : ∀ v, a2 = .one (.val v) → v.oneCell' = true := by rintro v rfl; exact h

theorem stp_box {T : TypeId} {a2 : A2} (ht : Nat.blt t nt = true) (hx : S.op x = some (.s a2)) (h1 : a2.okB = true) (hf : a2.list.any (A1.has t) = false) :
    Stp P nt ⟨some t, .box T x, ty, ps, af, gd⟩ S ((S.new t ⟨true, T, a2.list.length, .flat a2.list⟩).put t (o1 (.ptr t 0))) :=
  Stp.of _ fun w0 ω0 η ω a w hs => by
    have hd : Den2 η a2 (a.eval x) := hs.opv hx
    obtain ⟨h2, h3⟩ := den2_cells hd (A2.okB_spec h1)
    refine ⟨.pointer (some ⟨w.heap.size, 0, none⟩), w.alloc (.cells (a.eval x).cells T), by simp [execOp, Instr.box, newVar, newRow], ?_⟩
    have hal := hs.alloc (x := t) (c := ⟨true, T, a2.list.length, .flat a2.list⟩) (cs := (a.eval x).cells) (r := fun _ => ⟨none, 0, 1⟩) (n := 1) rfl (by simp [h2]) (by simp [Dat.len]) (by simp [maxLen]) fun j hj => by
      obtain ⟨u, hu, hdu⟩ := h3 j a2.list[j] (List.getElem?_eq_getElem hj)
      refine ⟨u, hu, fun b hb => ?_⟩
      rw [List.getElem?_eq_getElem hj] at hb
      obtain rfl := Option.some.inj hb
      refine hdu.mono fun y hy => Env.new_ne η _ _ y fun e => ?_
      subst e
      have := List.any_eq_false.1 hf _ (List.getElem_mem hj)
      rw [hy] at this; exact this rfl
    exact ⟨_, _, hal.putV (by simpa using ht) ⟨⟨_, rfl⟩, fun hd' he => by simp [Env.new] at he; subst he; exact ⟨_, 0, rfl, by simp⟩⟩⟩

/-- the zero of a type, in cells that are plain -/
theorem stp_alloc {T : TypeId} {z : Value} {i : TypeInfo} (ht : Nat.blt t nt = true) (hi : P.info? T = some i) (hz : i.zero = some z) :
    Stp P nt ⟨some t, .alloc T, ty, ps, af, gd⟩ S ((S.new t ⟨true, T, z.cells.size, .flat (z.cells.toList.map .val)⟩).put t (o1 (.ptr t 0))) :=
  Stp.of _ fun w0 ω0 η ω a w hs => by
    refine ⟨.pointer (some ⟨w.heap.size, 0, none⟩), w.alloc (.cells z.cells T), by simp [execOp, Instr.alloc, zeroValue, typeInfo, hi, hz, newVar, newRow], ?_⟩
    have hal := hs.alloc (x := t) (c := ⟨true, T, z.cells.size, .flat (z.cells.toList.map .val)⟩) (cs := z.cells) (r := fun _ => ⟨none, 0, 1⟩) (n := 1) rfl (by simp) (by simp [Dat.len]) (by simp [maxLen]) fun j hj => by
      have hj' : j < z.cells.size := by simpa [Dat.len] using hj
      refine ⟨z.cells[j], by simp, fun b hb => ?_⟩
      simp [hj'] at hb
      subst hb; exact rfl
    exact ⟨_, _, hal.putV (by simpa using ht) ⟨⟨_, rfl⟩, fun hd' he => by simp [Env.new] at he; subst he; exact ⟨_, 0, rfl, by simp⟩⟩⟩

/-- the slice type T has elements of type E: k cells, few bytes, a zero of k cells -/
def elZ (P : Program) (T E k : Nat) : Bool :=
  match P.underlying T with
  | some (.slice e) => e == E && (match P.info? E with
    | some i => i.size == k && decide (i.bytes ≤ 64) && (match i.zero with | some z => z.cells.size == k | none => false)
    | none => false)
  | _ => false
theorem elZ_spec {T E k : Nat} (h : elZ P T E k = true) : ∃ i z, P.underlying T = some (.slice E) ∧ P.info? E = some i ∧ i.size = k ∧ i.bytes ≤ 64 ∧ i.zero = some z ∧ z.cells.size = k := by
  unfold elZ at h
  split at h
  · rename_i e he
    simp only [Bool.and_eq_true, beq_iff_eq] at h
    obtain ⟨rfl, h⟩ := h
    split at h
    · rename_i i hi
      simp only [Bool.and_eq_true, beq_iff_eq, decide_eq_true_eq] at h
      obtain ⟨⟨h1, h2⟩, h3⟩ := h
      split at h3
      · rename_i z hz
        exact ⟨i, z, he, hi, h1, h2, hz, by simpa using h3⟩
      · cases h3
    · cases h
  · cases h
theorem den_newsl {x : Nm} {b k n c : Nat} {r : Nat → Hd} : Den (η.new x ⟨some ⟨b, 0, none⟩, c, k⟩ r) (o1 (.sl x 0 n)) (.slice (some ⟨b, 0, none⟩) n c) :=
  ⟨⟨_, _, rfl⟩, fun hd' he => by simp [Env.new] at he; subst he; exact ⟨_, rfl, fun _ => rfl, fun h => absurd h (by omega)⟩⟩

theorem range0 (f : Nat → Value) : Array.map f (Array.range 0) = #[] := by apply Array.ext'; simp [Array.toList_range, List.range_succ]
theorem range1 (f : Nat → Value) : Array.map f (Array.range 1) = #[f 0] := by apply Array.ext'; simp [Array.toList_range, List.range_succ]
theorem range2 (f : Nat → Value) : Array.map f (Array.range 2) = #[f 0, f 1] := by apply Array.ext'; simp [Array.toList_range, List.range_succ]
/-- a literal of one-cell elements, each given -/
theorem stp_lit0 {T E k : Nat} (ht : Nat.blt t nt = true) (hT : elZ P T E k = true) :
    Stp P nt ⟨some t, .buildSlice T 0 #[], ty, ps, af, gd⟩ S ((S.new t ⟨true, E, k, .vals []⟩).put t (o1 (.sl t 0 0))) :=
  Stp.of _ fun w0 ω0 η ω a w hs => by
    obtain ⟨i, z, h1, h2, h3, h4, h5, h6⟩ := elZ_spec hT
    refine ⟨.slice (some ⟨w.heap.size, 0, none⟩) 0 0, w.alloc (.cells #[] E), by simp [execOp, Instr.buildSlice, run_underlying h1, sizeOf, typeInfo, h2, Instr.fill, newRow, range0], ?_⟩
    have hal := hs.alloc (x := t) (c := ⟨true, E, k, .vals []⟩) (cs := #[]) (r := fun _ => ⟨none, 0, 1⟩) (n := 0) rfl (by simp) (by simp [Dat.len]) (by simp [maxLen]) fun j hj => absurd hj (by simp [Dat.len])
    exact ⟨_, _, hal.putV (by simpa using ht) den_newsl⟩
theorem cells_one {v : Value} (h : v.oneCell' = true) : v.cells = #[v] := by cases v <;> first | rfl | cases h
/-- a literal of one element of one cell -/
theorem stp_lit1 {T E : Nat} {x0 : Operand} {b0 : A1} (ht : Nat.blt t nt = true) (hT : elZ P T E 1 = true) (hx : S.op x0 = some (o1 b0)) (h1 : (A2.one b0).okB = true) (hf : b0.has t = false) :
    Stp P nt ⟨some t, .buildSlice T 1 #[(0, x0)], ty, ps, af, gd⟩ S ((S.new t ⟨true, E, 1, .flat [b0]⟩).put t (o1 (.sl t 0 1))) :=
  Stp.of _ fun w0 ω0 η ω a w hs => by
    obtain ⟨i, z, k1, k2, k3, k4, k5, k6⟩ := elZ_spec hT
    have hd0 : Den1 η b0 (a.eval x0) := hs.opv hx
    have ho : (a.eval x0).oneCell' = true := hd0.one fun v hv => A2.okB_spec h1 v (by rw [hv])
    refine ⟨.slice (some ⟨w.heap.size, 0, none⟩) 1 1, w.alloc (.cells #[a.eval x0] E), ?_, ?_⟩
    · simp [execOp, Instr.buildSlice, run_underlying k1, sizeOf, typeInfo, k2, k3, zeroValue, k5, Instr.fill, newRow, cells_one ho, range1]
    · have hal := hs.alloc (x := t) (c := ⟨true, E, 1, .flat [b0]⟩) (cs := #[a.eval x0]) (r := fun _ => ⟨none, 0, 1⟩) (n := 1) rfl (by simp) (by simp [Dat.len]) (by simp [maxLen]) fun j hj => by
        have hj0 : j = 0 := by simp [Dat.len] at hj; omega
        subst hj0
        refine ⟨a.eval x0, by simp, fun b hb => ?_⟩
        simp at hb; subst hb
        exact hd0.mono fun y hy => Env.new_ne η _ _ y fun e => by subst e; rw [hf] at hy; cases hy
      exact ⟨_, _, hal.putV (by simpa using ht) den_newsl⟩
/-- a literal of two elements of one cell -/
theorem stp_lit2 {T E : Nat} {x0 x1 : Operand} {b0 b1 : A1} (ht : Nat.blt t nt = true) (hT : elZ P T E 1 = true) (hx0 : S.op x0 = some (o1 b0)) (hx1 : S.op x1 = some (o1 b1)) (h0 : (A2.one b0).okB = true) (h1 : (A2.one b1).okB = true) (hf0 : b0.has t = false) (hf1 : b1.has t = false) :
    Stp P nt ⟨some t, .buildSlice T 2 #[(0, x0), (1, x1)], ty, ps, af, gd⟩ S ((S.new t ⟨true, E, 1, .flat [b0, b1]⟩).put t (o1 (.sl t 0 2))) :=
  Stp.of _ fun w0 ω0 η ω a w hs => by
    obtain ⟨i, z, k1, k2, k3, k4, k5, k6⟩ := elZ_spec hT
    have hd0 : Den1 η b0 (a.eval x0) := hs.opv hx0
    have hd1 : Den1 η b1 (a.eval x1) := hs.opv hx1
    have ho0 : (a.eval x0).oneCell' = true := hd0.one fun v hv => A2.okB_spec h0 v (by rw [hv])
    have ho1 : (a.eval x1).oneCell' = true := hd1.one fun v hv => A2.okB_spec h1 v (by rw [hv])
    refine ⟨.slice (some ⟨w.heap.size, 0, none⟩) 2 2, w.alloc (.cells #[a.eval x0, a.eval x1] E), ?_, ?_⟩
    · simp [execOp, Instr.buildSlice, run_underlying k1, sizeOf, typeInfo, k2, k3, zeroValue, k5, Instr.fill, newRow, cells_one ho0, cells_one ho1, range2]
    · have hal := hs.alloc (x := t) (c := ⟨true, E, 1, .flat [b0, b1]⟩) (cs := #[a.eval x0, a.eval x1]) (r := fun _ => ⟨none, 0, 1⟩) (n := 2) rfl (by simp) (by simp [Dat.len]) (by simp [maxLen]) fun j hj => by
        match j, hj with
        | 0, _ => exact ⟨a.eval x0, by simp, fun b hb => by simp at hb; subst hb; exact hd0.mono fun y hy => Env.new_ne η _ _ y fun e => by subst e; rw [hf0] at hy; cases hy⟩
        | 1, _ => exact ⟨a.eval x1, by simp, fun b hb => by simp at hb; subst hb; exact hd1.mono fun y hy => Env.new_ne η _ _ y fun e => by subst e; rw [hf1] at hy; cases hy⟩
        | j + 2, hj => exact absurd hj (by simp [Dat.len])
      exact ⟨_, _, hal.putV (by simpa using ht) den_newsl⟩
end
end Go.Proofs.Ytnfkhgamnapgmaa

/- A memory of names: stores. No program in sight. -/
namespace Go.Proofs.Ytnfkhgamnapgmaa
open Go.RowKit

section
variable {P : Program} {nt : Nat} {S S' : St} {w0 w : World} {ω0 : Beg} {ω : Own?} {η : Env} {a : Act}
variable {t : Nat} {ty : TypeId} {ps : String} {af : Array Edge} {gd : Option (Nat × Bool)} {x y : Operand} {av : AV}

/-- a type of k cells -/
def sizeB (P : Program) (T : TypeId) (k : Nat) : Bool :=
  match P.info? T with
  | some i => i.size == k
  | none => false
theorem sizeB_run {T : TypeId} {k : Nat} (h : sizeB P T k = true) (w : World) : (sizeOf T).run P w = .ok k w := by
  unfold sizeB at h
  split at h
  · rename_i i hi
    have : i.size = k := by simpa using h
    simp [sizeOf, typeInfo, hi, this]
  · cases h
theorem run_store1 {T : TypeId} (h : sizeB P T 1 = true) {p : Addr} {u v : Value} (hc : w.cell? p = some u) (hf : w.frozen? p = false) (h1 : v.oneCell' = true) : (Instr.storeAt T (.pointer (some p)) v).run P w = .ok () (w.setCell p v) := by
  have hst : (store p v).run P w = .ok () (w.setCell p v) := by
    cases v <;> first | (simp [store, Sem.run, hc, hf]; done) | exact absurd h1 (by simp [Value.oneCell'])
  simp [Instr.storeAt, Instr.sureAddr, storeVar, cells_one h1, sizeB_run h, storeCells, Addr.add, hst]

theorem Stp.unit {o : Oper} (hd : o.dst = none) (h : ∀ w0 ω0 η ω a w, SatE w0 ω0 nt S η ω a w → ∃ w', (execOp a.eval o).run P w = .ok .skip w' ∧ Sat w0 ω0 nt S' a w') : Stp P nt o S S' := by
  refine ⟨fun w0 ω0 a w Q ⟨η, ω, hs⟩ => ?_⟩
  obtain ⟨w', h1, h2⟩ := h w0 ω0 η ω a w hs
  unfold Oper.wp
  rw [h1]
  simp only [Oper.upon, hd, Act.put]
  exact h2

theorem calm_setCell {b : Nat} {ow : Nm × Option Nat} (hb : ω b = some ow) (hn : S.ch ow.1 = none) (p : Addr) (hp : p.block = b) (u : Value) : Calm S ω w ω (w.setCell p u) :=
  ⟨rfl, rfl, rfl, by simp [World.setCell], fun b' _ hl => ⟨Below.heap_setCell w p u b' (by
    intro e
    rw [hp] at e; subst e
    rcases hl with h0 | ⟨y, i, c, h0, h1⟩
    · rw [hb] at h0; cases h0
    · rw [hb] at h0; obtain rfl := Option.some.inj h0
      rw [hn] at h1; cases h1), rfl⟩⟩
theorem heap_set {b o : Nat} {cs : Array Value} {E : TypeId} {fr : Nat × Nat} (h : w.heap[b]? = some (.cells cs E fr)) (u : Value) : (w.setCell ⟨b, o, none⟩ u).heap[b]? = some (.cells (cs.setIfInBounds o u) E fr) := by
  simp [World.setCell, Array.getElem?_modify, h]
theorem frozen_of {b o : Nat} {cs : Array Value} {E : TypeId} (h : w.heap[b]? = some (.cells cs E (0, 0))) : w.frozen? ⟨b, o, none⟩ = false := by
  simp [World.frozen?, h]

theorem same_setCell {b : Nat} {ow : Nm × Option Nat} (hb : ω b = some ow) (p : Addr) (hp : p.block = b) (u : Value) : Same ω w ω (w.setCell p u) (fun o => o ≠ some ow) :=
  ⟨by simp [World.setCell], fun b' _ hl => ⟨Below.heap_setCell w p u b' (by
    intro e
    rw [hp] at e; subst e
    exact hl hb), rfl⟩⟩
theorem cellsOK.keep {own : Bool} {n : Nm} {d : Dat} {j : Nat} {u : Value} {w' : World} {p : Option (Nm × Option Nat) → Prop} (hs : Same ω w ω w' p) (hp : p none) (hp' : ∀ i, p (some (n, some i))) (h : cellsOK η ω w own n d j u) : cellsOK η ω w' own n d j u := by
  cases d with
  | flat l => exact h
  | vals vs => exact h
  | rows E vss holes => exact ⟨h.1, fun hj vs hvs => have ⟨h1, h2, h3⟩ := h.2 hj vs hvs; ⟨h1, h2, h3.same hs hp (hp' j) fun _ _ h => h⟩⟩
  | mix cs => exact ⟨h.1, fun c hc => (h.2 c hc).move rfl fun _ _ _ _ _ h3 => h3.same hs hp (hp' j) fun _ _ h => h⟩
theorem SatE.poke (hs : SatE w0 ω0 nt S η ω a w) {n : Nm} {hd : Hd} {c' : Ch} {b : Nat} {ow : Option Nat} (hn : η.h n = some hd) (hb : ω b = some (n, ow)) (p : Addr) (hp : p.block = b) (u : Value) (hc : ChIs η ω (w.setCell p u) n hd c') :
    SatE w0 ω0 nt (S.set n c') η ω a (w.setCell p u) := hs.write hn (calm_setCell hb (by simp [ch_rm]) p hp u) hc

/-- the cell i of a chunk of the call's own turns into v, and nothing else turns -/
theorem SatE.store1 (hs : SatE w0 ω0 nt S η ω a w) {n : Nm} {c : Ch} {d' : Dat} {i : Nat} {p v : Value} {T : TypeId} (hp : Den1 η (.ptr n i) p) (hc : S.ch n = some c) (hown : c.own = true) (hi : i < c.d.len) (hT : sizeB P T 1 = true) (h1 : v.oneCell' = true)
    (hl : d'.len = c.d.len) (hd : ∀ w' j u, j ≠ i → cellsOK η ω w' true n c.d j u → cellsOK η ω w' true n d' j u) (hv : ∀ w', cellsOK η ω w' true n d' i v) :
    ∃ w', (Instr.storeAt T p v).run P w = .ok () w' ∧ SatE w0 ω0 nt (S.set n { c with d := d' }) η ω a w' := by
  obtain ⟨h, e1, e2, e3⟩ := hs.chunk hc
  obtain ⟨b, o, g1, rfl⟩ := hp.2 h e1
  rw [hown] at e3
  rcases e3 with ⟨_, _, h0⟩ | ⟨b', o', cs, f1, f2, f3, f4, f5, f6, f7⟩
  · omega
  rw [g1] at f1; injection f1 with f1; injection f1 with f1 f1'; subst f1 f1'
  obtain ⟨u, hu, _⟩ := f7 i hi
  have hcell : w.cell? ⟨b, o + i, none⟩ = some u := by rw [cell_of_row w b (o + i) cs c.E (0, 0) f3]; exact hu
  have hsz : o + i < cs.size := by
    rcases Nat.lt_or_ge (o + i) cs.size with hlt | hge
    · exact hlt
    · rw [Array.getElem?_eq_none hge] at hu; cases hu
  refine ⟨_, run_store1 hT hcell (frozen_of f3) h1, hs.poke e1 f2 _ rfl v ⟨e2, ?_⟩⟩
  show Vec c.own ω _ (n, none) h c.E d'.len (cellsOK η ω _ c.own n d')
  rw [hown]
  refine .inr ⟨b, o, _, g1, f2, heap_set f3 v, by simpa using f4, by rw [hl]; exact f5, f6, fun j hj => ?_⟩
  rw [hl] at hj
  obtain ⟨u', hu', hk⟩ := f7 j hj
  by_cases e : j = i
  · subst e
    exact ⟨v, by simp [hsz], hv _⟩
  · refine ⟨u', by rw [Array.getElem?_setIfInBounds_ne (by omega)]; exact hu', hd _ j u' e (hk.keep (same_setCell f2 _ rfl v) (by simp) (by simp))⟩

theorem stp_storeF {T : TypeId} {n : Nm} {i : Nat} {c : Ch} {l : List A1} {b : A1} (hx : S.op x = some (o1 (.ptr n i))) (hy : S.op y = some (o1 b)) (hc : S.ch n = some c) (hown : c.own = true) (hd : c.d = .flat l) (hi' : Nat.blt i l.length = true) (hT : sizeB P T 1 = true) (h1 : (A2.one b).okB = true) :
    Stp P nt ⟨none, .store T x y, ty, ps, af, gd⟩ S (S.set n { c with d := .flat (l.set i b) }) :=
  have hi : i < l.length := by simpa using hi'
  Stp.unit rfl fun w0 ω0 η ω a w hs => by
    have hb : Den1 η b (a.eval y) := hs.opv hy
    obtain ⟨w', k1, k2⟩ := hs.store1 (P := P) (T := T) (d' := .flat (l.set i b)) (hs.opv hx) hc hown (by rw [hd]; exact hi) hT (hb.one fun v hv => A2.okB_spec h1 v (by rw [hv])) (by rw [hd]; simp [Dat.len])
      (fun w' j u hj hk b' hb' => by rw [hd] at hk; rw [List.getElem?_set_ne (fun e => hj e.symm)] at hb'; exact hk b' hb')
      (fun w' b' hb' => by simp [List.getElem?_set_self hi] at hb'; subst hb'; exact hb)
    exact ⟨w', by simp [execOp, k1], _, _, k2⟩
theorem stp_storeV {T : TypeId} {n : Nm} {i : Nat} {c : Ch} {vs : List Value} {v : Value} (hx : S.op x = some (o1 (.ptr n i))) (hy : S.op y = some (vv v)) (hc : S.ch n = some c) (hown : c.own = true) (hd : c.d = .vals vs) (hi : i < vs.length) (hT : sizeB P T 1 = true) (h1 : v.oneCell' = true) :
    Stp P nt ⟨none, .store T x y, ty, ps, af, gd⟩ S (S.set n { c with d := .vals (vs.set i v) }) :=
  Stp.unit rfl fun w0 ω0 η ω a w hs => by
    have hb : a.eval y = v := hs.opv hy
    obtain ⟨w', k1, k2⟩ := hs.store1 (P := P) (T := T) (d' := .vals (vs.set i v)) (v := v) (hs.opv hx) hc hown (by rw [hd]; exact hi) hT h1 (by rw [hd]; simp [Dat.len])
      (fun w' j u hj hk => by rw [hd] at hk; show (vs.set i v)[j]? = some u; rw [List.getElem?_set_ne (fun e => hj e.symm)]; exact hk)
      (fun w' => by show (vs.set i v)[i]? = some v; rw [List.getElem?_set_self hi])
    exact ⟨w', by simp [execOp, hb, k1], _, _, k2⟩

/-- a store of one cell into a row -/
theorem stp_storeE {T : TypeId} {n : Nm} {i j : Nat} {c : Ch} {E : TypeId} {vss : List (List Value)} {holes : List Nat} {vs : List Value} {v : Value} (hx : S.op x = some (o1 (.eptr n i j))) (hy : S.op y = some (vv v)) (hc : S.ch n = some c) (hown : c.own = true)
    (hd : c.d = .rows E vss holes) (hh : i ∉ holes) (hi : vss[i]? = some vs) (hj : j < vs.length) (hT : sizeB P T 1 = true) (h1 : v.oneCell' = true) :
    Stp P nt ⟨none, .store T x y, ty, ps, af, gd⟩ S (S.set n { c with d := .rows E (vss.set i (vs.set j v)) holes }) :=
  Stp.unit rfl fun w0 ω0 η ω a w hs => by
    have hb : a.eval y = v := hs.opv hy
    have hp : Den1 η (.eptr n i j) (a.eval x) := hs.opv hx
    have hil : i < vss.length := (List.getElem?_eq_some_iff.1 hi).1
    obtain ⟨h, e1, e2, e3⟩ := hs.chunk hc
    obtain ⟨bb, o, g1, g2⟩ := hp.2 h e1
    rw [hown, hd] at e3
    rcases e3 with ⟨_, _, h0⟩ | ⟨b', o', cs, f1, f2, f3, f4, f5, f6, f7⟩
    · have h0 : vss.length = 0 := h0; omega
    obtain ⟨u, hu, hk⟩ := f7 i hil
    obtain ⟨rfl, k2, k3⟩ := hk.2 hh vs hi
    rcases k3 with ⟨q1, _⟩ | ⟨b2, o2, cs2, q1, q2, q3, q4, q5, q6, q7⟩
    · rw [g1] at q1; cases q1
    rw [g1] at q1; injection q1 with q1; injection q1 with q1 q1'; subst q1 q1'
    obtain ⟨u', hu', _⟩ := q7 j hj
    have hcell : w.cell? ⟨bb, o + j, none⟩ = some u' := by rw [cell_of_row w bb (o + j) cs2 E (0, 0) q3]; exact hu'
    have hsz : o + j < cs2.size := by
      rcases Nat.lt_or_ge (o + j) cs2.size with hlt | hge
      · exact hlt
      · rw [Array.getElem?_eq_none hge] at hu'; cases hu'
    have hsame := same_setCell (w := w) q2 ⟨bb, o + j, none⟩ rfl v
    refine ⟨w.setCell ⟨bb, o + j, none⟩ v, by simp [execOp, hb, g2, run_store1 hT hcell (frozen_of q3) h1], η, ω, hs.poke e1 q2 _ rfl v ⟨e2, ?_⟩⟩
    show Vec c.own ω _ (n, none) h c.E (vss.set i (vs.set j v)).length (cellsOK η ω _ c.own n (.rows E (vss.set i (vs.set j v)) holes))
    rw [hown]
    have hbb : b' ≠ bb := fun e => by subst e; rw [f2] at q2; cases q2
    refine .inr ⟨b', o', cs, f1, f2, (hsame.2 b' (lt_of_heap f3) (by rw [f2]; simp)).1.trans f3, f4, by rw [List.length_set]; exact f5, f6, fun m hm => ?_⟩
    rw [List.length_set] at hm
    obtain ⟨u2, hu2, hk2⟩ := f7 m hm
    refine ⟨u2, hu2, hk2.1, fun hm' vs' hvs' => ?_⟩
    by_cases e : i = m
    · subst e
      rw [List.getElem?_set_self hil] at hvs'
      obtain rfl := Option.some.inj hvs'
      have hk2' := hk2.2 hm' vs hi
      refine ⟨by rw [List.length_set]; exact hk2'.1, k2, .inr ⟨bb, o, _, g1, q2, heap_set q3 v, by simpa using q4, by rw [List.length_set]; exact q5, q6, fun jj hjj => ?_⟩⟩
      rw [List.length_set] at hjj
      obtain ⟨u3, hu3, hk3⟩ := q7 jj hjj
      by_cases e' : j = jj
      · subst e'
        exact ⟨v, by simp [hsz], List.getElem?_set_self hj⟩
      · exact ⟨u3, by rw [Array.getElem?_setIfInBounds_ne (by omega)]; exact hu3, (List.getElem?_set_ne e').trans hk3⟩
    · rw [List.getElem?_set_ne e] at hvs'
      obtain ⟨r1, r2, r3⟩ := hk2.2 hm' vs' hvs'
      exact ⟨r1, r2, r3.same hsame (by simp) (by simp; exact fun e' => e e'.symm) fun _ _ h => h⟩
end
end Go.Proofs.Ytnfkhgamnapgmaa

/- A memory of names: the walk over operations and code. No program in sight. -/
namespace Go.Proofs.Ytnfkhgamnapgmaa
open Go.RowKit

/-- a state that is written out -/
def lk {α : Type} (t : Nat) : List (Nat × α) → Option α
  | [] => none
  | (t', a) :: r => bif Nat.beq t t' then some a else lk t r
def St.of (sl : List (Nat × AV)) (ch : List (Nm × Ch)) (ph : List (Nat × AV) := []) : St := { sl := fun t => lk t sl, ch := fun x => lk x ch, ph := fun t => lk t ph }

section
variable {P : Program} {nt : Nat} {w0 : World} {ω0 : Beg} {S S1 S' : St} {Q : Exit → Act → World → Prop}

structure Run (P : Program) (w0 : World) (ω0 : Beg) (nt : Nat) (ops : Array Oper) (Q : Exit → Act → World → Prop) (S : St) (rest : List Oper) : Prop where
  go : ∀ a w, Sat w0 ω0 nt S a w → wpList P ops Q rest a w
structure Goes (P : Program) (w0 : World) (ω0 : Beg) (nt : Nat) (S : St) (c : Code) (Q : Exit → Act → World → Prop) : Prop where
  go : ∀ a w, Sat w0 ω0 nt S a w → c.wp P Q a w
structure Fin (w0 : World) (ω0 : Beg) (nt : Nat) (S : St) (e : Exit) (Q : Exit → Act → World → Prop) : Prop where
  go : ∀ a w, Sat w0 ω0 nt S a w → Q e a w
structure Wk (S S' : St) : Prop where
  go : ∀ w0 ω0 nt a w, Sat w0 ω0 nt S a w → Sat w0 ω0 nt S' a w

variable {ops : Array Oper} {rest : List Oper} {o : Oper}
theorem run_nil (h : Fin w0 ω0 nt S .normal Q) : Run P w0 ω0 nt ops Q S [] := ⟨fun a w hs => h.go a w hs⟩
theorem run_step (hg : o.guard = none) (h : Stp P nt o S S1) (k : Run P w0 ω0 nt ops Q S1 rest) : Run P w0 ω0 nt ops Q S (o :: rest) := by
  refine ⟨fun a w hs => ?_⟩
  refine wpList_plain hg fun K hK => ?_
  exact Oper.wp_mono (fun a' w' h' => hK a' w' (k.go a' w' h')) (h.go w0 ω0 a w Q hs)
/-- a guard that is met, or not -/
theorem run_guard {j d : Nat} {want b : Bool} (hg : o.guard = some (j, want)) (hj : (ops[j]?).bind (·.dst) = some d) (hb : S.sl d = some (vv (.bool b))) (h1 : b = want → ∃ S1, Stp P nt o S S1 ∧ Run P w0 ω0 nt ops Q S1 rest)
    (h2 : b ≠ want → ∃ t, o.dst = some t ∧ Nat.blt t nt = true ∧ Run P w0 ω0 nt ops Q (S.put t (vv undef)) rest) : Run P w0 ω0 nt ops Q S (o :: rest) := by
  refine ⟨fun a w hs => ?_⟩
  have hy : yielded ops a.tmps j = some b := by
    obtain ⟨η, ω, hs⟩ := hs
    obtain ⟨u, k1, k2⟩ := hs.slots d _ hb
    have k2 : u = .bool b := k2
    subst k2
    unfold yielded
    cases hoj : ops[j]? with
    | none => rw [hoj] at hj; cases hj
    | some oj =>
      rw [hoj] at hj
      simp only [Option.bind_some] at hj
      simp [hj, k1]
  refine wpList_step fun K hK => ?_
  by_cases e : b = want
  · rw [if_pos (by simp [Region.wanted, hg, hy, e])]
    obtain ⟨S1, h, k⟩ := h1 e
    exact Oper.wp_mono (fun a' w' h' => hK a' w' (k.go a' w' h')) (h.go w0 ω0 a w Q hs)
  · rw [if_neg (by simp [Region.wanted, hg, hy, e])]
    obtain ⟨t, ht, hlt, k⟩ := h2 e
    obtain ⟨η, ω, hs⟩ := hs
    exact hK _ _ (k.go _ _ ⟨η, ω, by rw [ht]; exact hs.putV (by simpa using hlt) rfl⟩)

theorem goes_region {id : Nat} {l : List Oper} (h : Run P w0 ω0 nt l.toArray Q S l) : Goes P w0 ω0 nt S (.region id l.toArray false) Q := ⟨fun a w hs => wp_region_lit (h.go a w hs)⟩
theorem goes_seq {x y : Code} (h : Goes P w0 ω0 nt S x (Exit.then (y.wp P Q) Q)) : Goes P w0 ω0 nt S (.seq x y) Q := ⟨fun a w hs => wp_seq (h.go a w hs)⟩
theorem fin_seq {y : Code} (h : Goes P w0 ω0 nt S y Q) : Fin w0 ω0 nt S .normal (Exit.then (y.wp P Q) Q) := ⟨fun a w hs => h.go a w hs⟩
theorem goes_skip (h : Fin w0 ω0 nt S .normal Q) : Goes P w0 ω0 nt S .skip Q := ⟨fun a w hs => wp_skip (h.go a w hs)⟩
theorem goes_label {l : Nat} (h : Fin w0 ω0 nt S .normal Q) : Goes P w0 ω0 nt S (.label l) Q := ⟨fun a w hs => wp_label (h.go a w hs)⟩
theorem goes_exit {id : Nat} (h : Fin w0 ω0 nt S (.exit id) Q) : Goes P w0 ω0 nt S (.exit id) Q := ⟨fun a w hs => wp_exit (h.go a w hs)⟩
theorem goes_ret (h : Fin w0 ω0 nt S .ret Q) : Goes P w0 ω0 nt S .ret Q := ⟨fun a w hs => wp_ret (h.go a w hs)⟩
theorem goes_block {id : Nat} {c : Code} (h : Goes P w0 ω0 nt S c (Exit.inBlock id Q)) : Goes P w0 ω0 nt S (.block id c) Q := ⟨fun a w hs => wp_block (h.go a w hs)⟩
theorem fin_block {id : Nat} (h : Fin w0 ω0 nt S .normal Q) : Fin w0 ω0 nt S .normal (Exit.inBlock id Q) := ⟨fun a w hs => h.go a w hs⟩
theorem fin_exit_eq {id : Nat} (h : Fin w0 ω0 nt S .normal Q) : Fin w0 ω0 nt S (.exit id) (Exit.inBlock id Q) := ⟨fun a w hs => by simp only [Exit.inBlock, if_true]; exact h.go a w hs⟩
theorem fin_exit_ne {id id' : Nat} (hn : Nat.beq id' id = false) (h : Fin w0 ω0 nt S (.exit id') Q) : Fin w0 ω0 nt S (.exit id') (Exit.inBlock id Q) := by
  refine ⟨fun a w hs => ?_⟩
  have hne : id' ≠ id := fun e => by subst e; simp at hn
  simp only [Exit.inBlock, if_neg hne]; exact h.go a w hs
theorem fin_exit_then {id : Nat} {K : Act → World → Prop} (h : Fin w0 ω0 nt S (.exit id) Q) : Fin w0 ω0 nt S (.exit id) (Exit.then K Q) := ⟨fun a w hs => h.go a w hs⟩
theorem fin_ret_then {K : Act → World → Prop} (h : Fin w0 ω0 nt S .ret Q) : Fin w0 ω0 nt S .ret (Exit.then K Q) := ⟨fun a w hs => h.go a w hs⟩
theorem fin_ret_block {id : Nat} (h : Fin w0 ω0 nt S .ret Q) : Fin w0 ω0 nt S .ret (Exit.inBlock id Q) := ⟨fun a w hs => h.go a w hs⟩
theorem goes_cond {c : Operand} {x y : Code} {b : Bool} (hc : S.op c = some (vv (.bool b))) (ht : b = true → Goes P w0 ω0 nt S x Q) (hf : b = false → Goes P w0 ω0 nt S y Q) : Goes P w0 ω0 nt S (.cond c x y) Q :=
  ⟨fun a w hs => wp_cond_split (t := b) (by obtain ⟨η, ω, hs⟩ := hs; exact hs.opV hc) (fun e => (ht e).go a w hs) (fun e => (hf e).go a w hs)⟩
theorem goes_if {c : Operand} {x y : Code} {p : Prop} [Decidable p] (hc : S.op c = some (vv (.bool (decide p)))) (ht : p → Goes P w0 ω0 nt S x Q) (hf : ¬ p → Goes P w0 ω0 nt S y Q) : Goes P w0 ω0 nt S (.cond c x y) Q :=
  goes_cond hc (fun e => ht (of_decide_eq_true e)) (fun e => hf (of_decide_eq_false e))
theorem goes_wk {c : Code} (h : Wk S S') (k : Goes P w0 ω0 nt S' c Q) : Goes P w0 ω0 nt S c Q := ⟨fun a w hs => k.go a w (h.go _ _ _ a w hs)⟩
theorem fin_wk {e : Exit} (h : Wk S S') (k : Fin w0 ω0 nt S' e Q) : Fin w0 ω0 nt S e Q := ⟨fun a w hs => k.go a w (h.go _ _ _ a w hs)⟩
theorem Wk.refl (S : St) : Wk S S := ⟨fun _ _ _ _ _ h => h⟩
theorem Wk.trans {S2 : St} (h : Wk S S1) (k : Wk S1 S2) : Wk S S2 := ⟨fun _ _ _ _ _ x => k.go _ _ _ _ _ (h.go _ _ _ _ _ x)⟩

theorem least {p : Nat → Prop} (h : ∃ n, p n) : ∃ n, p n ∧ ∀ m, p m → n ≤ m := by
  obtain ⟨n, hn⟩ := h
  induction n using Nat.strongRecOn with
  | _ n ih =>
    by_cases h' : ∃ m, m < n ∧ p m
    · obtain ⟨m, hm, hp⟩ := h'
      exact ih m hm hp
    · exact ⟨n, hn, fun m hm => Nat.le_of_not_lt fun hlt => h' ⟨m, hlt, hm⟩⟩
theorem fin_join (h : Wk S1 S') : Fin w0 ω0 nt S1 .normal (fun e a w => e = .normal ∧ Sat w0 ω0 nt S' a w) := ⟨fun a w hs => ⟨rfl, h.go _ _ _ a w hs⟩⟩
/-- what a round must end in -/
def LoopPost {ι : Type} (w0 : World) (ω0 : Beg) (nt : Nat) (I : ι → St) (p : ι → Prop) (μ : ι → Nat) (i : ι) (a : Act) (w : World) : Prop := ∃ j, p j ∧ μ j < μ i ∧ Sat w0 ω0 nt (I j) a w
open Classical in
theorem goes_loop {ι : Type} (I : ι → St) (p : ι → Prop) (μ : ι → Nat) (i0 : ι) {c : Code} (hp : p i0) (h0 : Wk S (I i0)) (hr : ∀ i, p i → Goes P w0 ω0 nt (I i) c (Exit.then (LoopPost w0 ω0 nt I p μ i) Q)) : Goes P w0 ω0 nt S (.loop c) Q := by
  refine ⟨fun a w hs => ?_⟩
  have ex : ∀ a w, (∃ i, p i ∧ Sat w0 ω0 nt (I i) a w) → ∃ n i, (p i ∧ Sat w0 ω0 nt (I i) a w) ∧ μ i = n := fun a w ⟨i, hi⟩ => ⟨μ i, i, hi, rfl⟩
  refine wp_loop (fun a w => ∃ i, p i ∧ Sat w0 ω0 nt (I i) a w) (fun a w => if h : ∃ i, p i ∧ Sat w0 ω0 nt (I i) a w then Classical.choose (least (ex a w h)) else 0) ⟨i0, hp, h0.go _ _ _ a w hs⟩ fun a w hI => ?_
  obtain ⟨⟨i, hi, hm⟩, _⟩ := Classical.choose_spec (least (ex a w hI))
  refine Code.wp_mono (fun e a' w' hq => ?_) ((hr i hi.1).go a w hi.2)
  cases e with
  | normal =>
    obtain ⟨j, hpj, hj, hsj⟩ := hq
    refine ⟨⟨j, hpj, hsj⟩, ?_⟩
    simp only [dif_pos hI, dif_pos (⟨j, hpj, hsj⟩ : ∃ i, p i ∧ Sat w0 ω0 nt (I i) a' w')]
    refine Nat.lt_of_le_of_lt ((Classical.choose_spec (least (ex a' w' ⟨j, hpj, hsj⟩))).2 _ ⟨j, ⟨hpj, hsj⟩, rfl⟩) ?_
    rw [← hm]; exact hj
  | _ => exact hq
theorem fin_round {ι : Type} {I : ι → St} {p : ι → Prop} {μ : ι → Nat} {i : ι} (j : ι) (hp : p j) (hm : μ j < μ i) (h : Wk S (I j)) : Fin w0 ω0 nt S .normal (Exit.then (LoopPost w0 ω0 nt I p μ i) Q) :=
  ⟨fun a w hs => ⟨j, hp, hm, h.go _ _ _ a w hs⟩⟩

/-- every row of the list is so in the state -/
def allSl (S : St) : List (Nat × AV) → Prop
  | [] => True
  | (t, av) :: r => S.sl t = some av ∧ allSl S r
def allCh (S : St) : List (Nm × Ch) → Prop
  | [] => True
  | (x, c) :: r => S.ch x = some c ∧ allCh S r
theorem allSl_lk : ∀ {l : List (Nat × AV)} {t : Nat} {av : AV}, allSl S l → lk t l = some av → S.sl t = some av
  | [], _, _, _, h => by cases h
  | (t', av') :: r, t, av, h, hl => by
    unfold lk at hl
    cases hb : Nat.beq t t' with
    | true => rw [hb] at hl; simp at hl; subst hl; rw [beq_true hb]; exact h.1
    | false => rw [hb] at hl; exact allSl_lk h.2 hl
def allPh (S : St) : List (Nat × AV) → Prop
  | [] => True
  | (t, av) :: r => S.ph t = some av ∧ allPh S r
theorem allPh_lk : ∀ {l : List (Nat × AV)} {t : Nat} {av : AV}, allPh S l → lk t l = some av → S.ph t = some av
  | [], _, _, _, h => by cases h
  | (t', av') :: r, t, av, h, hl => by
    unfold lk at hl
    cases hb : Nat.beq t t' with
    | true => rw [hb] at hl; simp at hl; subst hl; rw [beq_true hb]; exact h.1
    | false => rw [hb] at hl; exact allPh_lk h.2 hl
theorem allCh_lk : ∀ {l : List (Nm × Ch)} {t : Nat} {av : Ch}, allCh S l → lk t l = some av → S.ch t = some av
  | [], _, _, _, h => by cases h
  | (t', av') :: r, t, av, h, hl => by
    unfold lk at hl
    cases hb : Nat.beq t t' with
    | true => rw [hb] at hl; simp at hl; subst hl; rw [beq_true hb]; exact h.1
    | false => rw [hb] at hl; exact allCh_lk h.2 hl
open Classical in
theorem Wk.less (hs : ∀ t av, S'.sl t = some av → S.sl t = some av) (hc : ∀ x c, S'.ch x = some c → S.ch x = some c) (hp : ∀ t av, S'.ph t = some av → S.ph t = some av) : Wk S S' := by
  refine ⟨fun w0 ω0 nt a w ⟨η, ω, h⟩ => ?_⟩
  have key : ∀ x, (if S'.ch x = none then none else η.h x) = none ∨ ((if S'.ch x = none then none else η.h x) = η.h x ∧ ∀ i, η.r x i = η.r x i) := fun x => by
    by_cases e : S'.ch x = none
    · exact .inl (if_pos e)
    · exact .inr ⟨if_neg e, fun _ => rfl⟩
  refine ⟨{ η with h := fun x => if S'.ch x = none then none else η.h x }, ω, ⟨h.dfr, h.tsz, fun t av ht => ?_, fun t av ht => ?_, ⟨fun x c hx => ?_, fun x hx => if_pos hx⟩, h.fr⟩⟩
  · obtain ⟨u, h1, h2⟩ := h.slots t av (hs t av ht)
    exact ⟨u, h1, h2.mono fun y _ => key y⟩
  · obtain ⟨u, h1, h2⟩ := h.phs t av (hp t av ht)
    exact ⟨u, h1, h2.mono fun y _ => key y⟩
  · obtain ⟨hd, h1, h2⟩ := h.mem.1 x c (hc x c hx)
    refine ⟨hd, by simp [hx, h1], ChIs.same (η := η) (p := fun _ => True) (Same.refl _ _ _) trivial (fun _ => trivial) (fun _ => rfl) (fun l _ a _ z _ => key z) h2⟩
theorem Wk.of {sl ph : List (Nat × AV)} {ch : List (Nm × Ch)} (hs : allSl S sl) (hc : allCh S ch) (hp : allPh S ph) : Wk S (St.of sl ch ph) := Wk.less (fun _ _ h => allSl_lk hs h) (fun _ _ h => allCh_lk hc h) (fun _ _ h => allPh_lk hp h)
end
end Go.Proofs.Ytnfkhgamnapgmaa

/- A memory of names: contracts of functions; how a walk begins and ends; calls. No program in sight. -/
namespace Go.Proofs.Ytnfkhgamnapgmaa
open Go.RowKit

def DenL (η : Env) (avs : List AV) (us : List Value) : Prop := us.length = avs.length ∧ ∀ (j : Nat) (av : AV), avs[j]? = some av → ∃ u, us[j]? = some u ∧ Den η av u
/-- what a call leaves: a value, chunks, and what is known of the arguments -/
def Left (w : World) (ω : Own?) (us : List Value) (outs : List (Nm × Ch)) (res : AV) (back : List (Nat × AV)) (e : Ending) (w' : World) : Prop :=
  ∃ v η' ω', e = .returned v ∧ Den η' res v ∧ Mem η' ω' w' (fun x => lk x outs) ∧ Fr ω w ω' w' ∧ ∀ t av, lk t back = some av → ∃ u, us[t]? = some u ∧ Den η' av u
/-- the contract of a function in names: it takes the chunks ins and the arguments args; it leaves the chunks outs and the result res -/
def FC (P : Program) (f : FuncId) (ins : List (Nm × Ch)) (args : List AV) (outs : List (Nm × Ch)) (res : AV) (back : List (Nat × AV)) : Prop :=
  ∀ w η ω us, Mem η ω w (fun x => lk x ins) → DenL η args us → Calls P f us.toArray w (Left w ω us outs res back)

def zipA : Nat → List AV → List (Nat × AV)
  | _, [] => []
  | k, av :: r => (k, av) :: zipA (k + 1) r
theorem lk_zipA : ∀ {k : Nat} {l : List AV} {t : Nat} {av : AV}, lk t (zipA k l) = some av → ∃ j, t = k + j ∧ l[j]? = some av
  | _, [], _, _, h => by cases h
  | k, a :: r, t, av, h => by
    simp only [zipA, lk] at h
    cases hb : Nat.beq t k with
    | true => rw [hb] at h; simp at h; subst h; exact ⟨0, beq_true hb, rfl⟩
    | false =>
      rw [hb] at h
      obtain ⟨j, h1, h2⟩ := lk_zipA (k := k + 1) (l := r) h
      exact ⟨j + 1, by omega, by simpa using h2⟩

section
variable {P : Program} {nt : Nat} {S S' : St} {w0 w : World} {ω0 : Beg} {ω : Own?} {η : Env} {a : Act}

theorem fc_enter {f : FuncId} {fn : Func} {c : Code} {ins outs : List (Nm × Ch)} {args : List AV} {res : AV} {back : List (Nat × AV)} (hf : P.funcs[f]? = some fn) (hb : fn.body = some c) (hn : fn.ntmps = nt) (hl : args.length ≤ nt)
    (h : ∀ w0 ω0, Goes P w0 ω0 nt (St.of (zipA 0 args) ins (zipA 0 args)) c (bodyPost P fn (Left w0 ω0.own ω0.ph outs res back))) : FC P f ins args outs res back := by
  intro w η ω us hm hd
  refine calls_of_wp hf hb ((h w ⟨ω, us⟩).go _ _ ⟨η, ω, ?_⟩)
  have hsz : us.toArray.size = us.length := by simp
  refine { dfr := rfl, tsz := ?_, slots := fun t av ht => ?_, phs := fun t av ht => ?_, mem := hm, fr := Fr.refl _ _ }
  · have := hd.1
    simp; omega
  · obtain ⟨j, rfl, hj⟩ := lk_zipA ht
    obtain ⟨u, h1, h2⟩ := hd.2 j av hj
    refine ⟨u, ?_, h2⟩
    have hlt : j < us.length := (List.getElem?_eq_some_iff.1 h1).1
    simp only [Nat.zero_add]
    rw [Array.getElem?_append_left (by simpa using hlt)]
    simpa using h1
  · obtain ⟨j, rfl, hj⟩ := lk_zipA ht
    obtain ⟨u, h1, h2⟩ := hd.2 j av hj
    exact ⟨u, by simpa using h1, h2⟩

/-- the sum of the cells of a struct or an array -/
def aggB (P : Program) (T : TypeId) (k : Nat) : Bool :=
  match P.underlying T with
  | some (.struct _) | some (.array _ _) => sizeB P T k
  | _ => false
theorem aggB_agg {T : TypeId} {k : Nat} (h : aggB P T k = true) (w : World) : (isAgg T).run P w = .ok true w := by
  unfold aggB at h
  cases hu : P.underlying T with
  | none => rw [hu] at h; cases h
  | some d => rw [hu] at h; cases d <;> first | (cases h; done) | simp [isAgg, run_underlying hu]
theorem aggB_size {T : TypeId} {k : Nat} (h : aggB P T k = true) : sizeB P T k = true := by
  unfold aggB at h
  cases hu : P.underlying T with
  | none => rw [hu] at h; cases h
  | some d => rw [hu] at h; cases d <;> first | (cases h; done) | exact h
theorem run_loadAgg {T : TypeId} {k : Nat} (h : aggB P T k = true) {b o : Nat} {us : List Value} (hl : us.length = k) (hc : ∀ j u, us[j]? = some u → w.cell? ⟨b, o + j, none⟩ = some u) : (loadVar T ⟨b, o, none⟩).run P w = .ok (.agg us.toArray) w := by
  have hr := run_loadCells_list (P := P) w ⟨b, o, none⟩ us fun j u hu => by rw [Addr.add_lit]; exact hc j u hu
  rw [hl] at hr
  simp [loadVar, aggB_agg h, sizeB_run (aggB_size h), hr]
/-- the cells of a flat chunk, read as a struct -/
theorem SatE.readAgg (hs : SatE w0 ω0 nt S η ω a w) {n : Nm} {i k : Nat} {c : Ch} {l : List A1} {T : TypeId} {p : Value} (hp : Den1 η (.ptr n i) p) (hc : S.ch n = some c) (hd : c.d = .flat l) (hk : i + k ≤ l.length) (hk0 : 0 < k) (hT : aggB P T k = true) :
    ∃ ad u, p = .pointer (some ad) ∧ (loadVar T ad).run P w = .ok u w ∧ Den2 η (.agg ((l.drop i).take k)) u := by
  obtain ⟨h, e1, e2, e3⟩ := hs.chunk hc
  obtain ⟨b, o, g1, rfl⟩ := hp.2 h e1
  rw [hd] at e3
  have key : ∀ j, j < k → ∃ u, w.cell? ⟨b, o + i + j, none⟩ = some u ∧ ∀ b1, l[i + j]? = some b1 → Den1 η b1 u := fun j hj => by
    obtain ⟨b', o', u, f1, f2, f3⟩ := e3.get (j := i + j) (by show i + j < l.length; omega)
    rw [g1] at f1; injection f1 with f1; injection f1 with f1 f1'; subst f1 f1'
    exact ⟨u, by rw [Nat.add_assoc]; exact f2, f3⟩
  refine ⟨_, .agg ((List.range k).map fun j => (w.cell? ⟨b, o + i + j, none⟩).getD undef).toArray, rfl, run_loadAgg hT (by simp) fun j u hu => ?_, ⟨_, rfl, by simp; omega, fun j b1 hb1 => ?_⟩⟩
  · rw [List.getElem?_map, Option.map_eq_some_iff] at hu
    obtain ⟨j', hj', rfl⟩ := hu
    have hjk : j < k := by have := (List.getElem?_eq_some_iff.1 hj').1; simpa using this
    rw [List.getElem?_range hjk] at hj'
    obtain rfl := Option.some.inj hj'
    obtain ⟨u, hu, _⟩ := key j hjk
    rw [hu]; rfl
  · have hjk : j < k := by have := (List.getElem?_eq_some_iff.1 hb1).1; simp at this; omega
    rw [List.getElem?_take, if_pos hjk, List.getElem?_drop] at hb1
    obtain ⟨u, hu, hdu⟩ := key j hjk
    exact ⟨u, by simp [hjk, hu], hdu b1 hb1⟩

def resSem (tmps : Array Value) : ResultVar → Sem Value
  | .tmp t => pure (tmps.getD t undef)
  | .cell b t => do loadVar t (← asAddr (tmps.getD b undef))
/-- a result as the state has it -/
inductive ResB (P : Program) (S : St) : ResultVar → A2 → Prop where
  | tmp {t : Nat} {b : A2} (h : S.sl t = some (.s b)) : ResB P S (.tmp t) b
  | cell {t : Nat} {T : TypeId} {n : Nm} {k : Nat} {c : Ch} {l : List A1} (h : S.sl t = some (o1 (.ptr n 0))) (hc : S.ch n = some c) (hd : c.d = .flat l) (hk : l.length = k) (hk0 : Nat.blt 0 k = true) (hT : aggB P T k = true) : ResB P S (.cell t T) (.agg l)
  | one {t : Nat} {T : TypeId} {n : Nm} {c : Ch} {b : A1} (h : S.sl t = some (o1 (.ptr n 0))) (hc : S.ch n = some c) (hb : c.d.at_ n 0 = some b) (hT : oneB P T = true) : ResB P S (.cell t T) (.one b)
theorem SatE.res (hs : SatE w0 ω0 nt S η ω a w) {r : ResultVar} {b : A2} (h : ResB P S r b) : ∃ u, (resSem a.tmps r).run P w = .ok u w ∧ Den2 η b u := by
  cases h with
  | tmp h =>
    obtain ⟨u, h1, h2⟩ := hs.slots _ _ h
    exact ⟨u, by simp [resSem, h1], h2⟩
  | cell h hc hd hk hk0 hT =>
    obtain ⟨p, h1, h2⟩ := hs.slots _ _ h
    obtain ⟨ad, u, rfl, h4, h5⟩ := hs.readAgg (P := P) h2 hc hd (by omega) (by simpa using hk0) hT
    refine ⟨u, by simp [resSem, h1, asAddr, h4], ?_⟩
    rw [List.drop_zero, List.take_of_length_le (by omega)] at h5; exact h5
  | one h hc hb hT =>
    obtain ⟨p, h1, h2⟩ := hs.slots _ _ h
    obtain ⟨hd, e1, e2, e3⟩ := hs.chunk hc
    obtain ⟨bb, o, g1, rfl⟩ := (show Den1 η (.ptr _ 0) p from h2).2 hd e1
    obtain ⟨b', o', u, f1, f2, f3⟩ := e3.get (Dat.at_lt hb)
    rw [g1] at f1; injection f1 with f1; injection f1 with f1 f1'; subst f1 f1'
    simp only [Nat.add_zero] at f2 h1
    exact ⟨u, by simp [resSem, h1, asAddr, loadVar, oneB_agg hT, f2], den_at f3 hb⟩

theorem results_eq (fn : Func) (tmps : Array Value) : results fn tmps = (do let vs ← fn.results.mapM (resSem tmps); pure (if h : vs.size = 1 then vs[0] else .tuple vs)) := by
  unfold results
  congr 1
theorem run_results0 {fn : Func} {tmps : Array Value} (h : fn.results = #[]) : (results fn tmps).run P w = .ok (.tuple #[]) w := by
  rw [results_eq, h]; simp
theorem run_results1 {fn : Func} {tmps : Array Value} {r : ResultVar} {v : Value} (h : fn.results = #[r]) (h1 : (resSem tmps r).run P w = .ok v w) : (results fn tmps).run P w = .ok v w := by
  rw [results_eq, h]; simp [h1]
theorem run_results2 {fn : Func} {tmps : Array Value} {r r' : ResultVar} {v v' : Value} (h : fn.results = #[r, r']) (h1 : (resSem tmps r).run P w = .ok v w) (h2 : (resSem tmps r').run P w = .ok v' w) : (results fn tmps).run P w = .ok (.tuple #[v, v']) w := by
  rw [results_eq, h]; simp [h1, h2]

theorem SatE.left (hs : SatE w0 ω0 nt S η ω a w) {outs : List (Nm × Ch)} {res : AV} {back : List (Nat × AV)} {v : Value} (hc : allCh S outs) (hb : allPh S back) (hv : Den η res v) : Left w0 ω0.own ω0.ph outs res back (.returned v) w := by
  classical
  have key : ∀ x, (if lk x outs = none then none else η.h x) = none ∨ ((if lk x outs = none then none else η.h x) = η.h x ∧ ∀ i, η.r x i = η.r x i) := fun x => by
    by_cases e : lk x outs = none
    · exact .inl (if_pos e)
    · exact .inr ⟨if_neg e, fun _ => rfl⟩
  refine ⟨v, { η with h := fun x => if lk x outs = none then none else η.h x }, ω, rfl, hv.mono fun y _ => key y, ⟨fun x c hx => ?_, fun x hx => if_pos hx⟩, hs.fr, fun t av ht => ?_⟩
  · obtain ⟨hd, h1, h2⟩ := hs.mem.1 x c (allCh_lk hc hx)
    refine ⟨hd, by simp [hx, h1], ChIs.same (η := η) (p := fun _ => True) (Same.refl _ _ _) trivial (fun _ => trivial) (fun _ => rfl) (fun l _ a _ z _ => key z) h2⟩
  · obtain ⟨u, h1, h2⟩ := hs.phs t av (allPh_lk hb ht)
    exact ⟨u, h1, h2.mono fun y _ => key y⟩

theorem fin_ret0 {fn : Func} {e : Exit} {outs : List (Nm × Ch)} {back : List (Nat × AV)} (he : e = .ret ∨ e = .normal) (hf : fn.results = #[]) (hc : allCh S outs) (hb : allPh S back) :
    Fin w0 ω0 nt S e (bodyPost P fn (Left w0 ω0.own ω0.ph outs (.tup []) back)) := by
  refine ⟨fun a w ⟨η, ω, hs⟩ => ?_⟩
  have : a.defers = [] ∧ ∃ v, (results fn a.tmps).run P w = .ok v w ∧ Left w0 ω0.own ω0.ph outs (.tup []) back (.returned v) w := ⟨hs.dfr, _, run_results0 hf, hs.left hc hb ⟨#[], rfl, rfl, fun j b hj => by simp at hj⟩⟩
  rcases he with rfl | rfl <;> exact this
theorem fin_ret1 {fn : Func} {e : Exit} {r : ResultVar} {b : A2} {outs : List (Nm × Ch)} {back : List (Nat × AV)} (he : e = .ret ∨ e = .normal) (hf : fn.results = #[r]) (hr : ResB P S r b) (hc : allCh S outs) (hb : allPh S back) :
    Fin w0 ω0 nt S e (bodyPost P fn (Left w0 ω0.own ω0.ph outs (.s b) back)) := by
  refine ⟨fun a w ⟨η, ω, hs⟩ => ?_⟩
  obtain ⟨u, h1, h2⟩ := hs.res hr
  have : a.defers = [] ∧ ∃ v, (results fn a.tmps).run P w = .ok v w ∧ Left w0 ω0.own ω0.ph outs (.s b) back (.returned v) w := ⟨hs.dfr, u, run_results1 hf h1, hs.left hc hb h2⟩
  rcases he with rfl | rfl <;> exact this
theorem fin_ret2 {fn : Func} {e : Exit} {r r' : ResultVar} {b b' : A2} {outs : List (Nm × Ch)} {back : List (Nat × AV)} (he : e = .ret ∨ e = .normal) (hf : fn.results = #[r, r']) (hr : ResB P S r b) (hr' : ResB P S r' b') (hc : allCh S outs) (hb : allPh S back) :
    Fin w0 ω0 nt S e (bodyPost P fn (Left w0 ω0.own ω0.ph outs (.tup [b, b']) back)) := by
  refine ⟨fun a w ⟨η, ω, hs⟩ => ?_⟩
  obtain ⟨u, h1, h2⟩ := hs.res hr
  obtain ⟨u', h1', h2'⟩ := hs.res hr'
  have hd : Den η (.tup [b, b']) (.tuple #[u, u']) := ⟨_, rfl, rfl, fun j c hj => by
    match j, hj with
    | 0, hj => simp at hj; subst hj; exact ⟨u, by simp, h2⟩
    | 1, hj => simp at hj; subst hj; exact ⟨u', by simp, h2'⟩⟩
  have : a.defers = [] ∧ ∃ v, (results fn a.tmps).run P w = .ok v w ∧ Left w0 ω0.own ω0.ph outs (.tup [b, b']) back (.returned v) w := ⟨hs.dfr, _, run_results2 hf h1 h1', hs.left hc hb hd⟩
  rcases he with rfl | rfl <;> exact this
end
end Go.Proofs.Ytnfkhgamnapgmaa

/- A memory of names: a call of a function by its contract in names. No program in sight. -/
namespace Go.Proofs.Ytnfkhgamnapgmaa
open Go.RowKit

def A1.bad (o k : Nm → Bool) : A1 → Bool
  | .val _ | .any => false
  | .sl x _ _ | .esl x _ _ _ | .eptr x _ _ => o x
  | .ptr x _ => o x && !k x
  | .clo _ xs => xs.any fun p => o p.1 && !k p.1
def A2.bad (o k : Nm → Bool) : A2 → Bool
  | .one a => a.bad o k
  | .agg l => l.any (A1.bad o k)
def AV.bad (o k : Nm → Bool) : AV → Bool
  | .s a => a.bad o k
  | .tup l => l.any (A2.bad o k)
def Dat.clean (o k : Nm → Bool) : Dat → Dat
  | .flat l => .flat (l.map fun a => bif a.bad o k then .any else a)
  | d => d
def Ch.clean (o k : Nm → Bool) (c : Ch) : Ch := { c with d := c.d.clean o k }
def A1.names : A1 → List Nm
  | .sl y _ _ | .ptr y _ | .esl y _ _ _ | .eptr y _ _ => [y]
  | .clo _ xs => xs.map (·.1)
  | .val _ | .any => []
def A2.names : A2 → List Nm
  | .one a => a.names
  | .agg l => l.flatMap A1.names
def AV.names : AV → List Nm
  | .s a => a.names
  | .tup l => l.flatMap A2.names
def Ch.names (c : Ch) : List Nm := match c.d with
  | .flat l => l.flatMap A1.names
  | _ => []
theorem A1.has_names {a : A1} {x : Nm} (h : a.has x = true) : x ∈ a.names := by
  cases a with
  | val v => cases h
  | any => cases h
  | sl y _ _ => rw [beq_true (h : Nat.beq x y = true)]; simp [A1.names]
  | ptr y _ => rw [beq_true (h : Nat.beq x y = true)]; simp [A1.names]
  | esl y _ _ _ => rw [beq_true (h : Nat.beq x y = true)]; simp [A1.names]
  | eptr y _ _ => rw [beq_true (h : Nat.beq x y = true)]; simp [A1.names]
  | clo f xs =>
    simp only [A1.has, List.any_eq_true] at h
    obtain ⟨p, hp, hb⟩ := h
    exact List.mem_map.2 ⟨p, hp, (beq_true hb).symm⟩
theorem A2.has_names {a : A2} {x : Nm} (h : a.has x = true) : x ∈ a.names := by
  cases a with
  | one a => exact A1.has_names h
  | agg l =>
    simp only [A2.has, List.any_eq_true] at h
    obtain ⟨p, hp, hb⟩ := h
    exact List.mem_flatMap.2 ⟨p, hp, A1.has_names hb⟩
theorem AV.has_names {a : AV} {x : Nm} (h : a.has x = true) : x ∈ a.names := by
  cases a with
  | s a => exact A2.has_names h
  | tup l =>
    simp only [AV.has, List.any_eq_true] at h
    obtain ⟨p, hp, hb⟩ := h
    exact List.mem_flatMap.2 ⟨p, hp, A2.has_names hb⟩

/-- how an environment may turn at a call -/
def Turn (η η' : Env) (o k : Nm → Bool) : Prop :=
  ∀ y, η'.h y = none ∨ (η'.h y = η.h y ∧ ∀ i, η'.r y i = η.r y i) ∨ (o y = true ∧ (k y = true → ∀ h', η'.h y = some h' → ∃ h, η.h y = some h ∧ h'.ao = h.ao))
theorem ptAt.ao {h h' : Hd} {off : Nat} {u : Value} (e : h'.ao = h.ao) (p : ptAt h off u) : ptAt h' off u := by
  obtain ⟨b, o, h1, h2⟩ := p
  exact ⟨b, o, e.trans h1, h2⟩
theorem Den1.turn {η η' : Env} {o k : Nm → Bool} {a : A1} {u : Value} (ht : Turn η η' o k) (hb : a.bad o k = false) (h : Den1 η a u) : Den1 η' a u := by
  cases a with
  | val v => exact h
  | any => exact h
  | sl x off n =>
    refine ⟨h.1, fun hd he => ?_⟩
    rcases ht x with e | ⟨e, _⟩ | ⟨e, _⟩
    · rw [e] at he; cases he
    · exact h.2 hd (e ▸ he)
    · exact absurd e (by rw [show o x = false from hb]; simp)
  | ptr x off =>
    refine ⟨h.1, fun hd he => ?_⟩
    rcases ht x with e | ⟨e, _⟩ | ⟨e, e2⟩
    · rw [e] at he; cases he
    · exact h.2 hd (e ▸ he)
    · have hk : k x = true := by
        have hb : (o x && !k x) = false := hb
        rw [e] at hb; simpa using hb
      obtain ⟨h0, h1, h2⟩ := e2 hk hd he
      exact ptAt.ao h2 (h.2 h0 h1)
  | esl x i off n =>
    refine ⟨h.1, fun hd he => ?_⟩
    rcases ht x with e | ⟨e, er⟩ | ⟨e, _⟩
    · rw [e] at he; cases he
    · rw [er i]; exact h.2 hd (e ▸ he)
    · exact absurd e (by rw [show o x = false from hb]; simp)
  | eptr x i off =>
    refine ⟨h.1, fun hd he => ?_⟩
    rcases ht x with e | ⟨e, er⟩ | ⟨e, _⟩
    · rw [e] at he; cases he
    · rw [er i]; exact h.2 hd (e ▸ he)
    · exact absurd e (by rw [show o x = false from hb]; simp)
  | clo f xs =>
    obtain ⟨us, h1, h2, h3⟩ := h
    refine ⟨us, h1, h2, fun j p hp => ?_⟩
    obtain ⟨q, hq, hq1, hq2⟩ := h3 j p hp
    refine ⟨q, hq, hq1, fun hd he => ?_⟩
    rcases ht p.1 with e | ⟨e, _⟩ | ⟨e, e2⟩
    · rw [e] at he; cases he
    · exact hq2 hd (e ▸ he)
    · have hb : (xs.any fun p => o p.1 && !k p.1) = false := hb
      have hk : k p.1 = true := by
        have := List.any_eq_false.1 hb p (List.mem_of_getElem? hp)
        rw [e] at this; simpa using this
      obtain ⟨h0, h1, h2⟩ := e2 hk hd he
      exact ptAt.ao h2 (hq2 h0 h1)
theorem Den2.turn {η η' : Env} {o k : Nm → Bool} {a : A2} {u : Value} (ht : Turn η η' o k) (hb : a.bad o k = false) (h : Den2 η a u) : Den2 η' a u := by
  cases a with
  | one a => exact Den1.turn ht hb h
  | agg l =>
    obtain ⟨us, h1, h2, h3⟩ := h
    refine ⟨us, h1, h2, fun j a ha => ?_⟩
    obtain ⟨u', h4, h5⟩ := h3 j a ha
    exact ⟨u', h4, h5.turn ht (by have := List.any_eq_false.1 (show l.any (A1.bad o k) = false from hb) a (List.mem_of_getElem? ha); simpa using this)⟩
theorem Den.turn {η η' : Env} {o k : Nm → Bool} {a : AV} {u : Value} (ht : Turn η η' o k) (hb : a.bad o k = false) (h : Den η a u) : Den η' a u := by
  cases a with
  | s a => exact Den2.turn ht hb h
  | tup l =>
    obtain ⟨us, h1, h2, h3⟩ := h
    refine ⟨us, h1, h2, fun j a ha => ?_⟩
    obtain ⟨u', h4, h5⟩ := h3 j a ha
    exact ⟨u', h4, h5.turn ht (by have := List.any_eq_false.1 (show l.any (A2.bad o k) = false from hb) a (List.mem_of_getElem? ha); simpa using this)⟩
theorem ChIs.turn {η η' : Env} {ω ω' : Own?} {w w' : World} {o k : Nm → Bool} {x : Nm} {h : Hd} {c : Ch} {p : Option (Nm × Option Nat) → Prop} (hs : Same ω w ω' w' p) (hp : p none) (hp' : ∀ i, p (some (x, i))) (hr : ∀ i, η'.r x i = η.r x i)
    (ht : Turn η η' o k) (hc : ChIs η ω w x h c) : ChIs η' ω' w' x h (c.clean o k) := by
  refine ⟨hc.1, ?_⟩
  have hl : (c.clean o k).d.len = c.d.len := by unfold Ch.clean Dat.clean; cases c.d <;> simp [Dat.len]
  rw [hl]
  refine hc.2.same hs hp (hp' none) fun j u hu => ?_
  unfold Ch.clean Dat.clean
  cases hd : c.d with
  | flat l =>
    rw [hd] at hu
    intro a ha
    simp only [List.getElem?_map, Option.map_eq_some_iff] at ha
    obtain ⟨b, hb, rfl⟩ := ha
    cases hbad : b.bad o k with
    | true =>
      refine (hu b hb).one fun v hv => ?_
      subst hv; cases hbad
    | false => exact (hu b hb).turn ht hbad
  | vals vs => rw [hd] at hu; exact hu
  | rows E vss holes =>
    rw [hd] at hu
    refine ⟨hu.1, fun hj vs hvs => ?_⟩
    obtain ⟨h1, h2, h3⟩ := hu.2 hj vs hvs
    rw [hr j]
    exact ⟨h1, h2, h3.same hs hp (hp' (some j)) fun _ _ h => h⟩
  | mix cs => rw [hd] at hu; exact ⟨hu.1, fun c hc => (hu.2 c hc).move (hr j) fun _ _ _ _ _ h3 => h3.same hs hp (hp' (some j)) fun _ _ h => h⟩

def consB (ins : List (Nm × Ch)) (x : Nm) : Bool := match lk x ins with | some c => c.own | none => false
def inL (l : List (Nm × Ch)) (x : Nm) : Bool := (lk x l).isSome
def memB (l : List Nm) (x : Nm) : Bool := l.any (Nat.beq x)
def St.after (S : St) (ins outs : List (Nm × Ch)) (kp : List Nm) : St :=
  { sl := fun t => (S.sl t).bind fun av => bif av.bad (inL outs) (memB kp) then none else some av
    ph := fun t => (S.ph t).bind fun av => bif av.bad (inL outs) (memB kp) then none else some av
    ch := fun y => match lk y outs with
      | some c => some c
      | none => bif consB ins y then none else (S.ch y).map (Ch.clean (inL outs) (memB kp)) }
theorem bind_bad {o : Option AV} {av : AV} {b : AV → Bool} (h : (o.bind fun av => bif b av then none else some av) = some av) : o = some av ∧ b av = false := by
  cases o with
  | none => cases h
  | some a =>
    simp only [Option.bind_some] at h
    cases hb : b a with
    | true => rw [hb] at h; cases h
    | false => rw [hb] at h; simp at h; subst h; exact ⟨rfl, hb⟩

/-- every chunk that a call takes is there: the call's own, or to be read -/
def allIn (S : St) : List (Nm × Ch) → Prop
  | [] => True
  | (x, c) :: r => (∃ c', S.ch x = some c' ∧ (c' = c ∨ c = { c' with own := false })) ∧ allIn S r
theorem allIn_lk {S : St} : ∀ {l : List (Nm × Ch)} {t : Nat} {c : Ch}, allIn S l → lk t l = some c → ∃ c', S.ch t = some c' ∧ (c' = c ∨ c = { c' with own := false })
  | [], _, _, _, h => by cases h
  | (t', av') :: r, t, av, h, hl => by
    unfold lk at hl
    cases hb : Nat.beq t t' with
    | true => rw [hb] at hl; simp at hl; subst hl; rw [beq_true hb]; exact h.1
    | false => rw [hb] at hl; exact allIn_lk h.2 hl
def opL (S : St) : List Operand → Option (List AV)
  | [] => some []
  | x :: r => (S.op x).bind fun a => (opL S r).map fun l => a :: l
/-- what an argument may be taken for: something that is less known -/
def toL : List A1 → List A1 → Prop
  | [], [] => True
  | a :: r, b :: l => (a = b ∨ (b = .any ∧ (A2.one a).okB = true)) ∧ toL r l
  | _, _ => False
def AV.to : AV → AV → Prop
  | .s (.agg l), .s (.agg l') => toL l l'
  | a, b => a = b
def allTo : List AV → List AV → Prop
  | [], [] => True
  | a :: r, b :: l => a.to b ∧ allTo r l
  | _, _ => False
theorem toL_at : ∀ {l l' : List A1}, toL l l' → l.length = l'.length ∧ ∀ (j : Nat) (b : A1), l'[j]? = some b → ∃ a, l[j]? = some a ∧ (a = b ∨ (b = .any ∧ (A2.one a).okB = true))
  | [], [], _ => ⟨rfl, fun j b h => by simp at h⟩
  | a :: r, b :: l, h => by
    obtain ⟨h1, h2⟩ := toL_at h.2
    refine ⟨by simp [h1], fun j c hj => ?_⟩
    cases j with
    | zero => simp at hj; subst hj; exact ⟨a, by simp, h.1⟩
    | succ j => exact h2 j c (by simpa using hj)
  | [], _ :: _, h => h.elim
  | _ :: _, [], h => h.elim
theorem Den.to {η : Env} {a b : AV} {u : Value} (h : a.to b) (hd : Den η a u) : Den η b u := by
  match a, b, h, hd with
  | .s (.agg l), .s (.agg l'), h, hd =>
    obtain ⟨h1, h2⟩ := toL_at h
    obtain ⟨us, rfl, h3, h4⟩ := hd
    refine ⟨us, rfl, h3.trans h1, fun j c hj => ?_⟩
    obtain ⟨a, ha, hab⟩ := h2 j c hj
    obtain ⟨u', hu', hda⟩ := h4 j a ha
    refine ⟨u', hu', ?_⟩
    rcases hab with rfl | ⟨rfl, ho⟩
    · exact hda
    · exact hda.one fun v hv => A2.okB_spec ho v (by rw [hv])
  | .s (.one _), b, h, hd => have h : _ = b := h; exact h ▸ hd
  | .tup _, b, h, hd => have h : _ = b := h; exact h ▸ hd
  | .s (.agg l), .s (.one _), h, hd => have h : AV.s (.agg l) = _ := h; exact h ▸ hd
  | .s (.agg l), .tup _, h, hd => have h : AV.s (.agg l) = _ := h; exact h ▸ hd
theorem DenL.to {η : Env} : ∀ {avs avs' : List AV} {us : List Value}, allTo avs avs' → DenL η avs us → DenL η avs' us
  | [], [], us, _, hd => hd
  | a :: r, b :: l, us, h, hd => by
    cases us with
    | nil => exact absurd hd.1 (by simp)
    | cons u us =>
      have hd' : DenL η r us := ⟨by simpa using hd.1, fun j av hj => by
        obtain ⟨u', h1, h2⟩ := hd.2 (j + 1) av (by simpa using hj)
        exact ⟨u', by simpa using h1, h2⟩⟩
      obtain ⟨h1, h2⟩ := DenL.to h.2 hd'
      refine ⟨by simpa using h1, fun j av hj => ?_⟩
      cases j with
      | zero =>
        simp at hj; subst hj
        obtain ⟨u', h3, h4⟩ := hd.2 0 a (by simp)
        simp at h3; subst h3
        exact ⟨u, by simp, h4.to h.1⟩
      | succ j =>
        obtain ⟨u', h3, h4⟩ := h2 j av (by simpa using hj)
        exact ⟨u', by simpa using h3, h4⟩
  | [], _ :: _, _, h, _ => h.elim
  | _ :: _, [], _, h, _ => h.elim

/-- the kept names: argument j points to the head of the chunk, before and behind -/
def allKp (ins : List (Nm × Ch)) (args : List AV) (back : List (Nat × AV)) : List (Nat × Nm) → Prop
  | [] => True
  | (j, x) :: r => inL ins x = true ∧ args[j]? = some (o1 (.ptr x 0)) ∧ lk j back = some (o1 (.ptr x 0)) ∧ allKp ins args back r
theorem allKp_mem {ins : List (Nm × Ch)} {args : List AV} {back : List (Nat × AV)} : ∀ {l : List (Nat × Nm)} {x : Nm}, allKp ins args back l → memB (l.map (·.2)) x = true → inL ins x = true ∧ ∃ j, args[j]? = some (o1 (.ptr x 0)) ∧ lk j back = some (o1 (.ptr x 0))
  | [], _, _, h => by cases h
  | (j, y) :: r, x, h, hm => by
    simp only [memB, List.map_cons, List.any_cons, Bool.or_eq_true] at hm
    rcases hm with hm | hm
    · rw [beq_true hm]; exact ⟨h.1, j, h.2.1, h.2.2.1⟩
    · exact allKp_mem h.2.2.2 hm

/-- a Go function with a body -/
def goFnB (P : Program) (f : FuncId) : Bool :=
  match P.funcs[f]? with
  | some fn => fn.body.isSome && !(fn.name == "runtime.NumGoroutine")
  | none => false
theorem goFnB_run {P : Program} {f : FuncId} (h : goFnB P f = true) (args : Array Value) (w : World) : (callFunc f args).run P w = .ok (.enter f args) w := by
  unfold goFnB at h
  split at h
  · rename_i fn hf
    simp only [Bool.and_eq_true, Bool.not_eq_true'] at h
    obtain ⟨h1, h2⟩ := h
    cases hb : fn.body with
    | none => rw [hb] at h1; cases h1
    | some c =>
      have h3 : ¬ fn.name = "runtime.NumGoroutine" := fun e => by rw [e] at h2; simp at h2
      simp [callFunc, hf, h3, hb]
  · cases h

section
variable {P : Program} {nt : Nat} {S S' : St} {w0 w : World} {ω0 : Beg} {ω : Own?} {η : Env} {a : Act}

theorem SatE.opsL (hs : SatE w0 ω0 nt S η ω a w) : ∀ {xs : List Operand} {avs : List AV}, opL S xs = some avs → DenL η avs (xs.map a.eval)
  | [], avs, h => by obtain rfl := Option.some.inj h; exact ⟨rfl, fun j av h => by simp at h⟩
  | x :: r, avs, h => by
    simp only [opL, Option.bind_eq_some_iff, Option.map_eq_some_iff] at h
    obtain ⟨av, hx, l, hl, rfl⟩ := h
    obtain ⟨h1, h2⟩ := hs.opsL hl
    refine ⟨by simpa using h1, fun j b hj => ?_⟩
    cases j with
    | zero => simp at hj; subst hj; exact ⟨a.eval x, by simp, hs.opv hx⟩
    | succ j => exact h2 j b (by simpa using hj)

theorem Vec.view {ω' : Own?} {own : Bool} {ow : Nm × Option Nat} {h : Hd} {E : TypeId} {len : Nat} {cell cell' : Nat → Value → Prop} (hv : Vec own ω w ow h E len cell) (hn : ∀ b, ω b = none → ω' b = none) (ho : ∀ b, ω b = some ow → ω' b = none) (hc : ∀ j u, cell j u → cell' j u) : Vec false ω' w ow h E len cell' := by
  refine ⟨hv.cap, fun j hj => ?_⟩
  cases own with
  | true =>
    rcases hv with ⟨_, _, h0⟩ | ⟨b, o, cs, h1, h2, h3, h4, h5, h6, h7⟩
    · omega
    · obtain ⟨u, hu, hcu⟩ := h7 j hj
      exact ⟨b, o, u, h1, ho b h2, lt_of_heap h3, by rw [cell_of_row w b (o + j) cs E (0, 0) h3]; exact hu, hc j u hcu⟩
  | false =>
    obtain ⟨b, o, u, h1, h2, h3, h4, h5⟩ := hv.2 j hj
    exact ⟨b, o, u, h1, hn b h2, h3, h4, hc j u h5⟩
theorem ChIs.view {ω' : Own?} {x : Nm} {h : Hd} {c : Ch} (hc : ChIs η ω w x h c) (hn : ∀ b, ω b = none → ω' b = none) (ho : ∀ b i, ω b = some (x, i) → ω' b = none) {η' : Env} (hr : ∀ i, η'.r x i = η.r x i) (hm : ∀ l, c.d = .flat l → ∀ a ∈ l, a.mono η η') : ChIs η' ω' w x h { c with own := false } := by
  refine ⟨hc.1, hc.2.view hn (fun b => ho b none) fun j u hu => ?_⟩
  show cellsOK η' ω' w false x c.d j u
  cases hd : c.d with
  | flat l => rw [hd] at hu; exact fun a ha => (hu a ha).mono (hm l hd a (List.mem_of_getElem? ha))
  | vals vs => rw [hd] at hu; exact hu
  | rows E vss holes =>
    rw [hd] at hu
    refine ⟨hu.1, fun hj vs hvs => ?_⟩
    obtain ⟨h1, h2, h3⟩ := hu.2 hj vs hvs
    rw [hr j]
    exact ⟨h1, h2, h3.view hn (fun b => ho b (some j)) fun _ _ h => h⟩
  | mix cs => rw [hd] at hu; exact ⟨hu.1, fun c hc => (hu.2 c hc).move (hr j) fun _ _ _ _ _ h3 => h3.view hn (fun b => ho b (some j)) fun _ _ h => h⟩
theorem ChIs.own {ω' : Own?} {x : Nm} {h : Hd} {c : Ch} (hc : ChIs η ω w x h c) (hs : Same ω w ω' w (fun o => o = none ∨ ∃ i, o = some (x, i))) {η' : Env} (hr : ∀ i, η'.r x i = η.r x i) (hm : ∀ l, c.d = .flat l → ∀ a ∈ l, a.mono η η') : ChIs η' ω' w x h c :=
  ChIs.same hs (.inl rfl) (fun i => .inr ⟨i, rfl⟩) hr hm hc

theorem VecO.same {ω' : Own?} {w' : World} {ow : Nm × Option Nat} {h : Hd} {E : TypeId} {len : Nat} {cell cell' : Nat → Value → Prop} (hs : ∀ b, b < w.heap.size → ω b = some ow → w'.heap[b]? = w.heap[b]? ∧ ω' b = some ow)
    (hc : ∀ j u, cell j u → cell' j u) (hv : VecO ω w ow h E len cell) : VecO ω' w' ow h E len cell' := by
  rcases hv with h0 | ⟨b, o, cs, h1, h2, h3, h4, h5, h6, h7⟩
  · exact .inl h0
  · have hb := hs b (lt_of_heap h3) h2
    refine .inr ⟨b, o, cs, h1, hb.2, hb.1.trans h3, h4, h5, h6, fun j hj => ?_⟩
    obtain ⟨u, hu, hcu⟩ := h7 j hj
    exact ⟨u, hu, hc j u hcu⟩
theorem ChIs.sameO {ω' : Own?} {w' : World} {x : Nm} {h : Hd} {c : Ch} {η' : Env} (hown : c.own = true) (hs : ∀ b i, b < w.heap.size → ω b = some (x, i) → w'.heap[b]? = w.heap[b]? ∧ ω' b = some (x, i)) (hr : ∀ i, η'.r x i = η.r x i)
    (hm : ∀ l, c.d = .flat l → ∀ a ∈ l, a.mono η η') (hc : ChIs η ω w x h c) : ChIs η' ω' w' x h c := by
  obtain ⟨h1, h2⟩ := hc
  refine ⟨h1, ?_⟩
  rw [hown] at h2 ⊢
  refine VecO.same (fun b => hs b none) (fun j u hu => ?_) h2
  cases hd : c.d with
  | flat l => rw [hd] at hu; exact fun a ha => (hu a ha).mono (hm l hd a (List.mem_of_getElem? ha))
  | vals vs => rw [hd] at hu; exact hu
  | rows E vss holes =>
    rw [hd] at hu
    refine ⟨hu.1, fun hj vs hvs => ?_⟩
    obtain ⟨h1, h2, h3⟩ := hu.2 hj vs hvs
    rw [hr j]
    exact ⟨h1, h2, VecO.same (fun b => hs b (some j)) (fun _ _ h => h) h3⟩
  | mix cs => rw [hd] at hu; exact ⟨hu.1, fun c hc => celOK.move (own := true) (own' := true) (hr j) (fun _ _ _ _ _ h3 => VecO.same (fun b => hs b (some j)) (fun _ _ h => h) h3) (hu.2 c hc)⟩
theorem lk_mem {α : Type} : ∀ {l : List (Nat × α)} {t : Nat} {a : α}, lk t l = some a → (t, a) ∈ l
  | [], _, _, h => by cases h
  | (t', a') :: r, t, a, h => by
    unfold lk at h
    cases hb : Nat.beq t t' with
    | true => rw [hb] at h; simp at h; subst h; rw [beq_true hb]; exact List.mem_cons_self
    | false => rw [hb] at h; exact List.mem_cons_of_mem _ (lk_mem h)
theorem Ch.names_mem {c : Ch} {l : List A1} {a : A1} {x : Nm} (hd : c.d = .flat l) (ha : a ∈ l) (hx : a.has x = true) : x ∈ c.names := by
  unfold Ch.names; rw [hd]; exact List.mem_flatMap.2 ⟨a, ha, A1.has_names hx⟩

theorem stp_call {f : FuncId} {xs : Array Operand} {ts : Array TypeId} {dst : Option Nat} {ty : TypeId} {ps : String} {af : Array Edge} {gd : Option (Nat × Bool)} {ins outs : List (Nm × Ch)} {args args' : List AV} {res : AV} {back : List (Nat × AV)} (kp : List (Nat × Nm))
    (hfc : FC P f ins args outs res back) (hf : goFnB P f = true) (ht : (dst.map fun t => Nat.blt t nt) != some false) (hx' : opL S xs.toList = some args') (hto : allTo args' args) (hin : allIn S ins) (hkp : allKp ins args back kp)
    (hnr : (res.names.all (inL outs)) = true) (hno : (outs.all fun p => p.2.own && p.2.names.all (inL outs)) = true) :
    Stp P nt ⟨dst, .call { callee := .value (.func f), args := xs, argTypes := ts }, ty, ps, af, gd⟩ S ((S.after ins outs (kp.map (·.2))).putO dst res) := by
  classical
  refine ⟨fun w0 ω0 a w Q ⟨η, ω, hs⟩ => ?_⟩
  have hopsL : DenL η args (xs.toList.map a.eval) := (hs.opsL hx').to hto
  let η1 : Env := { η with h := fun x => if lk x ins = none then none else η.h x }
  let ω1 : Own? := fun b => match ω b with
    | some (x, i) => if consB ins x = true then some (x, i) else none
    | none => none
  have hω1n : ∀ b, ω b = none → ω1 b = none := fun b h => by simp only [ω1, h]
  have hω1s : ∀ b x i, ω b = some (x, i) → consB ins x = true → ω1 b = some (x, i) := fun b x i h h' => by simp only [ω1, h, if_pos h']
  have hω1f : ∀ b x i, ω b = some (x, i) → consB ins x = false → ω1 b = none := fun b x i h h' => by simp [ω1, h, h']
  have hη1 : ∀ x, η1.h x = none ∨ (η1.h x = η.h x ∧ ∀ i, η1.r x i = η.r x i) := fun x => by
    by_cases e : lk x ins = none
    · exact .inl (if_pos e)
    · exact .inr ⟨if_neg e, fun _ => rfl⟩
  have hmem : Mem η1 ω1 w fun x => lk x ins := by
    refine ⟨fun x c hx => ?_, fun x hx => if_pos hx⟩
    have hx : lk x ins = some c := hx
    obtain ⟨c', hc', hcc⟩ := allIn_lk hin hx
    obtain ⟨hd, h1, h2⟩ := hs.mem.1 x c' hc'
    refine ⟨hd, by simp only [η1]; rw [if_neg (by rw [hx]; simp)]; exact h1, ?_⟩
    by_cases hown : c.own = true
    · have hcc' : c' = c := by
        rcases hcc with h | h
        · exact h
        · rw [h] at hown; cases hown
      subst hcc'
      refine h2.own ⟨Nat.le_refl _, fun b hb hp => ⟨rfl, ?_⟩⟩ (fun _ => rfl) fun l _ a _ z _ => hη1 z
      rcases hp with hp | ⟨i, hp⟩
      · rw [hp]; exact hω1n b hp
      · rw [hp]; exact hω1s b x i hp (by unfold consB; rw [hx]; exact hown)
    · have hcons : consB ins x = false := by unfold consB; rw [hx]; simpa using hown
      have hc0 : c = { c' with own := false } := by
        rcases hcc with h | h
        · rw [h]; have : c.own = false := by simpa using hown
          rw [← this]
        · exact h
      rw [hc0]
      exact h2.view hω1n (fun b i hb => hω1f b x i hb hcons) (fun _ => rfl) fun l _ a _ z _ => hη1 z
  have hargs : DenL η1 args (xs.toList.map a.eval) := by
    obtain ⟨h1, h2⟩ := hopsL
    refine ⟨h1, fun j av hj => ?_⟩
    obtain ⟨u, h3, h4⟩ := h2 j av hj
    exact ⟨u, h3, h4.mono fun y _ => hη1 y⟩
  have hcall := hfc w η1 ω1 _ hmem hargs
  have hrun : (execOp a.eval ⟨dst, .call { callee := .value (.func f), args := xs, argTypes := ts }, ty, ps, af, gd⟩).run P w = .ok (.enter f (xs.toList.map a.eval).toArray) w := by
    have : (xs.toList.map a.eval).toArray = xs.map a.eval := by apply Array.ext'; simp
    rw [this]
    simp [execOp, resolve, Act.eval, Deferred.ofValue, invoke, goFnB_run hf]
  unfold Oper.wp
  rw [hrun, Oper.upon_enter]
  refine hcall.mono fun e w' hl => ?_
  obtain ⟨v, η2, ω2, rfl, hdv, hm2, hfr, hbk⟩ := hl
  have hdst : ∀ t, dst = some t → t < nt := fun t ht' => by subst ht'; simpa using ht
  let ω3 : Own? := fun b => if b < w.heap.size ∧ ω1 b = none then ω b else ω2 b
  let η3 : Env := { h := fun y => if inL outs y = true then η2.h y else if consB ins y = true then none else η.h y
                    r := fun y i => if inL outs y = true then η2.r y i else η.r y i }
  have hturn : Turn η η3 (inL outs) (memB (kp.map (·.2))) := fun y => by
    by_cases ho : inL outs y = true
    · refine .inr (.inr ⟨ho, fun hk h' he => ?_⟩)
      obtain ⟨hin', j, hj, hj'⟩ := allKp_mem hkp hk
      obtain ⟨u, hu, hdu⟩ := hbk j _ hj'
      obtain ⟨u', hu', hdu'⟩ := hopsL.2 j _ hj
      rw [hu] at hu'; obtain rfl := Option.some.inj hu'
      have he2 : η2.h y = some h' := by simp only [η3, if_pos ho] at he; exact he
      obtain ⟨b, o, g1, g2⟩ := (show Den1 η2 (.ptr y 0) u from hdu).2 h' he2
      obtain ⟨u'', hu'', hdu''⟩ := hargs.2 j _ hj
      have hlk : ∃ h, η.h y = some h := by
        obtain ⟨c, hc⟩ := Option.isSome_iff_exists.1 hin'
        obtain ⟨c', hc', _⟩ := allIn_lk hin hc
        obtain ⟨h, hh, _⟩ := hs.mem.1 y c' hc'
        exact ⟨h, hh⟩
      obtain ⟨h, hh⟩ := hlk
      obtain ⟨b', o', g1', g2'⟩ := (show Den1 η (.ptr y 0) u from hdu').2 h hh
      rw [g2] at g2'
      injection g2' with g2'; injection g2' with g2'; injection g2' with g2' g3'
      refine ⟨h, hh, ?_⟩
      rw [g1, g1']
      subst g2'
      simp at g3'
      rw [g3']
    · by_cases hc : consB ins y = true
      · exact .inl (by simp only [η3, if_neg ho, if_pos hc])
      · exact .inr (.inl ⟨by simp only [η3, if_neg ho, if_neg hc], fun i => by simp only [η3, if_neg ho]⟩)
  have hω3 : ∀ b, b < w.heap.size → ω1 b = none → ω3 b = ω b := fun b h1 h2 => by simp only [ω3, if_pos (And.intro h1 h2)]
  have hb3 : ∀ b, b < w.heap.size → ω1 b = none → w'.heap[b]? = w.heap[b]? := fun b h1 h2 => (hfr.block b h1 h2).1
  have hω32 : ∀ b o, ω2 b = some o → ω3 b = some o := fun b o h => by
    by_cases e : b < w.heap.size ∧ ω1 b = none
    · have := (hfr.block b e.1 e.2).2
      rw [this] at h; cases h
    · simp only [ω3, if_neg e, h]
  have hsame : Same ω w ω3 w' (fun o => o = none ∨ ∃ y i, o = some (y, i) ∧ consB ins y = false) := by
    refine ⟨hfr.size, fun b hb hp => ?_⟩
    have h1 : ω1 b = none := by
      rcases hp with h | ⟨y, i, h, hc⟩
      · exact hω1n b h
      · exact hω1f b y i h hc
    exact ⟨hb3 b hb h1, hω3 b hb h1⟩
  have hst : SatE w0 ω0 nt (S.after ins outs (kp.map (·.2))) η3 ω3 a w' := by
    refine { dfr := hs.dfr, tsz := hs.tsz, slots := fun t av ht' => ?_, phs := fun t av ht' => ?_, mem := ⟨fun y c hy => ?_, fun y hy => ?_⟩, fr := ?_ }
    · obtain ⟨h1, h2⟩ := bind_bad ht'
      obtain ⟨u, h3, h4⟩ := hs.slots t av h1
      exact ⟨u, h3, h4.turn hturn h2⟩
    · obtain ⟨h1, h2⟩ := bind_bad ht'
      obtain ⟨u, h3, h4⟩ := hs.phs t av h1
      exact ⟨u, h3, h4.turn hturn h2⟩
    · have hy : (match lk y outs with
        | some c => some c
        | none => bif consB ins y then none else (S.ch y).map (Ch.clean (inL outs) (memB (kp.map (·.2))))) = some c := hy
      cases hl : lk y outs with
      | some c1 =>
        rw [hl] at hy
        obtain rfl := Option.some.inj hy
        have ho : inL outs y = true := by unfold inL; rw [hl]; rfl
        obtain ⟨hd, h1, h2⟩ := hm2.1 y c1 hl
        refine ⟨hd, by simp only [η3, if_pos ho]; exact h1, ?_⟩
        have hall := List.all_eq_true.1 hno _ (lk_mem hl)
        simp only [Bool.and_eq_true] at hall
        refine ChIs.sameO (η := η2) (ω := ω2) (w := w') hall.1 (fun b i _ hb => ⟨rfl, hω32 b _ hb⟩) (fun i => by simp only [η3, if_pos ho]) (fun l hlf b1 hb1 z hz => ?_) h2
        have hz' : inL outs z = true := List.all_eq_true.1 hall.2 z (Ch.names_mem hlf hb1 hz)
        exact .inr ⟨by simp only [η3, if_pos hz'], fun i => by simp only [η3, if_pos hz']⟩
      | none =>
        rw [hl] at hy
        have ho : inL outs y = false := by unfold inL; rw [hl]; rfl
        cases hc : consB ins y with
        | true => rw [hc] at hy; cases hy
        | false =>
          rw [hc] at hy
          simp only [cond_false, Option.map_eq_some_iff] at hy
          obtain ⟨c0, hc0, rfl⟩ := hy
          obtain ⟨hd, h1, h2⟩ := hs.mem.1 y c0 hc0
          refine ⟨hd, by simp only [η3, ho, hc]; exact h1, ?_⟩
          exact h2.turn hsame (.inl rfl) (fun i => .inr ⟨y, i, rfl, hc⟩) (fun i => by simp only [η3, ho]; rfl) hturn
    · have hy : (match lk y outs with
        | some c => some c
        | none => bif consB ins y then none else (S.ch y).map (Ch.clean (inL outs) (memB (kp.map (·.2))))) = none := hy
      cases hl : lk y outs with
      | some c1 => rw [hl] at hy; cases hy
      | none =>
        rw [hl] at hy
        have ho : inL outs y = false := by unfold inL; rw [hl]; rfl
        cases hc : consB ins y with
        | true => simp only [η3, ho, hc]; rfl
        | false =>
          rw [hc] at hy
          simp only [cond_false, Option.map_eq_none_iff] at hy
          simp only [η3, ho, hc]
          exact hs.mem.2 y hy
    · refine ⟨hfr.os.trans hs.fr.os, hfr.tape.trans hs.fr.tape, hfr.output.trans hs.fr.output, Nat.le_trans hs.fr.size hfr.size, fun b hb hn => ?_⟩
      obtain ⟨h1, h2⟩ := hs.fr.block b hb hn
      have hlt := Nat.lt_of_lt_of_le hb hs.fr.size
      exact ⟨(hb3 b hlt (hω1n b h2)).trans h1, (hω3 b hlt (hω1n b h2)).trans h2⟩
  cases dst with
  | none => exact ⟨η3, ω3, hst⟩
  | some t => exact ⟨η3, ω3, hst.putV (hdst t rfl) (hdv.mono fun y hy => by
      have hz' : inL outs y = true := List.all_eq_true.1 hnr y (AV.has_names hy)
      exact .inr ⟨by simp only [η3, if_pos hz'], fun i => by simp only [η3, if_pos hz']⟩)⟩
end
end Go.Proofs.Ytnfkhgamnapgmaa

/- A memory of names: a contract under other names. No program in sight. -/
namespace Go.Proofs.Ytnfkhgamnapgmaa
open Go.RowKit

def A1.ren (σ : Nm → Nm) : A1 → A1
  | .val v => .val v
  | .any => .any
  | .sl x o n => .sl (σ x) o n
  | .ptr x o => .ptr (σ x) o
  | .esl x i o n => .esl (σ x) i o n
  | .eptr x i o => .eptr (σ x) i o
  | .clo f xs => .clo f (xs.map fun p => (σ p.1, p.2))
def A2.ren (σ : Nm → Nm) : A2 → A2
  | .one a => .one (a.ren σ)
  | .agg l => .agg (l.map (A1.ren σ))
def AV.ren (σ : Nm → Nm) : AV → AV
  | .s a => .s (a.ren σ)
  | .tup l => .tup (l.map (A2.ren σ))
def Dat.ren (σ : Nm → Nm) : Dat → Dat
  | .flat l => .flat (l.map (A1.ren σ))
  | .vals vs => .vals vs
  | .rows E vss holes => .rows E vss holes
  | .mix cs => .mix cs
def Ch.ren (σ : Nm → Nm) (c : Ch) : Ch := ⟨c.own, c.E, c.k, c.d.ren σ⟩
def renL (σ : Nm → Nm) (l : List (Nm × Ch)) : List (Nm × Ch) := l.map fun p => (σ p.1, p.2.ren σ)
def renB (σ : Nm → Nm) (l : List (Nat × AV)) : List (Nat × AV) := l.map fun p => (p.1, p.2.ren σ)

def Env.pull (η : Env) (σ : Nm → Nm) : Env := { h := fun x => η.h (σ x), r := fun x => η.r (σ x) }
theorem den1_ren {η : Env} {σ : Nm → Nm} {a : A1} {u : Value} : Den1 η (a.ren σ) u ↔ Den1 (η.pull σ) a u := by
  cases a with
  | clo f xs =>
    constructor
    · rintro ⟨us, h1, h2, h3⟩
      refine ⟨us, h1, by simpa using h2, fun j p hp => ?_⟩
      exact h3 j (σ p.1, p.2) (by simp [hp])
    · rintro ⟨us, h1, h2, h3⟩
      refine ⟨us, h1, by simpa using h2, fun j p hp => ?_⟩
      simp only [List.getElem?_map, Option.map_eq_some_iff] at hp
      obtain ⟨q, hq, rfl⟩ := hp
      exact h3 j q hq
  | _ => exact Iff.rfl
theorem den2_ren {η : Env} {σ : Nm → Nm} {a : A2} {u : Value} : Den2 η (a.ren σ) u ↔ Den2 (η.pull σ) a u := by
  cases a with
  | one a => exact den1_ren
  | agg l =>
    constructor
    · rintro ⟨us, h1, h2, h3⟩
      refine ⟨us, h1, by simpa using h2, fun j a ha => ?_⟩
      obtain ⟨u', h4, h5⟩ := h3 j (a.ren σ) (by simp [ha])
      exact ⟨u', h4, den1_ren.1 h5⟩
    · rintro ⟨us, h1, h2, h3⟩
      refine ⟨us, h1, by simpa using h2, fun j a ha => ?_⟩
      simp only [List.getElem?_map, Option.map_eq_some_iff] at ha
      obtain ⟨q, hq, rfl⟩ := ha
      obtain ⟨u', h4, h5⟩ := h3 j q hq
      exact ⟨u', h4, den1_ren.2 h5⟩
theorem den_ren {η : Env} {σ : Nm → Nm} {a : AV} {u : Value} : Den η (a.ren σ) u ↔ Den (η.pull σ) a u := by
  cases a with
  | s a => exact den2_ren
  | tup l =>
    constructor
    · rintro ⟨us, h1, h2, h3⟩
      refine ⟨us, h1, by simpa using h2, fun j a ha => ?_⟩
      obtain ⟨u', h4, h5⟩ := h3 j (a.ren σ) (by simp [ha])
      exact ⟨u', h4, den2_ren.1 h5⟩
    · rintro ⟨us, h1, h2, h3⟩
      refine ⟨us, h1, by simpa using h2, fun j a ha => ?_⟩
      simp only [List.getElem?_map, Option.map_eq_some_iff] at ha
      obtain ⟨q, hq, rfl⟩ := ha
      obtain ⟨u', h4, h5⟩ := h3 j q hq
      exact ⟨u', h4, den2_ren.2 h5⟩

section
variable {η : Env} {ω ω' : Own?} {w : World} {σ : Nm → Nm}
theorem Vec.ow {own : Bool} {ow ow' : Nm × Option Nat} {h : Hd} {E : TypeId} {len : Nat} {cell cell' : Nat → Value → Prop} (hn : ∀ b, ω b = none → ω' b = none) (ho : ∀ b, ω b = some ow → ω' b = some ow') (hc : ∀ j u, cell j u → cell' j u) (hv : Vec own ω w ow h E len cell) : Vec own ω' w ow' h E len cell' := by
  cases own with
  | true =>
    rcases hv with h0 | ⟨b, o, cs, h1, h2, h3, h4, h5, h6, h7⟩
    · exact .inl h0
    · refine .inr ⟨b, o, cs, h1, ho b h2, h3, h4, h5, h6, fun j hj => ?_⟩
      obtain ⟨u, hu, hcu⟩ := h7 j hj
      exact ⟨u, hu, hc j u hcu⟩
  | false =>
    refine ⟨hv.1, fun j hj => ?_⟩
    obtain ⟨b, o, u, h1, h2, h3, h4, h5⟩ := hv.2 j hj
    exact ⟨b, o, u, h1, hn b h2, h3, h4, hc j u h5⟩
theorem dat_len_ren (d : Dat) : (d.ren σ).len = d.len := by cases d <;> simp [Dat.ren, Dat.len]
theorem ChIs.pull {x : Nm} {h : Hd} {c : Ch} (hn : ∀ b, ω b = none → ω' b = none) (ho : ∀ b i, ω b = some (σ x, i) → ω' b = some (x, i)) (hc : ChIs η ω w (σ x) h (c.ren σ)) : ChIs (η.pull σ) ω' w x h c := by
  refine ⟨hc.1, ?_⟩
  have h2 : Vec c.own ω w (σ x, none) h c.E (c.d.ren σ).len (cellsOK η ω w c.own (σ x) (c.d.ren σ)) := hc.2
  rw [dat_len_ren] at h2
  refine h2.ow hn (fun b => ho b none) fun j u hu => ?_
  cases hd : c.d with
  | flat l => rw [hd] at hu; exact fun a ha => den1_ren.1 (hu (a.ren σ) (by simp [ha]))
  | vals vs => rw [hd] at hu; exact hu
  | rows E vss holes =>
    rw [hd] at hu
    refine ⟨hu.1, fun hj vs hvs => ?_⟩
    obtain ⟨h1, h2, h3⟩ := hu.2 hj vs hvs
    exact ⟨h1, h2, h3.ow hn (fun b => ho b (some j)) fun _ _ h => h⟩
  | mix cs => rw [hd] at hu; exact ⟨hu.1, fun c hc => celOK.move (η := η) (η' := η.pull σ) (x := σ x) (x' := x) rfl (fun _ _ _ _ _ h3 => h3.ow hn (fun b => ho b (some j)) fun _ _ h => h) (hu.2 c hc)⟩
theorem ChIs.push {x : Nm} {h : Hd} {c : Ch} (hn : ∀ b, ω b = none → ω' b = none) (ho : ∀ b i, ω b = some (x, i) → ω' b = some (σ x, i)) (hc : ChIs (η.pull σ) ω w x h c) : ChIs η ω' w (σ x) h (c.ren σ) := by
  refine ⟨hc.1, ?_⟩
  show Vec c.own ω' w (σ x, none) h c.E (c.d.ren σ).len (cellsOK η ω' w c.own (σ x) (c.d.ren σ))
  rw [dat_len_ren]
  refine hc.2.ow hn (fun b => ho b none) fun j u hu => ?_
  cases hd : c.d with
  | flat l =>
    rw [hd] at hu
    intro a ha
    simp only [List.getElem?_map, Option.map_eq_some_iff] at ha
    obtain ⟨q, hq, rfl⟩ := ha
    exact den1_ren.2 (hu q hq)
  | vals vs => rw [hd] at hu; exact hu
  | rows E vss holes =>
    rw [hd] at hu
    refine ⟨hu.1, fun hj vs hvs => ?_⟩
    obtain ⟨h1, h2, h3⟩ := hu.2 hj vs hvs
    exact ⟨h1, h2, h3.ow hn (fun b => ho b (some j)) fun _ _ h => h⟩
  | mix cs => rw [hd] at hu; exact ⟨hu.1, fun c hc => celOK.move (η := η.pull σ) (η' := η) (x := x) (x' := σ x) rfl (fun _ _ _ _ _ h3 => h3.ow hn (fun b => ho b (some j)) fun _ _ h => h) (hu.2 c hc)⟩
theorem lk_renL (hi : ∀ x y, σ x = σ y → x = y) : ∀ (l : List (Nm × Ch)) (x : Nm), lk (σ x) (renL σ l) = (lk x l).map (Ch.ren σ)
  | [], _ => rfl
  | (y, c) :: r, x => by
    simp only [renL, List.map_cons, lk]
    by_cases e : x = y
    · subst e; simp
    · rw [beq_ne e, beq_ne fun h => e (hi _ _ h)]; exact lk_renL hi r x
theorem lk_renL_mem {l : List (Nm × Ch)} {y : Nm} {c : Ch} (h : lk y (renL σ l) = some c) : ∃ x, σ x = y := by
  obtain ⟨p, _, hp⟩ := List.mem_map.1 (lk_mem h)
  simp only [Prod.mk.injEq] at hp
  exact ⟨p.1, hp.1⟩
theorem lk_renB : ∀ (l : List (Nat × AV)) (t : Nat), lk t (renB σ l) = (lk t l).map (AV.ren σ)
  | [], _ => rfl
  | (y, c) :: r, t => by
    simp only [renB, List.map_cons, lk]
    cases Nat.beq t y with
    | true => rfl
    | false => exact lk_renB r t

open Classical in
theorem FC.ren {P : Program} {f : FuncId} {ins outs : List (Nm × Ch)} {args : List AV} {res : AV} {back : List (Nat × AV)} (hi : ∀ x y, σ x = σ y → x = y) (h : FC P f ins args outs res back) : FC P f (renL σ ins) (args.map (AV.ren σ)) (renL σ outs) (res.ren σ) (renB σ back) := by
  intro w η ω us hm hd
  let inv : Nm → Option Nm := fun y => if h : ∃ x, σ x = y then some (Classical.choose h) else none
  have hinv : ∀ x, inv (σ x) = some x := fun x => by
    have hx : ∃ z, σ z = σ x := ⟨x, rfl⟩
    simp only [inv, dif_pos hx]
    exact congrArg some (hi _ _ (Classical.choose_spec hx))
  let ω1 : Own? := fun b => (ω b).bind fun o => (inv o.1).map fun x => (x, o.2)
  have m1 : Mem (η.pull σ) ω1 w fun x => lk x ins := by
    refine ⟨fun x c hx => ?_, fun x hx => ?_⟩
    · have hx : lk x ins = some c := hx
      obtain ⟨hq, h1, h2⟩ := hm.1 (σ x) (c.ren σ) (by show lk (σ x) (renL σ ins) = _; rw [lk_renL hi, hx]; rfl)
      exact ⟨hq, h1, ChIs.pull (ω := ω) (fun b hb => by simp only [ω1, hb]; rfl) (fun b i hb => by simp only [ω1, hb, Option.bind_some, hinv, Option.map_some]) h2⟩
    · have hx : lk x ins = none := hx
      exact hm.2 (σ x) (by show lk (σ x) (renL σ ins) = none; rw [lk_renL hi, hx]; rfl)
  have d1 : DenL (η.pull σ) args us := by
    refine ⟨by have := hd.1; simpa using this, fun j av hj => ?_⟩
    obtain ⟨u, h1, h2⟩ := hd.2 j (av.ren σ) (by simp [hj])
    exact ⟨u, h1, den_ren.1 h2⟩
  refine (h w _ ω1 us m1 d1).mono fun e w' hl => ?_
  obtain ⟨v, η2, ω2, he, hv, hm2, hfr, hb⟩ := hl
  let η3 : Env := { h := fun y => (inv y).bind η2.h, r := fun y => match inv y with | some x => η2.r x | none => fun _ => ⟨none, 0, 1⟩ }
  have hp : η3.pull σ = η2 := by
    have h1 : (η3.pull σ).h = η2.h := by funext x; simp only [Env.pull, η3, hinv, Option.bind_some]
    have h2 : (η3.pull σ).r = η2.r := by funext x; simp only [Env.pull, η3, hinv]
    cases hq : η3.pull σ; rw [hq] at h1 h2; cases η2; simp only at h1 h2; rw [h1, h2]
  refine ⟨v, η3, fun b => (ω2 b).map fun o => (σ o.1, o.2), he, den_ren.2 (hp ▸ hv), ⟨fun y c hy => ?_, fun y hy => ?_⟩, ⟨hfr.os, hfr.tape, hfr.output, hfr.size, fun b hb1 hb2 => ?_⟩, fun t av ht => ?_⟩
  · have hy : lk y (renL σ outs) = some c := hy
    obtain ⟨x, rfl⟩ := lk_renL_mem hy
    rw [lk_renL hi, Option.map_eq_some_iff] at hy
    obtain ⟨c0, hc0, rfl⟩ := hy
    obtain ⟨hq, h1, h2⟩ := hm2.1 x c0 hc0
    refine ⟨hq, by simp only [η3, hinv, Option.bind_some]; exact h1, ?_⟩
    refine ChIs.push (ω := ω2) (fun b hb => by simp [hb]) (fun b i hb => by simp [hb]) ?_
    rw [hp]; exact h2
  · have hy : lk y (renL σ outs) = none := hy
    cases hiv : inv y with
    | none => simp only [η3, hiv, Option.bind_none]
    | some x =>
      have hxy : σ x = y := by
        simp only [inv] at hiv
        split at hiv
        · rename_i hx; have := Option.some.inj hiv; rw [← this]; exact Classical.choose_spec hx
        · cases hiv
      subst hxy
      rw [lk_renL hi, Option.map_eq_none_iff] at hy
      simp only [η3, hiv, Option.bind_some]
      exact hm2.2 x hy
  · have h1 : ω1 b = none := by simp only [ω1, hb2]; rfl
    obtain ⟨h2, h3⟩ := hfr.block b hb1 h1
    exact ⟨h2, by simp [h3]⟩
  · rw [lk_renB, Option.map_eq_some_iff] at ht
    obtain ⟨a0, ha0, rfl⟩ := ht
    obtain ⟨u, h1, h2⟩ := hb t a0 ha0
    exact ⟨u, h1, den_ren.2 (hp ▸ h2)⟩
end

/-- names by a list of pairs; whoever is not in it moves far away -/
def nm (l : List (Nm × Nm)) (x : Nm) : Nm := match lk x l with
  | some y => y
  | none => x + 1000000
def nmB : List (Nm × Nm) → Bool
  | [] => true
  | (_, y) :: r => Nat.blt y 1000000 && !(r.any fun p => Nat.beq y p.2) && nmB r
theorem nmB_lt : ∀ {l : List (Nm × Nm)}, nmB l = true → ∀ p ∈ l, p.2 < 1000000
  | [], _, p, h => by cases h
  | q :: r, hb, p, h => by
    obtain ⟨x, y⟩ := q
    simp only [nmB, Bool.and_eq_true] at hb
    rcases List.mem_cons.1 h with rfl | h
    · simpa using hb.1.1
    · exact nmB_lt hb.2 p h
theorem nmB_inj : ∀ {l : List (Nm × Nm)}, nmB l = true → ∀ x x' y, lk x l = some y → lk x' l = some y → x = x'
  | [], _, _, _, _, h, _ => by cases h
  | q :: r, hb, x, x', y, h, h' => by
    obtain ⟨z, v⟩ := q
    simp only [nmB, Bool.and_eq_true, Bool.not_eq_true'] at hb
    have hno : ∀ x y, lk x r = some y → y ≠ v := fun x y hx e => by
      have := List.any_eq_false.1 hb.1.2 _ (lk_mem hx)
      rw [e] at this; simp at this
    unfold lk at h h'
    by_cases e : x = z
    · subst e
      simp at h; subst h
      by_cases e' : x' = x
      · exact e'.symm
      · rw [beq_ne e'] at h'; exact absurd rfl (hno x' _ h')
    · rw [beq_ne e] at h
      by_cases e' : x' = z
      · subst e'; simp at h'; subst h'; exact absurd rfl (hno x _ h)
      · rw [beq_ne e'] at h'; exact nmB_inj hb.2 x x' y h h'
theorem nm_inj {l : List (Nm × Nm)} (hb : nmB l = true) : ∀ x y, nm l x = nm l y → x = y := by
  intro x y h
  unfold nm at h
  cases hx : lk x l with
  | none =>
    cases hy : lk y l with
    | none => rw [hx, hy] at h; simpa using h
    | some v =>
      rw [hx, hy] at h
      have h1 : Nat.add x 1000000 = v := h
      have h2 : Nat.lt v 1000000 := nmB_lt hb _ (lk_mem hy)
      rw [← h1] at h2
      exact absurd h2 (Nat.not_lt.2 (Nat.le_add_left _ _))
  | some u =>
    cases hy : lk y l with
    | none =>
      rw [hx, hy] at h
      have h1 : u = Nat.add y 1000000 := h
      have h2 : Nat.lt u 1000000 := nmB_lt hb _ (lk_mem hx)
      rw [h1] at h2
      exact absurd h2 (Nat.not_lt.2 (Nat.le_add_left _ _))
    | some v => rw [hx, hy] at h; simp at h; subst h; exact nmB_inj hb x y _ hx hy
theorem FC.nm {P : Program} {f : FuncId} {ins outs : List (Nm × Ch)} {args : List AV} {res : AV} {back : List (Nat × AV)} (h : FC P f ins args outs res back) (l : List (Nm × Nm)) (hb : nmB l = true) :
    FC P f (renL (nm l) ins) (args.map (AV.ren (nm l))) (renL (nm l) outs) (res.ren (nm l)) (renB (nm l) back) := FC.ren (nm_inj hb) h
end Go.Proofs.Ytnfkhgamnapgmaa

/- A memory of names: structs loaded and stored whole; the everyday forms of the rules. No program in sight. -/
namespace Go.Proofs.Ytnfkhgamnapgmaa
open Go.RowKit

abbrev I6 (z : Int) : Value := .int .i64 z
def ivals (zs : List Int) : List Value := zs.map I6
def irows (zss : List (List Int)) : List (List Value) := zss.map ivals
theorem ivals_len (zs : List Int) : (ivals zs).length = zs.length := by simp [ivals]
theorem irows_len (zss : List (List Int)) : (irows zss).length = zss.length := by simp [irows]
theorem ivals_get {zs : List Int} {j : Nat} (h : j < zs.length) : (ivals zs)[j]? = some (I6 (iget zs j)) := by simp [ivals, iget_lt h, h]
theorem irows_get {zss : List (List Int)} {j : Nat} (h : j < zss.length) : (irows zss)[j]? = some (ivals (lget zss j)) := by simp [irows, lget_lt h, h]
theorem ivals_set (zs : List Int) (j : Nat) (z : Int) : (ivals zs).set j (I6 z) = ivals (zs.set j z) := by simp [ivals, List.map_set]
theorem irows_set (zss : List (List Int)) (j : Nat) (zs : List Int) : (irows zss).set j (ivals zs) = irows (zss.set j zs) := by simp [irows, List.map_set]
theorem ivals_app (zs : List Int) (z : Int) : ivals zs ++ [I6 z] = ivals (zs ++ [z]) := by simp [ivals]
theorem irows_app (zss : List (List Int)) (zs : List Int) : irows zss ++ [ivals zs] = irows (zss ++ [zs]) := by simp [irows]

section
variable {P : Program} {nt : Nat} {S S' : St} {w0 w : World} {ω0 : Beg} {ω : Own?} {η : Env} {a : Act}
variable {t : Nat} {ty : TypeId} {ps : String} {af : Array Edge} {gd : Option (Nat × Bool)} {x y : Operand} {av : AV}

theorem stp_loadAgg {T : TypeId} {n : Nm} {k : Nat} {c : Ch} {l : List A1} (ht : Nat.blt t nt = true) (hx : S.op x = some (o1 (.ptr n 0))) (hc : S.ch n = some c) (hd : c.d = .flat l) (hk : l.length = k) (hk0 : Nat.blt 0 k = true) (hT : aggB P T k = true) :
    Stp P nt ⟨some t, .load T x, ty, ps, af, gd⟩ S (S.put t (.s (.agg l))) :=
  Stp.pure rfl ht fun _ _ η _ a w hs => by
    obtain ⟨ad, u, h1, h2, h3⟩ := hs.readAgg (P := P) (hs.opv hx) hc hd (by omega) (by simpa using hk0) hT
    rw [List.drop_zero, List.take_of_length_le (by omega)] at h3
    exact ⟨u, by simp [execOp, h1, Instr.loadAt, Instr.sureAddr, h2], h3⟩
theorem stp_ix {T : TypeId} {n : Nm} {len j : Nat} {c : Ch} {ki : IntKind} {i : Int} (ht : Nat.blt t nt = true) (hx : S.op x = some (o1 (.sl n 0 len))) (hy : S.op y = some (vv (.int ki i))) (hc : S.ch n = some c) (hk : c.k = 1) (hT : elemB P T 1 = true)
    (hi : i = (j : Int)) (hj : j < len) (hl : len ≤ c.d.len) : Stp P nt ⟨some t, .indexAddr T x y, ty, ps, af, gd⟩ S (S.put t (o1 (.ptr n j))) := by
  have := stp_indexAddr (P := P) (nt := nt) (S := S) (t := t) (ty := ty) (ps := ps) (af := af) (gd := gd) (x := x) (y := y) ht hx hy hc hk hT hi hj (by omega) (by omega)
  rwa [Nat.zero_add, Nat.mul_one] at this
theorem stp_ixE {T : TypeId} {n : Nm} {i0 len j : Nat} {c : Ch} {E : TypeId} {vss : List (List Value)} {vs : List Value} {ki : IntKind} {i : Int} (ht : Nat.blt t nt = true) (hx : S.op x = some (o1 (.esl n i0 0 len)))
    (hy : S.op y = some (vv (.int ki i))) (hc : S.ch n = some c) (hd : c.d = .rows E vss []) (hT : elemB P T 1 = true) (hi0 : vss[i0]? = some vs) (hi : i = (j : Int)) (hj : j < len) (hl : len ≤ vs.length) :
    Stp P nt ⟨some t, .indexAddr T x y, ty, ps, af, gd⟩ S (S.put t (o1 (.eptr n i0 j))) := by
  have := stp_indexAddrE (P := P) (nt := nt) (S := S) (t := t) (ty := ty) (ps := ps) (af := af) (gd := gd) (x := x) (y := y) ht hx hy hc hd hT (by simp) hi0 hi hj (by omega)
  rwa [Nat.zero_add] at this
theorem stp_loadV {T : TypeId} {n : Nm} {i : Nat} {c : Ch} {vs : List Value} {v : Value} (ht : Nat.blt t nt = true) (hT : oneB P T = true) (hx : S.op x = some (o1 (.ptr n i))) (hc : S.ch n = some c) (hd : c.d = .vals vs) (hv : vs[i]? = some v) :
    Stp P nt ⟨some t, .load T x, ty, ps, af, gd⟩ S (S.put t (vv v)) := stp_load ht hT hx hc (by rw [hd]; show vs[i]?.map A1.val = _; rw [hv]; rfl)
theorem stp_loadF {T : TypeId} {n : Nm} {i : Nat} {c : Ch} {l : List A1} {b : A1} (ht : Nat.blt t nt = true) (hT : oneB P T = true) (hx : S.op x = some (o1 (.ptr n i))) (hc : S.ch n = some c) (hd : c.d = .flat l) (hv : l[i]? = some b) :
    Stp P nt ⟨some t, .load T x, ty, ps, af, gd⟩ S (S.put t (o1 b)) := stp_load ht hT hx hc (by rw [hd]; exact hv)
theorem stp_loadR {T : TypeId} {n : Nm} {i : Nat} {c : Ch} {E : TypeId} {vss : List (List Value)} {vs : List Value} {m : Nat} (ht : Nat.blt t nt = true) (hT : oneB P T = true) (hx : S.op x = some (o1 (.ptr n i))) (hc : S.ch n = some c) (hd : c.d = .rows E vss []) (hv : vss[i]? = some vs) (hm : vs.length = m) :
    Stp P nt ⟨some t, .load T x, ty, ps, af, gd⟩ S (S.put t (o1 (.esl n i 0 m))) := stp_load ht hT hx hc (by rw [hd]; subst hm; show (if [].contains i then none else vss[i]?.map fun vs => A1.esl n i 0 vs.length) = _; rw [hv]; simp)
theorem stp_loadE' {T : TypeId} {n : Nm} {i j : Nat} {c : Ch} {E : TypeId} {vss : List (List Value)} {vs : List Value} {v : Value} (ht : Nat.blt t nt = true) (hT : oneB P T = true) (hx : S.op x = some (o1 (.eptr n i j))) (hc : S.ch n = some c)
    (hd : c.d = .rows E vss []) (hi : vss[i]? = some vs) (hj : vs[j]? = some v) : Stp P nt ⟨some t, .load T x, ty, ps, af, gd⟩ S (S.put t (vv v)) := stp_loadE ht hT hx hc hd (by simp) hi hj
end
end Go.Proofs.Ytnfkhgamnapgmaa

/- A memory of names: append. No program in sight. -/
namespace Go.Proofs.Ytnfkhgamnapgmaa
open Go.RowKit

theorem run_append_at {P : Program} (w : World) (t ty e : TypeId) (i : TypeInfo) (ht : P.underlying t = some (.slice e)) (hi : P.info? e = some i)
    (g o sLen sCap : Nat) (cur : Array Value) (hg : w.heap[g]? = some (.cells cur e (0, 0)))
    (a : Addr) (m c : Nat) (news : List Value) (hl : news.length = m * i.size) (hnews : ∀ j u, news[j]? = some u → w.cell? (a.add j) = some u) (h1 : ∀ u ∈ news, u.oneCell' = true)
    (hroom : sLen + m ≤ sCap) (hfit : o + sLen * i.size + news.length ≤ cur.size) :
    (Builtin.append_ #[t, t] ty #[.slice (some ⟨g, o, none⟩) sLen sCap, .slice (some a) m c]).run P w =
      .ok (.slice (some ⟨g, o, none⟩) (sLen + m) sCap) (w.setRow g (cur.toList.take (o + sLen * i.size) ++ news ++ cur.toList.drop (o + sLen * i.size + news.length)).toArray) := by
  have hf := run_firstCells_some (P := P) w i.size m a m c news hl hnews
  have hst := run_storeCells_at P g (o + sLen * i.size) e news 0 cur w hg (by simpa using hfit) h1
  simp only [Nat.add_zero] at hst
  simp [Builtin.append_, run_underlying ht, sizeOf, typeInfo, hi, Builtin.lenOf, hroom, hf, Addr.add_lit, hst]

/-- what append leaves of a vector of the call's own -/
structure Grown (ω : Own?) (w w' : World) (ow : Nm × Option Nat) (h' : Hd) (E : TypeId) (k nk : Nat) (news : List Value) (cell : Nat → Value → Prop) : Prop where
  k_ : h'.k = k
  os : w'.os = w.os
  tape : w'.tape = w.tape
  output : w'.output = w.output
  size : w.heap.size ≤ w'.heap.size
  other : ∀ b, b < w.heap.size → ω b ≠ some ow → w'.heap[b]? = w.heap[b]?
  vec : ∃ b o cs, h'.ao = some ⟨b, o, none⟩ ∧ Own?.new ω w.heap.size ow b = some ow ∧ w'.heap[b]? = some (.cells cs E (0, 0)) ∧ (o = 0 ∧ cs.size = h'.c * k) ∧ nk + news.length ≤ h'.c * k ∧ h'.c ≤ maxLen ∧
    (∀ j, j < nk → ∃ u, cs[o + j]? = some u ∧ cell j u) ∧ ∀ j v, news[j]? = some v → cs[o + nk + j]? = some v
theorem get_app3 {a b c : List Value} {j : Nat} {v : Value} (h : b[j]? = some v) : (a ++ b ++ c)[a.length + j]? = some v := by
  have hj : j < b.length := (List.getElem?_eq_some_iff.1 h).1
  rw [List.append_assoc, List.getElem?_append_right (by omega), Nat.add_sub_cancel_left, List.getElem?_append_left hj]; exact h

theorem run_appendO {P : Program} {ω : Own?} {w : World} {ow : Nm × Option Nat} {h : Hd} {T E k dlen n m off c : Nat} {ty : TypeId} {u : Value} {cell : Nat → Value → Prop} {a : Addr} {news : List Value} (hT : elZ P T E k = true) (hk0 : 0 < k) (hk : h.k = k)
    (hv : VecO ω w ow h E dlen cell) (hu : slAt h off n u) (hoff : off = 0) (hd : (off + n) * k = dlen) (hm0 : 0 < m) (hl : news.length = m * k) (hnews : ∀ j v, news[j]? = some v → w.cell? (a.add j) = some v) (h1 : ∀ v ∈ news, v.oneCell' = true) (hb : n + m ≤ 2199023255552) :
    ∃ h' w', (Builtin.append_ #[T, T] ty #[u, .slice (some a) m c]).run P w = .ok (.slice h'.ao (n + m) h'.c) w' ∧ Grown ω w w' ow h' E k (n * k) news (fun j u => cell (off * k + j) u) := by
  obtain ⟨i, z, e1, e2, e3, e4, e5, e6⟩ := elZ_spec hT
  obtain ⟨ao, rfl, ha0, ha1⟩ := hu
  have hby : (n + m) * i.bytes ≤ 140737488355328 := Nat.le_trans (Nat.mul_le_mul_left _ e4) (by omega)
  have hb0 : 0 + m ≤ maxLen := by simp [maxLen]; omega
  have hbn : n + m ≤ maxLen := by simp [maxLen]; omega
  subst e3
  -- a new block
  have fresh : ∀ (cs0 : List Value) (cap : Nat), cs0.length = n * i.size → n + m ≤ cap → cap ≤ maxLen → (∀ j, j < n * i.size → ∃ u, cs0[j]? = some u ∧ cell (off * i.size + j) u) → ∀ w1 : World, w1.heap = w.heap → w1.os = w.os → w1.tape = w.tape → w1.output = w.output →
      Grown ω w (w1.alloc (.cells (cs0.toArray ++ news.toArray ++ Builtin.zeroCells z.cells (cap - (n + m))) E)) ow ⟨some ⟨w.heap.size, 0, none⟩, cap, i.size⟩ E i.size (n * i.size) news (fun j u => cell (off * i.size + j) u) := by
    intro cs0 cap hc0 hcap hcm hcs w1 hw1 ho1 ht1 hout1
    have hs1 : w1.heap.size = w.heap.size := by rw [hw1]
    refine { k_ := rfl, os := ho1, tape := ht1, output := hout1, size := by simp [hs1], other := fun b hb _ => ?_, vec := ⟨w.heap.size, 0, _, rfl, by simp [Own?.new], by rw [← hs1]; exact heap_alloc_new w1 _, ?_, ?_, hcm, fun j hj => ?_, fun j v hj => ?_⟩ }
    · rw [Below.heap_alloc w1 _ b (by omega), hw1]
    · simp only [Array.size_append, List.size_toArray, size_zeroCells, e6, hc0, hl, ← Nat.add_mul, Nat.zero_add]
      exact ⟨trivial, by congr 1; omega⟩
    · rw [hl, ← Nat.add_mul]; exact Nat.mul_le_mul_right _ hcap
    · obtain ⟨u, hu, hcu⟩ := hcs j hj
      refine ⟨u, ?_, hcu⟩
      rw [Nat.zero_add, Array.getElem?_append_left (by simp [hc0]; omega), Array.getElem?_append_left (by simp [hc0]; omega)]
      simpa using hu
    · have hjl : j < news.length := (List.getElem?_eq_some_iff.1 hj).1
      rw [Nat.zero_add, Array.getElem?_append_left (by simp [hc0]; omega), Array.getElem?_append_right (by simp [hc0])]
      simpa [hc0] using hj
  rcases hv with ⟨hao, hc, hd0⟩ | ⟨b, o, cs, g1, g2, g3, g4, g5, g6, g7⟩
  · have h0 : (off + n) * i.size = 0 := by rw [hd, hd0]
    have h00 : off + n = 0 := by
      rcases Nat.eq_zero_or_pos (off + n) with h8 | h8
      · exact h8
      · have := Nat.mul_pos h8 hk0; omega
    obtain ⟨rfl, rfl⟩ : off = 0 ∧ n = 0 := by omega
    rw [ha0 rfl, hao, hc]
    have hr := run_append_nil (P := P) (ty := ty) w T E i z e1 e2 e5 a m c news hl hnews hm0 (by omega) (by simp only [Nat.zero_add] at hby; omega)
    refine ⟨⟨some ⟨w.heap.size, 0, none⟩, grownCap w m 0 E, i.size⟩, _, by rw [Nat.sub_zero, hr, Nat.zero_add], ?_⟩
    have := fresh [] (grownCap w m 0 E) (by simp) (by rw [Nat.zero_add]; exact grownCap_ge w m 0 E) (grownCap_le_maxLen w m 0 E (by omega)) (fun j hj => absurd hj (by omega)) w.drew rfl rfl rfl rfl
    simpa using this
  · rw [hk] at g4 g5
    have hoc : off + n ≤ h.c := Nat.le_of_mul_le_mul_right (by rw [hd]; exact g5) hk0
    have hmul : ∀ x, x ≤ h.c → x * i.size ≤ h.c * i.size := fun x hx => Nat.mul_le_mul_right _ hx
    have hbs : b < w.heap.size := lt_of_heap g3
    have old : ∀ j, j < n * i.size → ∃ u, cs[o + off * i.size + j]? = some u ∧ cell (off * i.size + j) u := fun j hj => by
      obtain ⟨u, hu, hcu⟩ := g7 (off * i.size + j) (by rw [← hd, Nat.add_mul]; omega)
      exact ⟨u, by rw [Nat.add_assoc]; exact hu, hcu⟩
    have haos : off < h.c → ao = some ⟨b, o + off * i.size, none⟩ := fun hlt => by
      rcases Nat.eq_zero_or_pos off with h0 | h0
      · rw [ha0 h0, g1, h0]; simp
      · rw [ha1 h0 hlt, g1, hk]; rfl
    by_cases hroom : n + m ≤ h.c - off
    · have hlt : off < h.c := by omega
      rw [haos hlt]
      have hfit : o + off * i.size + n * i.size + news.length ≤ cs.size := by
        have h2 := hmul (off + n + m) (by omega)
        rw [Nat.add_mul, Nat.add_mul] at h2
        rw [hl]; omega
      have hr := run_append_at (P := P) (ty := ty) w T E i e1 e2 b (o + off * i.size) n (h.c - off) cs g3 a m c news hl hnews h1 hroom hfit
      have hnl : n * i.size + news.length ≤ (h.c - off) * i.size := by rw [hl, ← Nat.add_mul]; exact Nat.mul_le_mul_right _ hroom
      have htl : (cs.toList.take (o + off * i.size + n * i.size)).length = o + off * i.size + n * i.size := by
        rw [List.length_take, Array.length_toList]; omega
      refine ⟨⟨some ⟨b, o + off * i.size, none⟩, h.c - off, i.size⟩, _, hr, ?_⟩
      refine { k_ := rfl, os := rfl, tape := rfl, output := rfl, size := by simp, other := fun b' _ hne => setRow_other w b b' _ (fun e => hne (e ▸ g2)), vec := ⟨b, o + off * i.size, _, rfl, by simp [Own?.new, Nat.ne_of_lt hbs, g2], setRow_heap w b cs _ E _ g3, ?_, hnl, by show h.c - off ≤ maxLen; omega, fun j hj => ?_, fun j v hj => ?_⟩ }
      · have h2 := Nat.sub_mul h.c off i.size
        have h3 := hmul off (by omega)
        simp only [List.size_toArray, List.length_append, htl, List.length_drop, Array.length_toList]
        subst hoff; rw [Nat.zero_mul, Nat.sub_zero] at h2 ⊢; simp only [Nat.add_zero] at *; constructor <;> omega
      · obtain ⟨u, hu, hcu⟩ := old j hj
        refine ⟨u, ?_, hcu⟩
        simp only [List.getElem?_toArray]
        rw [List.append_assoc, List.getElem?_append_left (by rw [htl]; omega), List.getElem?_take, if_pos (by omega)]
        simpa using hu
      · simp only [List.getElem?_toArray]
        have := get_app3 (a := cs.toList.take (o + off * i.size + n * i.size)) (c := cs.toList.drop (o + off * i.size + n * i.size + news.length)) hj
        rw [htl] at this
        exact this
    · have holds : ∀ u', n * i.size ≠ 0 → ao = some u' → u' = ⟨b, o + off * i.size, none⟩ := fun u' hn0 he => by
        have hnp : 0 < n := by
          rcases Nat.eq_zero_or_pos n with h8 | h8
          · subst h8; simp at hn0
          · exact h8
        rw [haos (by omega)] at he; exact (Option.some.inj he).symm
      have hol : ((cs.toList.drop (o + off * i.size)).take (n * i.size)).length = n * i.size := by
        rw [List.length_take, List.length_drop, Array.length_toList]
        have h2 := hmul (off + n) hoc
        rw [Nat.add_mul] at h2
        omega
      have hoat : ∀ (j : Nat) (u : Value), ((cs.toList.drop (o + off * i.size)).take (n * i.size))[j]? = some u → j < n * i.size ∧ cs[o + off * i.size + j]? = some u := fun j u hj => by
        have hjl : j < n * i.size := by have := (List.getElem?_eq_some_iff.1 hj).1; omega
        rw [List.getElem?_take, if_pos hjl, List.getElem?_drop] at hj
        exact ⟨hjl, by simpa using hj⟩
      have hfresh := fresh ((cs.toList.drop (o + off * i.size)).take (n * i.size)) (grownCap w (n + m) (h.c - off) E) hol (grownCap_ge _ _ _ _) (grownCap_le_maxLen _ _ _ _ hbn) (fun j hj => by
        obtain ⟨u, hu, hcu⟩ := old j hj
        refine ⟨u, ?_, hcu⟩
        rw [List.getElem?_take, if_pos hj, List.getElem?_drop]
        simpa using hu) w.drew rfl rfl rfl rfl
      cases hao : ao with
      | none =>
        have hno : ¬ off < h.c := fun hlt => by rw [haos hlt] at hao; cases hao
        have hn0 : n = 0 := by omega
        subst hn0
        have hc0 : h.c - off = 0 := by omega
        rw [hc0] at hfresh ⊢
        have hr := run_append_nil (P := P) (ty := ty) w T E i z e1 e2 e5 a m c news hl hnews hm0 (by omega) (by simp only [Nat.zero_add] at hby; omega)
        refine ⟨⟨some ⟨w.heap.size, 0, none⟩, grownCap w m 0 E, i.size⟩, _, by rw [hr, Nat.zero_add], ?_⟩
        simpa using hfresh
      | some a' =>
        have hr := run_append_grow (P := P) (ty := ty) w T E i z e1 e2 e5 a' n (h.c - off) _ hol (fun j u hj => by
          obtain ⟨hj1, hj2⟩ := hoat j u hj
          rw [holds a' (by omega) hao, Addr.add_lit]
          show w.cell? ⟨b, o + off * i.size + j, none⟩ = some u
          rw [cell_of_row w b _ cs E (0, 0) g3]; exact hj2) a m c news hl hnews (by omega) (by omega) (growslice_fits (by omega) hby)
        exact ⟨⟨some ⟨w.heap.size, 0, none⟩, grownCap w (n + m) (h.c - off) E, i.size⟩, _, hr, hfresh⟩
end Go.Proofs.Ytnfkhgamnapgmaa

/- A memory of names: append and make as operations of the walk. No program in sight. -/
namespace Go.Proofs.Ytnfkhgamnapgmaa
open Go.RowKit

/-- what a slice reads as, m elements of k cells -/
structure Reads (S : St) (b : A1) (m k : Nat) (news : List Value) : Prop where
  len : news.length = m * k
  go : ∀ {w0 ω0 nt η ω a w u}, SatE w0 ω0 nt S η ω a w → Den1 η b u → ∃ ad c, u = .slice ad m c ∧ ∀ (j : Nat) (v : Value), news[j]? = some v → ∃ bb o, ad = some ⟨bb, o, none⟩ ∧ w.cell? ⟨bb, o + j, none⟩ = some v
section
variable {P : Program} {nt : Nat} {S S' : St} {w0 w : World} {ω0 : Beg} {ω : Own?} {η : Env} {a : Act}
variable {t : Nat} {ty : TypeId} {ps : String} {af : Array Edge} {gd : Option (Nat × Bool)} {x y : Operand} {av : AV}

/-- the cells of a slice of a chunk -/
theorem SatE.slice (hs : SatE w0 ω0 nt S η ω a w) {n : Nm} {off m k : Nat} {c : Ch} {u : Value} (hd : Den1 η (.sl n off m) u) (hc : S.ch n = some c) (hk : c.k = k) (hk0 : 0 < k) (hl : (off + m) * k ≤ c.d.len) :
    ∃ ad cp, u = .slice ad m cp ∧ ∀ j, j < m * k → ∃ bb o v, ad = some ⟨bb, o, none⟩ ∧ w.cell? ⟨bb, o + j, none⟩ = some v ∧ cellsOK η ω w c.own n c.d (off * k + j) v := by
  obtain ⟨hd', e1, e2, e3⟩ := hs.chunk hc
  obtain ⟨ao, rfl, f1, f2⟩ := hd.2 hd' e1
  refine ⟨ao, _, rfl, fun j hj => ?_⟩
  have hlt : off * k + j < c.d.len := Nat.lt_of_lt_of_le (by rw [Nat.add_mul]; omega) hl
  obtain ⟨b', o', v, g1, g2, g3⟩ := e3.get hlt
  have hcap := e3.cap
  rw [e2, hk] at hcap
  have h5 : off + m ≤ hd'.c := Nat.le_of_mul_le_mul_right (Nat.le_trans hl hcap) hk0
  have hm : 0 < m := by
    rcases Nat.eq_zero_or_pos m with h8 | h8
    · subst h8; simp at hj
    · exact h8
  refine ⟨b', o' + off * k, v, ?_, by rw [Nat.add_assoc]; exact g2, g3⟩
  rcases Nat.eq_zero_or_pos off with h0 | h0
  · rw [f1 h0, g1, h0]; simp
  · rw [f2 h0 (by omega), g1, e2, hk]; rfl

theorem reads_vals {n : Nm} {off m k : Nat} {c : Ch} {vs : List Value} (hc : S.ch n = some c) (hd : c.d = .vals vs) (hk : c.k = k) (hk0 : Nat.blt 0 k = true) (hl : (off + m) * k ≤ vs.length) : Reads S (.sl n off m) m k ((vs.drop (off * k)).take (m * k)) :=
  ⟨by rw [List.length_take, List.length_drop]; rw [Nat.add_mul] at hl; omega, fun hs hu => by
    obtain ⟨ad, cp, e, h⟩ := hs.slice hu hc hk (by simpa using hk0) (by rw [hd]; exact hl)
    refine ⟨ad, cp, e, fun j v hj => ?_⟩
    have hjl : j < m * k := by have := (List.getElem?_eq_some_iff.1 hj).1; simp at this; omega
    rw [List.getElem?_take, if_pos hjl, List.getElem?_drop] at hj
    obtain ⟨bb, o, v', h1, h2, h3⟩ := h j hjl
    rw [hd] at h3
    have h3 : vs[off * k + j]? = some v' := h3
    rw [hj] at h3; obtain rfl := Option.some.inj h3
    exact ⟨bb, o, h1, h2⟩⟩
theorem reads_all {n : Nm} {m : Nat} {c : Ch} {vs : List Value} (hc : S.ch n = some c) (hd : c.d = .vals vs) (hk : c.k = 1) (hl : vs.length = m) : Reads S (.sl n 0 m) m 1 vs := by
  have := reads_vals (S := S) (n := n) (off := 0) (m := m) (k := 1) hc hd hk rfl (by omega)
  simpa [← hl] using this
/-- a literal of plain values -/
def plainL : List A1 → Option (List Value)
  | [] => some []
  | .val v :: r => (plainL r).map (v :: ·)
  | _ => none
theorem plainL_at : ∀ {l : List A1} {vs : List Value}, plainL l = some vs → vs.length = l.length ∧ ∀ (j : Nat) (v : Value), vs[j]? = some v → l[j]? = some (.val v)
  | [], vs, h => by simp [plainL] at h; subst h; exact ⟨rfl, fun j v h => by simp at h⟩
  | .val v :: r, vs, h => by
    simp only [plainL, Option.map_eq_some_iff] at h
    obtain ⟨vs', h1, rfl⟩ := h
    obtain ⟨h2, h3⟩ := plainL_at h1
    refine ⟨by simp [h2], fun j v' hj => ?_⟩
    cases j with
    | zero => simp at hj; subst hj; simp
    | succ j => simpa using h3 j v' (by simpa using hj)
  | .any :: _, _, h => by cases h
  | .sl _ _ _ :: _, _, h => by cases h
  | .ptr _ _ :: _, _, h => by cases h
  | .esl _ _ _ _ :: _, _, h => by cases h
  | .eptr _ _ _ :: _, _, h => by cases h
  | .clo _ _ :: _, _, h => by cases h
theorem reads_flat {n : Nm} {m k : Nat} {c : Ch} {l : List A1} {vs : List Value} (hc : S.ch n = some c) (hd : c.d = .flat l) (hk : c.k = k) (hk0 : Nat.blt 0 k = true) (hp : plainL l = some vs) (hl : vs.length = m * k) : Reads S (.sl n 0 m) m k vs :=
  ⟨hl, fun hs hu => by
    obtain ⟨h2, h3⟩ := plainL_at hp
    obtain ⟨ad, cp, e, h⟩ := hs.slice hu hc hk (by simpa using hk0) (by rw [hd]; show (0 + m) * k ≤ l.length; rw [Nat.zero_add]; omega)
    refine ⟨ad, cp, e, fun j v hj => ?_⟩
    have hjl : j < m * k := by have := (List.getElem?_eq_some_iff.1 hj).1; omega
    obtain ⟨bb, o, v', h4, h5, h6⟩ := h j hjl
    rw [hd] at h6
    have h6 : Den1 _ (.val v) v' := h6 _ (by simpa using h3 j v hj)
    have h6 : v' = v := h6
    subst h6
    exact ⟨bb, o, h4, h5⟩⟩
theorem reads_row {n : Nm} {i off m : Nat} {c : Ch} {E : TypeId} {vss : List (List Value)} {vs : List Value} (hc : S.ch n = some c) (hd : c.d = .rows E vss []) (hi : vss[i]? = some vs) (hl : off + m ≤ vs.length) : Reads S (.esl n i off m) m 1 ((vs.drop off).take m) :=
  ⟨by rw [List.length_take, List.length_drop]; omega, fun {w0 ω0 nt η ω a w u} hs hu => by
    obtain ⟨hd', e1, e2, e3⟩ := hs.chunk hc
    obtain ⟨ao, rfl, f1, f2⟩ := hu.2 hd' e1
    rw [hd] at e3
    obtain ⟨_, _, _, _, _, k3⟩ := e3.get (j := i) (List.getElem?_eq_some_iff.1 hi).1
    obtain ⟨_, q2, q3⟩ := k3.2 (by simp) vs hi
    refine ⟨ao, _, rfl, fun j v hj => ?_⟩
    have hjl : j < m := by have := (List.getElem?_eq_some_iff.1 hj).1; simp at this; omega
    rw [List.getElem?_take, if_pos hjl, List.getElem?_drop] at hj
    obtain ⟨b', o', v', g1, g2, g3⟩ := q3.get (j := off + j) (by omega)
    rw [hj] at g3; obtain rfl := Option.some.inj g3
    refine ⟨b', o' + off, ?_, by rw [Nat.add_assoc]; exact g2⟩
    have hcap := q3.cap
    rw [q2] at hcap
    rcases Nat.eq_zero_or_pos off with h0 | h0
    · rw [f1 h0, g1, h0]; simp
    · rw [f2 h0 (by omega), g1, q2]; simp⟩
theorem reads_rowAll {n : Nm} {i m : Nat} {c : Ch} {E : TypeId} {vss : List (List Value)} {vs : List Value} (hc : S.ch n = some c) (hd : c.d = .rows E vss []) (hi : vss[i]? = some vs) (hl : vs.length = m) : Reads S (.esl n i 0 m) m 1 vs := by
  have := reads_row (S := S) (off := 0) (m := m) hc hd hi (by omega)
  simpa [← hl] using this

theorem new_rm (S : St) (x : Nm) (c : Ch) : (S.rm x).new x c = S.new x c := by
  unfold St.new St.rm
  simp only [St.mk.injEq, true_and, and_true]
  funext y
  cases Nat.beq y x <;> rfl
theorem drop_new (η : Env) (x : Nm) (hd : Hd) (r : Nat → Hd) : (η.drop x).new x hd r = η.new x hd r := by
  unfold Env.new Env.drop
  simp only [Env.mk.injEq, and_true]
  funext y
  by_cases e : y = x <;> simp [e]
/-- a chunk of the call's own gets a new handle and a new content -/
theorem SatE.renew (h : SatE w0 ω0 nt S η ω a w) {n : Nm} {c : Ch} {hd : Hd} {r : Nat → Hd} {ω' : Own?} {w' : World} (hk : Calm (S.rm n) ω w ω' w') (hc : ChIs (η.new n hd r) ω' w' n hd c) : SatE w0 ω0 nt (S.new n c) (η.new n hd r) ω' a w' := by
  have := (h.drop n).lay (x := n) (c := c) (hd := hd) (r := r) hk (by rw [drop_new]; exact hc)
  rw [new_rm, drop_new] at this
  exact this
theorem calm_grown {n : Nm} {i : Option Nat} {w' : World} {h' : Hd} {E k nk : Nat} {news : List Value} {cell : Nat → Value → Prop} (hS : S.ch n = none) (g : Grown ω w w' (n, i) h' E k nk news cell) : Calm S ω w (Own?.new ω w.heap.size (n, i)) w' :=
  ⟨g.os, g.tape, g.output, g.size, fun b hb hl => by
    have hne : ω b ≠ some (n, i) := by
      intro e
      rcases hl with h0 | ⟨y, j, c, h0, h1⟩
      · rw [h0] at e; cases e
      · rw [h0] at e; obtain ⟨rfl, rfl⟩ := Prod.mk.inj (Option.some.inj e); rw [hS] at h1; cases h1
    exact ⟨g.other b hb hne, by simp [Own?.new, Nat.ne_of_lt hb]⟩⟩
theorem den_new {n : Nm} {hd : Hd} {r : Nat → Hd} {m : Nat} : Den (η.new n hd r) (o1 (.sl n 0 m)) (.slice hd.ao m hd.c) :=
  ⟨⟨_, _, rfl⟩, fun hd' he => by simp [Env.new] at he; subst he; exact ⟨_, rfl, fun _ => rfl, fun h => absurd h (by omega)⟩⟩

/-- append to a vector of plain values of the call's own -/
theorem stp_append {T E k n off len m : Nat} {c : Ch} {vs news : List Value} {b : A1} (ht : Nat.blt t nt = true) (hT : elZ P T E k = true) (hk0 : Nat.blt 0 k = true) (hx : S.op x = some (o1 (.sl n off len))) (hc : S.ch n = some c) (hce : c = ⟨true, E, k, .vals vs⟩) (hoff : off = 0) (hl : (off + len) * k = vs.length)
    (hy : S.op y = some (o1 b)) (hr : Reads S b m k news) (hm : 0 < m) (h1 : ∀ v ∈ news, v.oneCell' = true) (hb : len + m ≤ 2199023255552) :
    Stp P nt ⟨some t, .call { callee := .builtin .append, args := #[x, y], argTypes := #[T, T] }, ty, ps, af, gd⟩ S ((S.new n ⟨true, E, k, .vals (vs.drop (off * k) ++ news)⟩).put t (o1 (.sl n 0 (len + m)))) :=
  Stp.of _ fun w0 ω0 η ω a w hs => by
    have hk0' : 0 < k := by simpa using hk0
    obtain ⟨hd, e1, e2, e3⟩ := hs.chunk hc
    subst hce
    have e3 : VecO ω w (n, none) hd E vs.length (cellsOK η ω w true n (.vals vs)) := e3
    have hu : Den1 η (.sl n off len) (a.eval x) := hs.opv hx
    obtain ⟨ad, cp, r1, r2⟩ := hr.go hs (hs.opv hy)
    have hnl := hr.len
    have hn0 : 0 < news.length := by rw [hnl]; exact Nat.mul_pos hm hk0'
    obtain ⟨bb, o, r3, _⟩ := r2 0 _ (List.getElem?_eq_getElem hn0)
    subst r3
    obtain ⟨h', w', k1, k2⟩ := run_appendO (P := P) (ty := ty) (c := cp) hT hk0' e2 e3 (hu.2 hd e1) hoff hl hm hnl (a := ⟨bb, o, none⟩) (fun j v hj => by
      obtain ⟨b2, o2, h2, h3⟩ := r2 j v hj
      simp only [Option.some.injEq, Addr.mk.injEq, and_true] at h2
      obtain ⟨rfl, rfl⟩ := h2
      rw [Addr.add_lit]; exact h3) h1 hb
    refine ⟨.slice h'.ao (len + m) h'.c, w', by simp [execOp, resolve, invoke, builtin, r1, k1], ?_⟩
    have hlen : (vs.drop (off * k) ++ news).length = len * k + news.length := by
      rw [List.length_append, List.length_drop, ← hl, Nat.add_mul]; omega
    have := hs.renew (n := n) (c := ⟨true, E, k, .vals (vs.drop (off * k) ++ news)⟩) (hd := h') (r := fun _ => ⟨none, 0, 1⟩) (calm_grown (by simp [ch_rm]) k2) ⟨k2.k_, by
      obtain ⟨b', o', cs', v1, v2, v3, v4, v5, v6, v7, v8⟩ := k2.vec
      refine .inr ⟨b', o', cs', v1, v2, v3, by rw [k2.k_]; exact v4, by rw [k2.k_]; show (vs.drop (off * k) ++ news).length ≤ _; rw [hlen]; exact v5, v6, fun j hj => ?_⟩
      have hj : j < (vs.drop (off * k) ++ news).length := hj
      rw [hlen] at hj
      by_cases hlt : j < len * k
      · obtain ⟨u, q1, q2⟩ := v7 j hlt
        have q2 : vs[off * k + j]? = some u := q2
        refine ⟨u, q1, ?_⟩
        show (vs.drop (off * k) ++ news)[j]? = some u
        rw [List.getElem?_append_left (by rw [List.length_drop, ← hl, Nat.add_mul]; omega), List.getElem?_drop]; exact q2
      · have hdl : (vs.drop (off * k)).length = len * k := by rw [List.length_drop, ← hl, Nat.add_mul]; omega
        have hj2 : j - len * k < news.length := by omega
        refine ⟨news[j - len * k], ?_, ?_⟩
        · have := v8 (j - len * k) _ (List.getElem?_eq_getElem hj2)
          rw [show o' + len * k + (j - len * k) = o' + j by omega] at this; exact this
        · show (vs.drop (off * k) ++ news)[j]? = _
          rw [List.getElem?_append_right (by omega), hdl, List.getElem?_eq_getElem hj2]⟩
    exact ⟨_, _, this.putV (by simpa using ht) den_new⟩
end
end Go.Proofs.Ytnfkhgamnapgmaa

/- A memory of names: rows that are appended and laid into rows; make; what is nil; structs stored whole. No program in sight. -/
namespace Go.Proofs.Ytnfkhgamnapgmaa
open Go.RowKit

section
variable {P : Program} {nt : Nat} {S S' : St} {w0 w : World} {ω0 : Beg} {ω : Own?} {η : Env} {a : Act}
variable {t : Nat} {ty : TypeId} {ps : String} {af : Array Edge} {gd : Option (Nat × Bool)} {x y : Operand} {av : AV}

/-- the blocks of z go to row j of n -/
def Own?.give (ω : Own?) (z n : Nm) (j : Nat) : Own? := fun b => if ω b = some (z, none) then some (n, some j) else ω b
theorem VecO.give {z n : Nm} {j : Nat} {h : Hd} {E : TypeId} {len : Nat} {cell : Nat → Value → Prop} {ω' : Own?} {w' : World} (hv : VecO ω w (z, none) h E len cell) (hs : ∀ b, b < w.heap.size → ω b = some (z, none) → w'.heap[b]? = w.heap[b]? ∧ ω' b = some (n, some j)) : VecO ω' w' (n, some j) h E len cell := by
  rcases hv with h0 | ⟨b, o, cs, h1, h2, h3, h4⟩
  · exact .inl h0
  · have := hs b (lt_of_heap h3) h2
    exact .inr ⟨b, o, cs, h1, this.2, this.1.trans h3, h4⟩

/-- append of one vector of the call's own to rows of the call's own -/
theorem stp_appendRow {T E F n z q len m : Nat} {vss : List (List Value)} {vs : List Value} (ht : Nat.blt t nt = true) (hT : elZ P T E 1 = true) (hx : S.op x = some (o1 (.sl n 0 len))) (hc : S.ch n = some ⟨true, E, 1, .rows F vss []⟩) (hl : vss.length = len)
    (hy : S.op y = some (o1 (.sl q 0 1))) (hq : S.ch q = some ⟨true, E, 1, .flat [.sl z 0 m]⟩) (hz : S.ch z = some ⟨true, F, 1, .vals vs⟩) (hm : vs.length = m) (hzn : Nat.beq z n = false) (hb : len + 1 ≤ 2199023255552) :
    Stp P nt ⟨some t, .call { callee := .builtin .append, args := #[x, y], argTypes := #[T, T] }, ty, ps, af, gd⟩ S (((S.rm z).new n ⟨true, E, 1, .rows F (vss ++ [vs]) []⟩).put t (o1 (.sl n 0 (len + 1)))) :=
  Stp.of _ fun w0 ω0 η ω a w hs => by
    have hne : z ≠ n := fun e => by rw [e] at hzn; simp at hzn
    subst hl hm
    obtain ⟨hd, e1, e2, e3⟩ := hs.chunk hc
    have e2 : hd.k = 1 := e2
    have e3 : VecO ω w (n, none) hd E vss.length (cellsOK η ω w true n (.rows F vss [])) := e3
    obtain ⟨hz', z1, z2, z3⟩ := hs.chunk hz
    have z2 : hz'.k = 1 := z2
    have z3 : VecO ω w (z, none) hz' F vs.length (cellsOK η ω w true z (.vals vs)) := z3
    have hu : Den1 η (.sl n 0 vss.length) (a.eval x) := hs.opv hx
    have hyv : Den1 η (.sl q 0 1) (a.eval y) := hs.opv hy
    obtain ⟨ad, cp, r1, r2⟩ := hs.slice (k := 1) hyv hq rfl (by omega) (by simp [Dat.len])
    obtain ⟨bb, o, v0, r3, r4, r5⟩ := r2 0 (by omega)
    have hv0 : Den1 η (.sl z 0 vs.length) v0 := r5 _ (by simp)
    obtain ⟨az, rfl, q1, _⟩ := hv0.2 hz' z1
    subst r3
    obtain ⟨h', w', k1, k2⟩ := run_appendO (P := P) (ty := ty) (c := cp) (news := [.slice az vs.length (hz'.c - 0)]) hT (by omega) e2 e3 (hu.2 hd e1) rfl (by rw [Nat.zero_add, Nat.mul_one]) (by omega : 0 < 1) (by simp) (a := ⟨bb, o, none⟩) (fun j v hj => by
      cases j with
      | zero => simp only [List.getElem?_cons_zero, Option.some.injEq] at hj; subst hj; rw [Addr.add_lit]; exact r4
      | succ j => simp at hj) (by intro v hv; simp at hv; subst hv; rfl) hb
    refine ⟨.slice h'.ao (vss.length + 1) h'.c, w', by simp [execOp, resolve, invoke, builtin, r1, k1], ?_⟩
    have hS : ((S.rm z).rm n).ch n = none := by simp [ch_rm]
    have hSz : ((S.rm z).rm n).ch z = none := by simp [ch_rm, hne]
    have hbz : ∀ b, ω b = some (z, none) → w'.heap[b]? = w.heap[b]? ∨ w.heap.size ≤ b := fun b hb => by
      rcases Nat.lt_or_ge b w.heap.size with h | h
      · exact .inl (k2.other b h (fun e => by rw [hb] at e; simp at e; exact hne e))
      · exact .inr h
    have calm : Calm ((S.rm z).rm n) ω w (Own?.give (Own?.new ω w.heap.size (n, none)) z n vss.length) w' := ⟨k2.os, k2.tape, k2.output, k2.size, fun b hb hl => by
      have hnew : Own?.new ω w.heap.size (n, none) b = ω b := by simp [Own?.new, Nat.ne_of_lt hb]
      have h1 : ω b ≠ some (n, none) ∧ ω b ≠ some (z, none) := by
        rcases hl with h0 | ⟨y, j, c, h0, h1⟩
        · rw [h0]; simp
        · rw [h0]
          refine ⟨fun e => ?_, fun e => ?_⟩
          · simp at e; rw [e.1, hS] at h1; cases h1
          · simp at e; rw [e.1, hSz] at h1; cases h1
      exact ⟨k2.other b hb h1.1, by simp only [Own?.give, hnew, if_neg h1.2]⟩⟩
    have key : ChIs ((η.drop z).new n h' fun j => if j < vss.length then η.r n j else hz') (Own?.give (Own?.new ω w.heap.size (n, none)) z n vss.length) w' n h' ⟨true, E, 1, .rows F (vss ++ [vs]) []⟩ := by
      refine ⟨k2.k_, ?_⟩
      obtain ⟨b', o', cs', v1, v2, v3, v4, v5, v6, v7, v8⟩ := k2.vec
      have hbn : Own?.new ω w.heap.size (n, none) b' ≠ some (z, none) := by rw [v2]; simp; exact fun e => hne e.symm
      refine .inr ⟨b', o', cs', v1, (if_neg hbn).trans v2, v3, by rw [k2.k_]; exact v4, by rw [k2.k_]; simpa [Dat.len] using v5, v6, fun j hj => ?_⟩
      have hj : j < vss.length + 1 := by simpa [Dat.len] using hj
      by_cases hlt : j < vss.length
      · obtain ⟨u, g1, g2⟩ := v7 j (by omega)
        rw [Nat.zero_mul, Nat.zero_add] at g2
        refine ⟨u, g1, g2.1, fun _ vs' hvs' => ?_⟩
        rw [List.getElem?_append_left hlt] at hvs'
        obtain ⟨f1, f2, f3⟩ := g2.2 (by simp) vs' hvs'
        have hr : ((η.drop z).new n h' fun j => if j < vss.length then η.r n j else hz').r n j = η.r n j := by simp [Env.new, hlt]
        rw [hr]
        refine ⟨f1, f2, VecO.same (fun b hb ho => ⟨k2.other b hb (by rw [ho]; simp), ?_⟩) (fun _ _ h => h) f3⟩
        have hnew : Own?.new ω w.heap.size (n, none) b = ω b := by simp [Own?.new, Nat.ne_of_lt hb]
        simp only [Own?.give, hnew, ho]
        rw [if_neg (by simp)]
      · obtain rfl : j = vss.length := by omega
        refine ⟨_, by have := v8 0 _ (List.getElem?_cons_zero); simpa using this, rfl, fun _ vs' hvs' => ?_⟩
        rw [List.getElem?_append_right (by omega), Nat.sub_self] at hvs'
        simp at hvs'; subst hvs'
        have hr : ((η.drop z).new n h' fun j => if j < vss.length then η.r n j else hz').r n vss.length = hz' := by simp [Env.new]
        rw [hr]
        refine ⟨by rw [q1 rfl], z2, VecO.give z3 fun b hb ho => ?_⟩
        have hnew : Own?.new ω w.heap.size (n, none) b = ω b := by simp [Own?.new, Nat.ne_of_lt hb]
        exact ⟨(hbz b ho).resolve_right (by omega), by simp only [Own?.give, hnew, ho, if_true]⟩
    have := (hs.drop z).renew (n := n) (c := ⟨true, E, 1, .rows F (vss ++ [vs]) []⟩) calm key
    exact ⟨_, _, this.putV (by simpa using ht) den_new⟩

/-- make of plain values of one cell -/
theorem stp_make {T E n : Nat} {ts : Array TypeId} {l c : Operand} {kl kc : IntKind} {L C : Int} {z : Value} (ht : Nat.blt t nt = true) (hT : elZ P T E 1 = true) (hz : (P.info? E).bind (·.zero) = some z) (hl : S.op l = some (vv (.int kl L))) (hc : S.op c = some (vv (.int kc C)))
    (hL : L = (n : Int)) (hC : C = (n : Int)) (hn : n ≤ 2199023255552) (hz1 : z.oneCell' = true) : Stp P nt ⟨some t, .makeSlice T l c, ty, ps, af, gd⟩ S ((S.new t ⟨true, E, 1, .vals (List.replicate n z)⟩).put t (o1 (.sl t 0 n))) :=
  Stp.of _ fun w0 ω0 η ω a w hs => by
    obtain ⟨i, z', k1, k2, k3, k4, k5, k6⟩ := elZ_spec hT
    have hzz : z' = z := by rw [k2] at hz; simp [k5] at hz; exact hz
    subst hzz hL hC
    have hby : (i.bytes : Int) * n ≤ 64 * n := Int.mul_le_mul_of_nonneg_right (by omega) (by omega)
    have hr := run_make (P := P) w T E i z' k1 k2 k5 kl kc (n : Int) (n : Int) (by omega) (by omega) (by omega) (by omega)
    simp only [Int.toNat_natCast] at hr
    refine ⟨.slice (some ⟨w.heap.size, 0, none⟩) n n, w.alloc (.cells (madeCells z'.cells (n * i.size)) E), by simp [execOp, hs.opV hl, hs.opV hc, hr], ?_⟩
    rw [k3, Nat.mul_one, cells_one hz1]
    have hal := hs.alloc (x := t) (c := ⟨true, E, 1, .vals (List.replicate n z')⟩) (cs := madeCells #[z'] n) (r := fun _ => ⟨none, 0, 1⟩) (n := n) rfl (by simp [size_madeCells]) (by simp [Dat.len]) (by simp [maxLen]; omega) fun j hj => by
      have hj : j < n := by simpa [Dat.len] using hj
      refine ⟨z', ?_, by show (List.replicate n z')[j]? = some z'; simp [hj]⟩
      have := toList_madeCells_one z' n
      have h2 : (madeCells #[z'] n).toList[j]? = some z' := by rw [this]; simp [hj]
      simpa using h2
    exact ⟨_, _, hal.putV (by simpa using ht) den_newsl⟩
/-- make of nil slices -/
theorem stp_makeRows {T E F n : Nat} {ts : Array TypeId} {l c : Operand} {kl kc : IntKind} {L C : Int} (ht : Nat.blt t nt = true) (hT : elZ P T E 1 = true) (hz : (P.info? E).bind (·.zero) = some (.slice none 0 0)) (hF : P.underlying E = some (.slice F)) (hl : S.op l = some (vv (.int kl L))) (hc : S.op c = some (vv (.int kc C)))
    (hL : L = (n : Int)) (hC : C = (n : Int)) (hn : n ≤ 2199023255552) : Stp P nt ⟨some t, .makeSlice T l c, ty, ps, af, gd⟩ S ((S.new t ⟨true, E, 1, .rows F (List.replicate n []) []⟩).put t (o1 (.sl t 0 n))) :=
  Stp.of _ fun w0 ω0 η ω a w hs => by
    obtain ⟨i, z', k1, k2, k3, k4, k5, k6⟩ := elZ_spec hT
    have hzz : z' = .slice none 0 0 := by rw [k2] at hz; simp [k5] at hz; exact hz
    subst hzz hL hC
    have hby : (i.bytes : Int) * n ≤ 64 * n := Int.mul_le_mul_of_nonneg_right (by omega) (by omega)
    have hr := run_make (P := P) w T E i _ k1 k2 k5 kl kc (n : Int) (n : Int) (by omega) (by omega) (by omega) (by omega)
    simp only [Int.toNat_natCast] at hr
    refine ⟨.slice (some ⟨w.heap.size, 0, none⟩) n n, w.alloc (.cells (madeCells (Value.slice none 0 0).cells (n * i.size)) E), by simp [execOp, hs.opV hl, hs.opV hc, hr], ?_⟩
    rw [k3, Nat.mul_one, cells_one rfl]
    have hal := hs.alloc (x := t) (c := ⟨true, E, 1, .rows F (List.replicate n []) []⟩) (cs := madeCells #[.slice none 0 0] n) (r := fun _ => ⟨none, 0, 1⟩) (n := n) rfl (by simp [size_madeCells]) (by simp [Dat.len]) (by simp [maxLen]; omega) fun j hj => by
      have hj : j < n := by simpa [Dat.len] using hj
      refine ⟨.slice none 0 0, ?_, rfl, fun _ vs hvs => ?_⟩
      · have := toList_madeCells_one (.slice none 0 0) n
        have h2 : (madeCells #[.slice none 0 0] n).toList[j]? = some (.slice none 0 0) := by rw [this]; simp [hj]
        simpa using h2
      · simp only [List.getElem?_replicate, hj, if_true, Option.some.injEq] at hvs
        subst hvs
        exact ⟨by simp [Env.new], by simp [Env.new], .inl ⟨by simp [Env.new], by simp [Env.new], rfl⟩⟩
    exact ⟨_, _, hal.putV (by simpa using ht) den_newsl⟩

/-- a nil slice in a slot is taken for an empty vector of the call's own -/
theorem wk_nil {n k : Nat} {E : TypeId} {d : Dat} (hs : S.sl t = some (vv (.slice none 0 0))) (hd : d.len = 0) : Wk S ((S.new n ⟨true, E, k, d⟩).put t (o1 (.sl n 0 0))) := by
  refine ⟨fun w0 ω0 nt a w ⟨η, ω, h⟩ => ?_⟩
  obtain ⟨u, h1, h2⟩ := h.slots t _ hs
  have h2 : u = .slice none 0 0 := h2
  subst h2
  have hl := h.lay (x := n) (c := ⟨true, E, k, d⟩) (hd := ⟨none, 0, k⟩) (r := fun _ => ⟨none, 0, 1⟩) (Calm.refl S ω w) ⟨rfl, .inl ⟨rfl, rfl, hd⟩⟩
  refine ⟨_, ω, { hl with slots := fun t' av ht' => ?_ }⟩
  rw [sl_put] at ht'
  by_cases e : t' = t
  · subst e
    rw [if_pos rfl] at ht'
    obtain rfl := Option.some.inj ht'
    exact ⟨_, h1, den_new (hd := ⟨none, 0, k⟩) (m := 0)⟩
  · rw [if_neg e] at ht'
    exact hl.slots t' av ht'
end
end Go.Proofs.Ytnfkhgamnapgmaa

/- A memory of names: structs stored whole, rows laid into rows, nil cells. No program in sight. -/
namespace Go.Proofs.Ytnfkhgamnapgmaa
open Go.RowKit

def A1.hasE (x : Nm) : A1 → Bool
  | .esl y _ _ _ | .eptr y _ _ => Nat.beq x y
  | _ => false
def A2.hasE (x : Nm) : A2 → Bool
  | .one a => a.hasE x
  | .agg l => l.any (A1.hasE x)
def AV.hasE (x : Nm) : AV → Bool
  | .s a => a.hasE x
  | .tup l => l.any (A2.hasE x)
def Dat.cutE (x : Nm) : Dat → Dat
  | .flat l => .flat (l.map fun a => bif a.hasE x then .any else a)
  | d => d
/-- whatever looks into a row of x is forgotten -/
def St.cutE (S : St) (x : Nm) : St :=
  { sl := fun t => (S.sl t).bind fun av => bif av.hasE x then none else some av
    ph := fun t => (S.ph t).bind fun av => bif av.hasE x then none else some av
    ch := fun y => (S.ch y).map fun c => { c with d := c.d.cutE x } }
structure RowTurn (η η' : Env) (n : Nm) : Prop where
  h : ∀ y, η'.h y = η.h y
  r : ∀ y, y ≠ n → ∀ i, η'.r y i = η.r y i
theorem Den1.cut {η η' : Env} {n : Nm} {a : A1} {u : Value} (ht : RowTurn η η' n) (hb : a.hasE n = false) (h : Den1 η a u) : Den1 η' a u := by
  cases a with
  | esl x i off m =>
    have hne : x ≠ n := fun e => by subst e; simp [A1.hasE] at hb
    exact ⟨h.1, fun hd he => by rw [ht.r x hne i]; exact h.2 hd (ht.h x ▸ he)⟩
  | eptr x i off =>
    have hne : x ≠ n := fun e => by subst e; simp [A1.hasE] at hb
    exact ⟨h.1, fun hd he => by rw [ht.r x hne i]; exact h.2 hd (ht.h x ▸ he)⟩
  | sl x off m => exact ⟨h.1, fun hd he => h.2 hd (ht.h x ▸ he)⟩
  | ptr x off => exact ⟨h.1, fun hd he => h.2 hd (ht.h x ▸ he)⟩
  | val v => exact h
  | any => exact h
  | clo f xs =>
    obtain ⟨us, h1, h2, h3⟩ := h
    refine ⟨us, h1, h2, fun j p hp => ?_⟩
    obtain ⟨q, hq, hq1, hq2⟩ := h3 j p hp
    exact ⟨q, hq, hq1, fun hd he => hq2 hd (ht.h p.1 ▸ he)⟩
theorem Den2.cut {η η' : Env} {n : Nm} {a : A2} {u : Value} (ht : RowTurn η η' n) (hb : a.hasE n = false) (h : Den2 η a u) : Den2 η' a u := by
  cases a with
  | one a => exact Den1.cut ht hb h
  | agg l =>
    obtain ⟨us, h1, h2, h3⟩ := h
    refine ⟨us, h1, h2, fun j a ha => ?_⟩
    obtain ⟨u', h4, h5⟩ := h3 j a ha
    exact ⟨u', h4, h5.cut ht (by have := List.any_eq_false.1 (show l.any (A1.hasE n) = false from hb) a (List.mem_of_getElem? ha); simpa using this)⟩
theorem Den.cut {η η' : Env} {n : Nm} {a : AV} {u : Value} (ht : RowTurn η η' n) (hb : a.hasE n = false) (h : Den η a u) : Den η' a u := by
  cases a with
  | s a => exact Den2.cut ht hb h
  | tup l =>
    obtain ⟨us, h1, h2, h3⟩ := h
    refine ⟨us, h1, h2, fun j a ha => ?_⟩
    obtain ⟨u', h4, h5⟩ := h3 j a ha
    exact ⟨u', h4, h5.cut ht (by have := List.any_eq_false.1 (show l.any (A2.hasE n) = false from hb) a (List.mem_of_getElem? ha); simpa using this)⟩

section
variable {P : Program} {nt : Nat} {S S' : St} {w0 w : World} {ω0 : Beg} {ω : Own?} {η : Env} {a : Act}
variable {t : Nat} {ty : TypeId} {ps : String} {af : Array Edge} {gd : Option (Nat × Bool)} {x y : Operand} {av : AV}

/-- a chunk of rows is written, and its rows turn -/
theorem SatE.rewrite (h : SatE w0 ω0 nt S η ω a w) {n : Nm} {c' : Ch} {hd : Hd} {r : Nat → Hd} {ω' : Own?} {w' : World} (he : η.h n = some hd) (hk : Calm (S.rm n) ω w ω' w')
    (hc : ChIs { η with r := fun y i => if y = n then r i else η.r y i } ω' w' n hd c') : SatE w0 ω0 nt ((S.cutE n).set n c') { η with r := fun y i => if y = n then r i else η.r y i } ω' a w' := by
  have ht : RowTurn η { η with r := fun y i => if y = n then r i else η.r y i } n := ⟨fun _ => rfl, fun y hy i => if_neg hy⟩
  refine { dfr := h.dfr, tsz := h.tsz, fr := hk.fr h.fr, slots := fun t av hs => ?_, phs := fun t av hs => ?_, mem := ⟨fun y d hy => ?_, fun y hy => ?_⟩ }
  · obtain ⟨h1, h2⟩ := bind_bad hs
    obtain ⟨u, h3, h4⟩ := h.slots t av h1
    exact ⟨u, h3, h4.cut ht h2⟩
  · obtain ⟨h1, h2⟩ := bind_bad hs
    obtain ⟨u, h3, h4⟩ := h.phs t av h1
    exact ⟨u, h3, h4.cut ht h2⟩
  · rw [ch_set] at hy
    by_cases e : y = n
    · subst e
      rw [if_pos rfl] at hy
      obtain rfl := Option.some.inj hy
      exact ⟨hd, he, hc⟩
    · rw [if_neg e] at hy
      simp only [St.cutE, Option.map_eq_some_iff] at hy
      obtain ⟨d0, hd0, rfl⟩ := hy
      obtain ⟨hq, e1, e2⟩ := h.mem.1 y d0 hd0
      refine ⟨hq, e1, e2.1, ?_⟩
      have hl : (d0.d.cutE n).len = d0.d.len := by cases d0.d <;> simp [Dat.cutE, Dat.len]
      show Vec d0.own ω' w' (y, none) hq d0.E (d0.d.cutE n).len (cellsOK _ ω' w' d0.own y (d0.d.cutE n))
      rw [hl]
      have hlive : live (S.rm n) (some (y, none)) := .inr ⟨y, none, d0, rfl, by rw [ch_rm, if_neg e]; exact hd0⟩
      refine e2.2.same hk.same (.inl rfl) hlive fun j u hu => ?_
      cases hdd : d0.d with
      | flat l =>
        rw [hdd] at hu
        intro b hb
        simp only [List.getElem?_map, Option.map_eq_some_iff] at hb
        obtain ⟨b0, hb0, rfl⟩ := hb
        cases hbad : b0.hasE n with
        | true =>
          refine (hu b0 hb0).one fun v hv => ?_
          subst hv; cases hbad
        | false => exact (hu b0 hb0).cut ht hbad
      | vals vs => rw [hdd] at hu; exact hu
      | rows E vss holes =>
        rw [hdd] at hu
        refine ⟨hu.1, fun hj vs hvs => ?_⟩
        obtain ⟨h1, h2, h3⟩ := hu.2 hj vs hvs
        simp only [if_neg e]
        exact ⟨h1, h2, h3.same hk.same (.inl rfl) (.inr ⟨y, some j, d0, rfl, by rw [ch_rm, if_neg e]; exact hd0⟩) fun _ _ h => h⟩
      | mix cs =>
        rw [hdd] at hu
        exact ⟨hu.1, fun c hc => (hu.2 c hc).move (if_neg e) fun _ _ _ _ _ h3 => h3.same hk.same (.inl rfl) (.inr ⟨y, some j, d0, rfl, by rw [ch_rm, if_neg e]; exact hd0⟩) fun _ _ h => h⟩
  · rw [ch_set] at hy
    by_cases e : y = n
    · rw [if_pos e] at hy; cases hy
    · rw [if_neg e] at hy
      simp only [St.cutE, Option.map_eq_none_iff] at hy
      exact h.mem.2 y hy

/-- a vector of the call's own is laid into row i -/
theorem stp_storeRow {T E F n i z m : Nat} {vss : List (List Value)} {vs : List Value} {holes : List Nat} (hx : S.op x = some (o1 (.ptr n i))) (hc : S.ch n = some ⟨true, E, 1, .rows F vss holes⟩) (hh : ∀ j ∈ holes, j = i) (hy : S.op y = some (o1 (.sl z 0 m))) (hz : S.ch z = some ⟨true, F, 1, .vals vs⟩)
    (hm : vs.length = m) (hzn : Nat.beq z n = false) (hi : i < vss.length) (hT : sizeB P T 1 = true) : Stp P nt ⟨none, .store T x y, ty, ps, af, gd⟩ S (((S.rm z).cutE n).set n ⟨true, E, 1, .rows F (vss.set i vs) []⟩) :=
  Stp.unit rfl fun w0 ω0 η ω a w hs => by
    have hne : z ≠ n := fun e => by rw [e] at hzn; simp at hzn
    subst hm
    have hp : Den1 η (.ptr n i) (a.eval x) := hs.opv hx
    have hv : Den1 η (.sl z 0 vs.length) (a.eval y) := hs.opv hy
    obtain ⟨h, e1, e2, e3⟩ := hs.chunk hc
    obtain ⟨hz', z1, z2, z3⟩ := hs.chunk hz
    have z2 : hz'.k = 1 := z2
    have z3 : VecO ω w (z, none) hz' F vs.length (cellsOK η ω w true z (.vals vs)) := z3
    obtain ⟨az, hav, q1, _⟩ := hv.2 hz' z1
    obtain ⟨b, o, g1, g2⟩ := hp.2 h e1
    have e3 : VecO ω w (n, none) h E vss.length (cellsOK η ω w true n (.rows F vss holes)) := e3
    rcases e3 with ⟨_, _, h0⟩ | ⟨b', o', cs, f1, f2, f3, f4, f5, f6, f7⟩
    · omega
    rw [g1] at f1; injection f1 with f1; injection f1 with f1 f1'; subst f1 f1'
    obtain ⟨u, hu, _⟩ := f7 i hi
    have hcell : w.cell? ⟨b, o + i, none⟩ = some u := by rw [cell_of_row w b (o + i) cs E (0, 0) f3]; exact hu
    have hsz : o + i < cs.size := by
      rcases Nat.lt_or_ge (o + i) cs.size with hlt | hge
      · exact hlt
      · rw [Array.getElem?_eq_none hge] at hu; cases hu
    have hS : ((S.rm z).rm n).ch n = none := by simp [ch_rm]
    have hSz : ((S.rm z).rm n).ch z = none := by simp [ch_rm, hne]
    have hsame := same_setCell (w := w) f2 ⟨b, o + i, none⟩ rfl (.slice az vs.length (hz'.c - 0))
    have calm : Calm ((S.rm z).rm n) ω w (Own?.give ω z n i) (w.setCell ⟨b, o + i, none⟩ (.slice az vs.length (hz'.c - 0))) := ⟨rfl, rfl, rfl, hsame.1, fun b2 hb2 hl => by
      have h1 : ω b2 ≠ some (n, none) ∧ ω b2 ≠ some (z, none) := by
        rcases hl with h0 | ⟨y, j, c, h0, h1⟩
        · rw [h0]; simp
        · rw [h0]
          refine ⟨fun e => ?_, fun e => ?_⟩
          · simp at e; rw [e.1, hS] at h1; cases h1
          · simp at e; rw [e.1, hSz] at h1; cases h1
      exact ⟨(hsame.2 b2 hb2 h1.1).1, if_neg h1.2⟩⟩
    have key : ChIs { η.drop z with r := fun y j => if y = n then (if j = i then hz' else η.r n j) else η.r y j } (Own?.give ω z n i) (w.setCell ⟨b, o + i, none⟩ (.slice az vs.length (hz'.c - 0))) n h ⟨true, E, 1, .rows F (vss.set i vs) []⟩ := by
      refine ⟨e2, ?_⟩
      have hbz : ω b ≠ some (z, none) := by rw [f2]; simp; exact fun e => hne e.symm
      refine .inr ⟨b, o, _, g1, (if_neg hbz).trans f2, heap_set f3 _, by simpa using f4, by show (vss.set i vs).length ≤ _; rw [List.length_set]; exact f5, f6, fun j hj => ?_⟩
      have hj : j < vss.length := by simpa [Dat.len] using hj
      by_cases e : j = i
      · subst e
        refine ⟨.slice az vs.length (hz'.c - 0), by simp [hsz], rfl, fun _ vs' hvs' => ?_⟩
        rw [List.getElem?_set_self hi] at hvs'
        obtain rfl := Option.some.inj hvs'
        simp only [if_true]
        refine ⟨by rw [q1 rfl]; rfl, z2, VecO.give z3 fun b2 hb2 ho => ⟨(hsame.2 b2 hb2 (by rw [ho]; simp; exact fun e => absurd e hne)).1, if_pos ho⟩⟩
      · obtain ⟨u', hu', hk⟩ := f7 j hj
        refine ⟨u', by rw [Array.getElem?_setIfInBounds_ne (by omega)]; exact hu', hk.1, fun _ vs' hvs' => ?_⟩
        rw [List.getElem?_set_ne (fun e' => e e'.symm)] at hvs'
        obtain ⟨r1, r2, r3⟩ := hk.2 (fun hm => e (hh j hm)) vs' hvs'
        simp only [if_true, if_neg e]
        refine ⟨r1, r2, VecO.same (fun b2 hb2 ho => ⟨(hsame.2 b2 hb2 (by rw [ho]; simp)).1, ?_⟩) (fun _ _ h => h) r3⟩
        unfold Own?.give
        rw [if_neg (by rw [ho]; simp)]; exact ho
    have hfin := (hs.drop z).rewrite (n := n) (r := fun j => if j = i then hz' else η.r n j) (hd := h) (by show (if n = z then none else η.h n) = some h; rw [if_neg (fun e => hne e.symm)]; exact e1) calm key
    have hst := run_store1 (P := P) hT hcell (frozen_of f3) (v := .slice az vs.length (hz'.c - 0)) rfl
    simp only [Nat.sub_zero] at hst hfin
    refine ⟨_, by simp [execOp, hav, g2, hst], _, _, hfin⟩

/-- a struct is stored whole -/
theorem stp_storeAgg {T : TypeId} {n : Nm} {k : Nat} {c : Ch} {l l' : List A1} (hx : S.op x = some (o1 (.ptr n 0))) (hy : S.op y = some (.s (.agg l'))) (hc : S.ch n = some c) (hown : c.own = true) (hd : c.d = .flat l) (hk : l.length = k) (hk' : l'.length = k) (hk0 : Nat.blt 0 k = true)
    (hT : sizeB P T k = true) (h1 : (l'.all fun b => (A2.one b).okB) = true) : Stp P nt ⟨none, .store T x y, ty, ps, af, gd⟩ S (S.set n { c with d := .flat l' }) :=
  Stp.unit rfl fun w0 ω0 η ω a w hs => by
    have hp : Den1 η (.ptr n 0) (a.eval x) := hs.opv hx
    obtain ⟨us, hus, hul, hua⟩ : Den2 η (.agg l') (a.eval y) := hs.opv hy
    obtain ⟨h, e1, e2, e3⟩ := hs.chunk hc
    obtain ⟨b, o, g1, g2⟩ := hp.2 h e1
    rw [hown, hd] at e3
    have hk0' : 0 < k := by simpa using hk0
    rcases e3 with ⟨_, _, h0⟩ | ⟨b', o', cs, f1, f2, f3, f4, f5, f6, f7⟩
    · have h0 : l.length = 0 := h0; omega
    rw [g1] at f1; injection f1 with f1; injection f1 with f1 f1'; subst f1 f1'
    have f5 : l.length ≤ h.c * h.k := f5
    have hone : ∀ v ∈ us.toList, v.oneCell' = true := by
      intro v hv
      obtain ⟨j, hj, rfl⟩ := List.getElem_of_mem hv
      have hjl : j < l'.length := by rw [← hul]; simpa using hj
      obtain ⟨u', hu', hdu⟩ := hua j l'[j] (List.getElem?_eq_getElem hjl)
      have : u' = us.toList[j] := by
        have h2 : us[j]? = some us.toList[j] := by rw [← Array.getElem?_toList, List.getElem?_eq_getElem hj]
        rw [hu'] at h2; exact Option.some.inj h2
      rw [← this]
      exact hdu.one fun v hv => A2.okB_spec (List.all_eq_true.1 h1 _ (List.getElem_mem hjl)) v (by rw [hv])
    have hst := run_storeCells_at P b o c.E us.toList 0 cs w f3 (by simp [hul]; omega) hone
    simp only [Nat.add_zero] at hst
    refine ⟨w.setRow b (cs.toList.take o ++ us.toList ++ cs.toList.drop (o + us.toList.length)).toArray, by simp only [execOp, g2, hus]; simp [Instr.storeAt, Instr.sureAddr, storeVar, sizeB_run hT, Value.cells, hul, hk']; rw [hst]; simp [hul, hk'], η, ω, hs.write e1 (c' := { c with d := .flat l' }) ⟨rfl, rfl, rfl, by simp, fun b2 hb2 hl => ⟨setRow_other w b b2 _ (fun e => ?_), rfl⟩⟩ ⟨e2, ?_⟩⟩
    · subst e
      rcases hl with h0 | ⟨y, j, c2, h0, h2⟩
      · rw [f2] at h0; cases h0
      · rw [f2] at h0; simp at h0; rw [← h0.1, ch_rm, if_pos rfl] at h2; cases h2
    · show Vec c.own ω _ (n, none) h c.E l'.length (cellsOK η ω _ c.own n (.flat l'))
      rw [hown]
      have htl : (cs.toList.take o).length = o := by rw [List.length_take, Array.length_toList]; omega
      refine .inr ⟨b, o, _, g1, f2, setRow_heap w b cs _ c.E _ f3, ?_, by omega, f6, fun j hj => ?_⟩
      · simp only [List.size_toArray, List.length_append, htl, List.length_drop, Array.length_toList, hul]; omega
      · obtain ⟨u', hu', hdu⟩ := hua j l'[j] (List.getElem?_eq_getElem hj)
        refine ⟨u', ?_, fun b1 hb1 => ?_⟩
        · simp only [List.getElem?_toArray]
          have := get_app3 (a := cs.toList.take o) (b := us.toList) (c := cs.toList.drop (o + us.toList.length)) (j := j) (v := u') (by rw [Array.getElem?_toList]; exact hu')
          rw [htl] at this
          exact this
        · rw [List.getElem?_eq_getElem hj] at hb1
          obtain rfl := Option.some.inj hb1; exact hdu
end
end Go.Proofs.Ytnfkhgamnapgmaa
