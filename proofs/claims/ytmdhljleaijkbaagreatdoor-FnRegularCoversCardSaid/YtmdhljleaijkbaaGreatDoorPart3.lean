/- From contracts in names to contracts in words (RdS, OwSS, ..), and back. No program in sight. -/
import Derived.Test.YtmdhljleaijkbaaGreatDoorPart2
import Derived.Test.YtmdhljleaijkbaaGreatDoorPart1
import Derived.Test.YtmdhljleaijkbaaGreatDoorProg
namespace Go.Proofs.YtmdhljleaijkbaaGreatDoor
open Go.RowKit

/-- nobody's blocks -/
def noOwn : Own? := fun _ => none
/-- a chunk that is only read lies at the head h, its rows at the heads r -/
def Hv (w : World) (x : Nm) (c : Ch) (h : Hd) (r : Nat → Hd) : Prop := ∀ η : Env, (∀ i, η.r x i = r i) → ChIs η noOwn w x h c
abbrev Lay := List (Nm × (Ch × Hd × (Nat → Hd)))
def envOf (l : Lay) : Env := { h := fun x => (lk x l).map fun q => q.2.1, r := fun x i => match lk x l with | some q => q.2.2 i | none => ⟨none, 0, 1⟩ }
theorem lk_map {α β : Type} (f : α → β) : ∀ (l : List (Nat × α)) (x : Nat), lk x (l.map fun p => (p.1, f p.2)) = (lk x l).map f
  | [], x => rfl
  | p :: r, x => by
    simp only [List.map_cons, lk]
    rw [lk_map f r x]
    cases Nat.beq x p.1 <;> rfl
theorem mem_of {w : World} {l : Lay} (h : ∀ p ∈ l, Hv w p.1 p.2.1 p.2.2.1 p.2.2.2) : Mem (envOf l) noOwn w (fun x => lk x (l.map fun p => (p.1, p.2.1))) := by
  have hl : ∀ x, lk x (l.map fun p => (p.1, p.2.1)) = (lk x l).map fun q => q.1 := fun x => lk_map (fun q => q.1) l x
  refine ⟨fun x c hx => ?_, fun x hx => ?_⟩
  · replace hx := (hl x).symm.trans hx
    obtain ⟨q, hq, rfl⟩ := Option.map_eq_some_iff.1 hx
    refine ⟨q.2.1, by simp [envOf, hq], h (x, q) (lk_mem hq) _ fun i => by simp [envOf, hq]⟩
  · replace hx := (hl x).symm.trans hx
    have : lk x l = none := by simpa using hx
    simp [envOf, this]
theorem den_sl {l : Lay} {x : Nm} {q : Ch × Hd × (Nat → Hd)} {n : Nat} (h : lk x l = some q) : Den1 (envOf l) (.sl x 0 n) (.slice q.2.1.ao n q.2.1.c) :=
  ⟨⟨_, _, rfl⟩, fun h' hh => by
    have hh : (lk x l).map (fun q => q.2.1) = some h' := hh
    rw [h] at hh; simp at hh; subst hh
    exact ⟨_, rfl, fun _ => rfl, fun h0 => absurd h0 (by omega)⟩⟩

theorem ofS {E : Nat} {w : World} {v : Value} {zs : List Int} (x E' : Nat) (h : OwS E w v zs) : ∃ hd r, v = .slice hd.ao zs.length hd.c ∧ Hv w x ⟨false, E', 1, .vals (ivals zs)⟩ hd r := by
  obtain ⟨ao, n, c, rfl, ho⟩ := h
  have hl := ho.len
  simp at hl
  subst hl
  refine ⟨⟨ao, c, 1⟩, fun _ => ⟨none, 0, 1⟩, rfl, fun η _ => ⟨rfl, ?_, fun j hj => ?_⟩⟩
  · show (ivals zs).length ≤ c * 1
    rw [ivals_len, Nat.mul_one]
    rcases Nat.eq_zero_or_pos zs.length with h0 | h0
    · omega
    · obtain ⟨g, _, _, _, h1, _⟩ := ho.form h0; exact h1
  · have hj : j < zs.length := by have : j < (ivals zs).length := hj; rwa [ivals_len] at this
    obtain ⟨g, rfl, _, hlt, _, hc, _⟩ := ho.form (by omega)
    refine ⟨g, 0, I6 (iget zs j), rfl, rfl, hlt, ?_, ivals_get hj⟩
    rw [Nat.zero_add, hc j hj]
    exact ivals_get hj
/-- what a contract in names says of a call whose arguments are only read -/
theorem FC.call {P : Program} {f : FuncId} {ins outs : List (Nm × Ch)} {args : List AV} {res : AV} {back : List (Nat × AV)} (h : FC P f ins args outs res back) {w : World} {l : Lay} {us : List Value} (hl : ∀ p ∈ l, Hv w p.1 p.2.1 p.2.2.1 p.2.2.2) (hi : (l.map fun p => (p.1, p.2.1)) = ins)
    (hd : DenL (envOf l) args us) : Calls P f us.toArray w fun e w' => ∃ v η ω, e = .returned v ∧ Den η res v ∧ Mem η ω w' (fun x => lk x outs) ∧ Below w.heap.size w w' ∧ ∀ b, b < w.heap.size → ω b = none := by
  subst hi
  refine (h w (envOf l) noOwn us (mem_of hl) hd).mono ?_
  rintro e w' ⟨v, η, ω, he, h1, h2, h3, _⟩
  exact ⟨v, η, ω, he, h1, h2, ⟨h3.os, h3.tape, h3.output, h3.size, fun b hb => (h3.block b hb rfl).1⟩, fun b hb => (h3.block b hb rfl).2⟩

section
variable {η : Env} {ω : Own?} {w' : World} {lo : Nat} {outs : List (Nm × Ch)}
/-- a vector of the call's own is a row of the words -/
theorem VecO.own {ow : Nm × Option Nat} {h : Hd} {E : Nat} {xs : List Value} {len : Nat} {cell : Nat → Value → Prop} (hk : h.k = 1) (hv : VecO ω w' ow h E len cell) (hlo : ∀ b, b < lo → ω b = none) (hn : len ≤ 4398046511104) (hx : xs.length = len)
    (hc : ∀ j u, j < len → (∃ b o, h.ao = some ⟨b, o, none⟩ ∧ w'.cell? ⟨b, o + j, none⟩ = some u) → xs[j]? = some u) :
    Own w' lo E h.ao len h.c xs ∧ ∀ g, bk h.ao = some g → g < w'.heap.size ∧ ω g = some ow := by
  rcases hv with ⟨h1, h2, h3⟩ | ⟨b, o, cs, h1, h2, h3, ⟨h4, h4'⟩, h5, h6, h7⟩
  · subst h3
    refine ⟨⟨⟨by simpa using hx, .inl ⟨by rw [h1, h2], rfl⟩⟩, hn⟩, fun g hg => by rw [h1] at hg; cases hg⟩
  · subst h4
    rw [hk, Nat.mul_one] at h4' h5
    have hb : lo ≤ b := by
      rcases Nat.lt_or_ge b lo with h8 | h8
      · rw [hlo b h8] at h2; cases h2
      · exact h8
    refine ⟨⟨⟨by simpa using hx, .inr ⟨b, h.c, cs, by rw [h1], hb, h3, h5, h6, by rw [h4', Nat.mul_one], ?_⟩⟩, hn⟩, fun g hg => ?_⟩
    · apply List.ext_getElem?
      intro j
      rw [Nat.mul_one, List.getElem?_take]
      by_cases hj : j < len
      · obtain ⟨u, hu, _⟩ := h7 j hj
        rw [Nat.zero_add] at hu
        rw [if_pos hj, hc j u hj ⟨b, 0, h1, by rw [Nat.zero_add, cell_of_row w' b j cs E (0, 0) h3]; exact hu⟩]
        simpa using hu
      · rw [if_neg hj, List.getElem?_eq_none (by omega)]
    · rw [h1] at hg
      simp [bk] at hg
      subst hg
      exact ⟨lt_of_heap h3, h2⟩
theorem toS {x E : Nat} {zs : List Int} {v : Value} (hm : Mem η ω w' (fun x => lk x outs)) (hlo : ∀ b, b < lo → ω b = none) (hx : lk x outs = some ⟨true, E, 1, .vals (ivals zs)⟩) (hv : Den1 η (.sl x 0 zs.length) v) (hn : zs.length ≤ 4398046511104) : OwnS E w' lo w'.heap.size v zs := by
  obtain ⟨h, h1, h2, h3⟩ := hm.1 x _ hx
  obtain ⟨ao, rfl, h4, _⟩ := hv.2 h h1
  have h3 : VecO ω w' (x, none) h E (ivals zs).length (cellsOK η ω w' true x (.vals (ivals zs))) := h3
  rw [h4 rfl, Nat.sub_zero]
  obtain ⟨k1, k2⟩ := VecO.own (xs := ivals zs) h2 h3 hlo (by rw [ivals_len]; exact hn) rfl fun j u hj ⟨b, o, e1, e2⟩ => by
    obtain ⟨b', o', u', f1, f2, f3⟩ := Vec.get (own := true) h3 hj
    rw [e1] at f1; injection f1 with f1; injection f1 with f1 f1'; subst f1 f1'
    rw [e2] at f2
    obtain rfl := Option.some.inj f2
    exact f3
  rw [ivals_len] at k1
  exact ⟨⟨_, _, _, rfl, k1.mono (Nat.zero_le _)⟩, fun g hg => by
    rw [ownBlock_slice] at hg
    exact ⟨(k1.lt g hg).1, (k2 g hg).1⟩⟩
theorem toSS {x E F : Nat} {zss : List (List Int)} {v : Value} (hm : Mem η ω w' (fun x => lk x outs)) (hlo : ∀ b, b < lo → ω b = none) (hx : lk x outs = some ⟨true, E, 1, .rows F (irows zss) []⟩) (hv : Den1 η (.sl x 0 zss.length) v) (hn : zss.length ≤ 4398046511104) (hr : ∀ zs ∈ zss, zs.length ≤ 4398046511104) :
    OwSS F E w' lo w'.heap.size v zss := by
  obtain ⟨h, h1, h2, h3⟩ := hm.1 x _ hx
  obtain ⟨ao, rfl, h4, _⟩ := hv.2 h h1
  have h3 : VecO ω w' (x, none) h E (irows zss).length (cellsOK η ω w' true x (.rows F (irows zss) [])) := h3
  rw [h4 rfl, Nat.sub_zero]
  have hlen : (irows zss).length = zss.length := irows_len zss
  obtain ⟨us, hus, hul⟩ : ∃ us : List Value, (∀ j, j < zss.length → us[j]? = some (.slice (η.r x j).ao (lget zss j).length (η.r x j).c)) ∧ us.length = zss.length :=
    ⟨(List.range zss.length).map fun j => .slice (η.r x j).ao (lget zss j).length (η.r x j).c, fun j hj => by simp [hj], by simp⟩
  have cell : ∀ j, j < zss.length → ∃ b o, h.ao = some ⟨b, o, none⟩ ∧ w'.cell? ⟨b, o + j, none⟩ = some (.slice (η.r x j).ao (lget zss j).length (η.r x j).c) ∧ (η.r x j).k = 1 ∧ VecO ω w' (x, some j) (η.r x j) F (ivals (lget zss j)).length fun i u => (ivals (lget zss j))[i]? = some u := fun j hj => by
    obtain ⟨b', o', u', f1, f2, f3, f4⟩ := Vec.get (own := true) h3 (j := j) (by rw [hlen]; exact hj)
    obtain ⟨g1, g2, g3⟩ := f4 (by simp) (ivals (lget zss j)) (irows_get hj)
    rw [ivals_len] at g1
    exact ⟨b', o', f1, by rw [f2, g1], g2, g3⟩
  obtain ⟨k1, k2⟩ := VecO.own (xs := us) h2 h3 hlo (by rw [hlen]; exact hn) (by rw [hul, hlen]) fun j u hj ⟨b, o, e1, e2⟩ => by
    rw [hlen] at hj
    obtain ⟨b', o', f1, f2, _⟩ := cell j hj
    rw [e1] at f1; injection f1 with f1; injection f1 with f1 f1'; subst f1 f1'
    rw [e2] at f2
    rw [hus j hj, Option.some.inj f2]
  rw [hlen] at k1
  have row : ∀ j, j < zss.length → Own w' lo F (η.r x j).ao (lget zss j).length (η.r x j).c (ivals (lget zss j)) ∧ ∀ g, bk (η.r x j).ao = some g → g < w'.heap.size ∧ ω g = some (x, some j) := fun j hj => by
    obtain ⟨_, _, _, _, g2, g3⟩ := cell j hj
    have hb : (lget zss j).length ≤ 4398046511104 := hr _ (lget_mem hj)
    have := VecO.own (lo := lo) (xs := ivals (lget zss j)) g2 g3 hlo (by rw [ivals_len]; exact hb) rfl fun i u hi ⟨b, o, e1, e2⟩ => by
      obtain ⟨b', o', u', f1, f2, f3⟩ := Vec.get (own := true) g3 hi
      rw [e1] at f1; injection f1 with f1; injection f1 with f1 f1'; subst f1 f1'
      rw [e2] at f2
      obtain rfl := Option.some.inj f2
      exact f3
    rw [ivals_len] at this
    exact this
  have hlt : ∀ {j : Nat} {u : Value}, us[j]? = some u → j < zss.length ∧ u = .slice (η.r x j).ao (lget zss j).length (η.r x j).c := fun {j u} hu => by
    have hj : j < zss.length := by have := (List.getElem?_eq_some_iff.1 hu).1; omega
    rw [hus j hj] at hu
    exact ⟨hj, (Option.some.inj hu).symm⟩
  refine ⟨_, _, _, us, rfl, { own := k1, top := fun g hg => (k2 g hg).1, len := rfl, el := fun j u d hu hd => ?_, rng := fun j u hu g hg => ?_, out := fun j u g hu hg => ?_, apart := fun i j u u' g hij hu hu' hg => ?_ }⟩
  · obtain ⟨hj, rfl⟩ := hlt hu
    have : d = lget zss j := (lget_get? hd).symm
    subst this
    exact ⟨_, _, _, rfl, (row j hj).1.mono (Nat.zero_le _)⟩
  · obtain ⟨hj, rfl⟩ := hlt hu
    rw [ownBlock_slice] at hg
    exact ⟨((row j hj).1.lt g hg).1, ((row j hj).2 g hg).1⟩
  · obtain ⟨hj, rfl⟩ := hlt hu
    rw [ownBlock_slice] at hg
    intro e
    have h8 := ((row j hj).2 g hg).2
    rw [(k2 g e).2] at h8
    simp at h8
  · obtain ⟨hi, rfl⟩ := hlt hu
    obtain ⟨hj, rfl⟩ := hlt hu'
    rw [ownBlock_slice] at hg ⊢
    intro e
    have h8 := ((row i hi).2 g hg).2
    rw [((row j hj).2 g e).2] at h8
    simp at h8
    omega
end

/-- a contract in words of a function that reads, as a contract in names -/
theorem fc_of_calls {P : Program} {f : FuncId} {ins : List (Nm × Ch)} {args : List AV} {r : Value} (h : ∀ w η ω us, Mem η ω w (fun x => lk x ins) → DenL η args us → Calls P f us.toArray w fun e w' => e = .returned r ∧ Below w.heap.size w w') : FC P f ins args [] (vv r) [] := by
  intro w η ω us hm hd
  refine (h w η ω us hm hd).mono ?_
  rintro e w' ⟨rfl, hb⟩
  exact ⟨r, { h := fun _ => none, r := η.r }, ω, rfl, rfl, ⟨fun x c hx => (nomatch hx), fun x _ => rfl⟩, ⟨hb.os, hb.tape, hb.output, hb.size, fun b hlt hn => ⟨hb.block b hlt, hn⟩⟩, fun t av ht => (nomatch ht)⟩
section
variable {η : Env} {ω : Own?} {w : World} {ins : List (Nm × Ch)}
theorem rdS {x : Nat} {own : Bool} {E : Nat} {zs : List Int} {v : Value} (hm : Mem η ω w (fun x => lk x ins)) (hx : lk x ins = some ⟨own, E, 1, .vals (ivals zs)⟩) (hv : Den1 η (.sl x 0 zs.length) v) (hn : zs.length ≤ 17592186044416) : ∃ ao c, v = .slice ao zs.length c ∧ Ints w ao zs.length zs := by
  obtain ⟨h, h1, h2, h3⟩ := hm.1 x _ hx
  obtain ⟨ao, rfl, h4, _⟩ := hv.2 h h1
  have h3 : Vec own ω w (x, none) h E (ivals zs).length (cellsOK η ω w own x (.vals (ivals zs))) := h3
  rw [h4 rfl]
  refine ⟨_, _, rfl, rfl, hn, fun h0 => ?_⟩
  obtain ⟨b, o, u, f1, _, _⟩ := h3.get (j := 0) (by rw [ivals_len]; exact h0)
  refine ⟨b, o, f1, fun j hj => ?_⟩
  obtain ⟨b', o', u', g1, g2, g3⟩ := h3.get (j := j) (by rw [ivals_len]; exact hj)
  rw [f1] at g1; injection g1 with g1; injection g1 with g1 g1'; subst g1 g1'
  have g3 : (ivals zs)[j]? = some u' := g3
  rw [ivals_get hj] at g3
  rw [g2, ← g3]
end
end Go.Proofs.YtmdhljleaijkbaaGreatDoor

/- A memory of names: calls that make one vector; rows taken out and laid back; slices of rows; literals of rows and of arrays. No program in sight. -/
namespace Go.Proofs.YtmdhljleaijkbaaGreatDoor
open Go.RowKit

section
variable {P : Program} {nt : Nat} {S S1 S2 : St} {w0 w : World} {ω0 : Beg} {ω : Own?} {η : Env} {a : Act} {Q : Exit → Act → World → Prop} {ops : Array Oper} {rest : List Oper}
variable {t : Nat} {ty : TypeId} {ps : String} {af : Array Edge} {gd : Option (Nat × Bool)} {x y : Operand} {av : AV} {o : Oper}

theorem nbeq_comm (x y : Nat) : Nat.beq x y = Nat.beq y x := by
  cases h : Nat.beq x y with
  | true => rw [beq_true h]; simp
  | false =>
    cases h2 : Nat.beq y x with
    | false => rfl
    | true => rw [beq_true h2] at h; simp at h
theorem inL_one (x y : Nm) (c : Ch) : inL [(x, c)] y = Nat.beq x y := by
  unfold inL; simp only [lk]
  rw [nbeq_comm x y]
  cases Nat.beq y x <;> rfl
theorem bad_one (x : Nm) (c : Ch) (a : A1) : a.bad (inL [(x, c)]) (memB []) = a.has x := by
  cases a with
  | val v => rfl
  | any => rfl
  | sl y _ _ => exact inL_one x y c
  | ptr y _ => show (inL [(x, c)] y && !memB [] y) = _; rw [inL_one]; simp [memB, A1.has]
  | esl y _ _ _ => exact inL_one x y c
  | eptr y _ _ => exact inL_one x y c
  | clo f xs => show xs.any (fun p => inL [(x, c)] p.1 && !memB [] p.1) = xs.any fun p => Nat.beq x p.1; congr 1; funext p; rw [inL_one]; simp [memB]
theorem bad_one2 (x : Nm) (c : Ch) (a : A2) : a.bad (inL [(x, c)]) (memB []) = a.has x := by
  cases a with
  | one a => exact bad_one x c a
  | agg l => show l.any _ = l.any _; congr 1; funext a; exact bad_one x c a
theorem bad_one3 (x : Nm) (c : Ch) (a : AV) : a.bad (inL [(x, c)]) (memB []) = a.has x := by
  cases a with
  | s a => exact bad_one2 x c a
  | tup l => show l.any _ = l.any _; congr 1; funext a; exact bad_one2 x c a
theorem clean_one (x : Nm) (c d : Ch) : d.clean (inL [(x, c)]) (memB []) = d.forget x := by
  obtain ⟨ow, E, k, d⟩ := d
  unfold Ch.clean Ch.forget Dat.clean Dat.forget
  cases d with
  | flat l =>
    have : (l.map fun a => bif a.bad (inL [(x, c)]) (memB []) then A1.any else a) = l.map (A1.forget x) := List.map_congr_left fun a _ => by rw [bad_one]; rfl
    simp only [this]
  | vals vs => rfl
  | rows F vss hs => rfl
  | mix cs => rfl
/-- a call that reads and makes one chunk -/
theorem wk_after1 {ins : List (Nm × Ch)} {t : Nat} {res : AV} {x : Nm} {c : Ch} (hro : (ins.all fun p => !p.2.own) = true) : Wk ((S.after ins [(x, c)] []).putO (some t) res) ((S.new x c).put t res) := by
  have hc : ∀ x, consB ins x = false := fun x => by
    unfold consB
    cases h : lk x ins with
    | none => rfl
    | some c => have := List.all_eq_true.1 hro _ (lk_mem h); simpa using this
  refine Wk.less (fun t' av h => ?_) (fun y d h => ?_) fun t' av h => ?_
  · rw [sl_put] at h
    show ((S.after ins [(x, c)] []).put t res).sl t' = some av
    rw [sl_put]
    by_cases e : t' = t
    · rw [if_pos e] at h ⊢; exact h
    · rw [if_neg e] at h ⊢
      obtain ⟨h1, h2⟩ := sl_new h
      show ((S.sl t').bind fun av => bif av.bad (inL [(x, c)]) (memB []) then none else some av) = some av
      rw [h1, Option.bind_some, bad_one3, h2]; rfl
  · have h' : (S.new x c).ch y = some d := h
    clear h
    rw [ch_new] at h'
    show (match lk y [(x, c)] with | some c => some c | none => bif consB ins y then none else (S.ch y).map (Ch.clean (inL [(x, c)]) (memB []))) = some d
    simp only [lk]
    by_cases e : y = x
    · rw [if_pos e] at h'; subst e; simpa using h'
    · rw [if_neg e] at h'
      rw [beq_ne e, cond_false, hc, cond_false]
      have : Ch.clean (inL [(x, c)]) (memB []) = Ch.forget x := funext fun d => clean_one x c d
      rw [this]; exact h'
  · have h : (S.new x c).ph t' = some av := h
    obtain ⟨h1, h2⟩ := ph_new h
    show ((S.ph t').bind fun av => bif av.bad (inL [(x, c)]) (memB []) then none else some av) = some av
    rw [h1, Option.bind_some, bad_one3, h2]; rfl
theorem stp_callN {f : FuncId} {xs : Array Operand} {ts : Array TypeId} {ins : List (Nm × Ch)} {args args' : List AV} {res : AV} {back : List (Nat × AV)} {x : Nm} {c : Ch}
    (hfc : FC P f ins args [(x, c)] res back) (hf : goFnB P f = true) (ht : Nat.blt t nt = true) (hx' : opL S xs.toList = some args') (hto : allTo args' args) (hin : allIn S ins) (hro : (ins.all fun p => !p.2.own) = true) (hnr : (res.names.all (inL [(x, c)])) = true) (hno : ([(x, c)].all fun p => p.2.own && p.2.names.all (inL [(x, c)])) = true) :
    Stp P nt ⟨some t, .call { callee := .value (.func f), args := xs, argTypes := ts }, ty, ps, af, gd⟩ S ((S.new x c).put t res) :=
  (stp_call (kp := []) hfc hf (by simp [ht]) hx' hto hin trivial hnr hno).wk (wk_after1 hro)

/-- a contract in words of a function that hands back integers of its own, as a contract in names -/
theorem vecO_of {x : Nm × Option Nat} {w' : World} {lo E n c : Nat} {ao : Option Addr} {xs : List Value} (h : Own w' lo E ao n c xs) {ω' : Own?} (ho : ∀ g, bk ao = some g → ω' g = some x) : VecO ω' w' x ⟨ao, c, 1⟩ E xs.length fun j u => xs[j]? = some u := by
  have hl := h.len
  rcases h.1.2 with ⟨h2, h3⟩ | ⟨g, cap, cur, hv, hg, hh, h4, h5, h6, h7⟩
  · injection h2 with e1 e2 e3
    subst e1 e3
    exact .inl ⟨rfl, rfl, by omega⟩
  · injection hv with e1 e2 e3
    subst e1 e3
    refine .inr ⟨g, 0, cur, rfl, ho g rfl, hh, ⟨rfl, h6⟩, by show xs.length ≤ c * 1; omega, h5, fun j hj => ?_⟩
    have h8 : xs[j]? = some xs[j] := List.getElem?_eq_getElem hj
    refine ⟨xs[j], ?_, h8⟩
    have h9 : (cur.toList.take (n * 1))[j]? = some xs[j] := by rw [h7]; exact h8
    rw [List.getElem?_take] at h9
    split at h9
    · rw [Nat.zero_add]; simpa using h9
    · cases h9
theorem fc_of_own {f : FuncId} {ins : List (Nm × Ch)} {args : List AV} {x E : Nat} {zs : List Int} (h : ∀ w η ω us, Mem η ω w (fun x => lk x ins) → DenL η args us → Calls P f us.toArray w fun e w' => ∃ ao c, e = .returned (.slice ao zs.length c) ∧ Own w' w.heap.size E ao zs.length c (ivals zs) ∧ Below w.heap.size w w') :
    FC P f ins args [(x, ⟨true, E, 1, .vals (ivals zs)⟩)] (o1 (.sl x 0 zs.length)) [] := by
  intro w η ω us hm hd
  refine (h w η ω us hm hd).mono ?_
  rintro e w' ⟨ao, c, rfl, ho, hb⟩
  refine ⟨_, { h := fun y => if y = x then some ⟨ao, c, 1⟩ else none, r := η.r }, fun b => if bk ao = some b then some (x, none) else ω b, rfl, ⟨⟨_, _, rfl⟩, fun hd' he => ?_⟩, ⟨fun y d hy => ?_, fun y hy => ?_⟩, ⟨hb.os, hb.tape, hb.output, hb.size, fun b hlt hn => ⟨hb.block b hlt, ?_⟩⟩, fun t av ht => (nomatch ht)⟩
  · simp only [if_true, Option.some.injEq] at he
    subst he
    exact ⟨_, rfl, fun _ => rfl, fun h0 => absurd h0 (by omega)⟩
  · have hy : lk y [(x, (⟨true, E, 1, .vals (ivals zs)⟩ : Ch))] = some d := hy
    simp only [lk] at hy
    cases hb' : Nat.beq y x with
    | false => rw [hb'] at hy; simp at hy
    | true =>
      rw [hb'] at hy; simp at hy; subst hy
      obtain rfl := beq_true hb'
      exact ⟨⟨ao, c, 1⟩, if_pos rfl, rfl, vecO_of ho fun g hg => if_pos hg⟩
  · have hy : lk y [(x, (⟨true, E, 1, .vals (ivals zs)⟩ : Ch))] = none := hy
    have : y ≠ x := fun e => by subst e; simp [lk] at hy
    exact if_neg this
  · show (if bk ao = some b then some (x, none) else ω b) = none
    rw [if_neg fun e => by have := (ho.lt b e).1; omega]; exact hn

end
end Go.Proofs.YtmdhljleaijkbaaGreatDoor

/- A memory of names: mixed vectors: structs with slices in them, and rows of structs. No program in sight. -/
namespace Go.Proofs.YtmdhljleaijkbaaGreatDoor
open Go.RowKit

section
variable {P : Program} {nt : Nat} {S S1 S2 : St} {w0 w : World} {ω0 : Beg} {ω : Own?} {η : Env} {a : Act} {Q : Exit → Act → World → Prop} {ops : Array Oper} {rest : List Oper}
variable {t : Nat} {ty : TypeId} {ps : String} {af : Array Edge} {gd : Option (Nat × Bool)} {x y : Operand} {av : AV} {o : Oper}

/-- plain cells, of which a nil slice may be taken for an empty row -/
def celNew : Cel → Value → Prop
  | .v y, u => u = y
  | .r _ _ m vs, u => m = 0 ∧ vs = [] ∧ u = .slice none 0 0
  | .any, _ => True
def celK : Cel → Nat
  | .r _ k _ _ => k
  | _ => 1
theorem celNew.ok {own : Bool} {n : Nm} {j : Nat} {c : Cel} {u : Value} (hr : η.r n j = ⟨none, 0, celK c⟩) (h : celNew c u) : celOK η ω w true n j c u := by
  cases c with
  | v y => exact h
  | any => trivial
  | r F k m vs =>
    obtain ⟨rfl, rfl, rfl⟩ := h
    refine ⟨by simp, by rw [hr], by rw [hr]; rfl, ?_⟩
    rw [hr]
    exact .inl ⟨rfl, rfl, rfl⟩
end
end Go.Proofs.YtmdhljleaijkbaaGreatDoor

/- Walks in names: shifts, bits, conversions between integers, three results. -/
namespace Go.Proofs.YtmdhljleaijkbaaGreatDoor
open Go.RowKit

section
variable {P : Program} {nt : Nat} {S : St} {t : Nat} {ty : TypeId} {ps : String} {af : Array Edge} {gd : Option (Nat × Bool)} {x y : Operand}
end
section
variable {P : Program} {w0 : World} {ω0 : Beg} {nt : Nat} {S : St}
end
end Go.Proofs.YtmdhljleaijkbaaGreatDoor

/- A memory of names: a region that draws its order and holds guards, walked once. No program in sight. -/
namespace Go.Proofs.YtmdhljleaijkbaaGreatDoor
open Go.RowKit

section
variable {P : Program} {nt : Nat} {w0 w : World} {ω0 : Beg} {S S1 : St} {Q : Exit → Act → World → Prop} {a : Act}
/-- an operation, run or passed over, as its guard says -/
inductive GSt (P : Program) (nt : Nat) (ops : Array Oper) (o : Oper) (S1 : St) (A : Add) : Prop where
  | run (hg : o.guard = none) (h : Stp P nt o S1 (S1.add A))
  | yes {j d : Nat} {want : Bool} (hg : o.guard = some (j, want)) (hj : (ops[j]?).bind (·.dst) = some d) (hb : S1.sl d = some (vv (.bool want))) (h : Stp P nt o S1 (S1.add A))
  | no {j d : Nat} {want : Bool} (hg : o.guard = some (j, want)) (hj : (ops[j]?).bind (·.dst) = some d) (hb : S1.sl d = some (vv (.bool (!want)))) (ht : o.dst = some A.t) (hn : Nat.blt A.t nt = true) (ha : A.av = vv undef) (hx : A.news = none)
/-- the operations, one behind the other in the text's order: each may look at what it depends on alone -/
inductive DrawG (P : Program) (nt : Nat) (ops0 : Array Oper) (S : St) (cls : List (List Nat)) (sk : List Nat) : List Oper → List Add → List Add → Prop where
  | nil {done : List Add} : DrawG P nt ops0 S cls sk [] done done
  | skip {o : Oper} {rest : List Oper} {done all : List Add} (A : Add) (hs : memN sk done.length = true) (k : DrawG P nt ops0 S cls sk rest (A :: done) all) : DrawG P nt ops0 S cls sk (o :: rest) done all
  | cons {o : Oper} {rest : List Oper} {done all : List Add} (A : Add)
      (h : ∀ S1, (S.partR (memN (cls.getD done.length [])) done).le S1 → GSt P nt ops0 o S1 A) (k : DrawG P nt ops0 S cls sk rest (A :: done) all) : DrawG P nt ops0 S cls sk (o :: rest) done all
theorem DrawG.spec {ops0 : Array Oper} {cls : List (List Nat)} {sk : List Nat} {ops : List Oper} {done all : List Add} (h : DrawG P nt ops0 S cls sk ops done all) : (∃ r, all.reverse = done.reverse ++ r ∧ r.length = ops.length) ∧ ∀ (i : Nat) (o : Oper), ops[i]? = some o → memN sk (done.length + i) = false →
    ∃ A, all.reverse[done.length + i]? = some A ∧ ∀ S1, (S.partR (memN (cls.getD (done.length + i) [])) (all.reverse.take (done.length + i)).reverse).le S1 → GSt P nt ops0 o S1 A := by
  induction h with
  | nil => exact ⟨⟨[], by simp⟩, fun i o h => by simp at h⟩
  | @skip o rest done all A hs k ih =>
    obtain ⟨⟨r, hr, hl⟩, h2⟩ := ih
    refine ⟨⟨A :: r, by rw [hr]; simp, by simp [hl]⟩, fun i o' hi hsk => ?_⟩
    cases i with
    | zero => rw [Nat.add_zero, hs] at hsk; cases hsk
    | succ i =>
      have e : (A :: done).length + i = done.length + (i + 1) := by simp; omega
      rw [← e] at hsk ⊢
      exact h2 i o' (by simpa using hi) hsk
  | @cons o rest done all A h k ih =>
    obtain ⟨⟨r, hr, hl⟩, h2⟩ := ih
    refine ⟨⟨A :: r, by rw [hr]; simp, by simp [hl]⟩, fun i o' hi hsk => ?_⟩
    cases i with
    | zero =>
      simp at hi; subst hi
      refine ⟨A, by rw [hr]; simp, fun S1 hS => h S1 ?_⟩
      have : (all.reverse.take (done.length + 0)).reverse = done := by rw [hr]; simp
      rw [this] at hS
      exact hS
    | succ i =>
      have e : (A :: done).length + i = done.length + (i + 1) := by simp; omega
      rw [← e] at hsk ⊢
      exact h2 i o' (by simpa using hi) hsk

theorem drawG_main {l : List Oper} {nA : Nat} {sk : List Nat} {cls : List (List Nat)} {ds nms : List Nat} {adds done : List Add} (hcl : ClsOK l.toArray nA sk cls) (hdr : DrawG P nt l.toArray (S.clear ds nms) cls sk (l.take nA) [] done) (hdn : done.reverse = adds) (ok : AddsOK adds cls ds nms)
    (hk : Rest P w0 ω0 nt l.toArray Q (l.length - missing sk #[] nA) (doneL nA sk l.length) ((S.clear ds nms).part (fun j => !memN sk j) adds)) :
    ∀ (d : Nat) (L : Array Bool) (a : Act) (w : World), missing sk L nA = d → L.size = l.length → (∀ j, L.getD j false = true → j < nA ∧ memN sk j = false) → (∀ i, L.getD i false = true → ∀ j ∈ cls.getD i [], L.getD j false = true) →
      Sat w0 ω0 nt ((S.clear ds nms).part (fun j => L.getD j false) adds) a w → wpAny P .any l.toArray Q (l.length - missing sk #[] nA + d) L a w := by
  have hsz : nA ≤ l.length := by have := hcl.size; simpa using this
  obtain ⟨⟨r, hr, hrl⟩, hob⟩ := hdr.spec
  rw [hdn] at hr hob
  have hal : adds.length = nA := by rw [hr]; simp [hrl]; omega
  have hfull : ∀ (L : Array Bool) (i : Nat), i ∈ Region.ready .any l.toArray L → (∀ i, L.getD i false = true → ∀ j ∈ cls.getD i [], L.getD j false = true) → (∃ o, l.toArray[i]? = some o ∧ L.getD i true = false) ∧ ∀ j ∈ cls.getD i [], L.getD j false = true := by
    intro L i hi hclosed
    obtain ⟨h0, o, ho, he⟩ := mem_ready.1 hi
    refine ⟨⟨o, ho, h0⟩, fun j hj => ?_⟩
    obtain ⟨e, hem, hb, hje⟩ := hcl.dep i o ho j hj
    have h1 := he e hem hb
    rcases hje with rfl | hje
    · exact h1
    · exact hclosed e.on h1 j hje
  intro d
  induction d with
  | zero =>
    intro L a w hm hs hsub hclosed hsat
    have hall := missing_zero hm
    have hL : L = doneL nA sk l.length := by
      apply Array.ext
      · simp [hs, doneL]
      · intro j h1 h2
        have h3 : L[j]? = some L[j] := Array.getElem?_eq_getElem h1
        have h4 := doneL_at (nA := nA) (sk := sk) (n := l.length) (j := j) (by omega)
        rw [Array.getElem?_eq_getElem h2] at h4
        rw [Option.some.inj h4]
        cases hb : L[j] with
        | true =>
          have := hsub j (by simp [h1, hb])
          simp [this.1, this.2]
        | false =>
          by_cases hj : j < nA
          · cases hsk : memN sk j with
            | true => simp
            | false =>
              have := hall j hj hsk
              simp [h1, hb] at this
          · simp [hj]
    refine hk.go a w ((St.le.wk (part_le (ℓ1 := fun j => !memN sk j) (ℓ2 := fun j => L.getD j false) ok (fun _ _ h => h) fun j A hj hsk => ?_) fun _ _ h => h).go _ _ _ a w hsat) |> fun h => by rw [← hL] at h; exact h
    have hjl : j < adds.length := (List.getElem?_eq_some_iff.1 hj).1
    exact hall j (by omega) (by simpa using hsk)
  | succ d ih =>
    intro L a w hm hs hsub hclosed hsat
    refine ⟨fun hnil => ?_, fun i hi => ?_⟩
    · exfalso
      obtain ⟨j, hj, hjs', hjf, hlo⟩ := missing_least (k := nA) (by omega : missing sk L nA ≠ 0)
      have hjl : j < l.length := by omega
      have hjs : j < L.size := by omega
      have : j ∈ Region.ready .any l.toArray L := by
        refine mem_ready.2 ⟨?_, l[j], by simp [hjl], fun e he hb => ?_⟩
        · simp [hjs] at hjf ⊢
          exact hjf
        · have h5 := hcl.less j l[j] (by simp [hjl]) hj hjs' e he hb
          exact hlo e.on h5.1 h5.2
      rw [hnil] at this; cases this
    · obtain ⟨⟨o, ho, hi0⟩, hdep⟩ := hfull L i hi hclosed
      have hil : i < l.length := by have := (Array.getElem?_eq_some_iff.1 ho).1; simpa using this
      have his : i < L.size := by omega
      have hif : L.getD i false = false := by simp [his] at hi0 ⊢; exact hi0
      have hnl : ¬ (nA ≤ i ∨ memN sk i = true) := fun h => by
        have := missing_full (sk := sk) (L := L) (k := nA) fun j hj hsk => hdep j (hcl.late i o ho h j hj hsk)
        omega
      have hiA : i < nA := by
        rcases Nat.lt_or_ge i nA with h | h
        · exact h
        · exact absurd (.inl h) hnl
      have hisk : memN sk i = false := by
        cases hsk : memN sk i with
        | false => rfl
        | true => exact absurd (.inr hsk) hnl
      have hot : (l.take nA)[i]? = some o := by rw [List.getElem?_take, if_pos hiA]; simpa using ho
      obtain ⟨A, hA, hstp⟩ := hob i o hot (by simpa using hisk)
      simp only [List.length_nil, Nat.zero_add] at hA hstp
      have hle : ((S.clear ds nms).partR (memN (cls.getD i [])) (adds.take i).reverse).le ((S.clear ds nms).part (fun j => L.getD j false) adds) := partR_le ok (fun j B hj => by
          rw [List.reverse_reverse] at hj
          rw [List.getElem?_take] at hj; split at hj
          · exact hj
          · cases hj) fun j B _ hj => hdep j (memN_iff.1 hj)
      have cont : ∀ a' w', Sat w0 ω0 nt (((S.clear ds nms).part (fun j => L.getD j false) adds).add A) a' w' → wpAny P .any l.toArray Q (l.length - missing sk #[] nA + d) (L.setIfInBounds i true) a' w' := fun a' w' hsat' => by
        have hsat2 := (wk_add ok hA hif fun j hj hm' => by have := hclosed j hj i hm'; rw [hif] at this; cases this).go _ _ _ a' w' hsat'
        have hnew : ∀ j, (L.setIfInBounds i true).getD j false = (Nat.beq j i || L.getD j false) := fun j => by
          by_cases e : j = i
          · subst e; simp [his]
          · rw [getD_set_ne false (fun e' => e e'.symm), beq_ne e, Bool.false_or]
        refine ih (L.setIfInBounds i true) a' w' ?_ (by simp [hs]) (fun j hj => ?_) (fun j hj k hk' => ?_) ?_
        · have := missing_set his hif hisk nA hiA; omega
        · rw [hnew] at hj
          by_cases e : j = i
          · rw [e]; exact ⟨hiA, hisk⟩
          · rw [beq_ne e, Bool.false_or] at hj; exact hsub j hj
        · rw [hnew] at hj ⊢
          by_cases e : j = i
          · subst e; rw [hdep k hk']; simp
          · rw [beq_ne e, Bool.false_or] at hj; rw [hclosed j hj k hk']; simp
        · have : (fun j => (L.setIfInBounds i true).getD j false) = fun j => (Nat.beq j i || L.getD j false) := funext hnew
          rw [this]; exact hsat2
      have hy : ∀ {j dd : Nat} {b : Bool}, (l.toArray[j]?).bind (·.dst) = some dd → ((S.clear ds nms).part (fun j => L.getD j false) adds).sl dd = some (vv (.bool b)) → yielded l.toArray a.tmps j = some b := fun {j dd b} hj hb => by
        obtain ⟨η, ω, hs⟩ := hsat
        obtain ⟨u, k1, k2⟩ := hs.slots dd _ hb
        have k2 : u = .bool b := k2
        subst k2
        unfold yielded
        cases hoj : l.toArray[j]? with
        | none => rw [hoj] at hj; cases hj
        | some oj =>
          rw [hoj] at hj
          simp only [Option.bind_some] at hj
          simp [hj, k1]
      unfold wpOp
      simp only [ho]
      cases hstp _ hle with
      | run hg h =>
        rw [if_pos (by simp [Region.wanted, hg])]
        exact .inl (Oper.wp_mono (fun a' w' hsat' => cont a' w' hsat') (h.go w0 ω0 a w Q hsat))
      | yes hg hj hb h =>
        rw [if_pos (by simp [Region.wanted, hg, hy hj hb])]
        exact .inl (Oper.wp_mono (fun a' w' hsat' => cont a' w' hsat') (h.go w0 ω0 a w Q hsat))
      | @no j dd want hg hj hb ht hn ha hx =>
        rw [if_neg (by simp [Region.wanted, hg, hy hj hb])]
        refine cont _ _ ?_
        obtain ⟨η, ω, hs⟩ := hsat
        refine ⟨η, ω, ?_⟩
        have e : ((S.clear ds nms).part (fun j => L.getD j false) adds).add A = ((S.clear ds nms).part (fun j => L.getD j false) adds).put A.t (vv undef) := by unfold St.add; rw [hx, ha]; rfl
        rw [e, ht]
        exact hs.putV (by simpa using hn) rfl

theorem goes_drawG {id : Nat} {l : List Oper} (nA : Nat) (sk : List Nat) (cls : List (List Nat)) (ds nms : List Nat) {done : List Add} (hm : P.follows .mixedOrders = true) (hcl : clsB l.toArray nA sk cls = true) (hdr : DrawG P nt l.toArray (S.clear ds nms) cls sk (l.take nA) [] done) (ok : addsB done.reverse cls ds nms = true)
    (hk : Rest P w0 ω0 nt l.toArray Q (l.length - missing sk #[] nA) (doneL nA sk l.length) ((S.clear ds nms).partR (fun j => !memN sk j) done)) : Goes P w0 ω0 nt S (.region id l.toArray true) Q := by
  have hc := clsB_spec hcl
  have hsz : nA ≤ l.length := by have := hc.size; simpa using this
  have hk' : Rest P w0 ω0 nt l.toArray Q (l.length - missing sk #[] nA) (doneL nA sk l.length) ((S.clear ds nms).part (fun j => !memN sk j) done.reverse) :=
    ⟨fun a w hs => hk.go a w ((St.le.wk (partR_le (addsB_spec ok) (fun _ _ h => h) fun _ _ _ h => h) fun _ _ h => h).go _ _ _ a w hs)⟩
  have hle : ∀ k, missing sk #[] k ≤ k := fun k => by
    induction k with
    | zero => exact Nat.le_refl _
    | succ k ih => simp only [missing]; split <;> omega
  refine ⟨fun a w hs => wp_region_any hm ?_⟩
  have hfin := drawG_main hc hdr rfl (addsB_spec ok) hk' (missing sk #[] nA) (Array.replicate l.length false) a { w with drawn := w.drawn + 1 } ?_ (by simp) (fun j hj => ?_) (fun i hi => ?_) ?_
  · have := hle nA
    rw [show l.length - missing sk #[] nA + missing sk #[] nA = l.length by omega] at hfin
    simpa using hfin
  · have : ∀ k, k ≤ l.length → missing sk (Array.replicate l.length false) k = missing sk #[] k := fun k => by
      induction k with
      | zero => intro _; rfl
      | succ k ih =>
        intro hk
        simp only [missing]
        rw [ih (by omega)]
        have : (Array.replicate l.length false).getD k false = false := by simp [show k < l.length by omega]
        rw [this]; rfl
    exact this nA hsz
  · exfalso
    by_cases h : j < l.length
    · simp [h] at hj
    · simp [h] at hj
  · exfalso
    by_cases h : i < l.length
    · simp [h] at hi
    · simp [h] at hi
  · have h1 := (wk_clear S ds nms).go _ _ _ a _ (sat_drew hs)
    have hf : ∀ j, (Array.replicate l.length false).getD j false = false := fun j => by
      by_cases h : j < l.length <;> simp [h]
    refine (Wk.less (S := S.clear ds nms) (S' := (S.clear ds nms).part (fun j => (Array.replicate l.length false).getD j false) done.reverse) (fun t av h => ?_) (fun x c h => ?_) fun _ _ h => h).go _ _ _ a _ h1
    · have h : (match lkT (fun j => (Array.replicate l.length false).getD j false) 0 done.reverse t with | some av => some av | none => (S.clear ds nms).sl t) = some av := h
      split at h
      · rename_i av' h2
        obtain ⟨j, A, _, h3, _⟩ := lkT_some h2
        rw [hf] at h3; cases h3
      · exact h
    · have h : (match lkN (fun j => (Array.replicate l.length false).getD j false) 0 done.reverse x with | some c => some c | none => (S.clear ds nms).ch x) = some c := h
      split at h
      · rename_i av' h2
        obtain ⟨j, A, _, h3, _⟩ := lkN_some h2
        rw [hf] at h3; cases h3
      · exact h

end
section
variable {P : Program} {nt : Nat} {S : St} {cls : List (List Nat)} {sk : List Nat} {o : Oper} {rest : List Oper} {done all : List Add} {ops0 : Array Oper} {t : Nat} {ty : TypeId} {ps : String} {af : Array Edge} {gd : Option (Nat × Bool)} {x y : Operand}
theorem drawG_put {t : Nat} {av : AV} (hg : o.guard = none) (h : ∀ S1, (S.partR (memN (cls.getD done.length [])) done).le S1 → Stp P nt o S1 (S1.put t av)) (k : DrawG P nt ops0 S cls sk rest (⟨t, av, none⟩ :: done) all) : DrawG P nt ops0 S cls sk (o :: rest) done all := .cons ⟨t, av, none⟩ (fun S1 hS => .run hg (h S1 hS)) k
theorem drawG_yes {t j d : Nat} {want : Bool} {av : AV} (hg : o.guard = some (j, want)) (hj : (ops0[j]?).bind (·.dst) = some d) (hb : (S.partR (memN (cls.getD done.length [])) done).sl d = some (vv (.bool want))) (h : ∀ S1, (S.partR (memN (cls.getD done.length [])) done).le S1 → Stp P nt o S1 (S1.put t av)) (k : DrawG P nt ops0 S cls sk rest (⟨t, av, none⟩ :: done) all) : DrawG P nt ops0 S cls sk (o :: rest) done all := .cons ⟨t, av, none⟩ (fun S1 hS => .yes hg hj (hS.sl _ _ hb) (h S1 hS)) k
theorem drawG_no {t j d : Nat} {want : Bool} (hg : o.guard = some (j, want)) (hj : (ops0[j]?).bind (·.dst) = some d) (hb : (S.partR (memN (cls.getD done.length [])) done).sl d = some (vv (.bool (!want)))) (ht : o.dst = some t) (hn : Nat.blt t nt = true) (k : DrawG P nt ops0 S cls sk rest (⟨t, vv undef, none⟩ :: done) all) : DrawG P nt ops0 S cls sk (o :: rest) done all := .cons ⟨t, vv undef, none⟩ (fun S1 hS => .no hg hj (hS.sl _ _ hb) ht hn rfl rfl) k
end
end Go.Proofs.YtmdhljleaijkbaaGreatDoor

/- Lists of points and of marks; lists that lead points. No program in sight. -/
namespace Go.Proofs.YtmdhljleaijkbaaGreatDoor

theorem iget_app_lt {zs : List Int} {z : Int} {j : Nat} (h : j < zs.length) : iget (zs ++ [z]) j = iget zs j := by
  simp [iget, List.getElem?_append_left h]
theorem iget_app_eq {zs : List Int} {z : Int} : iget (zs ++ [z]) zs.length = z := by simp [iget]
theorem lget_app_lt {zss : List (List Int)} {z : List Int} {j : Nat} (h : j < zss.length) : lget (zss ++ [z]) j = lget zss j := by
  simp [lget, List.getElem?_append_left h]
theorem lget_app_eq {zss : List (List Int)} {z : List Int} : lget (zss ++ [z]) zss.length = z := by simp [lget]
theorem iget_rep {n j : Nat} {z : Int} (h : j < n) : iget (List.replicate n z) j = z := by simp [iget, h]

/-- where a word leads a point -/
def leadL (qs : List (List Int)) (c : Int) (w : List Int) : Int := w.foldl (fun c g => iget (lget qs g.toNat) c.toNat) c
/-- each list holds m points, each leads within them -/
structure Leads (qs : List (List Int)) (m : Nat) : Prop where
  len : ∀ k, k < qs.length → (lget qs k).length = m
  within : ∀ k, k < qs.length → ∀ x, x < m → 0 ≤ iget (lget qs k) x ∧ iget (lget qs k) x < m
theorem Leads.lead {qs : List (List Int)} {m : Nat} (h : Leads qs m) {c : Int} (hc : 0 ≤ c ∧ c < m) {w : List Int} (hw : ∀ z ∈ w, 0 ≤ z ∧ z < qs.length) : 0 ≤ leadL qs c w ∧ leadL qs c w < m := by
  induction w generalizing c with
  | nil => exact hc
  | cons g r ih =>
    have h1 := hw g (List.mem_cons_self ..)
    have h2 := h.within g.toNat (by omega) c.toNat (by omega)
    exact ih h2 fun z hz => hw z (List.mem_cons_of_mem _ hz)

def bat (bs : List Bool) (k : Nat) : Bool := bs.getD k false
theorem bat_set {bs : List Bool} {i j : Nat} {b : Bool} : bat (bs.set i b) j = if i = j ∧ i < bs.length then b else bat bs j := by
  simp only [bat, List.getD_eq_getElem?_getD, List.getElem?_set]
  by_cases h : i = j
  · subst h
    by_cases h2 : i < bs.length
    · simp [h2]
    · simp [h2]
  · simp [h]
def bcnt (bs : List Bool) : Nat := (bs.filter fun b => b).length
theorem bcnt_le (bs : List Bool) : bcnt bs ≤ bs.length := List.length_filter_le _ _
theorem bcnt_set : ∀ (l : List Bool) (d : Nat), d < l.length → bat l d = false → bcnt (l.set d true) = bcnt l + 1
  | [], d, h, _ => by simp at h
  | x :: r, 0, _, h => by
    have h : x = false := by simpa [bat] using h
    simp [bcnt, h]
  | x :: r, d + 1, hd, h => by
    have ih := bcnt_set r d (by simpa using hd) (by simpa [bat] using h)
    unfold bcnt at ih ⊢
    simp only [List.set_cons_succ, List.filter_cons]
    split
    · simp only [List.length_cons]; omega
    · exact ih
def bTo (T : List (List Int)) (c g : Nat) : Nat := (iget (lget T g) c).toNat
theorem bTo_lt {T : List (List Int)} {n : Nat} (hT : Leads T n) {c g : Nat} (hc : c < n) (hg : g < T.length) : bTo T c g < n ∧ iget (lget T g) c = (bTo T c g : Int) := by
  have := hT.within g hg c hc
  unfold bTo; omega
def bvals (bs : List Bool) : List Value := bs.map Value.bool
theorem bvals_len (bs : List Bool) : (bvals bs).length = bs.length := by simp [bvals]
theorem bvals_get {bs : List Bool} {k : Nat} (h : k < bs.length) : (bvals bs)[k]? = some (.bool (bat bs k)) := by simp [bvals, bat, h]
theorem bvals_set (bs : List Bool) (k : Nat) (b : Bool) : (bvals bs).set k (.bool b) = bvals (bs.set k b) := by simp [bvals, List.map_set]
theorem bvals_rep (n : Nat) : bvals (List.replicate n false) = List.replicate n (.bool false) := by simp [bvals]
end Go.Proofs.YtmdhljleaijkbaaGreatDoor

/- Chunks of the everyday kinds. -/
namespace Go.Proofs.YtmdhljleaijkbaaGreatDoor
open Go.RowKit

abbrev imOw (im : List (List Int)) : Ch := ⟨true, 38, 1, .rows 2 (irows im) []⟩
abbrev leOw (less : List Int) : Ch := ⟨true, 2, 1, .vals (ivals less)⟩
abbrev rowsRo (wss : List (List Int)) : Ch := ⟨false, 38, 1, .rows 2 (irows wss) []⟩
abbrev boOw (bs : List Bool) : Ch := ⟨true, 4, 1, .vals (bvals bs)⟩
abbrev wRo (W : List Int) : Ch := ⟨false, 2, 1, .vals (ivals W)⟩
section
variable {P : Program} {nt : Nat} {S : St} {t : Nat} {ty : TypeId} {ps : String} {af : Array Edge} {gd : Option (Nat × Bool)} {x y : Operand}
theorem stp_makeB {T E n : Nat} {l c : Operand} {kl kc : IntKind} {L C : Int} (ht : Nat.blt t nt = true) (hT : elZ P T E 1 = true) (hz : (P.info? E).bind (·.zero) = some (.bool false)) (hl : S.op l = some (vv (.int kl L))) (hc : S.op c = some (vv (.int kc C)))
    (hL : L = (n : Int)) (hC : C = (n : Int)) (hn : n ≤ 2199023255552) : Stp P nt ⟨some t, .makeSlice T l c, ty, ps, af, gd⟩ S ((S.new t ⟨true, E, 1, .vals (bvals (List.replicate n false))⟩).put t (o1 (.sl t 0 n))) := by
  rw [bvals_rep]
  exact stp_make (ts := #[]) ht hT hz hl hc hL hC hn rfl
theorem stp_stB {T : TypeId} {n : Nm} {i : Nat} {c : Ch} {bs : List Bool} {b : Bool} (hx : S.op x = some (o1 (.ptr n i))) (hy : S.op y = some (vv (.bool b))) (hc : S.ch n = some c) (hown : c.own = true) (hd : c.d = .vals (bvals bs)) (hi : i < bs.length) (hT : sizeB P T 1 = true) :
    Stp P nt ⟨none, .store T x y, ty, ps, af, gd⟩ S (S.set n { c with d := .vals (bvals (bs.set i b)) }) := by
  have := stp_storeV (P := P) (nt := nt) (ty := ty) (ps := ps) (af := af) (gd := gd) hx hy hc hown hd (by rw [bvals_len]; exact hi) hT rfl
  rwa [bvals_set] at this
end
end Go.Proofs.YtmdhljleaijkbaaGreatDoor

/- A memory of names: rows as words; vectors cut short. No program in sight. -/
namespace Go.Proofs.YtmdhljleaijkbaaGreatDoor
open Go.RowKit

section
variable {η : Env} {ω : Own?} {w : World} {ins : List (Nm × Ch)}
theorem rdRow {x i : Nat} {own : Bool} {E F : Nat} {zss : List (List Int)} {v : Value} (hm : Mem η ω w (fun x => lk x ins)) (hx : lk x ins = some ⟨own, E, 1, .rows F (irows zss) []⟩) (hi : i < zss.length) (hv : Den1 η (.esl x i 0 (lget zss i).length) v) (hn : (lget zss i).length ≤ 17592186044416) :
    ∃ ao c, v = .slice ao (lget zss i).length c ∧ Ints w ao (lget zss i).length (lget zss i) := by
  obtain ⟨h, h1, h2, h3⟩ := hm.1 x _ hx
  obtain ⟨ao, rfl, h4, _⟩ := hv.2 h h1
  have h3 : Vec own ω w (x, none) h E (irows zss).length (cellsOK η ω w own x (.rows F (irows zss) [])) := h3
  obtain ⟨b', o', u', g1, g2, g3, g4⟩ := h3.get (j := i) (by rw [irows_len]; exact hi)
  obtain ⟨k1, k2, k3⟩ := g4 (by simp) (ivals (lget zss i)) (irows_get hi)
  rw [h4 rfl]
  refine ⟨_, _, rfl, rfl, hn, fun h0 => ?_⟩
  obtain ⟨b2, o2, u2, m1, _, _⟩ := k3.get (j := 0) (by rw [ivals_len]; exact h0)
  refine ⟨b2, o2, m1, fun j hj => ?_⟩
  obtain ⟨b3, o3, u3, n1, n2, n3⟩ := k3.get (j := j) (by rw [ivals_len]; exact hj)
  rw [m1] at n1; injection n1 with n1; injection n1 with n1 n1'; subst n1 n1'
  rw [ivals_get hj] at n3
  rw [n2, ← n3]
end
section
variable {P : Program} {nt : Nat} {S : St} {t : Nat} {ty : TypeId} {ps : String} {af : Array Edge} {gd : Option (Nat × Bool)} {x y : Operand}
/-- of a vector of the call's own only the front is remembered -/
theorem wk_cut {n : Nm} {E k m : Nat} {vs : List Value} (hc : S.ch n = some ⟨true, E, k, .vals vs⟩) (hm : m ≤ vs.length) : Wk S (S.set n ⟨true, E, k, .vals (vs.take m)⟩) := by
  refine ⟨fun w0 ω0 nt a w ⟨η, ω, h⟩ => ?_⟩
  obtain ⟨hd, e1, e2, e3⟩ := h.chunk hc
  have e3 : VecO ω w (n, none) hd E vs.length (cellsOK η ω w true n (.vals vs)) := e3
  refine ⟨η, ω, h.write e1 (Calm.refl _ _ _) ⟨e2, ?_⟩⟩
  show VecO ω w (n, none) hd E (vs.take m).length _
  have hl : (vs.take m).length = m := by rw [List.length_take]; omega
  rw [hl]
  rcases e3 with ⟨h1, h2, h3⟩ | ⟨b, o, cs, h1, h2, h3, h4, h5, h6, h7⟩
  · exact .inl ⟨h1, h2, by omega⟩
  · refine .inr ⟨b, o, cs, h1, h2, h3, h4, by omega, h6, fun j hj => ?_⟩
    obtain ⟨u, hu, hk⟩ := h7 j (by omega)
    refine ⟨u, hu, ?_⟩
    have hk : vs[j]? = some u := hk
    show (vs.take m)[j]? = some u
    rw [List.getElem?_take, if_pos hj]; exact hk
/-- an index into a part of a vector -/
theorem stp_ixO {T : TypeId} {n : Nm} {off len j : Nat} {c : Ch} {ki : IntKind} {i : Int} (ht : Nat.blt t nt = true) (hx : S.op x = some (o1 (.sl n off len))) (hy : S.op y = some (vv (.int ki i))) (hc : S.ch n = some c) (hk : c.k = 1) (hT : elemB P T 1 = true)
    (hi : i = (j : Int)) (hj : j < len) (hl : off + len ≤ c.d.len) : Stp P nt ⟨some t, .indexAddr T x y, ty, ps, af, gd⟩ S (S.put t (o1 (.ptr n (off + j)))) := by
  have := stp_indexAddr (P := P) (nt := nt) (t := t) (ty := ty) (ps := ps) (af := af) (gd := gd) (k := 1) ht hx hy hc hk hT hi hj (by rw [Nat.mul_one]; exact hl) (by omega)
  rwa [Nat.mul_one] at this
theorem stp_ixK {T : TypeId} {n : Nm} {off len j K : Nat} {c : Ch} {ki : IntKind} {i : Int} (ht : Nat.blt t nt = true) (hx : S.op x = some (o1 (.sl n off len))) (hy : S.op y = some (vv (.int ki i))) (hc : S.ch n = some c) (hk : c.k = 1) (hT : elemB P T 1 = true)
    (hi : i = (j : Int)) (hj : j < len) (hl : off + len ≤ c.d.len) (hK : off + j = K) : Stp P nt ⟨some t, .indexAddr T x y, ty, ps, af, gd⟩ S (S.put t (o1 (.ptr n K))) := by
  subst hK; exact stp_ixO ht hx hy hc hk hT hi hj hl
theorem stp_minN {ts : Array TypeId} {m n : Nat} (ht : Nat.blt t nt = true) (hx : S.op x = some (vv (I6 (m : Int)))) (hy : S.op y = some (vv (I6 (n : Int)))) :
    Stp P nt ⟨some t, .call { callee := .builtin .min, args := #[x, y], argTypes := ts }, ty, ps, af, gd⟩ S (S.put t (vv (I6 ((min m n : Nat) : Int)))) := by
  have := stp_min (P := P) (nt := nt) (ty := ty) (ps := ps) (af := af) (gd := gd) (ts := ts) ht hx hy
  rwa [show (if (n : Int) < m then (n : Int) else m) = ((min m n : Nat) : Int) by split <;> omega] at this
end
end Go.Proofs.YtmdhljleaijkbaaGreatDoor

/- From contracts in names to contracts in words: the doors of the functions that the laws call. -/
namespace Go.Proofs.YtmdhljleaijkbaaGreatDoor
open Go.RowKit

theorem denL1 {η : Env} {a : AV} {u : Value} (h : Den η a u) : DenL η [a] [u] := ⟨rfl, fun j av hj => by
  match j, hj with
  | 0, hj => simp at hj; subst hj; exact ⟨u, rfl, h⟩⟩
theorem denL2 {η : Env} {a b : AV} {u v : Value} (h : Den η a u) (h' : Den η b v) : DenL η [a, b] [u, v] := ⟨rfl, fun j av hj => by
  match j, hj with
  | 0, hj => simp at hj; subst hj; exact ⟨u, rfl, h⟩
  | 1, hj => simp at hj; subst hj; exact ⟨v, rfl, h'⟩⟩
theorem den_tup2 {η : Env} {a b : A2} {v : Value} (h : Den η (.tup [a, b]) v) : ∃ u u', v = .tuple #[u, u'] ∧ Den2 η a u ∧ Den2 η b u' := by
  obtain ⟨us, rfl, hl, ha⟩ := h
  obtain ⟨u0, g0, d0⟩ := ha 0 _ rfl
  obtain ⟨u1, g1, d1⟩ := ha 1 _ rfl
  refine ⟨u0, u1, ?_, d0, d1⟩
  match us, hl with
  | ⟨[p, q]⟩, _ => simp at g0 g1; rw [g0, g1]
theorem one_val {P : Program} {f : FuncId} {args : Array Value} {w : World} {a : Value} {outs : List (Nm × Ch)} (h : Calls P f args w fun e w' => ∃ v η ω, e = .returned v ∧ Den η (vv a) v ∧ Mem η ω w' (fun x => lk x outs) ∧ Below w.heap.size w w' ∧ ∀ b, b < w.heap.size → ω b = none) :
    Calls P f args w fun e w' => e = .returned a ∧ Below w.heap.size w w' := by
  refine h.mono ?_
  rintro e w' ⟨v, η, ω, rfl, hd, _, hb, _⟩
  have hd : v = a := hd
  subst hd
  exact ⟨rfl, hb⟩
/-- a maniplex -/
abbrev mA (R : Nat) : AV := .s (.agg [.sl 1003 0 R])
theorem denM {η : Env} {R : Nat} {u : Value} (h : Den1 η (.sl 1003 0 R) u) : Den η (mA R) (.agg #[u]) := ⟨_, rfl, rfl, fun j b hb => by
  match j, hb with
  | 0, hb => simp at hb; subst hb; exact ⟨_, by simp, h⟩⟩
end Go.Proofs.YtmdhljleaijkbaaGreatDoor

/- Lists of lists that are read, whatever shares their rows: from words to names. -/
namespace Go.Proofs.YtmdhljleaijkbaaGreatDoor
open Go.RowKit

/-- v is a slice that reads as lists of integers, each within its capacity -/
def RdSSc (w : World) (v : Value) (zss : List (List Int)) : Prop := ∃ ao c, v = .slice ao zss.length c ∧ zss.length ≤ 17592186044416 ∧ (0 < zss.length → zss.length ≤ c ∧ ∃ b off, ao = some ⟨b, off, none⟩ ∧ b < w.heap.size ∧
  ∀ j, j < zss.length → ∃ a' c', w.cell? ⟨b, off + j, none⟩ = some (.slice a' (lget zss j).length c') ∧ (lget zss j).length ≤ c' ∧ Ints w a' (lget zss j).length (lget zss j))
theorem RdSSc.rd {w : World} {v : Value} {zss : List (List Int)} (h : RdSSc w v zss) : RdSS w v zss := by
  obtain ⟨ao, c, rfl, hn, hc⟩ := h
  refine ⟨ao, _, c, rfl, rfl, hn, fun h0 => ?_⟩
  obtain ⟨_, b, off, e, _, h1⟩ := hc h0
  refine ⟨b, off, e, fun j hj => ?_⟩
  obtain ⟨a', c', h2, _, h3⟩ := h1 j hj
  exact ⟨_, h2, a', _, c', rfl, h3⟩
theorem RdSSc.below {w w' : World} {v : Value} {zss : List (List Int)} (h : RdSSc w v zss) (hb : Below w.heap.size w w') : RdSSc w' v zss := by
  obtain ⟨ao, c, rfl, hn, hc⟩ := h
  refine ⟨ao, c, rfl, hn, fun h0 => ?_⟩
  obtain ⟨h1, b, off, e, hlt, h2⟩ := hc h0
  refine ⟨h1, b, off, e, Nat.lt_of_lt_of_le hlt hb.size, fun j hj => ?_⟩
  obtain ⟨a', c', h3, h4, h5⟩ := h2 j hj
  exact ⟨a', c', (hb.cell (p := ⟨b, off + j, none⟩) hlt).trans h3, h4, h5.below hb⟩
theorem RdSSc.drewN {w : World} {v : Value} {zss : List (List Int)} (h : RdSSc w v zss) (m : Nat) : RdSSc (w.drewN m) v zss := h
theorem OwSS.rdc {E1 E : Nat} {w : World} {lo hi : Nat} {v : Value} {zss : List (List Int)} (h : OwSS E1 E w lo hi v zss) : RdSSc w v zss := by
  obtain ⟨ao, n, c, us, rfl, ho⟩ := h
  have hl := ho.len
  subst hl
  refine ⟨ao, c, rfl, by have := ho.own.2; omega, fun h0 => ?_⟩
  obtain ⟨g, rfl, _, hlt, hc, hcell, _⟩ := ho.own.form h0
  refine ⟨hc, g, 0, rfl, hlt, fun j hj => ?_⟩
  obtain ⟨u, d, hu, hd, ⟨a', n', c', rfl, h1⟩, _⟩ := ho.get hj
  have hd' : lget zss j = d := lget_get? hd
  rw [hd']
  have hl := h1.len
  rw [List.length_map] at hl
  subst hl
  refine ⟨a', c', by rw [Nat.zero_add, hcell j hj, hu], ?_, h1.ints⟩
  rcases Nat.eq_zero_or_pos d.length with h2 | h2
  · omega
  · obtain ⟨_, _, _, _, h3, _⟩ := h1.form h2; exact h3
theorem ofSSc {w : World} {v : Value} {zss : List (List Int)} (x E' E1' : Nat) (h : RdSSc w v zss) : ∃ hd r, v = .slice hd.ao zss.length hd.c ∧ Hv w x ⟨false, E', 1, .rows E1' (irows zss) []⟩ hd r := by
  obtain ⟨ao, c, rfl, hn, hc⟩ := h
  rcases Nat.eq_zero_or_pos zss.length with h0 | h0
  · refine ⟨⟨ao, c, 1⟩, fun _ => ⟨none, 0, 1⟩, rfl, fun η he => ⟨rfl, ?_, fun j hj => ?_⟩⟩
    · show (irows zss).length ≤ c * 1
      rw [irows_len]; omega
    · have hj : j < (irows zss).length := hj
      rw [irows_len] at hj; omega
  · obtain ⟨h1, b, off, rfl, hlt, h2⟩ := hc h0
    have hr : ∀ j, ∃ q : Hd, q.k = 1 ∧ (j < zss.length → w.cell? ⟨b, off + j, none⟩ = some (.slice q.ao (lget zss j).length q.c) ∧ VecR noOwn w q (ivals (lget zss j)).length fun i u => (ivals (lget zss j))[i]? = some u) := fun j => by
      by_cases hj : j < zss.length
      · obtain ⟨a', c', h3, h4, h5⟩ := h2 j hj
        refine ⟨⟨a', c', 1⟩, rfl, fun _ => ⟨h3, by rw [ivals_len]; show _ ≤ c' * 1; omega, fun i hi => ?_⟩⟩
        rw [ivals_len] at hi
        obtain ⟨b', o', e', hb', hcell⟩ := h5.all_ (by omega)
        exact ⟨b', o', I6 (iget (lget zss j) i), e', rfl, hb', hcell i hi, ivals_get hi⟩
      · exact ⟨⟨none, 0, 1⟩, rfl, fun h => absurd h hj⟩
    refine ⟨⟨some ⟨b, off, none⟩, c, 1⟩, fun j => Classical.choose (hr j), rfl, fun η he => ⟨rfl, ?_, fun j hj => ?_⟩⟩
    · show (irows zss).length ≤ c * 1
      rw [irows_len]; omega
    · have hj : j < zss.length := by have : j < (irows zss).length := hj; rwa [irows_len] at this
      obtain ⟨k1, k2⟩ := Classical.choose_spec (hr j)
      obtain ⟨k3, k4⟩ := k2 hj
      refine ⟨b, off, .slice (Classical.choose (hr j)).ao (lget zss j).length (Classical.choose (hr j)).c, rfl, rfl, hlt, k3, rfl, fun _ vs hvs => ?_⟩
      have hvd : vs = ivals (lget zss j) := by
        rw [irows_get hj] at hvs; exact (Option.some.inj hvs).symm
      subst hvd
      rw [he j]
      exact ⟨congrArg (fun m => Value.slice (Classical.choose (hr j)).ao m (Classical.choose (hr j)).c) (ivals_len _).symm, k1, k4⟩
/-- a function of a number and rows that are read -/
theorem callNR {f : FuncId} {outs : List (Nm × Ch)} {res : AV} {d : List (List Int)} {n : Int} (hf : FC Tryz.prog f [(1003, rowsRo d)] [vv (I6 n), o1 (.sl 1003 0 d.length)] outs res []) {w : World} {v : Value} (h : RdSSc w v d) :
    Calls Tryz.prog f #[.int .i64 n, v] w fun e w' => ∃ v η ω, e = .returned v ∧ Den η res v ∧ Mem η ω w' (fun x => lk x outs) ∧ Below w.heap.size w w' ∧ ∀ b, b < w.heap.size → ω b = none := by
  obtain ⟨hd, r, rfl, hv⟩ := ofSSc 1003 38 2 h
  exact hf.call (l := [(1003, (rowsRo d, hd, r))]) (us := [_, _]) (fun p hp => by simp at hp; subst hp; exact hv) rfl (denL2 rfl (den_sl (q := (rowsRo d, hd, r)) rfl))
end Go.Proofs.YtmdhljleaijkbaaGreatDoor

/- The mix of two maniplexes, the program's: the state of its search, two rows of lists side by side. -/
namespace Go.Proofs.YtmdhljleaijkbaaGreatDoor
open Go.RowKit

theorem Own.typM {w : World} {lo E n c : Nat} {ao : Option Addr} {xs : List Value} (h : Own w lo E ao n c xs) {g : Nat} (hg : bk ao = some g) : ∃ cs, w.heap[g]? = some (.cells cs E (0, 0)) := by
  rcases h.1.2 with h2 | ⟨g', cap, cur, hv, _, hh, _⟩
  · have h2 := h2.1
    injection h2 with h3; subst h3; cases hg
  · injection hv with h3; subst h3
    obtain rfl := Option.some.inj hg
    exact ⟨cur, hh⟩
/-- the blocks of a row of lists -/
def OB (ao : Option Addr) (us : List Value) (g : Nat) : Prop := bk ao = some g ∨ ∃ (j : Nat) (u : Value), us[j]? = some u ∧ u.ownBlock = some g
section
variable {w w' : World} {lo hi E F n c : Nat} {ao : Option Addr} {us : List Value} {ds : List (List Int)}
theorem OwR.ob (h : OwR (OwS F) w lo hi E ao n c us ds) {g : Nat} (hg : OB ao us g) : (lo ≤ g ∧ g < hi ∧ g < w.heap.size) ∧ ∃ cs t, w.heap[g]? = some (.cells cs t (0, 0)) ∧ (t = E ∨ t = F) := by
  rcases hg with hg | ⟨j, u, hu, hg⟩
  · have h1 := h.own.lt g hg
    obtain ⟨cs, hc⟩ := h.own.typM hg
    exact ⟨⟨h1.1, h.top g hg, h1.2⟩, cs, E, hc, .inl rfl⟩
  · have hr := h.rng j u hu g hg
    have hj : j < ds.length := by have := h.len; have := h.ulen; have := (List.getElem?_eq_some_iff.1 hu).1; omega
    obtain ⟨a1, n1, c1, rfl, o1⟩ := h.el j u ds[j] hu (List.getElem?_eq_getElem hj)
    rw [ownBlock_slice] at hg
    obtain ⟨cs, hc⟩ := o1.typM hg
    exact ⟨⟨hr.1, hr.2, (o1.lt g hg).2⟩, cs, F, hc, .inr rfl⟩
theorem OwR.keepB (h : OwR (OwS F) w lo hi E ao n c us ds) (hs : ∀ g, OB ao us g → w'.heap[g]? = w.heap[g]?) : OwR (OwS F) w' lo hi E ao n c us ds :=
  { own := h.own.same fun g hg => hs g (.inl hg)
    top := h.top, len := h.len, rng := h.rng, out := h.out, apart := h.apart
    el := fun j u d hu hd => (innerS F).loc (h.el j u d hu hd) fun g hg => hs g (.inr ⟨j, u, hu, hg⟩) }
theorem ob_set {g j : Nat} {u' : Value} (hg : OB ao (us.set j u') g) : OB ao us g ∨ u'.ownBlock = some g := by
  rcases hg with hg | ⟨k, u, hu, hg⟩
  · exact .inl (.inl hg)
  · rw [List.getElem?_set] at hu
    split at hu
    · split at hu
      · injection hu with hu; subst hu; exact .inr hg
      · cases hu
    · exact .inl (.inr ⟨k, u, hu, hg⟩)
theorem ob_app {ao' : Option Addr} {g : Nat} {u : Value} (hg : OB ao' (us ++ [u]) g) : bk ao' = some g ∨ u.ownBlock = some g ∨ OB ao us g := by
  rcases hg with hg | ⟨k, u1, hu, hg⟩
  · exact .inl hg
  · rw [List.getElem?_append] at hu
    split at hu
    · exact .inr (.inr (.inr ⟨k, u1, hu, hg⟩))
    · cases hk : k - us.length with
      | zero => rw [hk] at hu; simp at hu; subst hu; exact .inr (.inl hg)
      | succ k' => rw [hk] at hu; simp at hu
end
/-- the search: its boxes, the pairs, the map, the rows of the mix -/
structure MX (w wr : World) (p4 p6 p8 p13 lo mb : Nat) (v4 v6 : Value) (ap : Option Addr) (np cp : Nat) (up : List Value) (P : List (List Int)) (ks : List (Int × Int)) (g0 n : Nat) (us : List Value) (R : List (List Int)) : Prop where
  k4 : Blk wr p4 26 #[v4]
  k6 : Blk wr p6 26 #[v6]
  k8 : Blk wr p8 26 #[.slice none 0 0]
  k13 : Blk wr p13 26 #[.slice (some ⟨g0, 0, none⟩) n n]
  ps : OwR (OwS 2) wr lo wr.heap.size 38 ap np cp up P
  mp : MapK wr mb ks
  rws : OwR (OwS 2) wr lo wr.heap.size 38 (some ⟨g0, 0, none⟩) n n us R
  sep : ∀ g, OB ap up g → ¬ OB (some ⟨g0, 0, none⟩) us g
  at_ : (w.heap.size ≤ p4 ∧ p4 < lo) ∧ (w.heap.size ≤ p6 ∧ p6 < lo) ∧ (w.heap.size ≤ p8 ∧ p8 < lo) ∧ lo ≤ p13 ∧ lo ≤ mb
  bel : Below w.heap.size w wr
theorem MapK.lt {w : World} {b : Nat} {ks : List (Int × Int)} (h : MapK w b ks) : b < w.heap.size := by
  obtain ⟨es, k, hb, _⟩ := h
  exact (Array.getElem?_eq_some_iff.1 hb).1
theorem MapK.same {w w' : World} {b : Nat} {ks : List (Int × Int)} (h : MapK w b ks) (hs : w'.heap[b]? = w.heap[b]?) : MapK w' b ks := by
  obtain ⟨es, k, hb, hm⟩ := h
  exact ⟨es, k, hs.trans hb, hm⟩
section
variable {w wr w' w2 w3 w4 : World} {p4 p6 p8 p13 lo mb np cp g0 n : Nat} {v4 v6 : Value} {ap : Option Addr} {up us : List Value} {P R : List (List Int)} {ks : List (Int × Int)}
theorem MX.size (h : MX w wr p4 p6 p8 p13 lo mb v4 v6 ap np cp up P ks g0 n us R) : lo ≤ wr.heap.size := by have := h.mp.lt; have := h.at_; omega
theorem MX.keep (h : MX w wr p4 p6 p8 p13 lo mb v4 v6 ap np cp up P ks g0 n us R) (hb : Below wr.heap.size wr w') : MX w w' p4 p6 p8 p13 lo mb v4 v6 ap np cp up P ks g0 n us R :=
  ⟨h.k4.belowS hb, h.k6.belowS hb, h.k8.belowS hb, h.k13.belowS hb, (h.ps.below (innerS _) hb).mono (Nat.le_refl _) hb.size, h.mp.same (hb.block mb h.mp.lt), (h.rws.below (innerS _) hb).mono (Nat.le_refl _) hb.size, h.sep, h.at_, h.bel.trans (hb.mono h.bel.size)⟩
/-- a key is put -/
theorem MX.put (h : MX w wr p4 p6 p8 p13 lo mb v4 v6 ap np cp up P ks g0 n us R) {ks' : List (Int × Int)} (ho : Only mb (mb + 1) wr w') (hm : MapK w' mb ks') : MX w w' p4 p6 p8 p13 lo mb v4 v6 ap np cp up P ks' g0 n us R := by
  have hs := h.size
  have hat := h.at_
  have hso := ho.size
  obtain ⟨es, ck, hmb, _⟩ := h.mp
  have hne : ∀ (g : Nat) (cs : Array Value) (t : TypeId), wr.heap[g]? = some (Obj.cells cs t (0, 0)) → g ≠ mb := fun g cs t hg e => by subst e; rw [hmb] at hg; cases hg
  have hk : ∀ g, g < wr.heap.size → g ≠ mb → w'.heap[g]? = wr.heap[g]? := fun g hg hn => ho.block g hg (by omega)
  have hB : Below lo wr w' := ho.below (by omega) hs
  refine ⟨h.k4.below hB (by omega), h.k6.below hB (by omega), h.k8.below hB (by omega), ?_, ?_, hm, ?_, h.sep, h.at_, h.bel.trans (hB.mono (by omega))⟩
  · unfold Blk; rw [hk p13 h.k13.lt (hne _ _ _ h.k13)]; exact h.k13
  · exact (h.ps.keepB fun g hg => by
      obtain ⟨h1, cs, t, hc, _⟩ := h.ps.ob hg
      exact hk g h1.2.1 (hne g cs t hc)).mono (Nat.le_refl _) hso
  · exact (h.rws.keepB fun g hg => by
      obtain ⟨h1, cs, t, hc, _⟩ := h.rws.ob hg
      exact hk g h1.2.1 (hne g cs t hc)).mono (Nat.le_refl _) hso
/-- a pair goes behind the others: its row was just made -/
theorem MX.pair (h : MX w wr p4 p6 p8 p13 lo mb v4 v6 ap np cp up P ks g0 n us R) {a1 ap2 : Option Addr} {n1 c1 cp2 : Nat} {zs : List Int} (b2 : Below wr.heap.size wr w2) (o1 : Own w2 wr.heap.size 2 a1 n1 c1 (zs.map (Value.int .i64))) (b3 : Below w2.heap.size w2 w3)
    (o4 : Own w4 lo 38 ap2 (np + 1) cp2 (up ++ [.slice a1 n1 c1])) (g4 : w3.grownBy w4 (bk ap)) (hat : bk ap2 = bk ap ∨ ∃ g, bk ap2 = some g ∧ w2.heap.size ≤ g) :
    MX w w4 p4 p6 p8 p13 lo mb v4 v6 ap2 (np + 1) cp2 (up ++ [.slice a1 n1 c1]) (P ++ [zs]) ks g0 n us R := by
  have hs := h.size
  have ha := h.at_
  have s2 := b2.size
  have s3 := b3.size
  have s4 := g4.size
  have hR := rows_push2 h.ps hs b2 o1 b3 o4 g4 hat
  have hap : ∀ g, bk ap = some g → lo ≤ g := fun g e => (h.ps.own.lt g e).1
  have k : ∀ g, g < wr.heap.size → bk ap ≠ some g → w4.heap[g]? = wr.heap[g]? := fun g hg hne => by
    rw [g4.block g (by omega) (fun e => hne e.symm), b3.block g (by omega), b2.block g hg]
  have hB : Below lo wr w4 := by
    have hB3 : Below lo wr w3 := (b2.mono hs).trans (b3.mono (by omega))
    exact hB3.grown g4 (by omega) fun g hg => hap g hg
  have htyp : ∀ (g : Nat) (o : Obj), wr.heap[g]? = some o → (∀ (cs : Array Value) (t : TypeId), o = Obj.cells cs t (0, 0) → t ≠ 38) → bk ap ≠ some g := fun g o hgo hn e => by
    obtain ⟨cs, hc⟩ := h.ps.own.typM e
    rw [hc] at hgo
    exact hn _ _ (Option.some.inj hgo).symm rfl
  refine ⟨h.k4.below hB (by omega), h.k6.below hB (by omega), h.k8.below hB (by omega), ?_, hR, ?_, ?_, ?_, ha, h.bel.trans (hB.mono (by omega))⟩
  · unfold Blk
    rw [k p13 h.k13.lt (htyp _ _ h.k13 fun cs t e => by injection e with e1 e2; subst e2; decide)]; exact h.k13
  · obtain ⟨es, ck, hmb, e⟩ := h.mp
    exact ⟨es, ck, (k mb h.mp.lt (htyp _ _ hmb fun cs t e => by cases e)).trans hmb, e⟩
  · exact (h.rws.keepB fun g hg => k g (h.rws.ob hg).1.2.1 fun e => h.sep g (.inl e) hg).mono (Nat.le_refl _) (by omega)
  · intro g hg hg2
    have hlt := (h.rws.ob hg2).1.2.1
    rcases ob_app (ao := ap) hg with e | e | e
    · rcases hat with q | ⟨g1, q, q2⟩
      · rw [q] at e; exact h.sep g (.inl e) hg2
      · rw [q] at e; have := Option.some.inj e; omega
    · rw [ownBlock_slice] at e
      have := (o1.lt g e).1; omega
    · exact h.sep g e hg2
/-- a number goes behind a row of the mix -/
theorem MX.row (h : MX w wr p4 p6 p8 p13 lo mb v4 v6 ap np cp up P ks g0 n us R) {i : Nat} {ra ra' : Option Addr} {rn rc rc' : Nat} (hu : us[i]? = some (.slice ra rn rc)) {zs : List Int} (hg : wr.grownBy w' (bk ra)) (ho : Own w' 0 2 ra' (rn + 1) rc' (zs.map (Value.int .i64))) (hat : bk ra' = bk ra ∨ ∃ g, bk ra' = some g ∧ wr.heap.size ≤ g) :
    MX w (w'.setCell ⟨g0, i, none⟩ (.slice ra' (rn + 1) rc')) p4 p6 p8 p13 lo mb v4 v6 ap np cp up P ks g0 n (us.set i (.slice ra' (rn + 1) rc')) (R.set i zs) := by
  have hs := h.size
  have ha := h.at_
  have hsz := hg.size
  have hob : OB (some ⟨g0, 0, none⟩) us g0 := .inl rfl
  have hrob : ∀ g, bk ra = some g → OB (some ⟨g0, 0, none⟩) us g := fun g e => .inr ⟨i, _, hu, by rw [ownBlock_slice]; exact e⟩
  have hg0 := (h.rws.ob hob).1
  have k : ∀ g, g < wr.heap.size → ¬ OB (some ⟨g0, 0, none⟩) us g → (w'.setCell ⟨g0, i, none⟩ (.slice ra' (rn + 1) rc')).heap[g]? = wr.heap[g]? := fun g hlt hno => by
    have h1 : g ≠ g0 := fun e => hno (e ▸ hob)
    have h2 : (w'.setCell ⟨g0, i, none⟩ (.slice ra' (rn + 1) rc')).heap[g]? = w'.heap[g]? := Below.heap_setCell _ _ _ _ h1
    rw [h2]; exact hg.block g hlt fun e => hno (hrob g e.symm)
  have hB : Below lo wr (w'.setCell ⟨g0, i, none⟩ (.slice ra' (rn + 1) rc')) := by
    have hB1 : Below lo wr w' := ⟨hg.os, hg.tape, hg.output, hg.size, fun g hlt => hg.block g (by omega) fun e => by have := (h.rws.ob (hrob g e.symm)).1; omega⟩
    exact hB1.setCell (by show _ ≤ g0; omega) _
  have htyp : ∀ (g : Nat) (o : Obj), wr.heap[g]? = some o → (∀ (cs : Array Value) (t : TypeId), o = Obj.cells cs t (0, 0) → t ≠ 2 ∧ t ≠ 38) → ¬ OB (some ⟨g0, 0, none⟩) us g := fun g o hgo hn e => by
    obtain ⟨_, cs, t, hc, ht⟩ := h.rws.ob e
    rw [hc] at hgo
    have := hn _ _ (Option.some.inj hgo).symm
    rcases ht with q | q
    · exact this.2 q
    · exact this.1 q
  have hput := h.rws.put (innerS _) (w' := w') (u' := .slice ra' (rn + 1) rc') (d' := zs) hu (by rw [ownBlock_slice]; exact hg) ⟨_, _, _, rfl, ho⟩ (by rw [ownBlock_slice, ownBlock_slice]; rcases hat with e | ⟨g, e1, e2⟩; exact .inr (.inl e); exact .inr (.inr ⟨g, e1, e2⟩)) (Nat.le_refl _) hs
  have hss : (w'.setCell ⟨g0, i, none⟩ (.slice ra' (rn + 1) rc')).heap.size = w'.heap.size := by simp [World.setCell]
  refine ⟨h.k4.below hB (by omega), h.k6.below hB (by omega), h.k8.below hB (by omega), ?_, ?_, ?_, by rw [hss]; exact hput, ?_, ha, h.bel.trans (hB.mono (by omega))⟩
  · unfold Blk
    rw [k p13 h.k13.lt (htyp _ _ h.k13 fun cs t e => by injection e with e1 e2; subst e2; decide)]; exact h.k13
  · exact (h.ps.keepB fun g hg2 => k g (h.ps.ob hg2).1.2.1 (h.sep g hg2)).mono (Nat.le_refl _) (by rw [hss]; exact hsz)
  · obtain ⟨es, ck, hmb, e⟩ := h.mp
    exact ⟨es, ck, (k mb h.mp.lt (htyp _ _ hmb fun cs t e => by cases e)).trans hmb, e⟩
  · intro g hg1 hg2
    have hlt := (h.ps.ob hg1).1.2.1
    rcases ob_set hg2 with e | e
    · exact h.sep g hg1 e
    · rw [ownBlock_slice] at e
      rcases hat with q | ⟨g1, q, q2⟩
      · rw [q] at e; exact h.sep g hg1 (hrob g e)
      · rw [q] at e; have := Option.some.inj e; omega
/-- the row of pair j -/
theorem MX.at_pair (h : MX w wr p4 p6 p8 p13 lo mb v4 v6 ap np cp up P ks g0 n us R) {j : Nat} (hj : j < np) : ∃ g a m c, ap = some ⟨g, 0, none⟩ ∧ wr.cell? ⟨g, j, none⟩ = some (.slice a m c) ∧ Ints wr a m (lget P j) := by
  obtain ⟨b, off, a, m, c, e, hc, hi⟩ := h.ps.intss.at_ hj
  obtain ⟨g, e2, _⟩ := h.ps.own.form (by omega)
  rw [e] at e2
  injection e2 with e2
  injection e2 with e3 e4
  subst e3 e4
  rw [Nat.zero_add] at hc
  exact ⟨b, a, m, c, e, hc, hi⟩
end
end Go.Proofs.YtmdhljleaijkbaaGreatDoor

/- Cosets that some generators lead to, and the first fault of intersections, on lists. No program in sight. -/
namespace Go.Proofs.YtmdhljleaijkbaaGreatDoor

/-- whether a mask holds a generator -/
def mBit (mask g : Nat) : Bool := mask / 2 ^ g % 2 == 1
/-- which are met, the queue -/
abbrev MSt := List Bool × List Int
def mStep (T : List (List Int)) (mask c : Nat) (s : MSt) (g : Nat) : MSt := if mBit mask g = true ∧ bat s.1 (bTo T c g) = false then (s.1.set (bTo T c g) true, s.2 ++ [(bTo T c g : Int)]) else s
def mRow (T : List (List Int)) (mask ng c : Nat) (s : MSt) : MSt := (List.range ng).foldl (mStep T mask c) s
def mLoop (T : List (List Int)) (mask ng : Nat) : Nat → Nat → MSt → MSt
  | 0, _, s => s
  | f + 1, i, s => if i < s.2.length then mLoop T mask ng f (i + 1) (mRow T mask ng (iget s.2 i).toNat s) else s
def mStart (n : Nat) : MSt := ((List.replicate n false).set 0 true, [0])
def mem (T : List (List Int)) (ng n mask : Nat) : MSt := mLoop T mask ng (n + 1) 0 (mStart n)
structure MOK (n : Nat) (s : MSt) : Prop where
  l : s.1.length = n
  q : ∀ k, k < s.2.length → ∃ d : Nat, iget s.2 k = (d : Int) ∧ d < n ∧ bat s.1 d = true
  cnt : bcnt s.1 = s.2.length
  cov : ∀ d, d < n → bat s.1 d = true → ∃ k, k < s.2.length ∧ iget s.2 k = (d : Int)
theorem MOK.le {n : Nat} {s : MSt} (h : MOK n s) : s.2.length ≤ n := by
  have := bcnt_le s.1; rw [h.cnt, h.l] at this; exact this
structure MGrow (s s' : MSt) : Prop where
  len : s.2.length ≤ s'.2.length
  pre : ∀ k, k < s.2.length → iget s'.2 k = iget s.2 k
  met : ∀ d, bat s.1 d = true → bat s'.1 d = true
theorem MGrow.refl (s : MSt) : MGrow s s := ⟨Nat.le_refl _, fun _ _ => rfl, fun _ h => h⟩
theorem MGrow.trans {a b c : MSt} (h : MGrow a b) (k : MGrow b c) : MGrow a c :=
  ⟨Nat.le_trans h.len k.len, fun i hi => (k.pre i (Nat.lt_of_lt_of_le hi h.len)).trans (h.pre i hi), fun d hd => k.met d (h.met d hd)⟩
section
variable {T : List (List Int)} {ng n mask : Nat}
theorem mStep_grow (s : MSt) (c g : Nat) : MGrow s (mStep T mask c s g) := by
  unfold mStep
  split
  · refine ⟨by simp, fun k hk => iget_app_lt hk, fun d hd => ?_⟩
    dsimp only
    rw [bat_set]
    split
    · rfl
    · exact hd
  · exact MGrow.refl s
theorem mStep_ok {s : MSt} {c g : Nat} (h : MOK n s) (hd : bTo T c g < n) : MOK n (mStep T mask c s g) := by
  unfold mStep
  generalize bTo T c g = d at *
  split
  · rename_i hm
    have hm := hm.2
    refine ⟨by rw [List.length_set]; exact h.l, fun k hk => ?_, ?_, fun e he hb => ?_⟩
    · dsimp only at hk ⊢
      by_cases e : k < s.2.length
      · obtain ⟨d', h1, h2, h3⟩ := h.q k e
        refine ⟨d', by rw [iget_app_lt e]; exact h1, h2, ?_⟩
        rw [bat_set]; split
        · rfl
        · exact h3
      · obtain rfl : k = s.2.length := by simp at hk; omega
        exact ⟨d, iget_app_eq, hd, by rw [bat_set, if_pos ⟨rfl, by rw [h.l]; exact hd⟩]⟩
    · dsimp only; rw [bcnt_set _ _ (by rw [h.l]; exact hd) hm, h.cnt]; simp
    · dsimp only at hb ⊢
      by_cases e2 : d = e
      · subst e2; exact ⟨s.2.length, by simp, iget_app_eq⟩
      · rw [bat_set, if_neg (fun h => e2 h.1)] at hb
        obtain ⟨k, h1, h2⟩ := h.cov e he hb
        exact ⟨k, by rw [List.length_append]; omega, by rw [iget_app_lt h1]; exact h2⟩
  · exact h
theorem mStep_met {s : MSt} {c g : Nat} (h : MOK n s) (hd : bTo T c g < n) (hb : mBit mask g = true) : bat (mStep T mask c s g).1 (bTo T c g) = true := by
  unfold mStep
  cases hm : bat s.1 (bTo T c g) with
  | false => rw [if_pos ⟨hb, rfl⟩]; dsimp only; rw [bat_set, if_pos ⟨rfl, by rw [h.l]; exact hd⟩]
  | true => rw [if_neg (fun h => by cases h.2)]; exact hm
theorem mRow_ok (hT : Leads T n) (hng : T.length = ng) {c : Nat} (hc : c < n) {s : MSt} (h : MOK n s) : ∀ m, m ≤ ng → MOK n ((List.range m).foldl (mStep T mask c) s) ∧ MGrow s ((List.range m).foldl (mStep T mask c) s) ∧ ∀ g, g < m → mBit mask g = true → bat ((List.range m).foldl (mStep T mask c) s).1 (bTo T c g) = true
  | 0, _ => ⟨h, MGrow.refl s, fun g hg => by omega⟩
  | m + 1, hm => by
    obtain ⟨h1, h2, h3⟩ := mRow_ok hT hng hc h m (by omega)
    rw [List.range_succ, List.foldl_append]
    generalize (List.range m).foldl (mStep T mask c) s = t at *
    have hd := (bTo_lt hT hc (g := m) (by omega)).1
    refine ⟨mStep_ok h1 hd, h2.trans (mStep_grow t c m), fun g hg hb => ?_⟩
    show bat (mStep T mask c t m).1 (bTo T c g) = true
    by_cases e : g = m
    · subst e; exact mStep_met h1 hd hb
    · exact (mStep_grow t c m).met _ (h3 g (by omega) hb)
def MSeen (T : List (List Int)) (mask ng i : Nat) (s : MSt) : Prop := ∀ k, k < i → ∀ g, g < ng → mBit mask g = true → bat s.1 (bTo T (iget s.2 k).toNat g) = true
theorem mLoop_step {f i : Nat} {s : MSt} (h : i < s.2.length) : mLoop T mask ng (f + 1) i s = mLoop T mask ng f (i + 1) (mRow T mask ng (iget s.2 i).toNat s) := by rw [mLoop, if_pos h]
theorem mLoop_ok (hT : Leads T n) (hng : T.length = ng) : ∀ (f i : Nat) (s : MSt), MOK n s → MOK n (mLoop T mask ng f i s) ∧ MGrow s (mLoop T mask ng f i s)
  | 0, _, s, h => ⟨h, MGrow.refl s⟩
  | f + 1, i, s, h => by
    unfold mLoop
    split
    · rename_i hi
      obtain ⟨d, h1, h2, _⟩ := h.q i hi
      obtain ⟨k1, k2, _⟩ := mRow_ok (mask := mask) hT hng (c := (iget s.2 i).toNat) (by omega) h ng (Nat.le_refl _)
      obtain ⟨m1, m2⟩ := mLoop_ok hT hng f (i + 1) _ k1
      exact ⟨m1, k2.trans m2⟩
    · exact ⟨h, MGrow.refl s⟩
theorem mLoop_seen (hT : Leads T n) (hng : T.length = ng) : ∀ (f i : Nat) (s : MSt), MOK n s → MSeen T mask ng i s → i ≤ s.2.length → n + 1 ≤ f + i → MSeen T mask ng (mLoop T mask ng f i s).2.length (mLoop T mask ng f i s)
  | 0, i, s, h, hs, hi, hf => by have := h.le; omega
  | f + 1, i, s, h, hs, hi, hf => by
    unfold mLoop
    split
    · rename_i hlt
      obtain ⟨d, h1, h2, _⟩ := h.q i hlt
      obtain ⟨k1, k2, k3⟩ := mRow_ok (mask := mask) hT hng (c := (iget s.2 i).toNat) (by omega) h ng (Nat.le_refl _)
      refine mLoop_seen hT hng f (i + 1) _ k1 (fun k hk g hg hb => ?_) (Nat.le_trans hlt k2.len) (by omega)
      have e : iget (mRow T mask ng (iget s.2 i).toNat s).2 k = iget s.2 k := k2.pre k (by omega)
      rw [e]
      by_cases e2 : k = i
      · subst e2; exact k3 g hg hb
      · exact k2.met _ (hs k (by omega) g hg hb)
    · obtain rfl : i = s.2.length := by omega
      exact hs
/-- what is closed holds all that is met -/
theorem mLoop_in (hT : Leads T n) (hng : T.length = ng) {p : Nat → Prop} (hp : ∀ c, c < n → p c → ∀ g, g < ng → mBit mask g = true → p (bTo T c g)) : ∀ (f i : Nat) (s : MSt), MOK n s → (∀ d, d < n → bat s.1 d = true → p d) → ∀ d, d < n → bat (mLoop T mask ng f i s).1 d = true → p d
  | 0, _, s, _, hs => hs
  | f + 1, i, s, h, hs => by
    unfold mLoop
    split
    · rename_i hlt
      obtain ⟨c, h1, h2, h3⟩ := h.q i hlt
      have hpc := hs c h2 h3
      rw [h1, Int.toNat_natCast]
      obtain ⟨k1, _, _⟩ := mRow_ok (mask := mask) hT hng h2 h ng (Nat.le_refl _)
      refine mLoop_in hT hng hp f (i + 1) _ k1 ?_
      have key : ∀ m, m ≤ ng → ∀ d, d < n → bat ((List.range m).foldl (mStep T mask c) s).1 d = true → p d := by
        intro m
        induction m with
        | zero => intro _; exact hs
        | succ m ih =>
          intro hm d hd hb
          rw [List.range_succ, List.foldl_append] at hb
          have hb : bat (mStep T mask c ((List.range m).foldl (mStep T mask c) s) m).1 d = true := hb
          unfold mStep at hb
          split at hb
          · rename_i hc
            dsimp only at hb
            rw [bat_set] at hb
            split at hb
            · rename_i e; rw [← e.1]; exact hp c h2 hpc m (by omega) hc.1
            · exact ih (by omega) d hd hb
          · exact ih (by omega) d hd hb
      exact key ng (Nat.le_refl _)
    · exact hs
end
end Go.Proofs.YtmdhljleaijkbaaGreatDoor

/- Orbits and their numbers, on lists. No program in sight. -/
namespace Go.Proofs.YtmdhljleaijkbaaGreatDoor

theorem mBit_all {ng g : Nat} (h : g < ng) : mBit (2 ^ ng - 1) g = true := by
  have : mBit (2 ^ ng - 1) g = (2 ^ ng - 1).testBit g := by
    unfold mBit; rw [Nat.testBit_eq_decide_div_mod_eq]; rfl
  rw [this, Nat.testBit_two_pow_sub_one]; simpa using h
/-- a step of the search for an orbit -/
def oStep (T : List (List Int)) (c : Nat) (s : MSt) (g : Nat) : MSt := if bat s.1 (bTo T c g) = false then (s.1.set (bTo T c g) true, s.2 ++ [(bTo T c g : Int)]) else s
theorem oStep_eq {T : List (List Int)} {ng g : Nat} (h : g < ng) (c : Nat) (s : MSt) : mStep T (2 ^ ng - 1) c s g = oStep T c s g := by
  unfold mStep oStep
  simp only [mBit_all h, true_and]
def oStart (n c : Nat) : MSt := ((List.replicate n false).set c true, [(c : Int)])
/-- the points to which lists lead a point, as they are met -/
def orb (T : List (List Int)) (n c : Nat) : MSt := mLoop T (2 ^ T.length - 1) T.length (n + 1) 0 (oStart n c)
theorem oStart_bat {n c d : Nat} (hd : d < n) : bat (oStart n c).1 d = true ↔ d = c := by
  show bat ((List.replicate n false).set c true) d = true ↔ _
  rw [bat_set]
  constructor
  · intro h
    split at h
    · rename_i e; exact e.1.symm
    · simp [bat, hd] at h
  · rintro rfl; rw [if_pos ⟨rfl, by simpa using hd⟩]
theorem oStart_ok {n c : Nat} (hc : c < n) : MOK n (oStart n c) := by
  refine ⟨by simp [oStart], fun k hk => ?_, ?_, fun d hd hb => ?_⟩
  · obtain rfl : k = 0 := by simp [oStart] at hk; omega
    exact ⟨c, rfl, hc, (oStart_bat hc).2 rfl⟩
  · show bcnt ((List.replicate n false).set c true) = 1
    rw [bcnt_set _ _ (by simpa using hc) (by simp [bat, hc])]
    simp [bcnt]
  · rw [oStart_bat hd] at hb; subst hb; exact ⟨0, by simp [oStart], rfl⟩
section
variable {T : List (List Int)} {n : Nat}
theorem orb_ok (hT : Leads T n) {c : Nat} (hc : c < n) : MOK n (orb T n c) := (mLoop_ok hT rfl _ _ _ (oStart_ok hc)).1
/-- whether lists lead a point to another one -/
def rch (T : List (List Int)) (n c d : Nat) : Bool := bat (orb T n c).1 d
theorem rch_refl (hT : Leads T n) {c : Nat} (hc : c < n) : rch T n c c = true := (mLoop_ok hT rfl _ _ _ (oStart_ok hc)).2.met c ((oStart_bat hc).2 rfl)
theorem rch_on (hT : Leads T n) {c d g : Nat} (hc : c < n) (hd : d < n) (h : rch T n c d = true) (hg : g < T.length) : rch T n c (bTo T d g) = true := by
  have hs := mLoop_seen (mask := 2 ^ T.length - 1) hT rfl (n + 1) 0 _ (oStart_ok hc) (fun k hk => by omega) (Nat.zero_le _) (by omega)
  obtain ⟨k, k1, k2⟩ := (orb_ok hT hc).cov d hd h
  have := hs k k1 g hg (mBit_all hg)
  have e : iget (mLoop T (2 ^ T.length - 1) T.length (n + 1) 0 (oStart n c)).2 k = (d : Int) := k2
  rw [e, Int.toNat_natCast] at this
  exact this
theorem rch_in (hT : Leads T n) {c : Nat} (hc : c < n) {p : Nat → Prop} (h0 : p c) (hp : ∀ d, d < n → p d → ∀ g, g < T.length → p (bTo T d g)) : ∀ d, d < n → rch T n c d = true → p d :=
  mLoop_in (mask := 2 ^ T.length - 1) hT rfl (fun d hd hpd g hg _ => hp d hd hpd g hg) (n + 1) 0 (oStart n c) (oStart_ok hc) fun d hd hb => by rw [oStart_bat hd] at hb; subst hb; exact h0
theorem rch_trans (hT : Leads T n) {c d e : Nat} (hc : c < n) (hd : d < n) (he : e < n) (h1 : rch T n c d = true) (h2 : rch T n d e = true) : rch T n c e = true :=
  rch_in (p := fun e => rch T n c e = true) hT hd h1 (fun e he h g hg => rch_on hT hc he h hg) e he h2
/-- each list leads back what it leads -/
def Back2 (T : List (List Int)) (n : Nat) : Prop := ∀ g, g < T.length → ∀ c, c < n → bTo T (bTo T c g) g = c
theorem rch_symm (hT : Leads T n) (hb : Back2 T n) {c d : Nat} (hc : c < n) (hd : d < n) (h : rch T n c d = true) : rch T n d c = true :=
  rch_in (p := fun d => rch T n d c = true) hT hc (rch_refl hT hc) (fun e he h g hg => by
    have h1 := (bTo_lt hT he hg).1
    have h2 := rch_on hT h1 h1 (rch_refl hT h1) hg
    rw [hb g hg e he] at h2
    exact rch_trans hT h1 he hc h2 h) d hd h

/-- who is reached reaches back -/
def SymR (T : List (List Int)) (n : Nat) : Prop := ∀ c d, c < n → d < n → rch T n c d = true → rch T n d c = true
theorem Back2.sym (hT : Leads T n) (hb : Back2 T n) : SymR T n := fun _ _ hc hd h => rch_symm hT hb hc hd h
theorem bcnt_full : ∀ {l : List Bool}, bcnt l = l.length → ∀ d, d < l.length → bat l d = true
  | [], _, d, hd => by simp at hd
  | b :: r, h, d, hd => by
    have hr := bcnt_le r
    have hb : b = true ∧ bcnt r = r.length := by
      unfold bcnt at h hr ⊢
      rw [List.filter_cons] at h
      split at h
      · rename_i hb; exact ⟨hb, by simpa using h⟩
      · simp at h; omega
    cases d with
    | zero => exact hb.1
    | succ d => exact bcnt_full hb.2 d (by simpa using hd)
theorem bcnt_all : ∀ {l : List Bool}, (∀ d, d < l.length → bat l d = true) → bcnt l = l.length
  | [], _ => rfl
  | b :: r, h => by
    have h0 : b = true := h 0 (by simp)
    have h1 := bcnt_all (l := r) fun d hd => h (d + 1) (by simpa using hd)
    unfold bcnt at h1 ⊢
    rw [List.filter_cons, if_pos h0]; simp [h1]
/-- the orbit is everything exactly if every point is met -/
theorem orb_full (hT : Leads T n) {c : Nat} (hc : c < n) : (orb T n c).2.length = n ↔ ∀ d, d < n → rch T n c d = true := by
  have h := orb_ok hT hc
  rw [← h.cnt]
  constructor
  · intro e d hd; exact bcnt_full (by rw [h.l]; exact e) d (by rw [h.l]; exact hd)
  · intro e; rw [bcnt_all (fun d hd => e d (by rw [h.l] at hd; exact hd)), h.l]

/-- the numbers of orbits, and how many there are -/
abbrev LSt := List Int × Nat
def labSet (T : List (List Int)) (n i : Nat) (s : LSt) : LSt := ((List.range n).map fun d => if rch T n i d then (s.2 : Int) else iget s.1 d, s.2 + 1)
def labStep (T : List (List Int)) (n : Nat) (s : LSt) (i : Nat) : LSt := if 0 ≤ iget s.1 i then s else labSet T n i s
def labStart (n : Nat) : LSt := (List.replicate n (-1), 0)
def labTo (T : List (List Int)) (n i : Nat) : LSt := (List.range i).foldl (labStep T n) (labStart n)
def labs (T : List (List Int)) (n : Nat) : LSt := labTo T n n
theorem labTo_succ (i : Nat) : labTo T n (i + 1) = labStep T n (labTo T n i) i := by unfold labTo; rw [List.range_succ, List.foldl_append]; rfl
theorem labSet_get {i d : Nat} {s : LSt} (hd : d < n) : iget (labSet T n i s).1 d = if rch T n i d then (s.2 : Int) else iget s.1 d := by simp [labSet, iget, hd]
theorem labSet_len {i : Nat} {s : LSt} : (labSet T n i s).1.length = n := by simp [labSet]
structure LOK (T : List (List Int)) (n i : Nat) (s : LSt) : Prop where
  len : s.1.length = n
  met : ∀ d, d < n → (0 ≤ iget s.1 d ↔ ∃ c, c < i ∧ rch T n c d = true)
  low : ∀ d, d < n → -1 ≤ iget s.1 d ∧ iget s.1 d < s.2
theorem labTo_okS (hT : Leads T n) (hb : SymR T n) : ∀ i, i ≤ n → LOK T n i (labTo T n i)
  | 0, _ => ⟨by simp [labTo, labStart], fun d hd => ⟨fun h => by simp [labTo, labStart, iget, hd] at h, fun ⟨c, h, _⟩ => absurd h (by omega)⟩, fun d hd => by simp [labTo, labStart, iget, hd]⟩
  | i + 1, hi => by
    have h := labTo_okS hT hb i (by omega)
    rw [labTo_succ]
    generalize labTo T n i = s at *
    unfold labStep
    split
    · rename_i hl
      refine ⟨h.len, fun d hd => ?_, h.low⟩
      rw [h.met d hd]
      constructor
      · rintro ⟨c, h1, h2⟩; exact ⟨c, by omega, h2⟩
      · rintro ⟨c, h1, h2⟩
        by_cases e : c = i
        · subst e
          obtain ⟨c', h3, h4⟩ := (h.met c hi).1 hl
          exact ⟨c', h3, rch_trans hT (by omega) hi hd h4 h2⟩
        · exact ⟨c, by omega, h2⟩
    · rename_i hl
      refine ⟨labSet_len, fun d hd => ?_, fun d hd => ?_⟩
      · rw [labSet_get hd]
        split
        · rename_i hr; exact ⟨fun _ => ⟨i, by omega, hr⟩, fun _ => by omega⟩
        · rename_i hr
          rw [h.met d hd]
          constructor
          · rintro ⟨c, h1, h2⟩; exact ⟨c, by omega, h2⟩
          · rintro ⟨c, h1, h2⟩
            by_cases e : c = i
            · subst e; exact absurd h2 hr
            · exact ⟨c, by omega, h2⟩
      · rw [labSet_get hd]
        have := h.low d hd
        split
        · exact ⟨by omega, by show (s.2 : Int) < ((s.2 + 1 : Nat) : Int); omega⟩
        · exact ⟨this.1, by show _ < ((s.2 + 1 : Nat) : Int); omega⟩
/-- whoever is met from i for the first time was not met ahead of it -/
theorem lab_newS (hT : Leads T n) (hb : SymR T n) {i d : Nat} {s : LSt} (hi : i < n) (h : LOK T n i s) (hl : iget s.1 i < 0) (hd : d < n) (hr : rch T n i d = true) : iget s.1 d = -1 := by
  have := h.low d hd
  by_cases e : 0 ≤ iget s.1 d
  · obtain ⟨c, h1, h2⟩ := (h.met d hd).1 e
    have h3 := rch_trans hT (by omega) hd hi h2 (hb i d hi hd hr)
    have := (h.met i hi).2 ⟨c, h1, h3⟩
    omega
  · omega
theorem labTo_mono : ∀ {i k : Nat}, i ≤ k → (labTo T n i).2 ≤ (labTo T n k).2 := by
  intro i k h
  induction k with
  | zero => obtain rfl : i = 0 := by omega
            exact Nat.le_refl _
  | succ k ih =>
    by_cases e : i = k + 1
    · subst e; exact Nat.le_refl _
    · refine Nat.le_trans (ih (by omega)) ?_
      rw [labTo_succ]; unfold labStep; split
      · exact Nat.le_refl _
      · simp [labSet]
theorem labTo_oneS (hT : Leads T n) (hb : SymR T n) (hn : 0 < n) : (labTo T n 1).2 = 1 := by
  have h0 : iget (labTo T n 0).1 0 = -1 := by simp [labTo, labStart, iget, hn]
  rw [show 1 = 0 + 1 by rfl, labTo_succ]
  unfold labStep
  rw [if_neg (by rw [h0]; omega)]
  rfl
/-- there is one orbit exactly if that of 0 is everything -/
theorem labs_oneS (hT : Leads T n) (hb : SymR T n) (hn : 0 < n) : (labs T n).2 = 1 ↔ (orb T n 0).2.length = n := by
  rw [orb_full hT hn]
  constructor
  · intro h d hd
    have key : ∀ i, 1 ≤ i → i ≤ n → labTo T n i = labTo T n 1 := by
      intro i h1 h2
      induction i with
      | zero => omega
      | succ i ih =>
        by_cases e : i = 0
        · subst e; rfl
        · have ih := ih (by omega) (by omega)
          have hm := labTo_mono (T := T) (n := n) h2
          have : (labTo T n n).2 = 1 := h
          rw [labTo_succ] at hm ⊢
          unfold labStep at hm ⊢
          split at hm
          · rename_i hl; rw [if_pos hl]; exact ih
          · rw [ih] at hm
            have := labTo_oneS hT hb hn
            simp only [labSet] at hm
            omega
    by_cases e : d = 0
    · subst e; exact rch_refl hT hn
    · have h1 : 0 ≤ iget (labTo T n d).1 d := by
        have hm := labTo_mono (T := T) (n := n) (show d + 1 ≤ n by omega)
        have : (labTo T n n).2 = 1 := h
        rw [labTo_succ] at hm
        unfold labStep at hm
        split at hm
        · rename_i hl; exact hl
        · rw [key d (by omega) (by omega)] at hm
          have := labTo_oneS hT hb hn
          simp only [labSet] at hm
          omega
      rw [key d (by omega) (by omega)] at h1
      obtain ⟨c, h2, h3⟩ := ((labTo_okS hT hb 1 hn).met d hd).1 h1
      obtain rfl : c = 0 := by omega
      exact h3
  · intro h
    have key : ∀ i, 1 ≤ i → i ≤ n → (labTo T n i).2 = 1 := by
      intro i h1 h2
      induction i with
      | zero => omega
      | succ i ih =>
        by_cases e : i = 0
        · subst e; exact labTo_oneS hT hb hn
        · rw [labTo_succ]
          unfold labStep
          rw [if_pos (((labTo_okS hT hb i (by omega)).met i (by omega)).2 ⟨0, by omega, h i (by omega)⟩)]
          exact ih (by omega) (by omega)
    exact key n hn (Nat.le_refl _)
theorem labs_one (hT : Leads T n) (hb : Back2 T n) (hn : 0 < n) : (labs T n).2 = 1 ↔ (orb T n 0).2.length = n := labs_oneS hT (hb.sym hT) hn
end
end Go.Proofs.YtmdhljleaijkbaaGreatDoor

/- Permutations: the program's isPermutation and the reference's l01Perm compute one Bool. -/
namespace Go.Proofs.YtmdhljleaijkbaaGreatDoor
open Go.RowKit

theorem etB : ET Tryz.prog 105 4 (.bool false) 1 := ⟨Tryz.underlying105, by kernel_rfl, rfl, by omega⟩

/-- the numbers that are still to come are within 0 to n - 1, and none of them has been seen, nor comes twice -/
def permGo (n : Nat) : List Bool → List Int → Bool
  | _, [] => true
  | seen, z :: r => inB z 0 ((n : Int) - 1) && !(seen.getD z.toNat false) && permGo n (seen.set z.toNat true) r
/-- a permutation of at most 400 points -/
def isPerm (zs : List Int) : Bool := decide (zs.length ≤ 400) && permGo zs.length (List.replicate zs.length false) zs

theorem permGo_step {n : Nat} {seen : List Bool} {zs : List Int} {k : Nat} (hk : k < zs.length) :
    permGo n seen (zs.drop k) = (inB (iget zs k) 0 ((n : Int) - 1) && !(seen.getD (iget zs k).toNat false) && permGo n (seen.set (iget zs k).toNat true) (zs.drop (k + 1))) := by
  rw [List.drop_eq_getElem_cons hk, ← iget_lt hk]; rfl

/-- a slice of bools, k of them looked up -/
def bget (bs : List Bool) (k : Nat) : Bool := bs.getD k false
theorem permGo_out {n : Nat} {seen : List Bool} {zs : List Int} {k : Nat} (hk : k < zs.length) (hx : inB (iget zs k) 0 ((n : Int) - 1) = false) : permGo n seen (zs.drop k) = false := by
  rw [permGo_step hk, hx]; rfl
theorem permGo_met {n : Nat} {seen : List Bool} {zs : List Int} {k m : Nat} (hk : k < zs.length) (hm : iget zs k = m) (hb : bget seen m = true) : permGo n seen (zs.drop k) = false := by
  unfold bget at hb
  rw [permGo_step hk, hm, Int.toNat_natCast, hb]; simp
theorem permGo_on {n : Nat} {seen : List Bool} {zs : List Int} {k m : Nat} (hk : k < zs.length) (hm : iget zs k = m) (hx : inB m 0 ((n : Int) - 1) = true) (hb : bget seen m = false) : permGo n seen (zs.drop k) = permGo n (seen.set m true) (zs.drop (k + 1)) := by
  unfold bget at hb
  rw [permGo_step hk, hm, Int.toNat_natCast, hb, hx]; simp
theorem own_bget {w : World} {base E : Nat} {g n c : Nat} {bs : List Bool} (h : Own w base E (some ⟨g, 0, none⟩) n c (bs.map Value.bool)) {k : Nat} (hk : k < n) : w.cell? ⟨g, k, none⟩ = some (.bool (bget bs k)) := by
  obtain ⟨g', hg, _, _, _, hc, _⟩ := h.form (by omega)
  obtain rfl : g = g' := by injection hg with hg; injection hg
  have hl : bs.length = n := by have := h.len; simpa using this
  rw [hc k hk, List.getElem?_map, List.getElem?_eq_getElem (by omega)]
  simp [bget, List.getD, List.getElem?_eq_getElem (show k < bs.length by omega)]
theorem own_frozen {w : World} {base E : Nat} {g n c : Nat} {xs : List Value} (h : Own w base E (some ⟨g, 0, none⟩) n c xs) (k : Nat) : w.frozen? ⟨g, k, none⟩ = false := h.1.frozenAt k

set_option maxHeartbeats 800000 in
theorem specPerm_any (ao : Option Addr) (n c : Nat) (zs : List Int) (w : World) (h : Ints w ao n zs) :
    Calls Tryz.prog 51 #[.slice ao n c] w fun e w' => e = .returned (.bool (isPerm zs)) ∧ Below w.heap.size w w' := by
  have hn := h.2.1
  have hl := h.1
  have HL := Lib.hid hl
  clear hl
  by_cases hs : n ≤ 400
  · have h1 : decide ((400 : Int) < n) = false := by simp; omega
    have hp : isPerm zs = permGo n (List.replicate n false) zs := by unfold isPerm; rw [HL.out]; simp [hs]
    have HP := Lib.hid hp
    clear hp
    go_enter Tryz.func51, Tryz.ntmps51
    go_wp2_with (at_make; refine wpList_mk etB _ rfl _ _ rfl w.heap.size _ _ _ _ n rfl rfl rfl rfl (by omega) (Nat.le_refl _) ?_; intro w1 hown hgrow hsz)
    have hb1 : Below w.heap.size w w1 := (Below.refl _ _).grown hgrow (Nat.le_refl _) (by simp)
    clear hgrow
    go_loopw [4] (fun i wr => ∃ (k : Nat) (seen : List Bool), k ≤ n ∧ i = .int .i64 k ∧ Own wr w.heap.size 4 (some ⟨w.heap.size, 0, none⟩) n n (seen.map Value.bool) ∧ isPerm zs = permGo n seen (zs.drop k) ∧ Below w.heap.size w wr) (fun i _ => n - (intOf i).toNat)
    case atStart => exact ⟨0, _, Nat.zero_le _, rfl, by rw [List.map_replicate]; exact hown, HP.out, hb1⟩
    case round =>
      obtain ⟨k, seen, hk, rfl, ho, hinv, hb⟩ := hrel
      clear hown hb1 hsz
      have HI := Lib.hid hinv
      clear hinv
      by_cases hlt : k < n
      · obtain ⟨b, off, rfl, hc⟩ := (h.below hb).at_ hlt
        have HK : Hid (k < zs.length) := by have := HL.out; show k < zs.length; omega
        have HH := Lib.hid h
        clear h
        cases hin : inB (iget zs k) 0 ((n : Int) - 1) with
        | false =>
          have HX := Lib.hid hin
          clear hin
          go_wp2_with (go_at_call 77; refine (specIn_any _ _ _ _).mono ?_; rintro e w' ⟨rfl, rfl⟩; rw [HX.out])
          go_ret
          exact ⟨ret_bool (HI.out.trans (permGo_out HK.out HX.out)).symm, hb⟩
        | true =>
          have HX := Lib.hid hin
          obtain ⟨hz0, hz1⟩ := inB_true.1 hin
          obtain ⟨m, hm⟩ := Int.eq_ofNat_of_zero_le hz0
          rw [hm] at hc hz1
          have HM := Lib.hid hm
          have hmn : m < n := by omega
          have hsc := own_bget ho hmn
          have hfr := own_frozen ho m
          have HXm : Hid (inB (m : Int) 0 ((n : Int) - 1) = true) := by have := HX.out; rwa [HM.out] at this
          clear hin hz0 hz1 hm
          cases hsb : bget seen m with
          | true =>
            rw [hsb] at hsc
            have HB := Lib.hid hsb
            clear hsb
            go_wp2_with (go_at_call 77; refine (specIn_any _ _ _ _).mono ?_; rintro e w' ⟨rfl, rfl⟩; rw [HXm.out])
            go_ret
            exact ⟨ret_bool (HI.out.trans (permGo_met HK.out HM.out HB.out)).symm, hb⟩
          | false =>
            rw [hsb] at hsc
            obtain ⟨st1, st2⟩ := ho.stored m (.bool true)
            have HB := Lib.hid hsb
            have HS1 := Lib.hid st1
            have HS2 := Lib.hid st2
            clear hsb st1 st2
            go_wp2_with (go_at_call 77; refine (specIn_any _ _ _ _).mono ?_; rintro e w' ⟨rfl, rfl⟩; rw [HXm.out])
            go_roundw
            case rel =>
              exact ⟨k + 1, seen.set m true, by omega, by go_num, by rw [List.map_set]; exact HS1.out, HI.out.trans (permGo_on HK.out HM.out HXm.out HB.out), hb.grown HS2.out hb.size (by intro g hg; injection hg with hg; omega)⟩
            case measure => simp [intOf]; omega
      · obtain rfl : k = n := by omega
        go_wp2
        go_ret
        exact ⟨ret_bool (by rw [HI.out, List.drop_of_length_le (Nat.le_of_eq HL.out)]; rfl), hb⟩
  · have h1 : decide ((400 : Int) < n) = true := by simp; omega
    go_enter Tryz.func51, Tryz.ntmps51
    go_wp2
    go_ret
    exact ⟨ret_bool (by unfold isPerm; rw [HL.out]; simp; intro; omega), Below.refl _ _⟩

theorem size_any (ao : Option Addr) (n c : Nat) (w : World) : Calls Tryz.prog 44 #[.slice ao n c] w fun e w' => e = .returned (.int .i64 n) ∧ w' = w := by
  go_enter Tryz.func44, Tryz.ntmps44
  go_wp2
  go_ret
  exact ⟨rfl, rfl⟩

set_option maxHeartbeats 800000 in
theorem implPerm_any (ao : Option Addr) (n c : Nat) (zs : List Int) (w : World) (h : Ints w ao n zs) :
    Calls Tryz.prog 60 #[.slice ao n c] w fun e w' => e = .returned (.bool (isPerm zs)) ∧ Below w.heap.size w w' := by
  have hn := h.2.1
  have hl := h.1
  have HL := Lib.hid hl
  clear hl
  by_cases hs : n ≤ 400
  · have h1 : decide ((400 : Int) < n) = false := by simp; omega
    have hp : isPerm zs = permGo n (List.replicate n false) zs := by unfold isPerm; rw [HL.out]; simp [hs]
    have HP := Lib.hid hp
    clear hp
    go_enter Tryz.func60, Tryz.ntmps60
    go_wp2_with (at_make; refine wpList_mk etB _ rfl _ _ rfl w.heap.size _ _ _ _ n rfl rfl rfl rfl (by omega) (Nat.le_refl _) ?_; intro w1 hown hgrow hsz)
    have hb1 : Below w.heap.size w w1 := (Below.refl _ _).grown hgrow (Nat.le_refl _) (by simp)
    clear hgrow
    go_loopw [14] (fun i wr => ∃ (k : Nat) (seen : List Bool), k ≤ n ∧ i = .int .i64 k ∧ Own wr w.heap.size 4 (some ⟨w.heap.size, 0, none⟩) n n (seen.map Value.bool) ∧ isPerm zs = permGo n seen (zs.drop k) ∧ Below w.heap.size w wr) (fun i _ => n - (intOf i).toNat)
    case atStart => exact ⟨0, _, Nat.zero_le _, rfl, by rw [List.map_replicate]; exact hown, HP.out, hb1⟩
    case round =>
      obtain ⟨k, seen, hk, rfl, ho, hinv, hb⟩ := hrel
      clear hown hb1 hsz
      have HI := Lib.hid hinv
      clear hinv
      by_cases hlt : k < n
      · obtain ⟨b, off, rfl, hc⟩ := (h.below hb).at_ hlt
        have HK : Hid (k < zs.length) := by have := HL.out; show k < zs.length; omega
        have HH := Lib.hid h
        clear h
        cases hin : inB (iget zs k) 0 ((n : Int) - 1) with
        | false =>
          have HX := Lib.hid hin
          clear hin
          go_wp2_with (first | (go_at_call 44; refine (size_any _ _ _ _).mono ?_; rintro e w' ⟨rfl, rfl⟩) | (go_at_call 41; refine (within_any _ _ _ _).mono ?_; rintro e w' ⟨rfl, rfl⟩; rw [HX.out]))
          go_ret
          exact ⟨ret_bool (HI.out.trans (permGo_out HK.out HX.out)).symm, hb⟩
        | true =>
          have HX := Lib.hid hin
          obtain ⟨hz0, hz1⟩ := inB_true.1 hin
          obtain ⟨m, hm⟩ := Int.eq_ofNat_of_zero_le hz0
          rw [hm] at hc hz1
          have HM := Lib.hid hm
          have hmn : m < n := by omega
          have hsc := own_bget ho hmn
          have hfr := own_frozen ho m
          have HXm : Hid (inB (m : Int) 0 ((n : Int) - 1) = true) := by have := HX.out; rwa [HM.out] at this
          clear hin hz0 hz1 hm
          cases hsb : bget seen m with
          | true =>
            rw [hsb] at hsc
            have HB := Lib.hid hsb
            clear hsb
            go_wp2_with (first | (go_at_call 44; refine (size_any _ _ _ _).mono ?_; rintro e w' ⟨rfl, rfl⟩) | (go_at_call 41; refine (within_any _ _ _ _).mono ?_; rintro e w' ⟨rfl, rfl⟩; rw [HXm.out]))
            go_ret
            exact ⟨ret_bool (HI.out.trans (permGo_met HK.out HM.out HB.out)).symm, hb⟩
          | false =>
            rw [hsb] at hsc
            obtain ⟨st1, st2⟩ := ho.stored m (.bool true)
            have HB := Lib.hid hsb
            have HS1 := Lib.hid st1
            have HS2 := Lib.hid st2
            clear hsb st1 st2
            go_wp2_with (first | (go_at_call 44; refine (size_any _ _ _ _).mono ?_; rintro e w' ⟨rfl, rfl⟩) | (go_at_call 41; refine (within_any _ _ _ _).mono ?_; rintro e w' ⟨rfl, rfl⟩; rw [HXm.out]))
            go_roundw
            case rel =>
              exact ⟨k + 1, seen.set m true, by omega, by go_num, by rw [List.map_set]; exact HS1.out, HI.out.trans (permGo_on HK.out HM.out HXm.out HB.out), hb.grown HS2.out hb.size (by intro g hg; injection hg with hg; omega)⟩
            case measure => simp [intOf]; omega
      · obtain rfl : k = n := by omega
        go_wp2
        go_ret
        exact ⟨ret_bool (by rw [HI.out, List.drop_of_length_le (Nat.le_of_eq HL.out)]; rfl), hb⟩
  · have h1 : decide ((400 : Int) < n) = true := by simp; omega
    go_enter Tryz.func60, Tryz.ntmps60
    go_wp2
    go_ret
    exact ⟨ret_bool (by unfold isPerm; rw [HL.out]; simp; intro; omega), Below.refl _ _⟩
end Go.Proofs.YtmdhljleaijkbaaGreatDoor

/- What a permutation's numbers are. No program in sight. -/
namespace Go.Proofs.YtmdhljleaijkbaaGreatDoor

theorem permGo_within {n : Nat} {zs : List Int} : ∀ {seen : List Bool}, permGo n seen zs = true → ∀ z ∈ zs, 0 ≤ z ∧ z < n := by
  induction zs with
  | nil => intro seen _ z hz; cases hz
  | cons a r ih =>
    intro seen h z hz
    simp only [permGo, Bool.and_eq_true] at h
    rcases List.mem_cons.1 hz with rfl | hz
    · have := inB_true.1 h.1.1; omega
    · exact ih h.2 z hz
theorem isPerm_within {zs : List Int} (h : isPerm zs = true) {k : Nat} (hk : k < zs.length) : 0 ≤ iget zs k ∧ iget zs k < zs.length := by
  unfold isPerm at h
  exact permGo_within ((Bool.and_eq_true _ _ ▸ h).2) _ (iget_mem hk)
end Go.Proofs.YtmdhljleaijkbaaGreatDoor

/- What a maniplex is, on lists. No program in sight. -/
namespace Go.Proofs.YtmdhljleaijkbaaGreatDoor

/-- no number stands at its own place, and each leads back -/
def isFreeL (zs : List Int) : Bool := (List.range zs.length).all fun i => !(iget zs i == (i : Int)) && iget zs (iget zs i).toNat == (i : Int)
theorem isFreeL_at {zs : List Int} (h : isFreeL zs = true) {i : Nat} (hi : i < zs.length) : iget zs i ≠ i ∧ iget zs (iget zs i).toNat = i := by
  unfold isFreeL at h
  have := (List.all_eq_true.1 h) i (List.mem_range.2 hi)
  simpa using this
theorem isFreeL_no {zs : List Int} {i : Nat} (hi : i < zs.length) (h : iget zs i = i ∨ iget zs (iget zs i).toNat ≠ i) : isFreeL zs = false := by
  cases hf : isFreeL zs with
  | false => rfl
  | true =>
    have := isFreeL_at hf hi
    rcases h with h | h
    · exact absurd h this.1
    · exact absurd this.2 h
theorem isFreeL_yes {zs : List Int} (h : ∀ i, i < zs.length → iget zs i ≠ i ∧ iget zs (iget zs i).toNat = i) : isFreeL zs = true := by
  unfold isFreeL
  rw [List.all_eq_true]
  intro i hi
  have := h i (List.mem_range.1 hi)
  simpa using this
/-- two moves commute at a flag, and differ there -/
def commAt (zss : List (List Int)) (i k f : Nat) : Prop := bTo zss (bTo zss f i) k = bTo zss (bTo zss f k) i ∧ bTo zss f i ≠ bTo zss f k
structure Man (zss : List (List Int)) : Prop where
  n1 : 1 ≤ zss.length
  n5 : zss.length ≤ 5
  f2 : 2 ≤ (lget zss 0).length
  f4 : (lget zss 0).length ≤ 400
  len : ∀ i, i < zss.length → (lget zss i).length = (lget zss 0).length
  perm : ∀ i, i < zss.length → isPerm (lget zss i) = true
  free : ∀ i, i < zss.length → isFreeL (lget zss i) = true
  comm : ∀ i k, i + 2 ≤ k → k < zss.length → ∀ f, f < (lget zss 0).length → commAt zss i k f
  conn : (orb zss (lget zss 0).length 0).2.length = (lget zss 0).length
noncomputable def manB (zss : List (List Int)) : Bool := @decide (Man zss) (Classical.propDecidable _)
theorem manB_yes {zss : List (List Int)} (h : Man zss) : manB zss = true := by unfold manB; exact @decide_eq_true _ (Classical.propDecidable _) h
theorem manB_no {zss : List (List Int)} (h : ¬ Man zss) : manB zss = false := by unfold manB; exact @decide_eq_false _ (Classical.propDecidable _) h
theorem manB_iff {zss : List (List Int)} : manB zss = true ↔ Man zss := by unfold manB; exact @decide_eq_true_iff _ (Classical.propDecidable _)
/-- rows that are permutations of n points -/
def Rows (zss : List (List Int)) (n m : Nat) : Prop := ∀ i, i < m → (lget zss i).length = n ∧ isPerm (lget zss i) = true ∧ isFreeL (lget zss i) = true
theorem rows_leads {zss : List (List Int)} {n : Nat} (h : Rows zss n zss.length) : Leads zss n :=
  ⟨fun k hk => (h k hk).1, fun k hk x hx => by
    have h1 := isPerm_within (h k hk).2.1 (k := x) (by rw [(h k hk).1]; exact hx)
    rw [(h k hk).1] at h1; exact h1⟩
theorem rows_back {zss : List (List Int)} {n : Nat} (h : Rows zss n zss.length) : Back2 zss n := fun g hg c hc => by
  have h1 := (isFreeL_at (h g hg).2.2 (i := c) (by rw [(h g hg).1]; exact hc)).2
  unfold bTo
  rw [h1, Int.toNat_natCast]
theorem Man.rows {zss : List (List Int)} (h : Man zss) : Rows zss (lget zss 0).length zss.length := fun i hi => ⟨h.len i hi, h.perm i hi, h.free i hi⟩
end Go.Proofs.YtmdhljleaijkbaaGreatDoor

/- Coverings of maniplexes, plain. No program in sight. -/
namespace Go.Proofs.YtmdhljleaijkbaaGreatDoor

/-- how many flags -/
def flg (d : List (List Int)) : Nat := (lget d 0).length
/-- p gives flags of d flags of e and agrees with the moves -/
structure Cov (d e : List (List Int)) (p : List Int) : Prop where
  len : p.length = flg d
  val : ∀ i, i < flg d → ∃ x : Nat, iget p i = (x : Int) ∧ x < flg e
  mov : ∀ g i, g < d.length → i < flg d → iget p (bTo d i g) = iget (lget e g) (iget p i).toNat
open Classical in
/-- the covering that gives the flag 0 the flag f -/
noncomputable def covO (d e : List (List Int)) (f : Nat) : Option (List Int) := if h : d.length = e.length ∧ ∃ p, Cov d e p ∧ iget p 0 = (f : Int) then some (Classical.choose h.2) else none
theorem man_leads {d : List (List Int)} (h : Man d) : Leads d (flg d) := rows_leads h.rows
theorem man_back {d : List (List Int)} (h : Man d) : Back2 d (flg d) := rows_back h.rows
theorem man_rch {d : List (List Int)} (h : Man d) : ∀ i, i < flg d → rch d (flg d) 0 i = true := (orb_full (man_leads h) (by have := h.f2; unfold flg; omega)).1 h.conn
/-- what holds at the flag 0 and along the moves holds everywhere -/
theorem man_ind {d : List (List Int)} (h : Man d) {p : Nat → Prop} (h0 : p 0) (hp : ∀ i, i < flg d → p i → ∀ g, g < d.length → p (bTo d i g)) : ∀ i, i < flg d → p i := fun i hi =>
  rch_in (man_leads h) (by omega) h0 hp i hi (man_rch h i hi)
theorem cov_uniq {d e : List (List Int)} (hd : Man d) {p q : List Int} (hp : Cov d e p) (hq : Cov d e q) (h0 : iget p 0 = iget q 0) : p = q :=
  iget_ext (by rw [hp.len, hq.len]) fun k hk => man_ind hd (p := fun i => iget p i = iget q i) h0 (fun i hi h g hg => by rw [hp.mov g i hg hi, hq.mov g i hg hi, h]) k (by rw [← hp.len]; exact hk)
theorem covO_some {d e : List (List Int)} {f : Nat} {p : List Int} (h : covO d e f = some p) : d.length = e.length ∧ Cov d e p ∧ iget p 0 = (f : Int) := by
  unfold covO at h
  split at h
  · rename_i hh
    injection h with h
    subst h
    exact ⟨hh.1, Classical.choose_spec hh.2⟩
  · cases h
theorem covO_eq {d e : List (List Int)} (hd : Man d) (hl : d.length = e.length) {f : Nat} {p : List Int} (hp : Cov d e p) (h0 : iget p 0 = (f : Int)) : covO d e f = some p := by
  have h : d.length = e.length ∧ ∃ p, Cov d e p ∧ iget p 0 = (f : Int) := ⟨hl, p, hp, h0⟩
  unfold covO
  rw [dif_pos h]
  have hs := Classical.choose_spec h.2
  rw [cov_uniq hd hs.1 hp (hs.2.trans h0.symm)]
theorem covO_none {d e : List (List Int)} {f : Nat} (h : ∀ p, Cov d e p → iget p 0 = (f : Int) → False) : covO d e f = none := by
  unfold covO
  rw [dif_neg]
  rintro ⟨_, p, hp, h0⟩
  exact h p hp h0
theorem covO_rank {d e : List (List Int)} {f : Nat} (h : d.length ≠ e.length) : covO d e f = none := by
  unfold covO; rw [dif_neg (fun q => h q.1)]
/-- not labelled -/
def unl (L : List Int) : Nat := (L.filter fun z => decide (z < 0)).length
theorem unl_set : ∀ {L : List Int} {y : Nat} {x : Int}, y < L.length → iget L y < 0 → 0 ≤ x → unl (L.set y x) + 1 = unl L
  | [], y, x, h, _, _ => by simp at h
  | z :: r, 0, x, _, h1, h2 => by
    have h1 : z < 0 := by simpa [iget] using h1
    simp [unl, h1, show ¬ x < 0 by omega]
  | z :: r, y + 1, x, h, h1, h2 => by
    have ih := unl_set (L := r) (y := y) (x := x) (by simpa using h) (by simpa [iget] using h1) h2
    unfold unl at ih ⊢
    simp only [List.set_cons_succ, List.filter_cons]
    split
    · simp only [List.length_cons]; omega
    · exact ih
theorem iget_setN {p : List Int} {i k : Nat} {x : Int} (hi : i < p.length) : iget (p.set i x) k = if k = i then x else iget p k := by
  unfold iget
  rw [List.getD_eq_getElem?_getD, List.getD_eq_getElem?_getD, List.getElem?_set]
  by_cases h : i = k
  · subst h; simp [hi]
  · rw [if_neg h, if_neg (fun e => h e.symm)]
/-- the search: labels L, open flags O -/
structure CvS (d e : List (List Int)) (f : Nat) (L O : List Int) : Prop where
  len : L.length = flg d
  val : ∀ i, i < flg d → iget L i = -1 ∨ ∃ x : Nat, iget L i = (x : Int) ∧ x < flg e
  zero : iget L 0 = (f : Int)
  que : ∀ z, z ∈ O → ∃ i : Nat, z = (i : Int) ∧ i < flg d ∧ iget L i ≠ -1
  done : ∀ i, i < flg d → iget L i ≠ -1 → (i : Int) ∉ O → ∀ g, g < d.length → iget L (bTo d i g) = iget (lget e g) (iget L i).toNat
  just : ∀ p, Cov d e p → iget p 0 = (f : Int) → ∀ i, i < flg d → iget L i ≠ -1 → iget p i = iget L i
section
variable {d e : List (List Int)} {f : Nat} {L O : List Int}
theorem CvS.lab (h : CvS d e f L O) {i : Nat} (hi : i < flg d) (hl : iget L i ≠ -1) : ∃ x : Nat, iget L i = (x : Int) ∧ x < flg e := (h.val i hi).resolve_left hl
theorem CvS.start (hd : Man d) (hf : f < flg e) : CvS d e f ((List.replicate (flg d) (-1)).set 0 (f : Int)) [0] := by
  have h2 : 2 ≤ flg d := hd.f2
  have hg : ∀ i, i < flg d → iget ((List.replicate (flg d) (-1)).set 0 (f : Int)) i = if i = 0 then (f : Int) else -1 := fun i hi => by
    rw [iget_setN (by simp; omega)]
    split
    · rfl
    · exact iget_rep hi
  refine ⟨by simp, fun i hi => ?_, by rw [hg 0 (by omega)]; rfl, fun z hz => ?_, fun i hi hl hn => ?_, fun p hp h0 i hi hl => ?_⟩
  · rw [hg i hi]
    split
    · exact .inr ⟨f, rfl, hf⟩
    · exact .inl rfl
  · simp at hz; subst hz
    exact ⟨0, rfl, by omega, by rw [hg 0 (by omega), if_pos rfl]; omega⟩
  · rw [hg i hi] at hl
    split at hl
    · rename_i h; subst h; exact absurd (by simp) hn
    · exact absurd rfl hl
  · rw [hg i hi] at hl ⊢
    split at hl
    · rename_i h; subst h; rw [if_pos rfl]; exact h0
    · exact absurd rfl hl
/-- the flag in front, its moves below k seen -/
structure CvF (d e : List (List Int)) (f : Nat) (L O : List Int) (x k : Nat) : Prop where
  st : CvS d e f L O
  xs : x < flg d
  lab : iget L x ≠ -1
  seen : ∀ g, g < k → iget L (bTo d x g) = iget (lget e g) (iget L x).toNat
variable {x k : Nat}
theorem CvS.front (h : CvS d e f L O) (hx : (x : Int) ∈ O) : CvF d e f L O x 0 := by
  obtain ⟨i, e1, e2, e3⟩ := h.que _ hx
  obtain rfl : x = i := by omega
  exact ⟨h, e2, e3, fun g hg => absurd hg (by omega)⟩
theorem CvF.vals (h : CvF d e f L O x k) (hd : Man d) (he : Man e) (hl : d.length = e.length) (hk : k < d.length) : ∃ y t : Nat, iget (lget d k) x = (y : Int) ∧ y < flg d ∧ bTo d x k = y ∧ (∃ u : Nat, iget L x = (u : Int) ∧ u < flg e ∧ iget (lget e k) u = (t : Int)) ∧ t < flg e := by
  obtain ⟨u, e1, e2⟩ := h.st.lab h.xs h.lab
  have h1 := bTo_lt (man_leads hd) h.xs hk
  have h2 := bTo_lt (man_leads he) e2 (by omega : k < e.length)
  exact ⟨bTo d x k, bTo e u k, h1.2, h1.1, rfl, ⟨u, e1, e2, h2.2⟩, h2.1⟩
/-- the move leads to a flag with the right label -/
theorem CvF.same (h : CvF d e f L O x k) {y t u : Nat} (hy : bTo d x k = y) (hu : iget L x = (u : Int)) (ht : iget (lget e k) u = (t : Int)) (hl : iget L y = (t : Int)) : CvF d e f L O x (k + 1) :=
  ⟨h.st, h.xs, h.lab, fun g hg => by
    by_cases e1 : g = k
    · subst e1; rw [hy, hl, hu, Int.toNat_natCast, ht]
    · exact h.seen g (by omega)⟩
/-- .. to a flag without one -/
theorem CvF.new (h : CvF d e f L O x k) (hd : Man d) (he : Man e) (hl : d.length = e.length) (hk : k < d.length) {y t u : Nat} (hy : bTo d x k = y) (hu : iget L x = (u : Int)) (hue : u < flg e) (ht : iget (lget e k) u = (t : Int)) (hte : t < flg e) (hn : iget L y < 0) : CvF d e f (L.set y (t : Int)) (O ++ [(y : Int)]) x (k + 1) := by
  have hyl : y < flg d := by rw [← hy]; exact (bTo_lt (man_leads hd) h.xs hk).1
  have hg : ∀ i, iget (L.set y (t : Int)) i = if i = y then (t : Int) else iget L i := fun i => iget_setN (by rw [h.st.len]; exact hyl)
  have hny : iget L y = -1 := by
    rcases h.st.val y hyl with e1 | ⟨z, e1, _⟩
    · exact e1
    · omega
  have hxy : x ≠ y := fun e1 => h.lab (e1 ▸ hny)
  have old : ∀ i, i < flg d → iget L i ≠ -1 → ∀ g, g < d.length → iget L (bTo d i g) = iget (lget e g) (iget L i).toNat → iget (L.set y (t : Int)) (bTo d i g) = iget (lget e g) (iget (L.set y (t : Int)) i).toNat := fun i hi hli g hgl hq => by
    have h1 : i ≠ y := fun e1 => hli (e1 ▸ hny)
    obtain ⟨z, e1, e2⟩ := h.st.lab hi hli
    have h2 := bTo_lt (man_leads he) e2 (by omega : g < e.length)
    have h3 : bTo d i g ≠ y := fun e3 => by rw [e3, hny, e1, Int.toNat_natCast, h2.2] at hq; omega
    rw [hg, if_neg h3, hg, if_neg h1, hq]
  refine ⟨⟨by rw [List.length_set]; exact h.st.len, fun i hi => ?_, ?_, fun z hz => ?_, fun i hi hli hn g hgl => ?_, fun p hp h0 i hi hli => ?_⟩, h.xs, ?_, fun g hgk => ?_⟩
  · rw [hg]
    split
    · exact .inr ⟨t, rfl, hte⟩
    · exact h.st.val i hi
  · rw [hg, if_neg]
    · exact h.st.zero
    · intro e1; have := h.st.zero; rw [e1, hny] at this; omega
  · rcases List.mem_append.1 hz with h1 | h1
    · obtain ⟨i, e1, e2, e3⟩ := h.st.que z h1
      refine ⟨i, e1, e2, ?_⟩
      rw [hg]; split
      · omega
      · exact e3
    · simp at h1; subst h1
      exact ⟨y, rfl, hyl, by rw [hg, if_pos rfl]; omega⟩
  · have hiy : i ≠ y := fun e1 => by subst e1; exact hn (by simp)
    have hli' : iget L i ≠ -1 := by rw [hg, if_neg hiy] at hli; exact hli
    exact old i hi hli' g hgl (h.st.done i hi hli' (fun q => hn (List.mem_append_left _ q)) g hgl)
  · rw [hg] at hli ⊢
    by_cases e1 : i = y
    · subst e1
      rw [if_pos rfl]
      have h1 := hp.mov k x hk h.xs
      rw [hy, h.st.just p hp h0 x h.xs h.lab, hu, Int.toNat_natCast, ht] at h1
      exact h1
    · rw [if_neg e1] at hli ⊢
      exact h.st.just p hp h0 i hi hli
  · rw [hg, if_neg hxy]; exact h.lab
  · by_cases e1 : g = k
    · subst e1
      rw [hy, hg, if_pos rfl, hg, if_neg hxy, hu, Int.toNat_natCast, ht]
    · exact old x h.xs h.lab g (by omega) (h.seen g (by omega))
/-- .. to a flag with another one -/
theorem CvF.clash (h : CvF d e f L O x k) (hd : Man d) (hk : k < d.length) {y t u : Nat} (hy : bTo d x k = y) (hu : iget L x = (u : Int)) (ht : iget (lget e k) u = (t : Int)) (hl : iget L y ≠ -1) (hne : iget L y ≠ (t : Int)) : covO d e f = none := covO_none fun p hp h0 => by
  have h1 := hp.mov k x hk h.xs
  have hyl : y < flg d := by rw [← hy]; exact (bTo_lt (man_leads hd) h.xs hk).1
  rw [hy, h.st.just p hp h0 x h.xs h.lab, hu, Int.toNat_natCast, ht, h.st.just p hp h0 y hyl hl] at h1
  exact hne h1
/-- all moves of the flag in front are seen -/
theorem CvF.next (h : CvF d e f L O x d.length) (hO : O[0]? = some (x : Int)) : CvS d e f L (O.drop 1) := by
  refine ⟨h.st.len, h.st.val, h.st.zero, fun z hz => h.st.que z (List.mem_of_mem_drop hz), fun i hi hli hn g hgl => ?_, h.st.just⟩
  by_cases e1 : i = x
  · subst e1; exact h.seen g hgl
  · refine h.st.done i hi hli (fun q => ?_) g hgl
    cases O with
    | nil => simp at q
    | cons a r =>
      simp at hO hn
      subst hO
      rcases List.mem_cons.1 q with q | q
      · exact e1 (by omega)
      · exact hn q
/-- nothing is open any more -/
theorem CvS.fin (h : CvS d e f L []) (hd : Man d) (he : Man e) (hl : d.length = e.length) : covO d e f = some L := by
  have hall : ∀ i, i < flg d → iget L i ≠ -1 := man_ind hd (p := fun i => iget L i ≠ -1) (by rw [h.zero]; omega) fun i hi hli g hg => by
    rw [h.done i hi hli (by simp) g hg]
    obtain ⟨z, e1, e2⟩ := h.lab hi hli
    rw [e1, Int.toNat_natCast, (bTo_lt (man_leads he) e2 (by omega : g < e.length)).2]
    omega
  exact covO_eq hd hl ⟨h.len, fun i hi => h.lab hi (hall i hi), fun g i hg hi => h.done i hi (hall i hi) (by simp) g hg⟩ h.zero
end
end Go.Proofs.YtmdhljleaijkbaaGreatDoor

/- A queue: a slice whose front may have been cut off; append behind it. No program in sight. -/
namespace Go.Proofs.YtmdhljleaijkbaaGreatDoor
open Go.RowKit

/-- the slice reads as xs, in a block of the call's own, with room up to c -/
def Que (w : World) (lo E : Nat) (ao : Option Addr) (n c : Nat) (xs : List Value) : Prop :=
  xs.length = n ∧ n ≤ c ∧ c ≤ maxLen ∧ (0 < c → ∃ g off cs, ao = some ⟨g, off, none⟩ ∧ lo ≤ g ∧ w.heap[g]? = some (.cells cs E (0, 0)) ∧ off + c ≤ cs.size ∧ ∀ j, j < n → cs[off + j]? = xs[j]?)
section
variable {w w' : World} {lo E n c : Nat} {ao : Option Addr} {xs : List Value}
theorem Own.que (h : Own w lo E ao n c xs) (hn : 0 < n) : Que w lo E ao n c xs := by
  have hl := h.len
  rcases h.1.2 with ⟨_, h0⟩ | ⟨g, cap, cur, hv, hb, hh, hnc, hcm, hs, ht⟩
  · omega
  · injection hv with h1 h2 h3
    subst h1 h3
    refine ⟨hl, hnc, hcm, fun _ => ⟨g, 0, cur, rfl, hb, hh, by omega, fun j hj => ?_⟩⟩
    rw [Nat.mul_one] at ht
    rw [Nat.zero_add, ← ht, List.getElem?_take_of_lt hj]; simp
theorem Que.same (h : Que w lo E ao n c xs) (hs : ∀ g, bk ao = some g → w'.heap[g]? = w.heap[g]?) : Que w' lo E ao n c xs := by
  obtain ⟨h1, h2, h3, h4⟩ := h
  refine ⟨h1, h2, h3, fun hc => ?_⟩
  obtain ⟨g, off, cs, rfl, hg, hh, hfit, hcell⟩ := h4 hc
  exact ⟨g, off, cs, rfl, hg, (hs g rfl).trans hh, hfit, hcell⟩
theorem Que.lt (h : Que w lo E ao n c xs) (hc : 0 < c) : ∀ g, bk ao = some g → lo ≤ g ∧ g < w.heap.size := fun g hg => by
  obtain ⟨g', off, cs, rfl, h1, hh, _⟩ := h.2.2.2 hc
  obtain rfl := Option.some.inj hg
  exact ⟨h1, (Array.getElem?_eq_some_iff.1 hh).1⟩
theorem Que.below (h : Que w lo E ao n c xs) (hb : Below w.heap.size w w') : Que w' lo E ao n c xs := by
  obtain ⟨h1, h2, h3, h4⟩ := h
  refine ⟨h1, h2, h3, fun hc => ?_⟩
  obtain ⟨g, off, cs, rfl, hg, hh, hfit, hcell⟩ := h4 hc
  exact ⟨g, off, cs, rfl, hg, (hb.block g (Array.getElem?_eq_some_iff.1 hh).1).trans hh, hfit, hcell⟩
theorem Que.head (h : Que w lo E ao n c xs) (hn : 0 < n) : ∃ g off u, ao = some ⟨g, off, none⟩ ∧ xs[0]? = some u ∧ w.cell? ⟨g, off, none⟩ = some u ∧ lo ≤ g ∧ g < w.heap.size := by
  obtain ⟨h1, h2, h3, h4⟩ := h
  obtain ⟨g, off, cs, rfl, hg, hh, hfit, hcell⟩ := h4 (by omega)
  have h0 : xs[0]? = some xs[0] := List.getElem?_eq_getElem (by omega)
  refine ⟨g, off, xs[0], rfl, h0, ?_, hg, (Array.getElem?_eq_some_iff.1 hh).1⟩
  rw [cell_of_row w g off cs E (0, 0) hh]
  have := hcell 0 hn
  rw [Nat.add_zero] at this
  rw [this, h0]
/-- the front is cut off -/
theorem Que.tail {g off : Nat} (h : Que w lo E (some ⟨g, off, none⟩) (n + 1) c xs) : Que w lo E (some ⟨g, off + 1, none⟩) n (c - 1) (xs.drop 1) := by
  obtain ⟨h1, h2, h3, h4⟩ := h
  refine ⟨by simp; omega, by omega, by omega, fun hc => ?_⟩
  obtain ⟨g', off', cs, e, hg, hh, hfit, hcell⟩ := h4 (by omega)
  injection e with e; injection e with e1 e2; subst e1 e2
  refine ⟨g, off + 1, cs, rfl, hg, hh, by omega, fun j hj => ?_⟩
  have := hcell (j + 1) (by omega)
  rw [show off + 1 + j = off + (j + 1) by omega, this, List.getElem?_drop, Nat.add_comm]
theorem Que.tail0 {g off : Nat} {bo : Option Addr} (h : Que w lo E (some ⟨g, off, none⟩) (n + 1) c xs) (hc : c = 1) : Que w lo E bo n 0 (xs.drop 1) ∧ n = 0 := by
  obtain ⟨h1, h2, h3, h4⟩ := h
  exact ⟨⟨by simp; omega, by omega, by omega, fun hc => absurd hc (by omega)⟩, by omega⟩
end
section
variable {P : Program} {ops : Array Oper} {rest : List Oper} {o : Oper} {a : Act} {Q : Exit → Act → World → Prop}
/-- append(s, x) of one element behind a queue's front; x lies in a block of its own, just laid -/
theorem wpList_apQ {S E : TypeId} {z : Value} {bytes : Nat} (et : ET P S E z bytes) (w : World) (hg : o.guard = none) (s x : Operand) (ho : o.op = .call { callee := .builtin .append, args := #[s, x], argTypes := #[S, S] })
    (lo : Nat) (ao : Option Addr) (n c : Nat) (xs : List Value) (hs : a.eval s = .slice ao n c) (hq : Que w lo E ao n c xs) (hn0 : 0 < n) (u : Value)
    (hx : a.eval x = .slice (some ⟨w.heap.size, 0, none⟩) 1 1) (hu : u.oneCell' = true) (hn : n + 1 ≤ 4398046511104) (hlo : lo ≤ w.heap.size)
    (hK : ∀ ao' c' w', Que w' lo E ao' (n + 1) c' (xs ++ [u]) → w.grownBy w' (bk ao) → (bk ao' = bk ao ∨ bk ao' = some (w.heap.size + 1)) → wpList P ops Q rest (a.put o.dst (.slice ao' (n + 1) c')) w') :
    wpList P ops Q (o :: rest) a (w.alloc (.cells #[u] E)) := by
  obtain ⟨i, hi, hz, hsz, hby⟩ := info_parts et.info
  obtain ⟨h1, h2, h3, h4⟩ := hq
  obtain ⟨g, off, cs, rfl, hgl, hh, hfit, hcell⟩ := h4 (by omega)
  have hlt : g < w.heap.size := (Array.getElem?_eq_some_iff.1 hh).1
  have hh' : (w.alloc (.cells #[u] E)).heap[g]? = some (.cells cs E (0, 0)) := (Below.heap_alloc w _ g hlt).trans hh
  have hsz' : (w.alloc (.cells #[u] E)).heap.size = w.heap.size + 1 := by simp
  have hnew : ∀ j v, [u][j]? = some v → (w.alloc (.cells #[u] E)).cell? ((⟨w.heap.size, 0, none⟩ : Addr).add j) = some v := fun j v hv => by
    match j, hv with
    | 0, hv => simp at hv; subst hv; simp [Addr.add]
  have h1c : ∀ v ∈ [u], v.oneCell' = true := fun v hv => by simp at hv; subst hv; exact hu
  have hsmall : (n + 1) * i.bytes ≤ 140737488355328 := by
    have := et.small
    have h5 : (n + 1) * i.bytes ≤ (n + 1) * 32 := Nat.mul_le_mul_left _ (by omega)
    omega
  refine wpList_plain hg fun K' hK' => ?_
  unfold Oper.wp execOp
  simp only [ho, resolve, invoke, builtin, Sem.run_bind, Sem.run_pure, Result.andThen_ok, List.map_toArray, List.map_cons, List.map_nil, hs, hx]
  by_cases hroom : n + 1 ≤ c
  · have hr := run_append_at (P := P) (ty := o.type) (w.alloc (.cells #[u] E)) S E i et.und hi g off n c cs hh' ⟨w.heap.size, 0, none⟩ 1 1 [u] (by simp [hsz]) hnew h1c hroom (by rw [hsz]; simp; omega)
    rw [hr]
    refine hK' _ _ (hK _ _ _ ?_ ?_ (.inl rfl))
    · refine ⟨by simp; omega, hroom, h3, fun _ => ⟨g, off, _, rfl, hgl, setRow_heap _ g cs _ E _ hh', ?_, fun j hj => ?_⟩⟩
      · simp [hsz]; omega
      · have htl : (cs.toList.take (off + n)).length = off + n := by simp; omega
        rw [hsz, Nat.mul_one]
        simp only [List.getElem?_toArray]
        by_cases hjn : j < n
        · rw [List.append_assoc, List.getElem?_append_left (by rw [htl]; omega), List.getElem?_take, if_pos (by omega), List.getElem?_append_left (by omega)]
          have := hcell j hjn
          simpa using this
        · obtain rfl : j = n := by omega
          rw [List.getElem?_append_left (by simp; omega), List.getElem?_append_right (by rw [htl]; omega), htl, List.getElem?_append_right (by omega), h1]
          simp
    · refine ⟨rfl, rfl, rfl, by simp, fun k hk hne => ?_⟩
      rw [setRow_other _ g k _ (fun e => hne (by rw [e]; rfl))]
      exact Below.heap_alloc w _ k hk
  · have holds : ∀ j v, xs[j]? = some v → (w.alloc (.cells #[u] E)).cell? ((⟨g, off, none⟩ : Addr).add j) = some v := fun j v hv => by
      have hj : j < n := by have := (List.getElem?_eq_some_iff.1 hv).1; omega
      rw [Addr.add_lit, cell_of_row _ g _ cs E (0, 0) hh', hcell j hj, hv]
    have hr := run_append_grow (P := P) (ty := o.type) (w.alloc (.cells #[u] E)) S E i z et.und hi hz ⟨g, off, none⟩ n c xs (by rw [hsz]; omega) holds ⟨w.heap.size, 0, none⟩ 1 1 [u] (by simp [hsz]) hnew (by omega) (by omega) (growslice_fits (by omega) hsmall)
    rw [hr]
    have hcap := grownCap_ge (w.alloc (.cells #[u] E)) (n + 1) c E
    have hcm := grownCap_le_maxLen (w.alloc (.cells #[u] E)) (n + 1) c E (by simp [maxLen]; omega)
    refine hK' _ _ (hK _ _ _ ?_ ?_ (.inr (by simp [bk])))
    · refine ⟨by simp; omega, hcap, hcm, fun _ => ⟨(w.alloc (.cells #[u] E)).heap.size, 0, xs.toArray ++ [u].toArray ++ Builtin.zeroCells z.cells (grownCap (w.alloc (.cells #[u] E)) (n + 1) c E - (n + 1)), rfl, by rw [hsz']; omega, ?_, ?_, fun j hj => ?_⟩⟩
      · exact heap_alloc_new _ _
      · have h5 : (Builtin.zeroCells z.cells (grownCap (w.alloc (.cells #[u] E)) (n + 1) c E - (n + 1))).size = grownCap (w.alloc (.cells #[u] E)) (n + 1) c E - (n + 1) := by
          rw [size_zeroCells, et.one]; simp
        simp [h5]; omega
      · rw [Nat.zero_add, Array.getElem?_append_left (by simp; omega)]
        simp [← List.getElem?_toArray]
    · refine ⟨rfl, rfl, rfl, by simp; omega, fun k hk _ => ?_⟩
      rw [Below.heap_alloc _ _ k (by show k < (w.alloc (.cells #[u] E)).heap.size; omega)]
      exact Below.heap_alloc w _ k hk
end
end Go.Proofs.YtmdhljleaijkbaaGreatDoor

/- Rows that are permutations and free involutions: l01Perm, l01Free, isFreeInvolution. guards: -/
namespace Go.Proofs.YtmdhljleaijkbaaGreatDoor
open Go.RowKit

theorem one_of1 {us : List Value} {u0 : Value} (hl : us.length = 1) (g0 : us[0]? = some u0) : us = [u0] := by
  match us, hl with
  | [p], _ => simp at g0; rw [g0]
theorem permS_fc (zss : List (List Int)) (i : Nat) (hi : i < zss.length) (hn : (lget zss i).length ≤ 1048576) :
    FC Tryz.prog 51 [(1003, rowsRo zss)] [o1 (.esl 1003 i 0 (lget zss i).length)] [] (vv (.bool (isPerm (lget zss i)))) [] :=
  fc_of_calls fun w η ω us hm ⟨hl, ha⟩ => by
    obtain ⟨u0, g0, d0⟩ := ha 0 _ rfl
    obtain ⟨ao, c, rfl, hI⟩ := rdRow (x := 1003) hm rfl hi d0 (by omega)
    rw [one_of1 hl g0]
    exact specPerm_any ao _ c _ w hI
theorem permI_fc (zss : List (List Int)) (i : Nat) (hi : i < zss.length) (hn : (lget zss i).length ≤ 1048576) :
    FC Tryz.prog 60 [(1003, rowsRo zss)] [o1 (.esl 1003 i 0 (lget zss i).length)] [] (vv (.bool (isPerm (lget zss i)))) [] :=
  fc_of_calls fun w η ω us hm ⟨hl, ha⟩ => by
    obtain ⟨u0, g0, d0⟩ := ha 0 _ rfl
    obtain ⟨ao, c, rfl, hI⟩ := rdRow (x := 1003) hm rfl hi d0 (by omega)
    rw [one_of1 hl g0]
    exact implPerm_any ao _ c _ w hI

theorem iget_nat {zs : List Int} {k : Nat} (h : 0 ≤ iget zs k) : iget zs k = (((iget zs k).toNat : Nat) : Int) := (Int.toNat_of_nonneg h).symm
set_option maxRecDepth 100000 in
set_option maxHeartbeats 1000000 in
theorem freeS_fc (zss : List (List Int)) (i : Nat) (hi : i < zss.length) (hn : (lget zss i).length ≤ 1048576) (hp : isPerm (lget zss i) = true) :
    FC Tryz.prog 52 [(1003, rowsRo zss)] [o1 (.esl 1003 i 0 (lget zss i).length)] [] (vv (.bool (isFreeL (lget zss i)))) [] := by
  have hrow : (irows zss)[i]? = some (ivals (lget zss i)) := irows_get hi
  have hW := fun k hk => isPerm_within hp (k := k) hk
  refine fc_enter (nt := 27) Tryz.func52 rfl rfl (by simp) fun w0 ω0 => ?_
  generalize lget zss i = zs at *
  (refine goes_seq ?_; refine goes_region ?_; apply run_step rfl; (exact stp_assign rfl rfl); refine run_nil ?_; refine fin_seq ?_; refine goes_seq ?_; refine goes_seq ?_; refine goes_region ?_; apply run_step rfl; (exact stp_assign rfl rfl); refine run_nil ?_; refine fin_seq ?_; refine goes_block ?_)
  refine goes_loop (fun k : Nat => St.of [(0, o1 (.esl 1003 i 0 zs.length)), (3, vv (I6 k))] [(1003, rowsRo zss)]) (fun k => k ≤ zs.length ∧ ∀ j, j < k → iget zs j ≠ j ∧ iget zs (iget zs j).toNat = j) (fun k => zs.length - k) 0 ⟨Nat.zero_le _, fun j h => absurd h (by omega)⟩ (Wk.of ⟨rfl, rfl, trivial⟩ ⟨rfl, trivial⟩ trivial) ?_
  rintro k ⟨hk, hok⟩
  (refine goes_seq ?_; refine goes_seq ?_; refine goes_region ?_; apply run_step rfl; (exact stp_move rfl rfl); apply run_step rfl; (exact stp_move rfl rfl); apply run_step rfl; (exact stp_len rfl rfl rfl (by as_aux_lemma => kernel_rfl)); apply run_step rfl; (exact stp_bin rfl rfl rfl rfl); refine run_nil ?_; refine fin_seq ?_)
  refine goes_if rfl (fun hlt => ?_) (fun hlt => ?_)
  · have hlt' : k < zs.length := by omega
    obtain ⟨d, hd⟩ : ∃ d : Nat, iget zs k = (d : Int) := ⟨_, iget_nat (hW k hlt').1⟩
    have hdl : d < zs.length := by have := (hW k hlt').2; rw [hd] at this; omega
    have gk : (ivals zs)[k]? = some (I6 (d : Int)) := by rw [ivals_get hlt', hd]
    (refine goes_skip ?_; refine fin_seq ?_; refine goes_seq ?_; refine goes_block ?_; refine goes_seq ?_; refine goes_region ?_; apply run_step rfl; (exact stp_move rfl rfl); apply run_step rfl; (exact stp_move rfl rfl); apply run_step rfl; (exact stp_ixE rfl rfl rfl rfl rfl (by as_aux_lemma => kernel_rfl) (by first | assumption | exact ivals_get (by assumption) | exact irows_get (by assumption) | exact ivals_get (by omega) | exact irows_get (by omega) | rfl) (by first | rfl | exact (Int.toNat_of_nonneg (by omega)).symm) (by first | assumption | omega | (simp; omega)) (by first | exact Nat.le_refl _ | exact Nat.le_of_eq (ivals_len _).symm | exact Nat.le_of_eq (irows_len _).symm | (refine Nat.le_trans ?_ (Nat.le_of_eq (ivals_len _).symm); (first | omega | (simp; done) | (simp; omega))) | (refine Nat.le_trans ?_ (Nat.le_of_eq (irows_len _).symm); (first | omega | (simp; done) | (simp; omega))))); apply run_step rfl; (exact stp_loadE' rfl (by as_aux_lemma => kernel_rfl) rfl rfl rfl (by first | assumption | exact ivals_get (by assumption) | exact irows_get (by assumption) | exact ivals_get (by omega) | exact irows_get (by omega) | rfl) (by first | assumption | exact ivals_get (by assumption) | exact irows_get (by assumption) | exact ivals_get (by omega) | exact irows_get (by omega) | rfl)); apply run_step rfl; (exact stp_move rfl rfl); apply run_step rfl; (exact stp_bin rfl rfl rfl rfl); apply run_step rfl; (exact stp_move rfl rfl))
    refine run_bool 16 rfl (fun h1 => ?_) (fun h1 => ?_)
    · have e1 : (d : Int) = k := of_decide_eq_true h1
      rw [isFreeL_no hlt' (.inl (hd.trans e1))]
      (apply run_gNo rfl rfl rfl rfl rfl; apply run_gNo rfl rfl rfl rfl rfl; apply run_gNo rfl rfl rfl rfl rfl; apply run_gNo rfl rfl rfl rfl rfl; apply run_gNo rfl rfl rfl rfl rfl; apply run_gNo rfl rfl rfl rfl rfl; apply run_gNo rfl rfl rfl rfl rfl; apply run_gNo rfl rfl rfl rfl rfl; apply run_gNo rfl rfl rfl rfl rfl; apply run_step rfl; (exact stp_pickT rfl rfl rfl); refine run_nil ?_; refine fin_seq ?_)
      refine goes_cond rfl (fun _ => ?_) (fun e => by cases e)
      (refine goes_seq ?_; refine goes_region ?_; apply run_step rfl; (exact stp_assign rfl rfl); refine run_nil ?_; refine fin_seq ?_; refine goes_ret ?_; refine fin_ret_block ?_; refine fin_ret_then ?_; refine fin_ret_then ?_; refine fin_ret_block ?_; refine fin_ret_then ?_)
      exact fin_ret1 (.inl rfl) rfl (.tmp rfl) trivial trivial
    · have e1 : (d : Int) ≠ k := of_decide_eq_false h1
      (apply run_gYes rfl rfl rfl; (exact stp_move rfl rfl); apply run_gYes rfl rfl rfl; (exact stp_move rfl rfl); apply run_gYes rfl rfl rfl; (exact stp_move rfl rfl); apply run_gYes rfl rfl rfl; (exact stp_ixE rfl rfl rfl rfl rfl (by as_aux_lemma => kernel_rfl) (by first | assumption | exact ivals_get (by assumption) | exact irows_get (by assumption) | exact ivals_get (by omega) | exact irows_get (by omega) | rfl) (by first | rfl | exact (Int.toNat_of_nonneg (by omega)).symm) (by first | assumption | omega | (simp; omega)) (by first | exact Nat.le_refl _ | exact Nat.le_of_eq (ivals_len _).symm | exact Nat.le_of_eq (irows_len _).symm | (refine Nat.le_trans ?_ (Nat.le_of_eq (ivals_len _).symm); (first | omega | (simp; done) | (simp; omega))) | (refine Nat.le_trans ?_ (Nat.le_of_eq (irows_len _).symm); (first | omega | (simp; done) | (simp; omega))))); apply run_gYes rfl rfl rfl; (exact stp_loadE' rfl (by as_aux_lemma => kernel_rfl) rfl rfl rfl (by first | assumption | exact ivals_get (by assumption) | exact irows_get (by assumption) | exact ivals_get (by omega) | exact irows_get (by omega) | rfl) (by first | assumption | exact ivals_get (by assumption) | exact irows_get (by assumption) | exact ivals_get (by omega) | exact irows_get (by omega) | rfl)); apply run_gYes rfl rfl rfl; (exact stp_ixE rfl rfl rfl rfl rfl (by as_aux_lemma => kernel_rfl) (by first | assumption | exact ivals_get (by assumption) | exact irows_get (by assumption) | exact ivals_get (by omega) | exact irows_get (by omega) | rfl) (by first | rfl | exact (Int.toNat_of_nonneg (by omega)).symm) (by first | assumption | omega | (simp; omega)) (by first | exact Nat.le_refl _ | exact Nat.le_of_eq (ivals_len _).symm | exact Nat.le_of_eq (irows_len _).symm | (refine Nat.le_trans ?_ (Nat.le_of_eq (ivals_len _).symm); (first | omega | (simp; done) | (simp; omega))) | (refine Nat.le_trans ?_ (Nat.le_of_eq (irows_len _).symm); (first | omega | (simp; done) | (simp; omega))))); apply run_gYes rfl rfl rfl; (exact stp_loadE' rfl (by as_aux_lemma => kernel_rfl) rfl rfl rfl (by first | assumption | exact ivals_get (by assumption) | exact irows_get (by assumption) | exact ivals_get (by omega) | exact irows_get (by omega) | rfl) (by first | assumption | exact ivals_get (by assumption) | exact irows_get (by assumption) | exact ivals_get (by omega) | exact irows_get (by omega) | rfl)); apply run_gYes rfl rfl rfl; (exact stp_move rfl rfl); apply run_gYes rfl rfl rfl; (exact stp_bin rfl rfl rfl rfl); apply run_step rfl; (exact stp_pickF rfl rfl rfl); refine run_nil ?_; refine fin_seq ?_)
      refine goes_cond rfl (fun h2 => ?_) (fun h2 => ?_)
      · have e2 : iget zs d ≠ k := by simpa using h2
        rw [isFreeL_no hlt' (.inr (by rw [hd, Int.toNat_natCast]; exact e2))]
        (refine goes_seq ?_; refine goes_region ?_; apply run_step rfl; (exact stp_assign rfl rfl); refine run_nil ?_; refine fin_seq ?_; refine goes_ret ?_; refine fin_ret_block ?_; refine fin_ret_then ?_; refine fin_ret_then ?_; refine fin_ret_block ?_; refine fin_ret_then ?_)
        exact fin_ret1 (.inl rfl) rfl (.tmp rfl) trivial trivial
      · have e2 : iget zs d = k := by simpa using h2
        (refine goes_skip ?_; refine fin_block ?_; refine fin_seq ?_; refine goes_region ?_; apply run_step rfl; (exact stp_move rfl rfl); apply run_step rfl; (exact stp_add rfl rfl rfl (by first | exact IntWalk.i64_in _ (by omega) | rfl)); apply run_step rfl; (exact stp_assign rfl rfl); refine run_nil ?_)
        exact fin_round (k + 1) ⟨by omega, fun j hj => by
          by_cases e : j = k
          · subst e; rw [hd, Int.toNat_natCast]; exact ⟨e1, e2⟩
          · exact hok j (by omega)⟩ (by omega) (Wk.of ⟨rfl, rfl, trivial⟩ ⟨rfl, trivial⟩ trivial)
  · obtain rfl : k = zs.length := by omega
    rw [isFreeL_yes hok]
    (refine goes_exit ?_; refine fin_exit_then ?_; refine fin_exit_then ?_; refine fin_exit_eq ?_; refine fin_seq ?_; refine goes_seq ?_; refine goes_region ?_; apply run_step rfl; (exact stp_assign rfl rfl); refine run_nil ?_; refine fin_seq ?_; refine goes_ret ?_)
    exact fin_ret1 (.inl rfl) rfl (.tmp rfl) trivial trivial
/-- a permutation that is a free involution -/
def freeInv (zs : List Int) : Bool := isPerm zs && isFreeL zs
set_option maxRecDepth 100000 in
set_option maxHeartbeats 1000000 in
theorem freeI_fc (zss : List (List Int)) (i : Nat) (hi : i < zss.length) (hn : (lget zss i).length ≤ 1048576) :
    FC Tryz.prog 43 [(1003, rowsRo zss)] [o1 (.esl 1003 i 0 (lget zss i).length)] [] (vv (.bool (freeInv (lget zss i)))) [] := by
  have hrow : (irows zss)[i]? = some (ivals (lget zss i)) := irows_get hi
  have hP := permI_fc zss i hi hn
  refine fc_enter (nt := 27) Tryz.func43 rfl rfl (by simp) fun w0 ω0 => ?_
  unfold freeInv
  cases hp : isPerm (lget zss i) with
  | false =>
    rw [hp] at hP
    rw [Bool.false_and]
    (refine goes_seq ?_; refine goes_region ?_; apply run_step rfl; (exact stp_assign rfl rfl); refine run_nil ?_; refine fin_seq ?_; refine goes_seq ?_; refine goes_seq ?_; refine goes_region ?_; apply run_step rfl; (exact stp_move rfl rfl); apply run_step rfl; (apply call_gate 60; exact stp_callR hP (by as_aux_lemma => kernel_rfl) rfl rfl ⟨rfl, trivial⟩ ⟨⟨_, rfl, .inl rfl⟩, trivial⟩ rfl rfl); apply run_step rfl; (exact stp_not rfl rfl); refine run_nil ?_; refine fin_seq ?_)
    refine goes_cond rfl (fun _ => ?_) (fun e => by cases e)
    (refine goes_seq ?_; refine goes_region ?_; apply run_step rfl; (exact stp_assign rfl rfl); refine run_nil ?_; refine fin_seq ?_; refine goes_ret ?_; refine fin_ret_then ?_)
    exact fin_ret1 (.inl rfl) rfl (.tmp rfl) trivial trivial
  | true =>
    rw [hp] at hP
    rw [Bool.true_and]
    have hW := fun k hk => isPerm_within hp (k := k) hk
    generalize lget zss i = zs at *
    (refine goes_seq ?_; refine goes_region ?_; apply run_step rfl; (exact stp_assign rfl rfl); refine run_nil ?_; refine fin_seq ?_; refine goes_seq ?_; refine goes_seq ?_; refine goes_region ?_; apply run_step rfl; (exact stp_move rfl rfl); apply run_step rfl; (apply call_gate 60; exact stp_callR hP (by as_aux_lemma => kernel_rfl) rfl rfl ⟨rfl, trivial⟩ ⟨⟨_, rfl, .inl rfl⟩, trivial⟩ rfl rfl); apply run_step rfl; (exact stp_not rfl rfl); refine run_nil ?_; refine fin_seq ?_)
    refine goes_cond rfl (fun e => by cases e) (fun _ => ?_)
    (refine goes_skip ?_; refine fin_seq ?_; refine goes_seq ?_; refine goes_seq ?_; refine goes_region ?_; apply run_step rfl; (exact stp_move rfl rfl); apply run_step rfl; (exact stp_len rfl rfl rfl (by as_aux_lemma => kernel_rfl)); apply run_step rfl; (exact stp_move rfl rfl); refine run_nil ?_; refine fin_seq ?_; refine goes_block ?_)
    refine goes_loop (fun k : Nat => St.of [(0, o1 (.esl 1003 i 0 zs.length)), (8, o1 (.esl 1003 i 0 zs.length)), (9, vv (I6 zs.length)), (10, vv (I6 k))] [(1003, rowsRo zss)]) (fun k => k ≤ zs.length ∧ ∀ j, j < k → iget zs j ≠ j ∧ iget zs (iget zs j).toNat = j) (fun k => zs.length - k) 0 ⟨Nat.zero_le _, fun j h => absurd h (by omega)⟩ (Wk.of ⟨rfl, rfl, rfl, rfl, trivial⟩ ⟨rfl, trivial⟩ trivial) ?_
    rintro k ⟨hk, hok⟩
    (refine goes_seq ?_; refine goes_region ?_; apply run_step rfl; (exact stp_bin rfl rfl rfl rfl); refine run_nil ?_; refine fin_seq ?_; refine goes_seq ?_)
    refine goes_if rfl (fun hlt => ?_) (fun hlt => ?_)
    · have hlt' : k < zs.length := by omega
      obtain ⟨d, hd⟩ : ∃ d : Nat, iget zs k = (d : Int) := ⟨_, iget_nat (hW k hlt').1⟩
      have hdl : d < zs.length := by have := (hW k hlt').2; rw [hd] at this; omega
      have gk : (ivals zs)[k]? = some (I6 (d : Int)) := by rw [ivals_get hlt', hd]
      (refine goes_skip ?_; refine fin_seq ?_; refine goes_seq ?_; refine goes_block ?_; refine goes_seq ?_; refine goes_region ?_; apply run_step rfl; (exact stp_move rfl rfl); apply run_step rfl; (exact stp_ixE rfl rfl rfl rfl rfl (by as_aux_lemma => kernel_rfl) (by first | assumption | exact ivals_get (by assumption) | exact irows_get (by assumption) | exact ivals_get (by omega) | exact irows_get (by omega) | rfl) (by first | rfl | exact (Int.toNat_of_nonneg (by omega)).symm) (by first | assumption | omega | (simp; omega)) (by first | exact Nat.le_refl _ | exact Nat.le_of_eq (ivals_len _).symm | exact Nat.le_of_eq (irows_len _).symm | (refine Nat.le_trans ?_ (Nat.le_of_eq (ivals_len _).symm); (first | omega | (simp; done) | (simp; omega))) | (refine Nat.le_trans ?_ (Nat.le_of_eq (irows_len _).symm); (first | omega | (simp; done) | (simp; omega))))); apply run_step rfl; (exact stp_loadE' rfl (by as_aux_lemma => kernel_rfl) rfl rfl rfl (by first | assumption | exact ivals_get (by assumption) | exact irows_get (by assumption) | exact ivals_get (by omega) | exact irows_get (by omega) | rfl) (by first | assumption | exact ivals_get (by assumption) | exact irows_get (by assumption) | exact ivals_get (by omega) | exact irows_get (by omega) | rfl)); apply run_step rfl; (exact stp_assign rfl rfl); apply run_step rfl; (exact stp_assign rfl rfl); refine run_nil ?_; refine fin_seq ?_; refine goes_seq ?_; refine goes_region ?_; apply run_step rfl; (exact stp_move rfl rfl); apply run_step rfl; (exact stp_move rfl rfl); apply run_step rfl; (exact stp_bin rfl rfl rfl rfl); apply run_step rfl; (exact stp_move rfl rfl))
      refine run_bool 18 rfl (fun h1 => ?_) (fun h1 => ?_)
      · have e1 : (d : Int) = k := of_decide_eq_true h1
        rw [isFreeL_no hlt' (.inl (hd.trans e1))]
        (apply run_gNo rfl rfl rfl rfl rfl; apply run_gNo rfl rfl rfl rfl rfl; apply run_gNo rfl rfl rfl rfl rfl; apply run_gNo rfl rfl rfl rfl rfl; apply run_gNo rfl rfl rfl rfl rfl; apply run_gNo rfl rfl rfl rfl rfl; apply run_step rfl; (exact stp_pickT rfl rfl rfl); refine run_nil ?_; refine fin_seq ?_)
        refine goes_cond rfl (fun _ => ?_) (fun e => by cases e)
        (refine goes_seq ?_; refine goes_region ?_; apply run_step rfl; (exact stp_assign rfl rfl); refine run_nil ?_; refine fin_seq ?_; refine goes_ret ?_; refine fin_ret_block ?_; refine fin_ret_then ?_; refine fin_ret_then ?_; refine fin_ret_block ?_; refine fin_ret_then ?_)
        exact fin_ret1 (.inl rfl) rfl (.tmp rfl) trivial trivial
      · have e1 : (d : Int) ≠ k := of_decide_eq_false h1
        (apply run_gYes rfl rfl rfl; (exact stp_move rfl rfl); apply run_gYes rfl rfl rfl; (exact stp_move rfl rfl); apply run_gYes rfl rfl rfl; (exact stp_ixE rfl rfl rfl rfl rfl (by as_aux_lemma => kernel_rfl) (by first | assumption | exact ivals_get (by assumption) | exact irows_get (by assumption) | exact ivals_get (by omega) | exact irows_get (by omega) | rfl) (by first | rfl | exact (Int.toNat_of_nonneg (by omega)).symm) (by first | assumption | omega | (simp; omega)) (by first | exact Nat.le_refl _ | exact Nat.le_of_eq (ivals_len _).symm | exact Nat.le_of_eq (irows_len _).symm | (refine Nat.le_trans ?_ (Nat.le_of_eq (ivals_len _).symm); (first | omega | (simp; done) | (simp; omega))) | (refine Nat.le_trans ?_ (Nat.le_of_eq (irows_len _).symm); (first | omega | (simp; done) | (simp; omega))))); apply run_gYes rfl rfl rfl; (exact stp_loadE' rfl (by as_aux_lemma => kernel_rfl) rfl rfl rfl (by first | assumption | exact ivals_get (by assumption) | exact irows_get (by assumption) | exact ivals_get (by omega) | exact irows_get (by omega) | rfl) (by first | assumption | exact ivals_get (by assumption) | exact irows_get (by assumption) | exact ivals_get (by omega) | exact irows_get (by omega) | rfl)); apply run_gYes rfl rfl rfl; (exact stp_move rfl rfl); apply run_gYes rfl rfl rfl; (exact stp_bin rfl rfl rfl rfl); apply run_step rfl; (exact stp_pickF rfl rfl rfl); refine run_nil ?_; refine fin_seq ?_)
        refine goes_cond rfl (fun h2 => ?_) (fun h2 => ?_)
        · have e2 : iget zs d ≠ k := by simpa using h2
          rw [isFreeL_no hlt' (.inr (by rw [hd, Int.toNat_natCast]; exact e2))]
          (refine goes_seq ?_; refine goes_region ?_; apply run_step rfl; (exact stp_assign rfl rfl); refine run_nil ?_; refine fin_seq ?_; refine goes_ret ?_; refine fin_ret_block ?_; refine fin_ret_then ?_; refine fin_ret_then ?_; refine fin_ret_block ?_; refine fin_ret_then ?_)
          exact fin_ret1 (.inl rfl) rfl (.tmp rfl) trivial trivial
        · have e2 : iget zs d = k := by simpa using h2
          (refine goes_skip ?_; refine fin_block ?_; refine fin_seq ?_; refine goes_region ?_; apply run_step rfl; (exact stp_add rfl rfl rfl (by first | exact IntWalk.i64_in _ (by omega) | rfl)); apply run_step rfl; (exact stp_move rfl rfl); refine run_nil ?_)
          exact fin_round (k + 1) ⟨by omega, fun j hj => by
            by_cases e : j = k
            · subst e; rw [hd, Int.toNat_natCast]; exact ⟨e1, e2⟩
            · exact hok j (by omega)⟩ (by omega) (Wk.of ⟨rfl, rfl, rfl, rfl, trivial⟩ ⟨rfl, trivial⟩ trivial)
    · obtain rfl : k = zs.length := by omega
      rw [isFreeL_yes hok]
      (refine goes_exit ?_; refine fin_exit_then ?_; refine fin_exit_then ?_; refine fin_exit_eq ?_; refine fin_seq ?_; refine goes_seq ?_; refine goes_region ?_; apply run_step rfl; (exact stp_assign rfl rfl); refine run_nil ?_; refine fin_seq ?_; refine goes_ret ?_)
      exact fin_ret1 (.inl rfl) rfl (.tmp rfl) trivial trivial
end Go.Proofs.YtmdhljleaijkbaaGreatDoor

/- The orbit of a point, the reference's: l01Orbit. -/
namespace Go.Proofs.YtmdhljleaijkbaaGreatDoor
open Go.RowKit

theorem bat_pad {a p : List Bool} {d : Nat} (h : d < a.length) : bat (a ++ p) d = bat a d := by simp [bat, List.getElem?_append_left h]
theorem set_padB {a p : List Bool} {d : Nat} (h : d < a.length) (b : Bool) : (a ++ p).set d b = a.set d b ++ p := List.set_append_left _ _ h
set_option maxRecDepth 100000 in
set_option maxHeartbeats 2000000 in
theorem orbS_fc (zss : List (List Int)) (n c : Nat) (hT : Leads zss n) (hpos : 0 < zss.length) (hn : n ≤ 1000000) (hg : zss.length ≤ 1000000) (hc : c < n) :
    FC Tryz.prog 53 [(1003, rowsRo zss)] [o1 (.sl 1003 0 zss.length), vv (I6 c)] [(12, leOw (orb zss n c).2)] (o1 (.sl 12 0 (orb zss n c).2.length)) [] := by
  have hlen : (irows zss).length = zss.length := irows_len _
  have hr0 : (lget zss 0).length = n := hT.len 0 hpos
  have hrow0 : (irows zss)[0]? = some (ivals (lget zss 0)) := irows_get hpos
  have hil : (ivals (lget zss 0)).length = n := by rw [ivals_len]; exact hr0
  refine fc_enter (nt := 63) Tryz.func53 rfl rfl (by simp) fun w0 ω0 => ?_
  (refine goes_seq ?_; refine goes_region ?_; apply run_step rfl; (exact stp_assign rfl rfl); refine run_nil ?_; refine fin_seq ?_; refine goes_seq ?_; refine goes_region ?_; apply run_step rfl; (exact stp_move rfl rfl); apply run_step rfl; (exact stp_lit1I (E := 2) rfl (by as_aux_lemma => kernel_rfl) rfl); apply run_step rfl; (exact stp_assign rfl rfl); refine run_nil ?_; refine fin_seq ?_; refine goes_seq ?_; refine goes_region ?_; apply run_step rfl; (exact stp_assign rfl rfl); refine run_nil ?_; refine fin_seq ?_; refine goes_seq ?_; refine goes_seq ?_; refine goes_region ?_; apply run_step rfl; (exact stp_move rfl rfl); apply run_step rfl; (exact stp_len rfl rfl rfl (by as_aux_lemma => kernel_rfl)); apply run_step rfl; (exact stp_bin rfl rfl rfl rfl); refine run_nil ?_; refine fin_seq ?_)
  refine goes_if rfl (fun _ => ?_) (fun h => absurd hpos (by omega))
  have hm0 : ((n : Int) + (c : Int) + 1) = ((n + c + 1 : Nat) : Int) := by omega
  have hrp : (List.replicate (n + c + 1) false).length = n + c + 1 := by simp
  have hst : (List.replicate (n + c + 1) false).set c true = (oStart n c).1 ++ List.replicate (c + 1) false := by
    rw [show n + c + 1 = n + (c + 1) by omega, ← List.replicate_append_replicate, set_padB (by simpa using hc)]; rfl
  have hbl : n + c + 1 ≤ (bvals (List.replicate (n + c + 1) false)).length := by rw [bvals_len]; simp
  (refine goes_region ?_; apply run_step rfl; (exact stp_move rfl rfl); apply run_step rfl; (first | exact stp_ix (j := 0) rfl rfl rfl rfl rfl (by as_aux_lemma => kernel_rfl) rfl hpos (Nat.le_of_eq hlen.symm) | exact stp_loadR rfl (by as_aux_lemma => kernel_rfl) rfl rfl rfl hrow0 hil | exact stp_makeB (n := n + c + 1) (E := 4) rfl (by as_aux_lemma => kernel_rfl) (by as_aux_lemma => kernel_rfl) rfl rfl hm0 hm0 (by omega) | exact stp_ix (j := c) rfl rfl rfl rfl rfl (by as_aux_lemma => kernel_rfl) rfl (by omega) hbl | exact stp_stB (bs := List.replicate (n + c + 1) false) rfl rfl rfl rfl rfl (by rw [hrp]; omega) (by as_aux_lemma => kernel_rfl)); apply run_step rfl; (first | exact stp_ix (j := 0) rfl rfl rfl rfl rfl (by as_aux_lemma => kernel_rfl) rfl hpos (Nat.le_of_eq hlen.symm) | exact stp_loadR rfl (by as_aux_lemma => kernel_rfl) rfl rfl rfl hrow0 hil | exact stp_makeB (n := n + c + 1) (E := 4) rfl (by as_aux_lemma => kernel_rfl) (by as_aux_lemma => kernel_rfl) rfl rfl hm0 hm0 (by omega) | exact stp_ix (j := c) rfl rfl rfl rfl rfl (by as_aux_lemma => kernel_rfl) rfl (by omega) hbl | exact stp_stB (bs := List.replicate (n + c + 1) false) rfl rfl rfl rfl rfl (by rw [hrp]; omega) (by as_aux_lemma => kernel_rfl)); apply run_step rfl; (exact stp_len rfl rfl rfl (by as_aux_lemma => kernel_rfl)); apply run_step rfl; (exact stp_assign rfl rfl); refine run_nil ?_; refine fin_seq ?_; refine goes_seq ?_; refine goes_region ?_; apply run_step rfl; (exact stp_move rfl rfl); apply run_step rfl; (exact stp_move rfl rfl); apply run_step rfl; (exact stp_add rfl rfl rfl (by first | exact IntWalk.i64_in _ (by omega) | rfl)); apply run_step rfl; (exact stp_add rfl rfl rfl (by first | exact IntWalk.i64_in _ (by omega) | rfl)); apply run_step rfl; (first | exact stp_ix (j := 0) rfl rfl rfl rfl rfl (by as_aux_lemma => kernel_rfl) rfl hpos (Nat.le_of_eq hlen.symm) | exact stp_loadR rfl (by as_aux_lemma => kernel_rfl) rfl rfl rfl hrow0 hil | exact stp_makeB (n := n + c + 1) (E := 4) rfl (by as_aux_lemma => kernel_rfl) (by as_aux_lemma => kernel_rfl) rfl rfl hm0 hm0 (by omega) | exact stp_ix (j := c) rfl rfl rfl rfl rfl (by as_aux_lemma => kernel_rfl) rfl (by omega) hbl | exact stp_stB (bs := List.replicate (n + c + 1) false) rfl rfl rfl rfl rfl (by rw [hrp]; omega) (by as_aux_lemma => kernel_rfl)); apply run_step rfl; (exact stp_assign rfl rfl); refine run_nil ?_; refine fin_seq ?_; refine goes_seq ?_; refine goes_region ?_; apply run_step rfl; (exact stp_move rfl rfl); apply run_step rfl; (exact stp_move rfl rfl); apply run_step rfl; (first | exact stp_ix (j := 0) rfl rfl rfl rfl rfl (by as_aux_lemma => kernel_rfl) rfl hpos (Nat.le_of_eq hlen.symm) | exact stp_loadR rfl (by as_aux_lemma => kernel_rfl) rfl rfl rfl hrow0 hil | exact stp_makeB (n := n + c + 1) (E := 4) rfl (by as_aux_lemma => kernel_rfl) (by as_aux_lemma => kernel_rfl) rfl rfl hm0 hm0 (by omega) | exact stp_ix (j := c) rfl rfl rfl rfl rfl (by as_aux_lemma => kernel_rfl) rfl (by omega) hbl | exact stp_stB (bs := List.replicate (n + c + 1) false) rfl rfl rfl rfl rfl (by rw [hrp]; omega) (by as_aux_lemma => kernel_rfl)); apply run_step rfl; (first | exact stp_ix (j := 0) rfl rfl rfl rfl rfl (by as_aux_lemma => kernel_rfl) rfl hpos (Nat.le_of_eq hlen.symm) | exact stp_loadR rfl (by as_aux_lemma => kernel_rfl) rfl rfl rfl hrow0 hil | exact stp_makeB (n := n + c + 1) (E := 4) rfl (by as_aux_lemma => kernel_rfl) (by as_aux_lemma => kernel_rfl) rfl rfl hm0 hm0 (by omega) | exact stp_ix (j := c) rfl rfl rfl rfl rfl (by as_aux_lemma => kernel_rfl) rfl (by omega) hbl | exact stp_stB (bs := List.replicate (n + c + 1) false) rfl rfl rfl rfl rfl (by rw [hrp]; omega) (by as_aux_lemma => kernel_rfl)); refine run_nil ?_; refine fin_seq ?_; refine goes_seq ?_; refine goes_seq ?_; refine goes_region ?_; apply run_step rfl; (exact stp_assign rfl rfl); refine run_nil ?_; refine fin_seq ?_; refine goes_block ?_)
  rw [hst]
  generalize hm : 2 ^ zss.length - 1 = mask
  have hstep : ∀ k, k < zss.length → ∀ c s, mStep zss mask c s k = oStep zss c s k := fun k hk c s => by rw [← hm]; exact oStep_eq hk c s
  have hout : orb zss n c = mLoop zss mask zss.length (n + 1) 0 (oStart n c) := by rw [← hm]; rfl
  rw [hout]
  refine goes_loop (fun q : Nat × MSt => St.of [(0, o1 (.sl 1003 0 zss.length)), (5, o1 (.sl 12 0 q.2.2.length)), (7, o1 (.sl 24 0 (n + c + 1))), (8, vv (I6 q.1))] [(1003, rowsRo zss), (12, leOw q.2.2), (24, boOw (q.2.1 ++ List.replicate (c + 1) false))])
    (fun q => q.1 ≤ q.2.2.length ∧ MOK n q.2 ∧ mLoop zss mask zss.length (n + 1 - q.1) q.1 q.2 = mLoop zss mask zss.length (n + 1) 0 (oStart n c)) (fun q => n + 1 - q.1) (0, oStart n c) ⟨Nat.zero_le _, oStart_ok hc, rfl⟩ (Wk.of ⟨rfl, rfl, rfl, rfl, trivial⟩ ⟨rfl, rfl, rfl, trivial⟩ trivial) ?_
  rintro ⟨i, s⟩ ⟨hi, hok, hl⟩
  dsimp only at hi hl ⊢
  have hOn : s.2.length ≤ n := hok.le
  (refine goes_seq ?_; refine goes_seq ?_; refine goes_region ?_; apply run_step rfl; (exact stp_move rfl rfl); apply run_step rfl; (exact stp_move rfl rfl); apply run_step rfl; (exact stp_len rfl rfl rfl (by as_aux_lemma => kernel_rfl)); apply run_step rfl; (exact stp_bin rfl rfl rfl rfl); refine run_nil ?_; refine fin_seq ?_)
  refine goes_if rfl (fun h => ?_) (fun h => ?_)
  · have hlt : i < s.2.length := by omega
    have hl' : mLoop zss mask zss.length (n - i) (i + 1) (mRow zss mask zss.length (iget s.2 i).toNat s) = mLoop zss mask zss.length (n + 1) 0 (oStart n c) := by
      rw [← hl, show n + 1 - i = (n - i) + 1 by omega]; exact (mLoop_step hlt).symm
    obtain ⟨e, he1, he2, -⟩ := hok.q i hlt
    rw [he1, Int.toNat_natCast] at hl'
    have hro := fun m hm => mRow_ok (mask := mask) hT rfl he2 hok m hm
    obtain ⟨s0, hs0⟩ : ∃ s0 : MSt, s0 = s := ⟨_, rfl⟩
    rw [← hs0] at hro hl'
    have hi0 : i < s0.2.length := by rw [hs0]; exact hlt
    have he0 : iget s0.2 i = (e : Int) := by rw [hs0]; exact he1
    (refine goes_skip ?_; refine fin_seq ?_; refine goes_seq ?_; refine goes_block ?_; refine goes_seq ?_; refine goes_region ?_; apply run_step rfl; (exact stp_assign rfl rfl); refine run_nil ?_; refine fin_seq ?_; refine goes_block ?_)
    refine goes_loop (fun q : Nat × MSt => St.of [(0, o1 (.sl 1003 0 zss.length)), (5, o1 (.sl 12 0 q.2.2.length)), (7, o1 (.sl 24 0 (n + c + 1))), (8, vv (I6 i)), (9, vv (I6 q.1))] [(1003, rowsRo zss), (12, leOw q.2.2), (24, boOw (q.2.1 ++ List.replicate (c + 1) false))])
      (fun q => q.1 ≤ zss.length ∧ (List.range q.1).foldl (mStep zss mask e) s0 = q.2) (fun q => zss.length - q.1) (0, s) ⟨Nat.zero_le _, hs0⟩ (Wk.of ⟨rfl, rfl, rfl, rfl, rfl, trivial⟩ ⟨rfl, rfl, rfl, trivial⟩ trivial) ?_
    clear hl hok hs0 he1 hlt h hi hOn
    rintro ⟨k, s⟩ ⟨hk, hfo⟩
    dsimp only at hk hfo ⊢
    obtain ⟨hok, grw, _⟩ := hro k hk
    rw [hfo] at hok grw
    have hOn : s.2.length ≤ n := hok.le
    have hlt : i < s.2.length := Nat.lt_of_lt_of_le hi0 grw.len
    have hei : iget s.2 i = (e : Int) := (grw.pre i hi0).trans he0
    have hbl : s.1.length = n := hok.l
    (refine goes_seq ?_; refine goes_seq ?_; refine goes_region ?_; apply run_step rfl; (exact stp_move rfl rfl); apply run_step rfl; (exact stp_move rfl rfl); apply run_step rfl; (exact stp_len rfl rfl rfl (by as_aux_lemma => kernel_rfl)); apply run_step rfl; (exact stp_bin rfl rfl rfl rfl); refine run_nil ?_; refine fin_seq ?_)
    refine goes_if rfl (fun h2 => ?_) (fun h2 => ?_)
    · have hkn : k < zss.length := by omega
      have hd := bTo_lt hT he2 (g := k) hkn
      have hrl : (lget zss k).length = n := hT.len k hkn
      have hrowk : (irows zss)[k]? = some (ivals (lget zss k)) := irows_get hkn
      have hilk : (ivals (lget zss k)).length = n := by rw [ivals_len]; exact hrl
      obtain ⟨d, hdd⟩ : ∃ d, bTo zss e k = d := ⟨_, rfl⟩
      have hst : (List.range (k + 1)).foldl (mStep zss mask e) s0 = oStep zss e s k := by
        rw [List.range_succ, List.foldl_append, hfo]; exact hstep k hkn e s
      unfold oStep at hst
      rw [hdd] at hd hst
      have hgetd : (ivals (lget zss k))[e]? = some (I6 (d : Int)) := by rw [ivals_get (by omega), hd.2]
      have hgq : (ivals s.2)[i]? = some (I6 (e : Int)) := by rw [ivals_get hlt, hei]
      have hgb : (bvals (s.1 ++ List.replicate (c + 1) false))[d]? = some (.bool (bat s.1 d)) := by rw [bvals_get (by rw [List.length_append]; omega), bat_pad (by omega)]
      have hel : e < (ivals (lget zss k)).length := by rw [hilk]; exact he2
      have hbb : n + c + 1 ≤ (bvals (s.1 ++ List.replicate (c + 1) false)).length := by rw [bvals_len, List.length_append, hbl, List.length_replicate]; omega
      have hq0 : s.2.length ≤ (ivals s.2).length := by rw [ivals_len]; exact Nat.le_refl _
      (refine goes_skip ?_; refine fin_seq ?_; refine goes_seq ?_; refine goes_block ?_; refine goes_seq ?_)
      apply goes_draw 11 [] [[], [], [0, 1], [0, 1, 2], [], [], [4, 5], [4, 5, 6], [0, 1, 2, 3, 4, 5, 6, 7], [0, 1, 2, 3, 4, 5, 6, 7, 8], [0, 1, 2, 3, 4, 5, 6, 7, 8, 9]] [40, 41, 42, 43, 44, 45, 46, 47, 48, 49, 10] [] (by kernel_rfl) (by kernel_rfl)
      · (apply draw_put rfl; (intro S1 hS; exact stp_move rfl (hS.op rfl)); apply draw_put rfl; (intro S1 hS; exact stp_move rfl (hS.op rfl)); (first | (apply draw_put rfl; (focus (intro S1 hS; exact stp_ix (j := k) rfl (hS.op rfl) (hS.op rfl) (hS.ch _ _ rfl) rfl (by as_aux_lemma => kernel_rfl) rfl hkn (Nat.le_of_eq hlen.symm)))) | (apply draw_put rfl; (focus (intro S1 hS; exact stp_loadR rfl (by as_aux_lemma => kernel_rfl) (hS.op rfl) (hS.ch _ _ rfl) rfl hrowk hilk))) | (apply draw_put rfl; (focus (intro S1 hS; exact stp_ix (j := i) rfl (hS.op rfl) (hS.op rfl) (hS.ch _ _ rfl) rfl (by as_aux_lemma => kernel_rfl) rfl hlt hq0))) | (apply draw_put rfl; (focus (intro S1 hS; exact stp_loadV rfl (by as_aux_lemma => kernel_rfl) (hS.op rfl) (hS.ch _ _ rfl) rfl hgq))) | (apply draw_put rfl; (focus (intro S1 hS; exact stp_ixE (j := e) rfl (hS.op rfl) (hS.op rfl) (hS.ch _ _ rfl) rfl (by as_aux_lemma => kernel_rfl) hrowk rfl he2 (Nat.le_of_eq hilk.symm)))) | (apply draw_put rfl; (focus (intro S1 hS; exact stp_loadE' rfl (by as_aux_lemma => kernel_rfl) (hS.op rfl) (hS.ch _ _ rfl) rfl hrowk hgetd)))); (first | (apply draw_put rfl; (focus (intro S1 hS; exact stp_ix (j := k) rfl (hS.op rfl) (hS.op rfl) (hS.ch _ _ rfl) rfl (by as_aux_lemma => kernel_rfl) rfl hkn (Nat.le_of_eq hlen.symm)))) | (apply draw_put rfl; (focus (intro S1 hS; exact stp_loadR rfl (by as_aux_lemma => kernel_rfl) (hS.op rfl) (hS.ch _ _ rfl) rfl hrowk hilk))) | (apply draw_put rfl; (focus (intro S1 hS; exact stp_ix (j := i) rfl (hS.op rfl) (hS.op rfl) (hS.ch _ _ rfl) rfl (by as_aux_lemma => kernel_rfl) rfl hlt hq0))) | (apply draw_put rfl; (focus (intro S1 hS; exact stp_loadV rfl (by as_aux_lemma => kernel_rfl) (hS.op rfl) (hS.ch _ _ rfl) rfl hgq))) | (apply draw_put rfl; (focus (intro S1 hS; exact stp_ixE (j := e) rfl (hS.op rfl) (hS.op rfl) (hS.ch _ _ rfl) rfl (by as_aux_lemma => kernel_rfl) hrowk rfl he2 (Nat.le_of_eq hilk.symm)))) | (apply draw_put rfl; (focus (intro S1 hS; exact stp_loadE' rfl (by as_aux_lemma => kernel_rfl) (hS.op rfl) (hS.ch _ _ rfl) rfl hrowk hgetd)))); apply draw_put rfl; (intro S1 hS; exact stp_move rfl (hS.op rfl)); apply draw_put rfl; (intro S1 hS; exact stp_move rfl (hS.op rfl)); (first | (apply draw_put rfl; (focus (intro S1 hS; exact stp_ix (j := k) rfl (hS.op rfl) (hS.op rfl) (hS.ch _ _ rfl) rfl (by as_aux_lemma => kernel_rfl) rfl hkn (Nat.le_of_eq hlen.symm)))) | (apply draw_put rfl; (focus (intro S1 hS; exact stp_loadR rfl (by as_aux_lemma => kernel_rfl) (hS.op rfl) (hS.ch _ _ rfl) rfl hrowk hilk))) | (apply draw_put rfl; (focus (intro S1 hS; exact stp_ix (j := i) rfl (hS.op rfl) (hS.op rfl) (hS.ch _ _ rfl) rfl (by as_aux_lemma => kernel_rfl) rfl hlt hq0))) | (apply draw_put rfl; (focus (intro S1 hS; exact stp_loadV rfl (by as_aux_lemma => kernel_rfl) (hS.op rfl) (hS.ch _ _ rfl) rfl hgq))) | (apply draw_put rfl; (focus (intro S1 hS; exact stp_ixE (j := e) rfl (hS.op rfl) (hS.op rfl) (hS.ch _ _ rfl) rfl (by as_aux_lemma => kernel_rfl) hrowk rfl he2 (Nat.le_of_eq hilk.symm)))) | (apply draw_put rfl; (focus (intro S1 hS; exact stp_loadE' rfl (by as_aux_lemma => kernel_rfl) (hS.op rfl) (hS.ch _ _ rfl) rfl hrowk hgetd)))); (first | (apply draw_put rfl; (focus (intro S1 hS; exact stp_ix (j := k) rfl (hS.op rfl) (hS.op rfl) (hS.ch _ _ rfl) rfl (by as_aux_lemma => kernel_rfl) rfl hkn (Nat.le_of_eq hlen.symm)))) | (apply draw_put rfl; (focus (intro S1 hS; exact stp_loadR rfl (by as_aux_lemma => kernel_rfl) (hS.op rfl) (hS.ch _ _ rfl) rfl hrowk hilk))) | (apply draw_put rfl; (focus (intro S1 hS; exact stp_ix (j := i) rfl (hS.op rfl) (hS.op rfl) (hS.ch _ _ rfl) rfl (by as_aux_lemma => kernel_rfl) rfl hlt hq0))) | (apply draw_put rfl; (focus (intro S1 hS; exact stp_loadV rfl (by as_aux_lemma => kernel_rfl) (hS.op rfl) (hS.ch _ _ rfl) rfl hgq))) | (apply draw_put rfl; (focus (intro S1 hS; exact stp_ixE (j := e) rfl (hS.op rfl) (hS.op rfl) (hS.ch _ _ rfl) rfl (by as_aux_lemma => kernel_rfl) hrowk rfl he2 (Nat.le_of_eq hilk.symm)))) | (apply draw_put rfl; (focus (intro S1 hS; exact stp_loadE' rfl (by as_aux_lemma => kernel_rfl) (hS.op rfl) (hS.ch _ _ rfl) rfl hrowk hgetd)))); (first | (apply draw_put rfl; (focus (intro S1 hS; exact stp_ix (j := k) rfl (hS.op rfl) (hS.op rfl) (hS.ch _ _ rfl) rfl (by as_aux_lemma => kernel_rfl) rfl hkn (Nat.le_of_eq hlen.symm)))) | (apply draw_put rfl; (focus (intro S1 hS; exact stp_loadR rfl (by as_aux_lemma => kernel_rfl) (hS.op rfl) (hS.ch _ _ rfl) rfl hrowk hilk))) | (apply draw_put rfl; (focus (intro S1 hS; exact stp_ix (j := i) rfl (hS.op rfl) (hS.op rfl) (hS.ch _ _ rfl) rfl (by as_aux_lemma => kernel_rfl) rfl hlt hq0))) | (apply draw_put rfl; (focus (intro S1 hS; exact stp_loadV rfl (by as_aux_lemma => kernel_rfl) (hS.op rfl) (hS.ch _ _ rfl) rfl hgq))) | (apply draw_put rfl; (focus (intro S1 hS; exact stp_ixE (j := e) rfl (hS.op rfl) (hS.op rfl) (hS.ch _ _ rfl) rfl (by as_aux_lemma => kernel_rfl) hrowk rfl he2 (Nat.le_of_eq hilk.symm)))) | (apply draw_put rfl; (focus (intro S1 hS; exact stp_loadE' rfl (by as_aux_lemma => kernel_rfl) (hS.op rfl) (hS.ch _ _ rfl) rfl hrowk hgetd)))); (first | (apply draw_put rfl; (focus (intro S1 hS; exact stp_ix (j := k) rfl (hS.op rfl) (hS.op rfl) (hS.ch _ _ rfl) rfl (by as_aux_lemma => kernel_rfl) rfl hkn (Nat.le_of_eq hlen.symm)))) | (apply draw_put rfl; (focus (intro S1 hS; exact stp_loadR rfl (by as_aux_lemma => kernel_rfl) (hS.op rfl) (hS.ch _ _ rfl) rfl hrowk hilk))) | (apply draw_put rfl; (focus (intro S1 hS; exact stp_ix (j := i) rfl (hS.op rfl) (hS.op rfl) (hS.ch _ _ rfl) rfl (by as_aux_lemma => kernel_rfl) rfl hlt hq0))) | (apply draw_put rfl; (focus (intro S1 hS; exact stp_loadV rfl (by as_aux_lemma => kernel_rfl) (hS.op rfl) (hS.ch _ _ rfl) rfl hgq))) | (apply draw_put rfl; (focus (intro S1 hS; exact stp_ixE (j := e) rfl (hS.op rfl) (hS.op rfl) (hS.ch _ _ rfl) rfl (by as_aux_lemma => kernel_rfl) hrowk rfl he2 (Nat.le_of_eq hilk.symm)))) | (apply draw_put rfl; (focus (intro S1 hS; exact stp_loadE' rfl (by as_aux_lemma => kernel_rfl) (hS.op rfl) (hS.ch _ _ rfl) rfl hrowk hgetd)))); apply draw_put rfl; (intro S1 hS; exact stp_assign rfl (hS.op rfl)); exact Draw.nil)
      · rfl
      ((refine rest_done (by as_aux_lemma => kernel_rfl) ?_; skip))
      (refine fin_seq ?_; refine goes_seq ?_; refine goes_region ?_; apply run_step rfl; (exact stp_move rfl rfl); apply run_step rfl; (exact stp_move rfl rfl); apply run_step rfl; (exact stp_ix (j := d) rfl rfl rfl rfl rfl (by as_aux_lemma => kernel_rfl) rfl (by omega) hbb); apply run_step rfl; (exact stp_loadV rfl (by as_aux_lemma => kernel_rfl) rfl rfl rfl (by first | assumption | exact ivals_get (by assumption) | exact irows_get (by assumption) | exact ivals_get (by omega) | exact irows_get (by omega) | rfl)); apply run_step rfl; (exact stp_not rfl rfl); refine run_nil ?_; refine fin_seq ?_)
      refine goes_cond rfl (fun hb => ?_) (fun hb => ?_)
      · have hb : bat s.1 d = false := by simpa using hb
        have hv : (List.range (k + 1)).foldl (mStep zss mask e) s0 = (s.1.set d true, s.2 ++ [(d : Int)]) := by rw [hst, if_pos hb]
        (refine goes_seq ?_; refine goes_region ?_; apply run_step rfl; (exact stp_move rfl rfl); apply run_step rfl; (exact stp_move rfl rfl); apply run_step rfl; (first | exact stp_ix (j := d) rfl rfl rfl rfl rfl (by as_aux_lemma => kernel_rfl) rfl (by omega) hbb | exact stp_stB rfl rfl rfl rfl rfl (by rw [List.length_append]; omega) (by as_aux_lemma => kernel_rfl)); apply run_step rfl; (first | exact stp_ix (j := d) rfl rfl rfl rfl rfl (by as_aux_lemma => kernel_rfl) rfl (by omega) hbb | exact stp_stB rfl rfl rfl rfl rfl (by rw [List.length_append]; omega) (by as_aux_lemma => kernel_rfl)); refine run_nil ?_; refine fin_seq ?_; refine goes_region ?_; apply run_step rfl; (exact stp_move rfl rfl); apply run_step rfl; (exact stp_move rfl rfl); apply run_step rfl; (exact stp_lit1I (E := 2) rfl (by as_aux_lemma => kernel_rfl) rfl); apply run_step rfl; (exact stp_appI rfl (by as_aux_lemma => kernel_rfl) rfl rfl rfl (by first | rfl | assumption | (simp; done)) rfl rfl (by omega)); apply run_step rfl; (exact stp_assign rfl rfl); refine run_nil ?_; refine fin_block ?_; refine fin_seq ?_; refine goes_region ?_; apply run_step rfl; (exact stp_move rfl rfl); apply run_step rfl; (exact stp_add rfl rfl rfl (by first | exact IntWalk.i64_in _ (by omega) | rfl)); apply run_step rfl; (exact stp_assign rfl rfl); refine run_nil ?_)
        exact fin_round (k + 1, (s.1.set d true, s.2 ++ [(d : Int)])) ⟨hkn, hv⟩ (by show zss.length - (k + 1) < zss.length - k; omega) (Wk.of ⟨rfl, congrArg (fun x => some (o1 (.sl 12 0 x))) (by simp), rfl, rfl, rfl, trivial⟩ ⟨rfl, rfl, congrArg (fun l => some (boOw l)) (set_padB (by omega) true), trivial⟩ trivial)
      · have hb : bat s.1 d = true := by simpa using hb
        have hv : (List.range (k + 1)).foldl (mStep zss mask e) s0 = s := by rw [hst, if_neg (by rw [hb]; simp)]
        (refine goes_skip ?_; refine fin_block ?_; refine fin_seq ?_; refine goes_region ?_; apply run_step rfl; (exact stp_move rfl rfl); apply run_step rfl; (exact stp_add rfl rfl rfl (by first | exact IntWalk.i64_in _ (by omega) | rfl)); apply run_step rfl; (exact stp_assign rfl rfl); refine run_nil ?_)
        exact fin_round (k + 1, s) ⟨hkn, hv⟩ (by show zss.length - (k + 1) < zss.length - k; omega) (Wk.of ⟨rfl, rfl, rfl, rfl, rfl, trivial⟩ ⟨rfl, rfl, rfl, trivial⟩ trivial)
    · obtain rfl : k = zss.length := by omega
      (refine goes_exit ?_; refine fin_exit_then ?_; refine fin_exit_then ?_; refine fin_exit_eq ?_; refine fin_block ?_; refine fin_seq ?_; refine goes_region ?_; apply run_step rfl; (exact stp_move rfl rfl); apply run_step rfl; (exact stp_add rfl rfl rfl (by first | exact IntWalk.i64_in _ (by omega) | rfl)); apply run_step rfl; (exact stp_assign rfl rfl); refine run_nil ?_)
      exact fin_round (i + 1, s) ⟨hlt, hok, by rw [← hl']; show mLoop _ _ _ (n + 1 - (i + 1)) _ _ = _; rw [show n + 1 - (i + 1) = n - i by omega]; unfold mRow; rw [hfo]⟩ (by show n + 1 - (i + 1) < n + 1 - i; omega) (Wk.of ⟨rfl, rfl, rfl, rfl, trivial⟩ ⟨rfl, rfl, rfl, trivial⟩ trivial)
  · have hio : i = s.2.length := by omega
    have hOM : mLoop zss mask zss.length (n + 1) 0 (oStart n c) = s := by
      rw [← hl, show n + 1 - i = (n - i) + 1 by omega, mLoop, if_neg (by omega)]
    rw [hOM]
    (refine goes_exit ?_; refine fin_exit_then ?_; refine fin_exit_then ?_; refine fin_exit_eq ?_; refine fin_seq ?_; refine goes_seq ?_; refine goes_region ?_; apply run_step rfl; (exact stp_move rfl rfl); apply run_step rfl; (exact stp_assign rfl rfl); refine run_nil ?_; refine fin_seq ?_; refine goes_ret ?_)
    exact fin_ret1 (.inl rfl) rfl (.tmp rfl) ⟨rfl, trivial⟩ trivial
end Go.Proofs.YtmdhljleaijkbaaGreatDoor
