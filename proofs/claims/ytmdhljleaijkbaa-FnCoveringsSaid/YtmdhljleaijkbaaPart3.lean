/- From contracts in names to contracts in words (RdS, OwSS, ..), and back. No program in sight. -/
import Derived.Test.YtmdhljleaijkbaaPart2
import Derived.Test.YtmdhljleaijkbaaPart1
import Derived.Test.YtmdhljleaijkbaaProg
namespace Go.Proofs.Ytmdhljleaijkbaa
open Go.RowKit

/-- nobody's blocks -/
def noOwn : Own? := fun _ => none
/-- a chunk that is only read lies at the head h, its rows at the heads r -/
def Hv (w : World) (x : Nm) (c : Ch) (h : Hd) (r : Nat → Hd) : Prop := ∀ η : Env, (∀ i, η.r x i = r i) → ChIs η noOwn w x h c
abbrev Lay := List (Nm × (Ch × Hd × (Nat → Hd)))
def envOf (l : Lay) : Env := { h := fun x => (lk x l).map fun q => q.2.1, r := fun x i => match lk x l with | some q => q.2.2 i | none => ⟨none, 0, 1⟩ }
theorem lk_map {α β : Type} (f : α → β) : ∀ (l : List (Nat × α)) (x : Nat), lk x (l.map fun p => (p.1, f p.2)) = (lk x l).map f
  | [], x => rfl
  | p :: r, x => by
    simp only [List.map_cons, lk]
    rw [lk_map f r x]
    cases Nat.beq x p.1 <;> rfl
theorem mem_of {w : World} {l : Lay} (h : ∀ p ∈ l, Hv w p.1 p.2.1 p.2.2.1 p.2.2.2) : Mem (envOf l) noOwn w (fun x => lk x (l.map fun p => (p.1, p.2.1))) := by
  have hl : ∀ x, lk x (l.map fun p => (p.1, p.2.1)) = (lk x l).map fun q => q.1 := fun x => lk_map (fun q => q.1) l x
  refine ⟨fun x c hx => ?_, fun x hx => ?_⟩
  · replace hx := (hl x).symm.trans hx
    obtain ⟨q, hq, rfl⟩ := Option.map_eq_some_iff.1 hx
    refine ⟨q.2.1, by simp [envOf, hq], h (x, q) (lk_mem hq) _ fun i => by simp [envOf, hq]⟩
  · replace hx := (hl x).symm.trans hx
    have : lk x l = none := by simpa using hx
    simp [envOf, this]
theorem den_sl {l : Lay} {x : Nm} {q : Ch × Hd × (Nat → Hd)} {n : Nat} (h : lk x l = some q) : Den1 (envOf l) (.sl x 0 n) (.slice q.2.1.ao n q.2.1.c) :=
  ⟨⟨_, _, rfl⟩, fun h' hh => by
    have hh : (lk x l).map (fun q => q.2.1) = some h' := hh
    rw [h] at hh; simp at hh; subst hh
    exact ⟨_, rfl, fun _ => rfl, fun h0 => absurd h0 (by omega)⟩⟩

theorem ofS {E : Nat} {w : World} {v : Value} {zs : List Int} (x E' : Nat) (h : OwS E w v zs) : ∃ hd r, v = .slice hd.ao zs.length hd.c ∧ Hv w x ⟨false, E', 1, .vals (ivals zs)⟩ hd r := by
  obtain ⟨ao, n, c, rfl, ho⟩ := h
  have hl := ho.len
  simp at hl
  subst hl
  refine ⟨⟨ao, c, 1⟩, fun _ => ⟨none, 0, 1⟩, rfl, fun η _ => ⟨rfl, ?_, fun j hj => ?_⟩⟩
  · show (ivals zs).length ≤ c * 1
    rw [ivals_len, Nat.mul_one]
    rcases Nat.eq_zero_or_pos zs.length with h0 | h0
    · omega
    · obtain ⟨g, _, _, _, h1, _⟩ := ho.form h0; exact h1
  · have hj : j < zs.length := by have : j < (ivals zs).length := hj; rwa [ivals_len] at this
    obtain ⟨g, rfl, _, hlt, _, hc, _⟩ := ho.form (by omega)
    refine ⟨g, 0, I6 (iget zs j), rfl, rfl, hlt, ?_, ivals_get hj⟩
    rw [Nat.zero_add, hc j hj]
    exact ivals_get hj
/-- what a contract in names says of a call whose arguments are only read -/
theorem FC.call {P : Program} {f : FuncId} {ins outs : List (Nm × Ch)} {args : List AV} {res : AV} {back : List (Nat × AV)} (h : FC P f ins args outs res back) {w : World} {l : Lay} {us : List Value} (hl : ∀ p ∈ l, Hv w p.1 p.2.1 p.2.2.1 p.2.2.2) (hi : (l.map fun p => (p.1, p.2.1)) = ins)
    (hd : DenL (envOf l) args us) : Calls P f us.toArray w fun e w' => ∃ v η ω, e = .returned v ∧ Den η res v ∧ Mem η ω w' (fun x => lk x outs) ∧ Below w.heap.size w w' ∧ ∀ b, b < w.heap.size → ω b = none := by
  subst hi
  refine (h w (envOf l) noOwn us (mem_of hl) hd).mono ?_
  rintro e w' ⟨v, η, ω, he, h1, h2, h3, _⟩
  exact ⟨v, η, ω, he, h1, h2, ⟨h3.os, h3.tape, h3.output, h3.size, fun b hb => (h3.block b hb rfl).1⟩, fun b hb => (h3.block b hb rfl).2⟩

section
variable {η : Env} {ω : Own?} {w' : World} {lo : Nat} {outs : List (Nm × Ch)}
/-- a vector of the call's own is a row of the words -/
theorem VecO.own {ow : Nm × Option Nat} {h : Hd} {E : Nat} {xs : List Value} {len : Nat} {cell : Nat → Value → Prop} (hk : h.k = 1) (hv : VecO ω w' ow h E len cell) (hlo : ∀ b, b < lo → ω b = none) (hn : len ≤ 4398046511104) (hx : xs.length = len)
    (hc : ∀ j u, j < len → (∃ b o, h.ao = some ⟨b, o, none⟩ ∧ w'.cell? ⟨b, o + j, none⟩ = some u) → xs[j]? = some u) :
    Own w' lo E h.ao len h.c xs ∧ ∀ g, bk h.ao = some g → g < w'.heap.size ∧ ω g = some ow := by
  rcases hv with ⟨h1, h2, h3⟩ | ⟨b, o, cs, h1, h2, h3, ⟨h4, h4'⟩, h5, h6, h7⟩
  · subst h3
    refine ⟨⟨⟨by simpa using hx, .inl ⟨by rw [h1, h2], rfl⟩⟩, hn⟩, fun g hg => by rw [h1] at hg; cases hg⟩
  · subst h4
    rw [hk, Nat.mul_one] at h4' h5
    have hb : lo ≤ b := by
      rcases Nat.lt_or_ge b lo with h8 | h8
      · rw [hlo b h8] at h2; cases h2
      · exact h8
    refine ⟨⟨⟨by simpa using hx, .inr ⟨b, h.c, cs, by rw [h1], hb, h3, h5, h6, by rw [h4', Nat.mul_one], ?_⟩⟩, hn⟩, fun g hg => ?_⟩
    · apply List.ext_getElem?
      intro j
      rw [Nat.mul_one, List.getElem?_take]
      by_cases hj : j < len
      · obtain ⟨u, hu, _⟩ := h7 j hj
        rw [Nat.zero_add] at hu
        rw [if_pos hj, hc j u hj ⟨b, 0, h1, by rw [Nat.zero_add, cell_of_row w' b j cs E (0, 0) h3]; exact hu⟩]
        simpa using hu
      · rw [if_neg hj, List.getElem?_eq_none (by omega)]
    · rw [h1] at hg
      simp [bk] at hg
      subst hg
      exact ⟨lt_of_heap h3, h2⟩
theorem toS {x E : Nat} {zs : List Int} {v : Value} (hm : Mem η ω w' (fun x => lk x outs)) (hlo : ∀ b, b < lo → ω b = none) (hx : lk x outs = some ⟨true, E, 1, .vals (ivals zs)⟩) (hv : Den1 η (.sl x 0 zs.length) v) (hn : zs.length ≤ 4398046511104) : OwnS E w' lo w'.heap.size v zs := by
  obtain ⟨h, h1, h2, h3⟩ := hm.1 x _ hx
  obtain ⟨ao, rfl, h4, _⟩ := hv.2 h h1
  have h3 : VecO ω w' (x, none) h E (ivals zs).length (cellsOK η ω w' true x (.vals (ivals zs))) := h3
  rw [h4 rfl, Nat.sub_zero]
  obtain ⟨k1, k2⟩ := VecO.own (xs := ivals zs) h2 h3 hlo (by rw [ivals_len]; exact hn) rfl fun j u hj ⟨b, o, e1, e2⟩ => by
    obtain ⟨b', o', u', f1, f2, f3⟩ := Vec.get (own := true) h3 hj
    rw [e1] at f1; injection f1 with f1; injection f1 with f1 f1'; subst f1 f1'
    rw [e2] at f2
    obtain rfl := Option.some.inj f2
    exact f3
  rw [ivals_len] at k1
  exact ⟨⟨_, _, _, rfl, k1.mono (Nat.zero_le _)⟩, fun g hg => by
    rw [ownBlock_slice] at hg
    exact ⟨(k1.lt g hg).1, (k2 g hg).1⟩⟩
theorem toSS {x E F : Nat} {zss : List (List Int)} {v : Value} (hm : Mem η ω w' (fun x => lk x outs)) (hlo : ∀ b, b < lo → ω b = none) (hx : lk x outs = some ⟨true, E, 1, .rows F (irows zss) []⟩) (hv : Den1 η (.sl x 0 zss.length) v) (hn : zss.length ≤ 4398046511104) (hr : ∀ zs ∈ zss, zs.length ≤ 4398046511104) :
    OwSS F E w' lo w'.heap.size v zss := by
  obtain ⟨h, h1, h2, h3⟩ := hm.1 x _ hx
  obtain ⟨ao, rfl, h4, _⟩ := hv.2 h h1
  have h3 : VecO ω w' (x, none) h E (irows zss).length (cellsOK η ω w' true x (.rows F (irows zss) [])) := h3
  rw [h4 rfl, Nat.sub_zero]
  have hlen : (irows zss).length = zss.length := irows_len zss
  obtain ⟨us, hus, hul⟩ : ∃ us : List Value, (∀ j, j < zss.length → us[j]? = some (.slice (η.r x j).ao (lget zss j).length (η.r x j).c)) ∧ us.length = zss.length :=
    ⟨(List.range zss.length).map fun j => .slice (η.r x j).ao (lget zss j).length (η.r x j).c, fun j hj => by simp [hj], by simp⟩
  have cell : ∀ j, j < zss.length → ∃ b o, h.ao = some ⟨b, o, none⟩ ∧ w'.cell? ⟨b, o + j, none⟩ = some (.slice (η.r x j).ao (lget zss j).length (η.r x j).c) ∧ (η.r x j).k = 1 ∧ VecO ω w' (x, some j) (η.r x j) F (ivals (lget zss j)).length fun i u => (ivals (lget zss j))[i]? = some u := fun j hj => by
    obtain ⟨b', o', u', f1, f2, f3, f4⟩ := Vec.get (own := true) h3 (j := j) (by rw [hlen]; exact hj)
    obtain ⟨g1, g2, g3⟩ := f4 (by simp) (ivals (lget zss j)) (irows_get hj)
    rw [ivals_len] at g1
    exact ⟨b', o', f1, by rw [f2, g1], g2, g3⟩
  obtain ⟨k1, k2⟩ := VecO.own (xs := us) h2 h3 hlo (by rw [hlen]; exact hn) (by rw [hul, hlen]) fun j u hj ⟨b, o, e1, e2⟩ => by
    rw [hlen] at hj
    obtain ⟨b', o', f1, f2, _⟩ := cell j hj
    rw [e1] at f1; injection f1 with f1; injection f1 with f1 f1'; subst f1 f1'
    rw [e2] at f2
    rw [hus j hj, Option.some.inj f2]
  rw [hlen] at k1
  have row : ∀ j, j < zss.length → Own w' lo F (η.r x j).ao (lget zss j).length (η.r x j).c (ivals (lget zss j)) ∧ ∀ g, bk (η.r x j).ao = some g → g < w'.heap.size ∧ ω g = some (x, some j) := fun j hj => by
    obtain ⟨_, _, _, _, g2, g3⟩ := cell j hj
    have hb : (lget zss j).length ≤ 4398046511104 := hr _ (lget_mem hj)
    have := VecO.own (lo := lo) (xs := ivals (lget zss j)) g2 g3 hlo (by rw [ivals_len]; exact hb) rfl fun i u hi ⟨b, o, e1, e2⟩ => by
      obtain ⟨b', o', u', f1, f2, f3⟩ := Vec.get (own := true) g3 hi
      rw [e1] at f1; injection f1 with f1; injection f1 with f1 f1'; subst f1 f1'
      rw [e2] at f2
      obtain rfl := Option.some.inj f2
      exact f3
    rw [ivals_len] at this
    exact this
  have hlt : ∀ {j : Nat} {u : Value}, us[j]? = some u → j < zss.length ∧ u = .slice (η.r x j).ao (lget zss j).length (η.r x j).c := fun {j u} hu => by
    have hj : j < zss.length := by have := (List.getElem?_eq_some_iff.1 hu).1; omega
    rw [hus j hj] at hu
    exact ⟨hj, (Option.some.inj hu).symm⟩
  refine ⟨_, _, _, us, rfl, { own := k1, top := fun g hg => (k2 g hg).1, len := rfl, el := fun j u d hu hd => ?_, rng := fun j u hu g hg => ?_, out := fun j u g hu hg => ?_, apart := fun i j u u' g hij hu hu' hg => ?_ }⟩
  · obtain ⟨hj, rfl⟩ := hlt hu
    have : d = lget zss j := (lget_get? hd).symm
    subst this
    exact ⟨_, _, _, rfl, (row j hj).1.mono (Nat.zero_le _)⟩
  · obtain ⟨hj, rfl⟩ := hlt hu
    rw [ownBlock_slice] at hg
    exact ⟨((row j hj).1.lt g hg).1, ((row j hj).2 g hg).1⟩
  · obtain ⟨hj, rfl⟩ := hlt hu
    rw [ownBlock_slice] at hg
    intro e
    have h8 := ((row j hj).2 g hg).2
    rw [(k2 g e).2] at h8
    simp at h8
  · obtain ⟨hi, rfl⟩ := hlt hu
    obtain ⟨hj, rfl⟩ := hlt hu'
    rw [ownBlock_slice] at hg ⊢
    intro e
    have h8 := ((row i hi).2 g hg).2
    rw [((row j hj).2 g e).2] at h8
    simp at h8
    omega
end

/-- a contract in words of a function that reads, as a contract in names -/
theorem fc_of_calls {P : Program} {f : FuncId} {ins : List (Nm × Ch)} {args : List AV} {r : Value} (h : ∀ w η ω us, Mem η ω w (fun x => lk x ins) → DenL η args us → Calls P f us.toArray w fun e w' => e = .returned r ∧ Below w.heap.size w w') : FC P f ins args [] (vv r) [] := by
  intro w η ω us hm hd
  refine (h w η ω us hm hd).mono ?_
  rintro e w' ⟨rfl, hb⟩
  exact ⟨r, { h := fun _ => none, r := η.r }, ω, rfl, rfl, ⟨fun x c hx => (nomatch hx), fun x _ => rfl⟩, ⟨hb.os, hb.tape, hb.output, hb.size, fun b hlt hn => ⟨hb.block b hlt, hn⟩⟩, fun t av ht => (nomatch ht)⟩
section
variable {η : Env} {ω : Own?} {w : World} {ins : List (Nm × Ch)}
theorem rdS {x : Nat} {own : Bool} {E : Nat} {zs : List Int} {v : Value} (hm : Mem η ω w (fun x => lk x ins)) (hx : lk x ins = some ⟨own, E, 1, .vals (ivals zs)⟩) (hv : Den1 η (.sl x 0 zs.length) v) (hn : zs.length ≤ 17592186044416) : ∃ ao c, v = .slice ao zs.length c ∧ Ints w ao zs.length zs := by
  obtain ⟨h, h1, h2, h3⟩ := hm.1 x _ hx
  obtain ⟨ao, rfl, h4, _⟩ := hv.2 h h1
  have h3 : Vec own ω w (x, none) h E (ivals zs).length (cellsOK η ω w own x (.vals (ivals zs))) := h3
  rw [h4 rfl]
  refine ⟨_, _, rfl, rfl, hn, fun h0 => ?_⟩
  obtain ⟨b, o, u, f1, _, _⟩ := h3.get (j := 0) (by rw [ivals_len]; exact h0)
  refine ⟨b, o, f1, fun j hj => ?_⟩
  obtain ⟨b', o', u', g1, g2, g3⟩ := h3.get (j := j) (by rw [ivals_len]; exact hj)
  rw [f1] at g1; injection g1 with g1; injection g1 with g1 g1'; subst g1 g1'
  have g3 : (ivals zs)[j]? = some u' := g3
  rw [ivals_get hj] at g3
  rw [g2, ← g3]
end
end Go.Proofs.Ytmdhljleaijkbaa

/- A memory of names: calls that make one vector; rows taken out and laid back; slices of rows; literals of rows and of arrays. No program in sight. -/
namespace Go.Proofs.Ytmdhljleaijkbaa
open Go.RowKit

section
variable {P : Program} {nt : Nat} {S S1 S2 : St} {w0 w : World} {ω0 : Beg} {ω : Own?} {η : Env} {a : Act} {Q : Exit → Act → World → Prop} {ops : Array Oper} {rest : List Oper}
variable {t : Nat} {ty : TypeId} {ps : String} {af : Array Edge} {gd : Option (Nat × Bool)} {x y : Operand} {av : AV} {o : Oper}

theorem nbeq_comm (x y : Nat) : Nat.beq x y = Nat.beq y x := by
  cases h : Nat.beq x y with
  | true => rw [beq_true h]; simp
  | false =>
    cases h2 : Nat.beq y x with
    | false => rfl
    | true => rw [beq_true h2] at h; simp at h
theorem inL_one (x y : Nm) (c : Ch) : inL [(x, c)] y = Nat.beq x y := by
  unfold inL; simp only [lk]
  rw [nbeq_comm x y]
  cases Nat.beq y x <;> rfl
theorem bad_one (x : Nm) (c : Ch) (a : A1) : a.bad (inL [(x, c)]) (memB []) = a.has x := by
  cases a with
  | val v => rfl
  | any => rfl
  | sl y _ _ => exact inL_one x y c
  | ptr y _ => show (inL [(x, c)] y && !memB [] y) = _; rw [inL_one]; simp [memB, A1.has]
  | esl y _ _ _ => exact inL_one x y c
  | eptr y _ _ => exact inL_one x y c
  | clo f xs => show xs.any (fun p => inL [(x, c)] p.1 && !memB [] p.1) = xs.any fun p => Nat.beq x p.1; congr 1; funext p; rw [inL_one]; simp [memB]
theorem bad_one2 (x : Nm) (c : Ch) (a : A2) : a.bad (inL [(x, c)]) (memB []) = a.has x := by
  cases a with
  | one a => exact bad_one x c a
  | agg l => show l.any _ = l.any _; congr 1; funext a; exact bad_one x c a
theorem bad_one3 (x : Nm) (c : Ch) (a : AV) : a.bad (inL [(x, c)]) (memB []) = a.has x := by
  cases a with
  | s a => exact bad_one2 x c a
  | tup l => show l.any _ = l.any _; congr 1; funext a; exact bad_one2 x c a
theorem clean_one (x : Nm) (c d : Ch) : d.clean (inL [(x, c)]) (memB []) = d.forget x := by
  obtain ⟨ow, E, k, d⟩ := d
  unfold Ch.clean Ch.forget Dat.clean Dat.forget
  cases d with
  | flat l =>
    have : (l.map fun a => bif a.bad (inL [(x, c)]) (memB []) then A1.any else a) = l.map (A1.forget x) := List.map_congr_left fun a _ => by rw [bad_one]; rfl
    simp only [this]
  | vals vs => rfl
  | rows F vss hs => rfl
  | mix cs => rfl
/-- a call that reads and makes one chunk -/
theorem wk_after1 {ins : List (Nm × Ch)} {t : Nat} {res : AV} {x : Nm} {c : Ch} (hro : (ins.all fun p => !p.2.own) = true) : Wk ((S.after ins [(x, c)] []).putO (some t) res) ((S.new x c).put t res) := by
  have hc : ∀ x, consB ins x = false := fun x => by
    unfold consB
    cases h : lk x ins with
    | none => rfl
    | some c => have := List.all_eq_true.1 hro _ (lk_mem h); simpa using this
  refine Wk.less (fun t' av h => ?_) (fun y d h => ?_) fun t' av h => ?_
  · rw [sl_put] at h
    show ((S.after ins [(x, c)] []).put t res).sl t' = some av
    rw [sl_put]
    by_cases e : t' = t
    · rw [if_pos e] at h ⊢; exact h
    · rw [if_neg e] at h ⊢
      obtain ⟨h1, h2⟩ := sl_new h
      show ((S.sl t').bind fun av => bif av.bad (inL [(x, c)]) (memB []) then none else some av) = some av
      rw [h1, Option.bind_some, bad_one3, h2]; rfl
  · have h' : (S.new x c).ch y = some d := h
    clear h
    rw [ch_new] at h'
    show (match lk y [(x, c)] with | some c => some c | none => bif consB ins y then none else (S.ch y).map (Ch.clean (inL [(x, c)]) (memB []))) = some d
    simp only [lk]
    by_cases e : y = x
    · rw [if_pos e] at h'; subst e; simpa using h'
    · rw [if_neg e] at h'
      rw [beq_ne e, cond_false, hc, cond_false]
      have : Ch.clean (inL [(x, c)]) (memB []) = Ch.forget x := funext fun d => clean_one x c d
      rw [this]; exact h'
  · have h : (S.new x c).ph t' = some av := h
    obtain ⟨h1, h2⟩ := ph_new h
    show ((S.ph t').bind fun av => bif av.bad (inL [(x, c)]) (memB []) then none else some av) = some av
    rw [h1, Option.bind_some, bad_one3, h2]; rfl
theorem stp_callN {f : FuncId} {xs : Array Operand} {ts : Array TypeId} {ins : List (Nm × Ch)} {args args' : List AV} {res : AV} {back : List (Nat × AV)} {x : Nm} {c : Ch}
    (hfc : FC P f ins args [(x, c)] res back) (hf : goFnB P f = true) (ht : Nat.blt t nt = true) (hx' : opL S xs.toList = some args') (hto : allTo args' args) (hin : allIn S ins) (hro : (ins.all fun p => !p.2.own) = true) (hnr : (res.names.all (inL [(x, c)])) = true) (hno : ([(x, c)].all fun p => p.2.own && p.2.names.all (inL [(x, c)])) = true) :
    Stp P nt ⟨some t, .call { callee := .value (.func f), args := xs, argTypes := ts }, ty, ps, af, gd⟩ S ((S.new x c).put t res) :=
  (stp_call (kp := []) hfc hf (by simp [ht]) hx' hto hin trivial hnr hno).wk (wk_after1 hro)

/-- a contract in words of a function that hands back integers of its own, as a contract in names -/
theorem vecO_of {x : Nm × Option Nat} {w' : World} {lo E n c : Nat} {ao : Option Addr} {xs : List Value} (h : Own w' lo E ao n c xs) {ω' : Own?} (ho : ∀ g, bk ao = some g → ω' g = some x) : VecO ω' w' x ⟨ao, c, 1⟩ E xs.length fun j u => xs[j]? = some u := by
  have hl := h.len
  rcases h.1.2 with ⟨h2, h3⟩ | ⟨g, cap, cur, hv, hg, hh, h4, h5, h6, h7⟩
  · injection h2 with e1 e2 e3
    subst e1 e3
    exact .inl ⟨rfl, rfl, by omega⟩
  · injection hv with e1 e2 e3
    subst e1 e3
    refine .inr ⟨g, 0, cur, rfl, ho g rfl, hh, ⟨rfl, h6⟩, by show xs.length ≤ c * 1; omega, h5, fun j hj => ?_⟩
    have h8 : xs[j]? = some xs[j] := List.getElem?_eq_getElem hj
    refine ⟨xs[j], ?_, h8⟩
    have h9 : (cur.toList.take (n * 1))[j]? = some xs[j] := by rw [h7]; exact h8
    rw [List.getElem?_take] at h9
    split at h9
    · rw [Nat.zero_add]; simpa using h9
    · cases h9
theorem fc_of_own {f : FuncId} {ins : List (Nm × Ch)} {args : List AV} {x E : Nat} {zs : List Int} (h : ∀ w η ω us, Mem η ω w (fun x => lk x ins) → DenL η args us → Calls P f us.toArray w fun e w' => ∃ ao c, e = .returned (.slice ao zs.length c) ∧ Own w' w.heap.size E ao zs.length c (ivals zs) ∧ Below w.heap.size w w') :
    FC P f ins args [(x, ⟨true, E, 1, .vals (ivals zs)⟩)] (o1 (.sl x 0 zs.length)) [] := by
  intro w η ω us hm hd
  refine (h w η ω us hm hd).mono ?_
  rintro e w' ⟨ao, c, rfl, ho, hb⟩
  refine ⟨_, { h := fun y => if y = x then some ⟨ao, c, 1⟩ else none, r := η.r }, fun b => if bk ao = some b then some (x, none) else ω b, rfl, ⟨⟨_, _, rfl⟩, fun hd' he => ?_⟩, ⟨fun y d hy => ?_, fun y hy => ?_⟩, ⟨hb.os, hb.tape, hb.output, hb.size, fun b hlt hn => ⟨hb.block b hlt, ?_⟩⟩, fun t av ht => (nomatch ht)⟩
  · simp only [if_true, Option.some.injEq] at he
    subst he
    exact ⟨_, rfl, fun _ => rfl, fun h0 => absurd h0 (by omega)⟩
  · have hy : lk y [(x, (⟨true, E, 1, .vals (ivals zs)⟩ : Ch))] = some d := hy
    simp only [lk] at hy
    cases hb' : Nat.beq y x with
    | false => rw [hb'] at hy; simp at hy
    | true =>
      rw [hb'] at hy; simp at hy; subst hy
      obtain rfl := beq_true hb'
      exact ⟨⟨ao, c, 1⟩, if_pos rfl, rfl, vecO_of ho fun g hg => if_pos hg⟩
  · have hy : lk y [(x, (⟨true, E, 1, .vals (ivals zs)⟩ : Ch))] = none := hy
    have : y ≠ x := fun e => by subst e; simp [lk] at hy
    exact if_neg this
  · show (if bk ao = some b then some (x, none) else ω b) = none
    rw [if_neg fun e => by have := (ho.lt b e).1; omega]; exact hn

end
end Go.Proofs.Ytmdhljleaijkbaa

/- A memory of names: mixed vectors: structs with slices in them, and rows of structs. No program in sight. -/
namespace Go.Proofs.Ytmdhljleaijkbaa
open Go.RowKit

section
variable {P : Program} {nt : Nat} {S S1 S2 : St} {w0 w : World} {ω0 : Beg} {ω : Own?} {η : Env} {a : Act} {Q : Exit → Act → World → Prop} {ops : Array Oper} {rest : List Oper}
variable {t : Nat} {ty : TypeId} {ps : String} {af : Array Edge} {gd : Option (Nat × Bool)} {x y : Operand} {av : AV} {o : Oper}

/-- plain cells, of which a nil slice may be taken for an empty row -/
def celNew : Cel → Value → Prop
  | .v y, u => u = y
  | .r _ _ m vs, u => m = 0 ∧ vs = [] ∧ u = .slice none 0 0
  | .any, _ => True
def celK : Cel → Nat
  | .r _ k _ _ => k
  | _ => 1
theorem celNew.ok {own : Bool} {n : Nm} {j : Nat} {c : Cel} {u : Value} (hr : η.r n j = ⟨none, 0, celK c⟩) (h : celNew c u) : celOK η ω w true n j c u := by
  cases c with
  | v y => exact h
  | any => trivial
  | r F k m vs =>
    obtain ⟨rfl, rfl, rfl⟩ := h
    refine ⟨by simp, by rw [hr], by rw [hr]; rfl, ?_⟩
    rw [hr]
    exact .inl ⟨rfl, rfl, rfl⟩
end
end Go.Proofs.Ytmdhljleaijkbaa

/- Walks in names: shifts, bits, conversions between integers, three results. -/
namespace Go.Proofs.Ytmdhljleaijkbaa
open Go.RowKit

section
variable {P : Program} {nt : Nat} {S : St} {t : Nat} {ty : TypeId} {ps : String} {af : Array Edge} {gd : Option (Nat × Bool)} {x y : Operand}
end
section
variable {P : Program} {w0 : World} {ω0 : Beg} {nt : Nat} {S : St}
end
end Go.Proofs.Ytmdhljleaijkbaa

/- A memory of names: a region that draws its order and holds guards, walked once. No program in sight. -/
namespace Go.Proofs.Ytmdhljleaijkbaa
open Go.RowKit

section
variable {P : Program} {nt : Nat} {w0 w : World} {ω0 : Beg} {S S1 : St} {Q : Exit → Act → World → Prop} {a : Act}
/-- an operation, run or passed over, as its guard says -/
inductive GSt (P : Program) (nt : Nat) (ops : Array Oper) (o : Oper) (S1 : St) (A : Add) : Prop where
  | run (hg : o.guard = none) (h : Stp P nt o S1 (S1.add A))
  | yes {j d : Nat} {want : Bool} (hg : o.guard = some (j, want)) (hj : (ops[j]?).bind (·.dst) = some d) (hb : S1.sl d = some (vv (.bool want))) (h : Stp P nt o S1 (S1.add A))
  | no {j d : Nat} {want : Bool} (hg : o.guard = some (j, want)) (hj : (ops[j]?).bind (·.dst) = some d) (hb : S1.sl d = some (vv (.bool (!want)))) (ht : o.dst = some A.t) (hn : Nat.blt A.t nt = true) (ha : A.av = vv undef) (hx : A.news = none)
/-- the operations, one behind the other in the text's order: each may look at what it depends on alone -/
inductive DrawG (P : Program) (nt : Nat) (ops0 : Array Oper) (S : St) (cls : List (List Nat)) (sk : List Nat) : List Oper → List Add → List Add → Prop where
  | nil {done : List Add} : DrawG P nt ops0 S cls sk [] done done
  | skip {o : Oper} {rest : List Oper} {done all : List Add} (A : Add) (hs : memN sk done.length = true) (k : DrawG P nt ops0 S cls sk rest (A :: done) all) : DrawG P nt ops0 S cls sk (o :: rest) done all
  | cons {o : Oper} {rest : List Oper} {done all : List Add} (A : Add)
      (h : ∀ S1, (S.partR (memN (cls.getD done.length [])) done).le S1 → GSt P nt ops0 o S1 A) (k : DrawG P nt ops0 S cls sk rest (A :: done) all) : DrawG P nt ops0 S cls sk (o :: rest) done all
theorem DrawG.spec {ops0 : Array Oper} {cls : List (List Nat)} {sk : List Nat} {ops : List Oper} {done all : List Add} (h : DrawG P nt ops0 S cls sk ops done all) : (∃ r, all.reverse = done.reverse ++ r ∧ r.length = ops.length) ∧ ∀ (i : Nat) (o : Oper), ops[i]? = some o → memN sk (done.length + i) = false →
    ∃ A, all.reverse[done.length + i]? = some A ∧ ∀ S1, (S.partR (memN (cls.getD (done.length + i) [])) (all.reverse.take (done.length + i)).reverse).le S1 → GSt P nt ops0 o S1 A := by
  induction h with
  | nil => exact ⟨⟨[], by simp⟩, fun i o h => by simp at h⟩
  | @skip o rest done all A hs k ih =>
    obtain ⟨⟨r, hr, hl⟩, h2⟩ := ih
    refine ⟨⟨A :: r, by rw [hr]; simp, by simp [hl]⟩, fun i o' hi hsk => ?_⟩
    cases i with
    | zero => rw [Nat.add_zero, hs] at hsk; cases hsk
    | succ i =>
      have e : (A :: done).length + i = done.length + (i + 1) := by simp; omega
      rw [← e] at hsk ⊢
      exact h2 i o' (by simpa using hi) hsk
  | @cons o rest done all A h k ih =>
    obtain ⟨⟨r, hr, hl⟩, h2⟩ := ih
    refine ⟨⟨A :: r, by rw [hr]; simp, by simp [hl]⟩, fun i o' hi hsk => ?_⟩
    cases i with
    | zero =>
      simp at hi; subst hi
      refine ⟨A, by rw [hr]; simp, fun S1 hS => h S1 ?_⟩
      have : (all.reverse.take (done.length + 0)).reverse = done := by rw [hr]; simp
      rw [this] at hS
      exact hS
    | succ i =>
      have e : (A :: done).length + i = done.length + (i + 1) := by simp; omega
      rw [← e] at hsk ⊢
      exact h2 i o' (by simpa using hi) hsk

theorem drawG_main {l : List Oper} {nA : Nat} {sk : List Nat} {cls : List (List Nat)} {ds nms : List Nat} {adds done : List Add} (hcl : ClsOK l.toArray nA sk cls) (hdr : DrawG P nt l.toArray (S.clear ds nms) cls sk (l.take nA) [] done) (hdn : done.reverse = adds) (ok : AddsOK adds cls ds nms)
    (hk : Rest P w0 ω0 nt l.toArray Q (l.length - missing sk #[] nA) (doneL nA sk l.length) ((S.clear ds nms).part (fun j => !memN sk j) adds)) :
    ∀ (d : Nat) (L : Array Bool) (a : Act) (w : World), missing sk L nA = d → L.size = l.length → (∀ j, L.getD j false = true → j < nA ∧ memN sk j = false) → (∀ i, L.getD i false = true → ∀ j ∈ cls.getD i [], L.getD j false = true) →
      Sat w0 ω0 nt ((S.clear ds nms).part (fun j => L.getD j false) adds) a w → wpAny P .any l.toArray Q (l.length - missing sk #[] nA + d) L a w := by
  have hsz : nA ≤ l.length := by have := hcl.size; simpa using this
  obtain ⟨⟨r, hr, hrl⟩, hob⟩ := hdr.spec
  rw [hdn] at hr hob
  have hal : adds.length = nA := by rw [hr]; simp [hrl]; omega
  have hfull : ∀ (L : Array Bool) (i : Nat), i ∈ Region.ready .any l.toArray L → (∀ i, L.getD i false = true → ∀ j ∈ cls.getD i [], L.getD j false = true) → (∃ o, l.toArray[i]? = some o ∧ L.getD i true = false) ∧ ∀ j ∈ cls.getD i [], L.getD j false = true := by
    intro L i hi hclosed
    obtain ⟨h0, o, ho, he⟩ := mem_ready.1 hi
    refine ⟨⟨o, ho, h0⟩, fun j hj => ?_⟩
    obtain ⟨e, hem, hb, hje⟩ := hcl.dep i o ho j hj
    have h1 := he e hem hb
    rcases hje with rfl | hje
    · exact h1
    · exact hclosed e.on h1 j hje
  intro d
  induction d with
  | zero =>
    intro L a w hm hs hsub hclosed hsat
    have hall := missing_zero hm
    have hL : L = doneL nA sk l.length := by
      apply Array.ext
      · simp [hs, doneL]
      · intro j h1 h2
        have h3 : L[j]? = some L[j] := Array.getElem?_eq_getElem h1
        have h4 := doneL_at (nA := nA) (sk := sk) (n := l.length) (j := j) (by omega)
        rw [Array.getElem?_eq_getElem h2] at h4
        rw [Option.some.inj h4]
        cases hb : L[j] with
        | true =>
          have := hsub j (by simp [h1, hb])
          simp [this.1, this.2]
        | false =>
          by_cases hj : j < nA
          · cases hsk : memN sk j with
            | true => simp
            | false =>
              have := hall j hj hsk
              simp [h1, hb] at this
          · simp [hj]
    refine hk.go a w ((St.le.wk (part_le (ℓ1 := fun j => !memN sk j) (ℓ2 := fun j => L.getD j false) ok (fun _ _ h => h) fun j A hj hsk => ?_) fun _ _ h => h).go _ _ _ a w hsat) |> fun h => by rw [← hL] at h; exact h
    have hjl : j < adds.length := (List.getElem?_eq_some_iff.1 hj).1
    exact hall j (by omega) (by simpa using hsk)
  | succ d ih =>
    intro L a w hm hs hsub hclosed hsat
    refine ⟨fun hnil => ?_, fun i hi => ?_⟩
    · exfalso
      obtain ⟨j, hj, hjs', hjf, hlo⟩ := missing_least (k := nA) (by omega : missing sk L nA ≠ 0)
      have hjl : j < l.length := by omega
      have hjs : j < L.size := by omega
      have : j ∈ Region.ready .any l.toArray L := by
        refine mem_ready.2 ⟨?_, l[j], by simp [hjl], fun e he hb => ?_⟩
        · simp [hjs] at hjf ⊢
          exact hjf
        · have h5 := hcl.less j l[j] (by simp [hjl]) hj hjs' e he hb
          exact hlo e.on h5.1 h5.2
      rw [hnil] at this; cases this
    · obtain ⟨⟨o, ho, hi0⟩, hdep⟩ := hfull L i hi hclosed
      have hil : i < l.length := by have := (Array.getElem?_eq_some_iff.1 ho).1; simpa using this
      have his : i < L.size := by omega
      have hif : L.getD i false = false := by simp [his] at hi0 ⊢; exact hi0
      have hnl : ¬ (nA ≤ i ∨ memN sk i = true) := fun h => by
        have := missing_full (sk := sk) (L := L) (k := nA) fun j hj hsk => hdep j (hcl.late i o ho h j hj hsk)
        omega
      have hiA : i < nA := by
        rcases Nat.lt_or_ge i nA with h | h
        · exact h
        · exact absurd (.inl h) hnl
      have hisk : memN sk i = false := by
        cases hsk : memN sk i with
        | false => rfl
        | true => exact absurd (.inr hsk) hnl
      have hot : (l.take nA)[i]? = some o := by rw [List.getElem?_take, if_pos hiA]; simpa using ho
      obtain ⟨A, hA, hstp⟩ := hob i o hot (by simpa using hisk)
      simp only [List.length_nil, Nat.zero_add] at hA hstp
      have hle : ((S.clear ds nms).partR (memN (cls.getD i [])) (adds.take i).reverse).le ((S.clear ds nms).part (fun j => L.getD j false) adds) := partR_le ok (fun j B hj => by
          rw [List.reverse_reverse] at hj
          rw [List.getElem?_take] at hj; split at hj
          · exact hj
          · cases hj) fun j B _ hj => hdep j (memN_iff.1 hj)
      have cont : ∀ a' w', Sat w0 ω0 nt (((S.clear ds nms).part (fun j => L.getD j false) adds).add A) a' w' → wpAny P .any l.toArray Q (l.length - missing sk #[] nA + d) (L.setIfInBounds i true) a' w' := fun a' w' hsat' => by
        have hsat2 := (wk_add ok hA hif fun j hj hm' => by have := hclosed j hj i hm'; rw [hif] at this; cases this).go _ _ _ a' w' hsat'
        have hnew : ∀ j, (L.setIfInBounds i true).getD j false = (Nat.beq j i || L.getD j false) := fun j => by
          by_cases e : j = i
          · subst e; simp [his]
          · rw [getD_set_ne false (fun e' => e e'.symm), beq_ne e, Bool.false_or]
        refine ih (L.setIfInBounds i true) a' w' ?_ (by simp [hs]) (fun j hj => ?_) (fun j hj k hk' => ?_) ?_
        · have := missing_set his hif hisk nA hiA; omega
        · rw [hnew] at hj
          by_cases e : j = i
          · rw [e]; exact ⟨hiA, hisk⟩
          · rw [beq_ne e, Bool.false_or] at hj; exact hsub j hj
        · rw [hnew] at hj ⊢
          by_cases e : j = i
          · subst e; rw [hdep k hk']; simp
          · rw [beq_ne e, Bool.false_or] at hj; rw [hclosed j hj k hk']; simp
        · have : (fun j => (L.setIfInBounds i true).getD j false) = fun j => (Nat.beq j i || L.getD j false) := funext hnew
          rw [this]; exact hsat2
      have hy : ∀ {j dd : Nat} {b : Bool}, (l.toArray[j]?).bind (·.dst) = some dd → ((S.clear ds nms).part (fun j => L.getD j false) adds).sl dd = some (vv (.bool b)) → yielded l.toArray a.tmps j = some b := fun {j dd b} hj hb => by
        obtain ⟨η, ω, hs⟩ := hsat
        obtain ⟨u, k1, k2⟩ := hs.slots dd _ hb
        have k2 : u = .bool b := k2
        subst k2
        unfold yielded
        cases hoj : l.toArray[j]? with
        | none => rw [hoj] at hj; cases hj
        | some oj =>
          rw [hoj] at hj
          simp only [Option.bind_some] at hj
          simp [hj, k1]
      unfold wpOp
      simp only [ho]
      cases hstp _ hle with
      | run hg h =>
        rw [if_pos (by simp [Region.wanted, hg])]
        exact .inl (Oper.wp_mono (fun a' w' hsat' => cont a' w' hsat') (h.go w0 ω0 a w Q hsat))
      | yes hg hj hb h =>
        rw [if_pos (by simp [Region.wanted, hg, hy hj hb])]
        exact .inl (Oper.wp_mono (fun a' w' hsat' => cont a' w' hsat') (h.go w0 ω0 a w Q hsat))
      | @no j dd want hg hj hb ht hn ha hx =>
        rw [if_neg (by simp [Region.wanted, hg, hy hj hb])]
        refine cont _ _ ?_
        obtain ⟨η, ω, hs⟩ := hsat
        refine ⟨η, ω, ?_⟩
        have e : ((S.clear ds nms).part (fun j => L.getD j false) adds).add A = ((S.clear ds nms).part (fun j => L.getD j false) adds).put A.t (vv undef) := by unfold St.add; rw [hx, ha]; rfl
        rw [e, ht]
        exact hs.putV (by simpa using hn) rfl

theorem goes_drawG {id : Nat} {l : List Oper} (nA : Nat) (sk : List Nat) (cls : List (List Nat)) (ds nms : List Nat) {done : List Add} (hm : P.follows .mixedOrders = true) (hcl : clsB l.toArray nA sk cls = true) (hdr : DrawG P nt l.toArray (S.clear ds nms) cls sk (l.take nA) [] done) (ok : addsB done.reverse cls ds nms = true)
    (hk : Rest P w0 ω0 nt l.toArray Q (l.length - missing sk #[] nA) (doneL nA sk l.length) ((S.clear ds nms).partR (fun j => !memN sk j) done)) : Goes P w0 ω0 nt S (.region id l.toArray true) Q := by
  have hc := clsB_spec hcl
  have hsz : nA ≤ l.length := by have := hc.size; simpa using this
  have hk' : Rest P w0 ω0 nt l.toArray Q (l.length - missing sk #[] nA) (doneL nA sk l.length) ((S.clear ds nms).part (fun j => !memN sk j) done.reverse) :=
    ⟨fun a w hs => hk.go a w ((St.le.wk (partR_le (addsB_spec ok) (fun _ _ h => h) fun _ _ _ h => h) fun _ _ h => h).go _ _ _ a w hs)⟩
  have hle : ∀ k, missing sk #[] k ≤ k := fun k => by
    induction k with
    | zero => exact Nat.le_refl _
    | succ k ih => simp only [missing]; split <;> omega
  refine ⟨fun a w hs => wp_region_any hm ?_⟩
  have hfin := drawG_main hc hdr rfl (addsB_spec ok) hk' (missing sk #[] nA) (Array.replicate l.length false) a { w with drawn := w.drawn + 1 } ?_ (by simp) (fun j hj => ?_) (fun i hi => ?_) ?_
  · have := hle nA
    rw [show l.length - missing sk #[] nA + missing sk #[] nA = l.length by omega] at hfin
    simpa using hfin
  · have : ∀ k, k ≤ l.length → missing sk (Array.replicate l.length false) k = missing sk #[] k := fun k => by
      induction k with
      | zero => intro _; rfl
      | succ k ih =>
        intro hk
        simp only [missing]
        rw [ih (by omega)]
        have : (Array.replicate l.length false).getD k false = false := by simp [show k < l.length by omega]
        rw [this]; rfl
    exact this nA hsz
  · exfalso
    by_cases h : j < l.length
    · simp [h] at hj
    · simp [h] at hj
  · exfalso
    by_cases h : i < l.length
    · simp [h] at hi
    · simp [h] at hi
  · have h1 := (wk_clear S ds nms).go _ _ _ a _ (sat_drew hs)
    have hf : ∀ j, (Array.replicate l.length false).getD j false = false := fun j => by
      by_cases h : j < l.length <;> simp [h]
    refine (Wk.less (S := S.clear ds nms) (S' := (S.clear ds nms).part (fun j => (Array.replicate l.length false).getD j false) done.reverse) (fun t av h => ?_) (fun x c h => ?_) fun _ _ h => h).go _ _ _ a _ h1
    · have h : (match lkT (fun j => (Array.replicate l.length false).getD j false) 0 done.reverse t with | some av => some av | none => (S.clear ds nms).sl t) = some av := h
      split at h
      · rename_i av' h2
        obtain ⟨j, A, _, h3, _⟩ := lkT_some h2
        rw [hf] at h3; cases h3
      · exact h
    · have h : (match lkN (fun j => (Array.replicate l.length false).getD j false) 0 done.reverse x with | some c => some c | none => (S.clear ds nms).ch x) = some c := h
      split at h
      · rename_i av' h2
        obtain ⟨j, A, _, h3, _⟩ := lkN_some h2
        rw [hf] at h3; cases h3
      · exact h

end
section
variable {P : Program} {nt : Nat} {S : St} {cls : List (List Nat)} {sk : List Nat} {o : Oper} {rest : List Oper} {done all : List Add} {ops0 : Array Oper} {t : Nat} {ty : TypeId} {ps : String} {af : Array Edge} {gd : Option (Nat × Bool)} {x y : Operand}
theorem drawG_put {t : Nat} {av : AV} (hg : o.guard = none) (h : ∀ S1, (S.partR (memN (cls.getD done.length [])) done).le S1 → Stp P nt o S1 (S1.put t av)) (k : DrawG P nt ops0 S cls sk rest (⟨t, av, none⟩ :: done) all) : DrawG P nt ops0 S cls sk (o :: rest) done all := .cons ⟨t, av, none⟩ (fun S1 hS => .run hg (h S1 hS)) k
theorem drawG_yes {t j d : Nat} {want : Bool} {av : AV} (hg : o.guard = some (j, want)) (hj : (ops0[j]?).bind (·.dst) = some d) (hb : (S.partR (memN (cls.getD done.length [])) done).sl d = some (vv (.bool want))) (h : ∀ S1, (S.partR (memN (cls.getD done.length [])) done).le S1 → Stp P nt o S1 (S1.put t av)) (k : DrawG P nt ops0 S cls sk rest (⟨t, av, none⟩ :: done) all) : DrawG P nt ops0 S cls sk (o :: rest) done all := .cons ⟨t, av, none⟩ (fun S1 hS => .yes hg hj (hS.sl _ _ hb) (h S1 hS)) k
theorem drawG_no {t j d : Nat} {want : Bool} (hg : o.guard = some (j, want)) (hj : (ops0[j]?).bind (·.dst) = some d) (hb : (S.partR (memN (cls.getD done.length [])) done).sl d = some (vv (.bool (!want)))) (ht : o.dst = some t) (hn : Nat.blt t nt = true) (k : DrawG P nt ops0 S cls sk rest (⟨t, vv undef, none⟩ :: done) all) : DrawG P nt ops0 S cls sk (o :: rest) done all := .cons ⟨t, vv undef, none⟩ (fun S1 hS => .no hg hj (hS.sl _ _ hb) ht hn rfl rfl) k
end
end Go.Proofs.Ytmdhljleaijkbaa

/- Chunks of the everyday kinds. -/
namespace Go.Proofs.Ytmdhljleaijkbaa
open Go.RowKit

abbrev imOw (im : List (List Int)) : Ch := ⟨true, 32, 1, .rows 2 (irows im) []⟩
abbrev leOw (less : List Int) : Ch := ⟨true, 2, 1, .vals (ivals less)⟩
abbrev rowsRo (wss : List (List Int)) : Ch := ⟨false, 32, 1, .rows 2 (irows wss) []⟩
abbrev boOw (bs : List Bool) : Ch := ⟨true, 4, 1, .vals (bvals bs)⟩
abbrev wRo (W : List Int) : Ch := ⟨false, 2, 1, .vals (ivals W)⟩
section
variable {P : Program} {nt : Nat} {S : St} {t : Nat} {ty : TypeId} {ps : String} {af : Array Edge} {gd : Option (Nat × Bool)} {x y : Operand}
theorem stp_makeB {T E n : Nat} {l c : Operand} {kl kc : IntKind} {L C : Int} (ht : Nat.blt t nt = true) (hT : elZ P T E 1 = true) (hz : (P.info? E).bind (·.zero) = some (.bool false)) (hl : S.op l = some (vv (.int kl L))) (hc : S.op c = some (vv (.int kc C)))
    (hL : L = (n : Int)) (hC : C = (n : Int)) (hn : n ≤ 2199023255552) : Stp P nt ⟨some t, .makeSlice T l c, ty, ps, af, gd⟩ S ((S.new t ⟨true, E, 1, .vals (bvals (List.replicate n false))⟩).put t (o1 (.sl t 0 n))) := by
  rw [bvals_rep]
  exact stp_make (ts := #[]) ht hT hz hl hc hL hC hn rfl
theorem stp_stB {T : TypeId} {n : Nm} {i : Nat} {c : Ch} {bs : List Bool} {b : Bool} (hx : S.op x = some (o1 (.ptr n i))) (hy : S.op y = some (vv (.bool b))) (hc : S.ch n = some c) (hown : c.own = true) (hd : c.d = .vals (bvals bs)) (hi : i < bs.length) (hT : sizeB P T 1 = true) :
    Stp P nt ⟨none, .store T x y, ty, ps, af, gd⟩ S (S.set n { c with d := .vals (bvals (bs.set i b)) }) := by
  have := stp_storeV (P := P) (nt := nt) (ty := ty) (ps := ps) (af := af) (gd := gd) hx hy hc hown hd (by rw [bvals_len]; exact hi) hT rfl
  rwa [bvals_set] at this
end
end Go.Proofs.Ytmdhljleaijkbaa

/- A memory of names: rows as words; vectors cut short. No program in sight. -/
namespace Go.Proofs.Ytmdhljleaijkbaa
open Go.RowKit

section
variable {η : Env} {ω : Own?} {w : World} {ins : List (Nm × Ch)}
theorem rdRow {x i : Nat} {own : Bool} {E F : Nat} {zss : List (List Int)} {v : Value} (hm : Mem η ω w (fun x => lk x ins)) (hx : lk x ins = some ⟨own, E, 1, .rows F (irows zss) []⟩) (hi : i < zss.length) (hv : Den1 η (.esl x i 0 (lget zss i).length) v) (hn : (lget zss i).length ≤ 17592186044416) :
    ∃ ao c, v = .slice ao (lget zss i).length c ∧ Ints w ao (lget zss i).length (lget zss i) := by
  obtain ⟨h, h1, h2, h3⟩ := hm.1 x _ hx
  obtain ⟨ao, rfl, h4, _⟩ := hv.2 h h1
  have h3 : Vec own ω w (x, none) h E (irows zss).length (cellsOK η ω w own x (.rows F (irows zss) [])) := h3
  obtain ⟨b', o', u', g1, g2, g3, g4⟩ := h3.get (j := i) (by rw [irows_len]; exact hi)
  obtain ⟨k1, k2, k3⟩ := g4 (by simp) (ivals (lget zss i)) (irows_get hi)
  rw [h4 rfl]
  refine ⟨_, _, rfl, rfl, hn, fun h0 => ?_⟩
  obtain ⟨b2, o2, u2, m1, _, _⟩ := k3.get (j := 0) (by rw [ivals_len]; exact h0)
  refine ⟨b2, o2, m1, fun j hj => ?_⟩
  obtain ⟨b3, o3, u3, n1, n2, n3⟩ := k3.get (j := j) (by rw [ivals_len]; exact hj)
  rw [m1] at n1; injection n1 with n1; injection n1 with n1 n1'; subst n1 n1'
  rw [ivals_get hj] at n3
  rw [n2, ← n3]
end
section
variable {P : Program} {nt : Nat} {S : St} {t : Nat} {ty : TypeId} {ps : String} {af : Array Edge} {gd : Option (Nat × Bool)} {x y : Operand}
/-- of a vector of the call's own only the front is remembered -/
theorem wk_cut {n : Nm} {E k m : Nat} {vs : List Value} (hc : S.ch n = some ⟨true, E, k, .vals vs⟩) (hm : m ≤ vs.length) : Wk S (S.set n ⟨true, E, k, .vals (vs.take m)⟩) := by
  refine ⟨fun w0 ω0 nt a w ⟨η, ω, h⟩ => ?_⟩
  obtain ⟨hd, e1, e2, e3⟩ := h.chunk hc
  have e3 : VecO ω w (n, none) hd E vs.length (cellsOK η ω w true n (.vals vs)) := e3
  refine ⟨η, ω, h.write e1 (Calm.refl _ _ _) ⟨e2, ?_⟩⟩
  show VecO ω w (n, none) hd E (vs.take m).length _
  have hl : (vs.take m).length = m := by rw [List.length_take]; omega
  rw [hl]
  rcases e3 with ⟨h1, h2, h3⟩ | ⟨b, o, cs, h1, h2, h3, h4, h5, h6, h7⟩
  · exact .inl ⟨h1, h2, by omega⟩
  · refine .inr ⟨b, o, cs, h1, h2, h3, h4, by omega, h6, fun j hj => ?_⟩
    obtain ⟨u, hu, hk⟩ := h7 j (by omega)
    refine ⟨u, hu, ?_⟩
    have hk : vs[j]? = some u := hk
    show (vs.take m)[j]? = some u
    rw [List.getElem?_take, if_pos hj]; exact hk
/-- an index into a part of a vector -/
theorem stp_ixO {T : TypeId} {n : Nm} {off len j : Nat} {c : Ch} {ki : IntKind} {i : Int} (ht : Nat.blt t nt = true) (hx : S.op x = some (o1 (.sl n off len))) (hy : S.op y = some (vv (.int ki i))) (hc : S.ch n = some c) (hk : c.k = 1) (hT : elemB P T 1 = true)
    (hi : i = (j : Int)) (hj : j < len) (hl : off + len ≤ c.d.len) : Stp P nt ⟨some t, .indexAddr T x y, ty, ps, af, gd⟩ S (S.put t (o1 (.ptr n (off + j)))) := by
  have := stp_indexAddr (P := P) (nt := nt) (t := t) (ty := ty) (ps := ps) (af := af) (gd := gd) (k := 1) ht hx hy hc hk hT hi hj (by rw [Nat.mul_one]; exact hl) (by omega)
  rwa [Nat.mul_one] at this
theorem stp_ixK {T : TypeId} {n : Nm} {off len j K : Nat} {c : Ch} {ki : IntKind} {i : Int} (ht : Nat.blt t nt = true) (hx : S.op x = some (o1 (.sl n off len))) (hy : S.op y = some (vv (.int ki i))) (hc : S.ch n = some c) (hk : c.k = 1) (hT : elemB P T 1 = true)
    (hi : i = (j : Int)) (hj : j < len) (hl : off + len ≤ c.d.len) (hK : off + j = K) : Stp P nt ⟨some t, .indexAddr T x y, ty, ps, af, gd⟩ S (S.put t (o1 (.ptr n K))) := by
  subst hK; exact stp_ixO ht hx hy hc hk hT hi hj hl
theorem stp_minN {ts : Array TypeId} {m n : Nat} (ht : Nat.blt t nt = true) (hx : S.op x = some (vv (I6 (m : Int)))) (hy : S.op y = some (vv (I6 (n : Int)))) :
    Stp P nt ⟨some t, .call { callee := .builtin .min, args := #[x, y], argTypes := ts }, ty, ps, af, gd⟩ S (S.put t (vv (I6 ((min m n : Nat) : Int)))) := by
  have := stp_min (P := P) (nt := nt) (ty := ty) (ps := ps) (af := af) (gd := gd) (ts := ts) ht hx hy
  rwa [show (if (n : Int) < m then (n : Int) else m) = ((min m n : Nat) : Int) by split <;> omega] at this
end
end Go.Proofs.Ytmdhljleaijkbaa

/- From contracts in names to contracts in words: the doors of the functions that the laws call. -/
namespace Go.Proofs.Ytmdhljleaijkbaa
open Go.RowKit

theorem denL1 {η : Env} {a : AV} {u : Value} (h : Den η a u) : DenL η [a] [u] := ⟨rfl, fun j av hj => by
  match j, hj with
  | 0, hj => simp at hj; subst hj; exact ⟨u, rfl, h⟩⟩
theorem denL2 {η : Env} {a b : AV} {u v : Value} (h : Den η a u) (h' : Den η b v) : DenL η [a, b] [u, v] := ⟨rfl, fun j av hj => by
  match j, hj with
  | 0, hj => simp at hj; subst hj; exact ⟨u, rfl, h⟩
  | 1, hj => simp at hj; subst hj; exact ⟨v, rfl, h'⟩⟩
theorem den_tup2 {η : Env} {a b : A2} {v : Value} (h : Den η (.tup [a, b]) v) : ∃ u u', v = .tuple #[u, u'] ∧ Den2 η a u ∧ Den2 η b u' := by
  obtain ⟨us, rfl, hl, ha⟩ := h
  obtain ⟨u0, g0, d0⟩ := ha 0 _ rfl
  obtain ⟨u1, g1, d1⟩ := ha 1 _ rfl
  refine ⟨u0, u1, ?_, d0, d1⟩
  match us, hl with
  | ⟨[p, q]⟩, _ => simp at g0 g1; rw [g0, g1]
theorem one_val {P : Program} {f : FuncId} {args : Array Value} {w : World} {a : Value} {outs : List (Nm × Ch)} (h : Calls P f args w fun e w' => ∃ v η ω, e = .returned v ∧ Den η (vv a) v ∧ Mem η ω w' (fun x => lk x outs) ∧ Below w.heap.size w w' ∧ ∀ b, b < w.heap.size → ω b = none) :
    Calls P f args w fun e w' => e = .returned a ∧ Below w.heap.size w w' := by
  refine h.mono ?_
  rintro e w' ⟨v, η, ω, rfl, hd, _, hb, _⟩
  have hd : v = a := hd
  subst hd
  exact ⟨rfl, hb⟩
/-- a maniplex -/
abbrev mA (R : Nat) : AV := .s (.agg [.sl 1003 0 R])
theorem denM {η : Env} {R : Nat} {u : Value} (h : Den1 η (.sl 1003 0 R) u) : Den η (mA R) (.agg #[u]) := ⟨_, rfl, rfl, fun j b hb => by
  match j, hb with
  | 0, hb => simp at hb; subst hb; exact ⟨_, by simp, h⟩⟩
/-- a list, and a list and a number -/
theorem fitS {E : Nat} {w : World} {v : Value} {zs : List Int} (h : OwS E w v zs) : zs.length ≤ 4398046511104 := by
  obtain ⟨ao, n, c, rfl, ho⟩ := h
  have := ho.len; have := ho.2
  simp at *; omega
theorem callS {f : FuncId} {outs : List (Nm × Ch)} {res : AV} {zs : List Int} (hf : zs.length ≤ 4398046511104 → FC Try.prog f [(1003, wRo zs)] [o1 (.sl 1003 0 zs.length)] outs res []) {E : Nat} {w : World} {lo hi : Nat} {v : Value} (h : OwnS E w lo hi v zs) :
    Calls Try.prog f #[v] w fun e w' => ∃ v η ω, e = .returned v ∧ Den η res v ∧ Mem η ω w' (fun x => lk x outs) ∧ Below w.heap.size w w' ∧ ∀ b, b < w.heap.size → ω b = none := by
  obtain ⟨hd, r, rfl, hv⟩ := ofS 1003 2 h.1
  exact (hf (fitS h.1)).call (l := [(1003, (wRo zs, hd, r))]) (us := [_]) (fun p hp => by simp at hp; subst hp; exact hv) rfl (denL1 (den_sl (q := (wRo zs, hd, r)) rfl))
end Go.Proofs.Ytmdhljleaijkbaa

/- Lists of lists that are read, whatever shares their rows: from words to names. -/
namespace Go.Proofs.Ytmdhljleaijkbaa
open Go.RowKit

/-- v is a slice that reads as lists of integers, each within its capacity -/
def RdSSc (w : World) (v : Value) (zss : List (List Int)) : Prop := ∃ ao c, v = .slice ao zss.length c ∧ zss.length ≤ 17592186044416 ∧ (0 < zss.length → zss.length ≤ c ∧ ∃ b off, ao = some ⟨b, off, none⟩ ∧ b < w.heap.size ∧
  ∀ j, j < zss.length → ∃ a' c', w.cell? ⟨b, off + j, none⟩ = some (.slice a' (lget zss j).length c') ∧ (lget zss j).length ≤ c' ∧ Ints w a' (lget zss j).length (lget zss j))
theorem RdSSc.rd {w : World} {v : Value} {zss : List (List Int)} (h : RdSSc w v zss) : RdSS w v zss := by
  obtain ⟨ao, c, rfl, hn, hc⟩ := h
  refine ⟨ao, _, c, rfl, rfl, hn, fun h0 => ?_⟩
  obtain ⟨_, b, off, e, _, h1⟩ := hc h0
  refine ⟨b, off, e, fun j hj => ?_⟩
  obtain ⟨a', c', h2, _, h3⟩ := h1 j hj
  exact ⟨_, h2, a', _, c', rfl, h3⟩
theorem RdSSc.below {w w' : World} {v : Value} {zss : List (List Int)} (h : RdSSc w v zss) (hb : Below w.heap.size w w') : RdSSc w' v zss := by
  obtain ⟨ao, c, rfl, hn, hc⟩ := h
  refine ⟨ao, c, rfl, hn, fun h0 => ?_⟩
  obtain ⟨h1, b, off, e, hlt, h2⟩ := hc h0
  refine ⟨h1, b, off, e, Nat.lt_of_lt_of_le hlt hb.size, fun j hj => ?_⟩
  obtain ⟨a', c', h3, h4, h5⟩ := h2 j hj
  exact ⟨a', c', (hb.cell (p := ⟨b, off + j, none⟩) hlt).trans h3, h4, h5.below hb⟩
theorem RdSSc.drewN {w : World} {v : Value} {zss : List (List Int)} (h : RdSSc w v zss) (m : Nat) : RdSSc (w.drewN m) v zss := h
theorem OwSS.rdc {E1 E : Nat} {w : World} {lo hi : Nat} {v : Value} {zss : List (List Int)} (h : OwSS E1 E w lo hi v zss) : RdSSc w v zss := by
  obtain ⟨ao, n, c, us, rfl, ho⟩ := h
  have hl := ho.len
  subst hl
  refine ⟨ao, c, rfl, by have := ho.own.2; omega, fun h0 => ?_⟩
  obtain ⟨g, rfl, _, hlt, hc, hcell, _⟩ := ho.own.form h0
  refine ⟨hc, g, 0, rfl, hlt, fun j hj => ?_⟩
  obtain ⟨u, d, hu, hd, ⟨a', n', c', rfl, h1⟩, _⟩ := ho.get hj
  have hd' : lget zss j = d := lget_get? hd
  rw [hd']
  have hl := h1.len
  rw [List.length_map] at hl
  subst hl
  refine ⟨a', c', by rw [Nat.zero_add, hcell j hj, hu], ?_, h1.ints⟩
  rcases Nat.eq_zero_or_pos d.length with h2 | h2
  · omega
  · obtain ⟨_, _, _, _, h3, _⟩ := h1.form h2; exact h3
theorem ofSSc {w : World} {v : Value} {zss : List (List Int)} (x E' E1' : Nat) (h : RdSSc w v zss) : ∃ hd r, v = .slice hd.ao zss.length hd.c ∧ Hv w x ⟨false, E', 1, .rows E1' (irows zss) []⟩ hd r := by
  obtain ⟨ao, c, rfl, hn, hc⟩ := h
  rcases Nat.eq_zero_or_pos zss.length with h0 | h0
  · refine ⟨⟨ao, c, 1⟩, fun _ => ⟨none, 0, 1⟩, rfl, fun η he => ⟨rfl, ?_, fun j hj => ?_⟩⟩
    · show (irows zss).length ≤ c * 1
      rw [irows_len]; omega
    · have hj : j < (irows zss).length := hj
      rw [irows_len] at hj; omega
  · obtain ⟨h1, b, off, rfl, hlt, h2⟩ := hc h0
    have hr : ∀ j, ∃ q : Hd, q.k = 1 ∧ (j < zss.length → w.cell? ⟨b, off + j, none⟩ = some (.slice q.ao (lget zss j).length q.c) ∧ VecR noOwn w q (ivals (lget zss j)).length fun i u => (ivals (lget zss j))[i]? = some u) := fun j => by
      by_cases hj : j < zss.length
      · obtain ⟨a', c', h3, h4, h5⟩ := h2 j hj
        refine ⟨⟨a', c', 1⟩, rfl, fun _ => ⟨h3, by rw [ivals_len]; show _ ≤ c' * 1; omega, fun i hi => ?_⟩⟩
        rw [ivals_len] at hi
        obtain ⟨b', o', e', hb', hcell⟩ := h5.all_ (by omega)
        exact ⟨b', o', I6 (iget (lget zss j) i), e', rfl, hb', hcell i hi, ivals_get hi⟩
      · exact ⟨⟨none, 0, 1⟩, rfl, fun h => absurd h hj⟩
    refine ⟨⟨some ⟨b, off, none⟩, c, 1⟩, fun j => Classical.choose (hr j), rfl, fun η he => ⟨rfl, ?_, fun j hj => ?_⟩⟩
    · show (irows zss).length ≤ c * 1
      rw [irows_len]; omega
    · have hj : j < zss.length := by have : j < (irows zss).length := hj; rwa [irows_len] at this
      obtain ⟨k1, k2⟩ := Classical.choose_spec (hr j)
      obtain ⟨k3, k4⟩ := k2 hj
      refine ⟨b, off, .slice (Classical.choose (hr j)).ao (lget zss j).length (Classical.choose (hr j)).c, rfl, rfl, hlt, k3, rfl, fun _ vs hvs => ?_⟩
      have hvd : vs = ivals (lget zss j) := by
        rw [irows_get hj] at hvs; exact (Option.some.inj hvs).symm
      subst hvd
      rw [he j]
      exact ⟨congrArg (fun m => Value.slice (Classical.choose (hr j)).ao m (Classical.choose (hr j)).c) (ivals_len _).symm, k1, k4⟩
/-- a function of a number and rows that are read -/
theorem callNR {f : FuncId} {outs : List (Nm × Ch)} {res : AV} {d : List (List Int)} {n : Int} (hf : FC Try.prog f [(1003, rowsRo d)] [vv (I6 n), o1 (.sl 1003 0 d.length)] outs res []) {w : World} {v : Value} (h : RdSSc w v d) :
    Calls Try.prog f #[.int .i64 n, v] w fun e w' => ∃ v η ω, e = .returned v ∧ Den η res v ∧ Mem η ω w' (fun x => lk x outs) ∧ Below w.heap.size w w' ∧ ∀ b, b < w.heap.size → ω b = none := by
  obtain ⟨hd, r, rfl, hv⟩ := ofSSc 1003 32 2 h
  exact hf.call (l := [(1003, (rowsRo d, hd, r))]) (us := [_, _]) (fun p hp => by simp at hp; subst hp; exact hv) rfl (denL2 rfl (den_sl (q := (rowsRo d, hd, r)) rfl))
end Go.Proofs.Ytmdhljleaijkbaa

/- Draws of maniplexes: l01Matching. guards: -/
namespace Go.Proofs.Ytmdhljleaijkbaa
open Go.RowKit

/-- a list drawn beside a source -/
structure GlS (w wx : World) (sb : Nat) (a : Option Addr) (k c N : Nat) : Prop where
  gl : Gl wx w.heap.size a k c N
  src : Src wx sb
  only : Only sb (sb + 1) w wx
theorem Gl.mono {w : World} {lo lo' k c N : Nat} {a : Option Addr} (h : Gl w lo a k c N) (hl : lo' ≤ lo) : Gl w lo' a k c N := by
  obtain ⟨zs, h1, h2, h3⟩ := h
  exact ⟨zs, h1, h2, h3.mono hl⟩
theorem only_below {sb : Nat} {w wx w2 : World} (h : Only sb (sb + 1) w wx) (b : Below wx.heap.size wx w2) : Only sb (sb + 1) w w2 := h.trans (only_of_below b)
theorem GlS.below {w wx w2 : World} {sb k c N : Nat} {a : Option Addr} (h : GlS w wx sb a k c N) (hs : sb < w.heap.size) (b : Below wx.heap.size wx w2) : GlS w w2 sb a k c N :=
  ⟨h.gl.below b, src_belowL h.src (by have := h.only.size; omega) b, only_below h.only b⟩
theorem draw_any (sb m : Nat) (w : World) (h : Src w sb) (hsb : sb < w.heap.size) (hm : m ≤ 1000) :
    Calls Try.prog 88 #[.pointer (some ⟨sb, 0, none⟩), .int .i64 m] w fun e w' => ∃ (ao : Option Addr) (c : Nat), e = .returned (.slice ao m c) ∧ GlS w w' sb ao m c m := by
  refine (perm_any sb m w h hsb hm).mono ?_
  rintro e w' ⟨ao, c, zs, rfl, h1, h2, h3, h4, h5⟩
  exact ⟨ao, c, rfl, ⟨zs, h1, h2, h3⟩, h4, h5⟩
set_option maxRecDepth 100000 in
set_option maxHeartbeats 6400000 in
theorem matching_any (sb m : Nat) (w : World) (h : Src w sb) (hsb : sb < w.heap.size) (hm : m ≤ 1000) (hm1 : 1 ≤ m) :
    Calls Try.prog 116 #[.pointer (some ⟨sb, 0, none⟩), .int .i64 m] w fun e w' => ∃ (ao : Option Addr) (c : Nat), e = .returned (.slice ao m c) ∧ GlS w w' sb ao m c m := by
  have HMK := Lib.hid (run_mk etI .i64 .i64 (m : Int) m rfl (by omega))
  have HS := Lib.hid h
  clear h
  go_enter Try.func116, Try.ntmps116
  go_upto_region 1 with fail
  go_cut [5, 6] (fun s5 s6 wx => ∃ (a : Option Addr) (c g : Nat), s5 = .slice a m c ∧ s6 = .slice (some ⟨g, 0, none⟩) m m ∧ GlS w wx sb a m c m ∧ Gl wx w.heap.size (some ⟨g, 0, none⟩) m m m ∧ Ap a (some ⟨g, 0, none⟩))
  case first =>
    have hmk := HMK.out
    go_region_law (go_simp; go_at_call 88; first | (refine (draw_any sb m _ (src_belowL HS.out hsb (below_drew1 w)) hsb hm).mono ?_; rintro e w3 ⟨a, c, rfl, g3⟩) | (refine (draw_any sb m _ (src_belowL HS.out hsb ((below_drew1 w).alloc (Nat.le_refl _) _)) (by simp; omega) hm).mono ?_; rintro e w3 ⟨a, c, rfl, g3⟩))
    all_goals go_wp2_with fail
    all_goals go_meet
    · have o1 := own_made etI (w := w3) (base := w.heap.size) (n := m) (g := w3.heap.size) rfl (by omega) (by have := g3.only.size; exact this)
      have g1 : GlS w w3 sb a m c m := ⟨g3.gl, g3.src, (only_of_below (below_drew1 w)).trans g3.only⟩
      have g2 := g1.below hsb (below_alloc1 w3 (.cells (madeCells #[.int .i64 0] m) 2))
      have gm : Gl (w3.alloc (.cells (madeCells #[.int .i64 0] m) 2)) w.heap.size (some ⟨w3.heap.size, 0, none⟩) m m m := gl_made (w := w3) g1.only.size rfl (by omega) (by omega) o1
      exact ⟨a, c, w3.heap.size, rfl, rfl, g2, gm, fun g e e' => by have := (g1.gl.lt g e).2; simp [bk] at e'; omega⟩
    · have o1 := own_made etI (w := w.drew) (base := w.heap.size) (n := m) (g := w.heap.size) rfl (by omega) (Nat.le_refl _)
      have gm : Gl (w.drew.alloc (.cells (madeCells #[.int .i64 0] m) 2)) w.heap.size (some ⟨w.heap.size, 0, none⟩) m m m := gl_made (w := w) (Nat.le_refl _) rfl (by omega) (by omega) o1
      have hsz : (w.drew.alloc (.cells (madeCells #[.int .i64 0] m) 2)).heap.size = w.heap.size + 1 := by simp
      have g1 : GlS w w3 sb a m c m := ⟨g3.gl.mono (by omega), g3.src, (only_of_below ((below_drew1 w).alloc (Nat.le_refl _) _)).trans g3.only⟩
      exact ⟨a, c, w.heap.size, rfl, rfl, g1, gm.only g3.only hsb, fun g e e' => by have := (g3.gl.lt g e).1; simp [bk] at e'; omega⟩
  case rest =>
    obtain ⟨a, c, g, rfl, rfl, gs, gm, hap⟩ := hcut
    have GS := Lib.hid gs
    clear HMK HS gs
    go_wp2_with fail
    go_loopw [7] (fun s7 wr => ∃ i : Nat, s7 = .int .i64 i ∧ i ≤ m + 1 ∧ GlS w wr sb a m c m ∧ Gl wr w.heap.size (some ⟨g, 0, none⟩) m m m) (fun s7 _ => m - (intOf s7).toNat)
    case atStart => exact ⟨0, rfl, by omega, GS.out, gm⟩
    case round =>
      clear gm GS
      obtain ⟨i, rfl, hi, gs, gm⟩ := hrel
      by_cases hlt : i + 1 < m
      · have hiw : IntKind.i64.wrap ((i : Int) + 1) = (i : Int) + 1 := IntWalk.i64_in _ (by omega)
        have hiw2 : IntKind.i64.wrap ((i : Int) + 2) = (i : Int) + 2 := IntWalk.i64_in _ (by omega)
        have hii : (i : Int) + 1 < (m : Int) := by omega
        have hi0 : (i : Int) < (m : Int) := by omega
        have hi1 : (0 : Int) ≤ (i : Int) + 1 := by omega
        have hi2 : ((i : Int) + 1).toNat = i + 1 := by omega
        obtain ⟨ga, x, rfl, hx, hcx, hfx, hlx, hhx⟩ := gs.gl.cell (show i < m by omega)
        obtain ⟨ga', y, e, hy, hcy, hfy, -, -⟩ := gs.gl.cell hlt
        injection e with e; injection e with e; subst e
        obtain ⟨g', u, e, hu, hcu, hfu, hlu, hhu⟩ := gm.cell hx
        injection e with e; injection e with e; subst e
        have hne : ga ≠ g := fun e => hap ga rfl (by rw [e]; rfl)
        obtain ⟨p1, q1⟩ := gm.put x (y := (y : Int)) (by omega)
        have gs1 : GlS w (wr.setCell ⟨g, x, none⟩ (.int .i64 (y : Int))) sb (some ⟨ga, 0, none⟩) m c m := ⟨gs.gl.side (a := some ⟨g, 0, none⟩) q1 hap.symm, src_farL gs.src fun h hh => Below.heap_setCell _ _ _ h (by show h ≠ g; omega), only_grown gs.only q1 (fun h e => by injection e with e; omega)⟩
        have hcx1 : (wr.setCell ⟨g, x, none⟩ (.int .i64 (y : Int))).cell? ⟨ga, i, none⟩ = some (.int .i64 x) := (World.cell?_of_block (Below.heap_setCell _ _ _ ga (by show ga ≠ g; omega))).trans hcx
        have hcy1 : (wr.setCell ⟨g, x, none⟩ (.int .i64 (y : Int))).cell? ⟨ga, i + 1, none⟩ = some (.int .i64 y) := (World.cell?_of_block (Below.heap_setCell _ _ _ ga (by show ga ≠ g; omega))).trans hcy
        obtain ⟨g', u2, e, hu2, hcu2, hfu2, -, -⟩ := p1.cell hy
        injection e with e; injection e with e; subst e
        obtain ⟨p2, q2⟩ := p1.put y (y := (x : Int)) (by omega)
        have gs2 : GlS w ((wr.setCell ⟨g, x, none⟩ (.int .i64 (y : Int))).setCell ⟨g, y, none⟩ (.int .i64 (x : Int))) sb (some ⟨ga, 0, none⟩) m c m := ⟨gs1.gl.side (a := some ⟨g, 0, none⟩) q2 hap.symm, src_farL gs1.src fun h hh => Below.heap_setCell _ _ _ h (by show h ≠ g; omega), only_grown gs1.only q2 (fun h e => by injection e with e; omega)⟩
        have P2 := Lib.hid p2
        have GS2 := Lib.hid gs2
        have hxi : (x : Int) < (m : Int) := by omega
        have hyi : (y : Int) < (m : Int) := by omega
        clear gs gm p1 q1 gs1 p2 q2 gs2
        go_upto_region 5 with fail
        go_region_law (fail)
        all_goals
          go_upto_region 6 with fail
          go_region_law (fail)
        all_goals
          go_wp2_with fail
          go_roundw
        all_goals first | exact ⟨i + 2, by go_num, by omega, GS2.out.below hsb ((below_drew1 _).drew), P2.out⟩ | (simp [intOf]; omega)
      · have hii : ¬ (i : Int) + 1 < (m : Int) := by omega
        have hiw : IntKind.i64.wrap ((i : Int) + 1) = (i : Int) + 1 := IntWalk.i64_in _ (by omega)
        go_wp2_with fail
        go_ret
        exact ⟨some ⟨g, 0, none⟩, m, rfl, gm, gs.src, gs.only⟩
end Go.Proofs.Ytmdhljleaijkbaa

/- The laws' helpers on []int64 in the words of Nest. -/
namespace Go.Proofs.Ytmdhljleaijkbaa
open Go.RowKit

end Go.Proofs.Ytmdhljleaijkbaa

/- The laws' helpers on [][]int64. -/
namespace Go.Proofs.Ytmdhljleaijkbaa
open Go.RowKit

theorem etSS : ET Try.prog 26 32 (.slice none 0 0) 24 := ⟨Try.underlying26, by kernel_rfl, rfl, by omega⟩

end Go.Proofs.Ytmdhljleaijkbaa

/- WithRelators, the reference's parts: l01Own, l01Own2, l11Code. -/
namespace Go.Proofs.Ytmdhljleaijkbaa
open Go.RowKit

/-- a list of the call's own, just made, is laid at the end of a row of lists -/
theorem rows_push2 {T1 E lo : Nat} {wr w2 w3 w4 : World} {ao ao' ao2 : Option Addr} {m c n' c' c2 : Nat} {us : List Value} {ds : List (List Int)} {zs : List Int}
    (hR : OwR (OwS T1) wr lo wr.heap.size E ao m c us ds) (hlo : lo ≤ wr.heap.size) (hb : Below wr.heap.size wr w2) (hu : Own w2 wr.heap.size T1 ao' n' c' (zs.map (Value.int .i64))) (hb3 : Below w2.heap.size w2 w3)
    (hown : Own w4 lo E ao2 (m + 1) c2 (us ++ [.slice ao' n' c'])) (hg : w3.grownBy w4 (bk ao)) (hat : bk ao2 = bk ao ∨ ∃ g, bk ao2 = some g ∧ w2.heap.size ≤ g) :
    OwR (OwS T1) w4 lo w4.heap.size E ao2 (m + 1) c2 (us ++ [.slice ao' n' c']) (ds ++ [zs]) := by
  have hR3 : OwR (OwS T1) w3 lo wr.heap.size E ao m c us ds := hR.below (innerS _) (hb.trans (hb3.mono hb.size))
  have s1 := hb.size
  have s2 := hb3.size
  have s3 := hg.size
  have hub : ∀ g, bk ao' = some g → wr.heap.size ≤ g ∧ g < w2.heap.size := hu.lt
  have hne : ∀ g, bk ao' = some g → bk ao ≠ some g := fun g h1 h2 => by have := hub g h1; have := hR.top g h2; omega
  have hu4 : OwS T1 w4 (.slice ao' n' c') zs := (innerS T1).loc (w := w2) ⟨ao', n', c', rfl, hu.mono (Nat.zero_le _)⟩ fun g h => by
    rw [ownBlock_slice] at h
    have := hub g h
    rw [hg.block g (by omega) (fun e => hne g h e.symm)]
    exact hb3.block g this.2
  refine hR3.push (innerS _) hown hg hu4 (in_slice fun g h => ⟨by have := hub g h; omega, by have := hub g h; omega⟩) (fun g h => (hown.lt g h).2) (by omega) ?_ ?_
  · intro g h
    rcases hat with h1 | ⟨g1, h1, h5⟩
    · exact .inl (h1 ▸ h)
    · refine .inr fun j u hj e => ?_
      rw [h1] at h; obtain rfl := Option.some.inj h
      have := (hR3.rng j u hj _ e).2
      omega
  · intro g h
    rw [ownBlock_slice] at h
    have hh := hub g h
    refine ⟨fun e => ?_, fun j v hj e => ?_⟩
    · rcases hat with h1 | ⟨g1, h1, h5⟩
      · exact hne g h (h1 ▸ e)
      · rw [h1] at e; have := Option.some.inj e; omega
    · have := (hR3.rng j v hj _ e).2; omega
end Go.Proofs.Ytmdhljleaijkbaa

/- A maniplex that grows, row by row, in a box of its own. -/
namespace Go.Proofs.Ytmdhljleaijkbaa
open Go.RowKit

/-- the box (bx), its rows from block lo on -/
structure MBx (w wr : World) (bx lo : Nat) (ao : Option Addr) (m c : Nat) (us : List Value) (ds : List (List Int)) : Prop where
  box : Blk wr bx 28 #[.slice ao m c]
  row : OwR (OwS 2) wr lo wr.heap.size 32 ao m c us ds
  at_ : w.heap.size ≤ bx ∧ bx < lo ∧ lo ≤ wr.heap.size
  bel : Below w.heap.size w wr
  few : m ≤ 1000
theorem own_nilMx {E1 E : Nat} {w : World} {lo hi : Nat} : OwM E1 E w lo hi (.agg #[.slice none 0 0]) [] := ⟨none, 0, 0, [], rfl, OwR.empty_ (Own.nil_ _ _ _) (fun g hg => by cases hg)⟩
section
variable {w wr w2 w3 w4 : World} {bx lo m c n1 c1 c2 : Nat} {ao a1 ao2 : Option Addr} {us : List Value} {ds : List (List Int)} {zs : List Int}
theorem MBx.below (st : MBx w wr bx lo ao m c us ds) (b : Below wr.heap.size wr w2) : MBx w w2 bx lo ao m c us ds := by
  obtain ⟨h1, h2, h3⟩ := st.at_
  have s := b.size
  exact ⟨st.box.belowS b, (st.row.below (innerS _) b).mono (Nat.le_refl _) s, ⟨h1, h2, by omega⟩, st.bel.trans (b.mono (by omega)), st.few⟩
theorem MBx.start (hb : Below w.heap.size w wr) (k : Blk wr bx 28 #[.slice none 0 0]) (h1 : w.heap.size ≤ bx) : MBx w wr bx (bx + 1) none 0 0 [] [] := by
  have hl := k.lt
  exact ⟨k, OwR.empty_ (Own.nil_ _ _ _) (fun g hg => by cases hg), ⟨h1, by omega, by omega⟩, hb, by omega⟩
theorem MBx.boxG (st : MBx w wr bx lo ao m c us ds) (hg : wr.grownBy w4 (bk ao)) : Blk w4 bx 28 #[.slice ao m c] := by
  obtain ⟨h1, h2, h3⟩ := st.at_
  unfold Blk
  rw [hg.block bx st.box.lt (fun e => by have := (st.row.own.lt _ e.symm).1; omega)]
  exact st.box
/-- a row is laid behind the others -/
theorem MBx.push (st : MBx w wr bx lo ao m c us ds) (hm : m + 1 ≤ 1000) (b2 : Below wr.heap.size wr w2) (o1 : Own w2 wr.heap.size 2 a1 n1 c1 (zs.map (Value.int .i64))) (b3 : Below w2.heap.size w2 w3) (o4 : Own w4 lo 32 ao2 (m + 1) c2 (us ++ [.slice a1 n1 c1]))
    (g4 : w3.grownBy w4 (bk ao)) (hat : bk ao2 = bk ao ∨ ∃ g, bk ao2 = some g ∧ w2.heap.size ≤ g) :
    MBx w (w4.setCell ⟨bx, 0, none⟩ (.slice ao2 (m + 1) c2)) bx lo ao2 (m + 1) c2 (us ++ [.slice a1 n1 c1]) (ds ++ [zs]) := by
  obtain ⟨h1, h2, h3⟩ := st.at_
  have hR := rows_push2 st.row h3 b2 o1 b3 o4 g4 hat
  have s2 := b2.size
  have s3 := b3.size
  have s4 := g4.size
  have hbx := st.box.lt
  have B4 : Below w.heap.size w w4 := (st.bel.trans ((b2.trans (b3.mono s2)).mono (by omega))).grown g4 (by omega) (fun g hg => by have := (st.row.own.lt g hg).1; omega)
  have hh : (w4.setCell ⟨bx, 0, none⟩ (.slice ao2 (m + 1) c2)).heap.size = w4.heap.size := by simp [World.setCell]
  have k : ∀ g, g < wr.heap.size → bk ao ≠ some g → w4.heap[g]? = wr.heap[g]? := fun g hg hne => by
    rw [g4.block g (by omega) (fun e => hne e.symm), b3.block g (by omega), b2.block g hg]
  refine ⟨?_, ?_, ⟨h1, h2, by rw [hh]; omega⟩, B4.setCell (by simp; omega) _, hm⟩
  · have : Blk w4 bx 28 #[.slice ao m c] := by unfold Blk; rw [k bx hbx (fun e => by have := (st.row.own.lt _ e).1; omega)]; exact st.box
    simpa using this.set_ 0 (.slice ao2 (m + 1) c2)
  · rw [hh]
    exact hR.same (innerS _) fun g h1 _ _ => Below.heap_setCell _ _ _ _ (by simp; omega)
theorem MBx.done (st : MBx w wr bx lo ao m c us ds) {p : Addr} (hp : p.block < bx) (u : Value) {lo' : Nat} (hl : lo' ≤ w.heap.size) : OwM 2 32 (wr.setCell p u) lo' (wr.setCell p u).heap.size (.agg #[.slice ao m c]) ds := by
  obtain ⟨h1, h2, h3⟩ := st.at_
  have hh : (wr.setCell p u).heap.size = wr.heap.size := by simp [World.setCell]
  refine ⟨ao, m, c, us, rfl, ?_⟩
  rw [hh]
  exact (st.row.same (innerS _) fun g h1 _ _ => Below.heap_setCell _ _ _ _ (by omega)).mono (by omega) (Nat.le_refl _)
theorem MBx.cell (st : MBx w wr bx lo ao m c us ds) : wr.cell? ⟨bx, 0, none⟩ = some (.slice ao m c) := by
  have := st.box.cell 0
  simpa using this
end
end Go.Proofs.Ytmdhljleaijkbaa

/- Cosets that some generators lead to, and the first fault of intersections, on lists. No program in sight. -/
namespace Go.Proofs.Ytmdhljleaijkbaa

/-- whether a mask holds a generator -/
def mBit (mask g : Nat) : Bool := mask / 2 ^ g % 2 == 1
/-- which are met, the queue -/
abbrev MSt := List Bool × List Int
def mStep (T : List (List Int)) (mask c : Nat) (s : MSt) (g : Nat) : MSt := if mBit mask g = true ∧ bat s.1 (bTo T c g) = false then (s.1.set (bTo T c g) true, s.2 ++ [(bTo T c g : Int)]) else s
def mRow (T : List (List Int)) (mask ng c : Nat) (s : MSt) : MSt := (List.range ng).foldl (mStep T mask c) s
def mLoop (T : List (List Int)) (mask ng : Nat) : Nat → Nat → MSt → MSt
  | 0, _, s => s
  | f + 1, i, s => if i < s.2.length then mLoop T mask ng f (i + 1) (mRow T mask ng (iget s.2 i).toNat s) else s
def mStart (n : Nat) : MSt := ((List.replicate n false).set 0 true, [0])
def mem (T : List (List Int)) (ng n mask : Nat) : MSt := mLoop T mask ng (n + 1) 0 (mStart n)
structure MOK (n : Nat) (s : MSt) : Prop where
  l : s.1.length = n
  q : ∀ k, k < s.2.length → ∃ d : Nat, iget s.2 k = (d : Int) ∧ d < n ∧ bat s.1 d = true
  cnt : bcnt s.1 = s.2.length
  cov : ∀ d, d < n → bat s.1 d = true → ∃ k, k < s.2.length ∧ iget s.2 k = (d : Int)
theorem MOK.le {n : Nat} {s : MSt} (h : MOK n s) : s.2.length ≤ n := by
  have := bcnt_le s.1; rw [h.cnt, h.l] at this; exact this
structure MGrow (s s' : MSt) : Prop where
  len : s.2.length ≤ s'.2.length
  pre : ∀ k, k < s.2.length → iget s'.2 k = iget s.2 k
  met : ∀ d, bat s.1 d = true → bat s'.1 d = true
theorem MGrow.refl (s : MSt) : MGrow s s := ⟨Nat.le_refl _, fun _ _ => rfl, fun _ h => h⟩
theorem MGrow.trans {a b c : MSt} (h : MGrow a b) (k : MGrow b c) : MGrow a c :=
  ⟨Nat.le_trans h.len k.len, fun i hi => (k.pre i (Nat.lt_of_lt_of_le hi h.len)).trans (h.pre i hi), fun d hd => k.met d (h.met d hd)⟩
section
variable {T : List (List Int)} {ng n mask : Nat}
theorem mStep_grow (s : MSt) (c g : Nat) : MGrow s (mStep T mask c s g) := by
  unfold mStep
  split
  · refine ⟨by simp, fun k hk => iget_app_lt hk, fun d hd => ?_⟩
    dsimp only
    rw [bat_set]
    split
    · rfl
    · exact hd
  · exact MGrow.refl s
theorem mStep_ok {s : MSt} {c g : Nat} (h : MOK n s) (hd : bTo T c g < n) : MOK n (mStep T mask c s g) := by
  unfold mStep
  generalize bTo T c g = d at *
  split
  · rename_i hm
    have hm := hm.2
    refine ⟨by rw [List.length_set]; exact h.l, fun k hk => ?_, ?_, fun e he hb => ?_⟩
    · dsimp only at hk ⊢
      by_cases e : k < s.2.length
      · obtain ⟨d', h1, h2, h3⟩ := h.q k e
        refine ⟨d', by rw [iget_app_lt e]; exact h1, h2, ?_⟩
        rw [bat_set]; split
        · rfl
        · exact h3
      · obtain rfl : k = s.2.length := by simp at hk; omega
        exact ⟨d, iget_app_eq, hd, by rw [bat_set, if_pos ⟨rfl, by rw [h.l]; exact hd⟩]⟩
    · dsimp only; rw [bcnt_set _ _ (by rw [h.l]; exact hd) hm, h.cnt]; simp
    · dsimp only at hb ⊢
      by_cases e2 : d = e
      · subst e2; exact ⟨s.2.length, by simp, iget_app_eq⟩
      · rw [bat_set, if_neg (fun h => e2 h.1)] at hb
        obtain ⟨k, h1, h2⟩ := h.cov e he hb
        exact ⟨k, by rw [List.length_append]; omega, by rw [iget_app_lt h1]; exact h2⟩
  · exact h
theorem mStep_met {s : MSt} {c g : Nat} (h : MOK n s) (hd : bTo T c g < n) (hb : mBit mask g = true) : bat (mStep T mask c s g).1 (bTo T c g) = true := by
  unfold mStep
  cases hm : bat s.1 (bTo T c g) with
  | false => rw [if_pos ⟨hb, rfl⟩]; dsimp only; rw [bat_set, if_pos ⟨rfl, by rw [h.l]; exact hd⟩]
  | true => rw [if_neg (fun h => by cases h.2)]; exact hm
theorem mRow_ok (hT : Leads T n) (hng : T.length = ng) {c : Nat} (hc : c < n) {s : MSt} (h : MOK n s) : ∀ m, m ≤ ng → MOK n ((List.range m).foldl (mStep T mask c) s) ∧ MGrow s ((List.range m).foldl (mStep T mask c) s) ∧ ∀ g, g < m → mBit mask g = true → bat ((List.range m).foldl (mStep T mask c) s).1 (bTo T c g) = true
  | 0, _ => ⟨h, MGrow.refl s, fun g hg => by omega⟩
  | m + 1, hm => by
    obtain ⟨h1, h2, h3⟩ := mRow_ok hT hng hc h m (by omega)
    rw [List.range_succ, List.foldl_append]
    generalize (List.range m).foldl (mStep T mask c) s = t at *
    have hd := (bTo_lt hT hc (g := m) (by omega)).1
    refine ⟨mStep_ok h1 hd, h2.trans (mStep_grow t c m), fun g hg hb => ?_⟩
    show bat (mStep T mask c t m).1 (bTo T c g) = true
    by_cases e : g = m
    · subst e; exact mStep_met h1 hd hb
    · exact (mStep_grow t c m).met _ (h3 g (by omega) hb)
def MSeen (T : List (List Int)) (mask ng i : Nat) (s : MSt) : Prop := ∀ k, k < i → ∀ g, g < ng → mBit mask g = true → bat s.1 (bTo T (iget s.2 k).toNat g) = true
theorem mLoop_step {f i : Nat} {s : MSt} (h : i < s.2.length) : mLoop T mask ng (f + 1) i s = mLoop T mask ng f (i + 1) (mRow T mask ng (iget s.2 i).toNat s) := by rw [mLoop, if_pos h]
theorem mLoop_ok (hT : Leads T n) (hng : T.length = ng) : ∀ (f i : Nat) (s : MSt), MOK n s → MOK n (mLoop T mask ng f i s) ∧ MGrow s (mLoop T mask ng f i s)
  | 0, _, s, h => ⟨h, MGrow.refl s⟩
  | f + 1, i, s, h => by
    unfold mLoop
    split
    · rename_i hi
      obtain ⟨d, h1, h2, _⟩ := h.q i hi
      obtain ⟨k1, k2, _⟩ := mRow_ok (mask := mask) hT hng (c := (iget s.2 i).toNat) (by omega) h ng (Nat.le_refl _)
      obtain ⟨m1, m2⟩ := mLoop_ok hT hng f (i + 1) _ k1
      exact ⟨m1, k2.trans m2⟩
    · exact ⟨h, MGrow.refl s⟩
theorem mLoop_seen (hT : Leads T n) (hng : T.length = ng) : ∀ (f i : Nat) (s : MSt), MOK n s → MSeen T mask ng i s → i ≤ s.2.length → n + 1 ≤ f + i → MSeen T mask ng (mLoop T mask ng f i s).2.length (mLoop T mask ng f i s)
  | 0, i, s, h, hs, hi, hf => by have := h.le; omega
  | f + 1, i, s, h, hs, hi, hf => by
    unfold mLoop
    split
    · rename_i hlt
      obtain ⟨d, h1, h2, _⟩ := h.q i hlt
      obtain ⟨k1, k2, k3⟩ := mRow_ok (mask := mask) hT hng (c := (iget s.2 i).toNat) (by omega) h ng (Nat.le_refl _)
      refine mLoop_seen hT hng f (i + 1) _ k1 (fun k hk g hg hb => ?_) (Nat.le_trans hlt k2.len) (by omega)
      have e : iget (mRow T mask ng (iget s.2 i).toNat s).2 k = iget s.2 k := k2.pre k (by omega)
      rw [e]
      by_cases e2 : k = i
      · subst e2; exact k3 g hg hb
      · exact k2.met _ (hs k (by omega) g hg hb)
    · obtain rfl : i = s.2.length := by omega
      exact hs
/-- what is closed holds all that is met -/
theorem mLoop_in (hT : Leads T n) (hng : T.length = ng) {p : Nat → Prop} (hp : ∀ c, c < n → p c → ∀ g, g < ng → mBit mask g = true → p (bTo T c g)) : ∀ (f i : Nat) (s : MSt), MOK n s → (∀ d, d < n → bat s.1 d = true → p d) → ∀ d, d < n → bat (mLoop T mask ng f i s).1 d = true → p d
  | 0, _, s, _, hs => hs
  | f + 1, i, s, h, hs => by
    unfold mLoop
    split
    · rename_i hlt
      obtain ⟨c, h1, h2, h3⟩ := h.q i hlt
      have hpc := hs c h2 h3
      rw [h1, Int.toNat_natCast]
      obtain ⟨k1, _, _⟩ := mRow_ok (mask := mask) hT hng h2 h ng (Nat.le_refl _)
      refine mLoop_in hT hng hp f (i + 1) _ k1 ?_
      have key : ∀ m, m ≤ ng → ∀ d, d < n → bat ((List.range m).foldl (mStep T mask c) s).1 d = true → p d := by
        intro m
        induction m with
        | zero => intro _; exact hs
        | succ m ih =>
          intro hm d hd hb
          rw [List.range_succ, List.foldl_append] at hb
          have hb : bat (mStep T mask c ((List.range m).foldl (mStep T mask c) s) m).1 d = true := hb
          unfold mStep at hb
          split at hb
          · rename_i hc
            dsimp only at hb
            rw [bat_set] at hb
            split at hb
            · rename_i e; rw [← e.1]; exact hp c h2 hpc m (by omega) hc.1
            · exact ih (by omega) d hd hb
          · exact ih (by omega) d hd hb
      exact key ng (Nat.le_refl _)
    · exact hs
end
end Go.Proofs.Ytmdhljleaijkbaa

/- Orbits and their numbers, on lists. No program in sight. -/
namespace Go.Proofs.Ytmdhljleaijkbaa

theorem mBit_all {ng g : Nat} (h : g < ng) : mBit (2 ^ ng - 1) g = true := by
  have : mBit (2 ^ ng - 1) g = (2 ^ ng - 1).testBit g := by
    unfold mBit; rw [Nat.testBit_eq_decide_div_mod_eq]; rfl
  rw [this, Nat.testBit_two_pow_sub_one]; simpa using h
/-- a step of the search for an orbit -/
def oStep (T : List (List Int)) (c : Nat) (s : MSt) (g : Nat) : MSt := if bat s.1 (bTo T c g) = false then (s.1.set (bTo T c g) true, s.2 ++ [(bTo T c g : Int)]) else s
theorem oStep_eq {T : List (List Int)} {ng g : Nat} (h : g < ng) (c : Nat) (s : MSt) : mStep T (2 ^ ng - 1) c s g = oStep T c s g := by
  unfold mStep oStep
  simp only [mBit_all h, true_and]
def oStart (n c : Nat) : MSt := ((List.replicate n false).set c true, [(c : Int)])
/-- the points to which lists lead a point, as they are met -/
def orb (T : List (List Int)) (n c : Nat) : MSt := mLoop T (2 ^ T.length - 1) T.length (n + 1) 0 (oStart n c)
theorem oStart_bat {n c d : Nat} (hd : d < n) : bat (oStart n c).1 d = true ↔ d = c := by
  show bat ((List.replicate n false).set c true) d = true ↔ _
  rw [bat_set]
  constructor
  · intro h
    split at h
    · rename_i e; exact e.1.symm
    · simp [bat, hd] at h
  · rintro rfl; rw [if_pos ⟨rfl, by simpa using hd⟩]
theorem oStart_ok {n c : Nat} (hc : c < n) : MOK n (oStart n c) := by
  refine ⟨by simp [oStart], fun k hk => ?_, ?_, fun d hd hb => ?_⟩
  · obtain rfl : k = 0 := by simp [oStart] at hk; omega
    exact ⟨c, rfl, hc, (oStart_bat hc).2 rfl⟩
  · show bcnt ((List.replicate n false).set c true) = 1
    rw [bcnt_set _ _ (by simpa using hc) (by simp [bat, hc])]
    simp [bcnt]
  · rw [oStart_bat hd] at hb; subst hb; exact ⟨0, by simp [oStart], rfl⟩
section
variable {T : List (List Int)} {n : Nat}
theorem orb_ok (hT : Leads T n) {c : Nat} (hc : c < n) : MOK n (orb T n c) := (mLoop_ok hT rfl _ _ _ (oStart_ok hc)).1
/-- whether lists lead a point to another one -/
def rch (T : List (List Int)) (n c d : Nat) : Bool := bat (orb T n c).1 d
theorem rch_refl (hT : Leads T n) {c : Nat} (hc : c < n) : rch T n c c = true := (mLoop_ok hT rfl _ _ _ (oStart_ok hc)).2.met c ((oStart_bat hc).2 rfl)
theorem rch_on (hT : Leads T n) {c d g : Nat} (hc : c < n) (hd : d < n) (h : rch T n c d = true) (hg : g < T.length) : rch T n c (bTo T d g) = true := by
  have hs := mLoop_seen (mask := 2 ^ T.length - 1) hT rfl (n + 1) 0 _ (oStart_ok hc) (fun k hk => by omega) (Nat.zero_le _) (by omega)
  obtain ⟨k, k1, k2⟩ := (orb_ok hT hc).cov d hd h
  have := hs k k1 g hg (mBit_all hg)
  have e : iget (mLoop T (2 ^ T.length - 1) T.length (n + 1) 0 (oStart n c)).2 k = (d : Int) := k2
  rw [e, Int.toNat_natCast] at this
  exact this
theorem rch_in (hT : Leads T n) {c : Nat} (hc : c < n) {p : Nat → Prop} (h0 : p c) (hp : ∀ d, d < n → p d → ∀ g, g < T.length → p (bTo T d g)) : ∀ d, d < n → rch T n c d = true → p d :=
  mLoop_in (mask := 2 ^ T.length - 1) hT rfl (fun d hd hpd g hg _ => hp d hd hpd g hg) (n + 1) 0 (oStart n c) (oStart_ok hc) fun d hd hb => by rw [oStart_bat hd] at hb; subst hb; exact h0
theorem rch_trans (hT : Leads T n) {c d e : Nat} (hc : c < n) (hd : d < n) (he : e < n) (h1 : rch T n c d = true) (h2 : rch T n d e = true) : rch T n c e = true :=
  rch_in (p := fun e => rch T n c e = true) hT hd h1 (fun e he h g hg => rch_on hT hc he h hg) e he h2
/-- each list leads back what it leads -/
def Back2 (T : List (List Int)) (n : Nat) : Prop := ∀ g, g < T.length → ∀ c, c < n → bTo T (bTo T c g) g = c
theorem rch_symm (hT : Leads T n) (hb : Back2 T n) {c d : Nat} (hc : c < n) (hd : d < n) (h : rch T n c d = true) : rch T n d c = true :=
  rch_in (p := fun d => rch T n d c = true) hT hc (rch_refl hT hc) (fun e he h g hg => by
    have h1 := (bTo_lt hT he hg).1
    have h2 := rch_on hT h1 h1 (rch_refl hT h1) hg
    rw [hb g hg e he] at h2
    exact rch_trans hT h1 he hc h2 h) d hd h

/-- who is reached reaches back -/
def SymR (T : List (List Int)) (n : Nat) : Prop := ∀ c d, c < n → d < n → rch T n c d = true → rch T n d c = true
theorem Back2.sym (hT : Leads T n) (hb : Back2 T n) : SymR T n := fun _ _ hc hd h => rch_symm hT hb hc hd h
theorem bcnt_full : ∀ {l : List Bool}, bcnt l = l.length → ∀ d, d < l.length → bat l d = true
  | [], _, d, hd => by simp at hd
  | b :: r, h, d, hd => by
    have hr := bcnt_le r
    have hb : b = true ∧ bcnt r = r.length := by
      unfold bcnt at h hr ⊢
      rw [List.filter_cons] at h
      split at h
      · rename_i hb; exact ⟨hb, by simpa using h⟩
      · simp at h; omega
    cases d with
    | zero => exact hb.1
    | succ d => exact bcnt_full hb.2 d (by simpa using hd)
theorem bcnt_all : ∀ {l : List Bool}, (∀ d, d < l.length → bat l d = true) → bcnt l = l.length
  | [], _ => rfl
  | b :: r, h => by
    have h0 : b = true := h 0 (by simp)
    have h1 := bcnt_all (l := r) fun d hd => h (d + 1) (by simpa using hd)
    unfold bcnt at h1 ⊢
    rw [List.filter_cons, if_pos h0]; simp [h1]
/-- the orbit is everything exactly if every point is met -/
theorem orb_full (hT : Leads T n) {c : Nat} (hc : c < n) : (orb T n c).2.length = n ↔ ∀ d, d < n → rch T n c d = true := by
  have h := orb_ok hT hc
  rw [← h.cnt]
  constructor
  · intro e d hd; exact bcnt_full (by rw [h.l]; exact e) d (by rw [h.l]; exact hd)
  · intro e; rw [bcnt_all (fun d hd => e d (by rw [h.l] at hd; exact hd)), h.l]

/-- the numbers of orbits, and how many there are -/
abbrev LSt := List Int × Nat
def labSet (T : List (List Int)) (n i : Nat) (s : LSt) : LSt := ((List.range n).map fun d => if rch T n i d then (s.2 : Int) else iget s.1 d, s.2 + 1)
def labStep (T : List (List Int)) (n : Nat) (s : LSt) (i : Nat) : LSt := if 0 ≤ iget s.1 i then s else labSet T n i s
def labStart (n : Nat) : LSt := (List.replicate n (-1), 0)
def labTo (T : List (List Int)) (n i : Nat) : LSt := (List.range i).foldl (labStep T n) (labStart n)
def labs (T : List (List Int)) (n : Nat) : LSt := labTo T n n
theorem labTo_succ (i : Nat) : labTo T n (i + 1) = labStep T n (labTo T n i) i := by unfold labTo; rw [List.range_succ, List.foldl_append]; rfl
theorem labSet_get {i d : Nat} {s : LSt} (hd : d < n) : iget (labSet T n i s).1 d = if rch T n i d then (s.2 : Int) else iget s.1 d := by simp [labSet, iget, hd]
theorem labSet_len {i : Nat} {s : LSt} : (labSet T n i s).1.length = n := by simp [labSet]
structure LOK (T : List (List Int)) (n i : Nat) (s : LSt) : Prop where
  len : s.1.length = n
  met : ∀ d, d < n → (0 ≤ iget s.1 d ↔ ∃ c, c < i ∧ rch T n c d = true)
  low : ∀ d, d < n → -1 ≤ iget s.1 d ∧ iget s.1 d < s.2
theorem labTo_okS (hT : Leads T n) (hb : SymR T n) : ∀ i, i ≤ n → LOK T n i (labTo T n i)
  | 0, _ => ⟨by simp [labTo, labStart], fun d hd => ⟨fun h => by simp [labTo, labStart, iget, hd] at h, fun ⟨c, h, _⟩ => absurd h (by omega)⟩, fun d hd => by simp [labTo, labStart, iget, hd]⟩
  | i + 1, hi => by
    have h := labTo_okS hT hb i (by omega)
    rw [labTo_succ]
    generalize labTo T n i = s at *
    unfold labStep
    split
    · rename_i hl
      refine ⟨h.len, fun d hd => ?_, h.low⟩
      rw [h.met d hd]
      constructor
      · rintro ⟨c, h1, h2⟩; exact ⟨c, by omega, h2⟩
      · rintro ⟨c, h1, h2⟩
        by_cases e : c = i
        · subst e
          obtain ⟨c', h3, h4⟩ := (h.met c hi).1 hl
          exact ⟨c', h3, rch_trans hT (by omega) hi hd h4 h2⟩
        · exact ⟨c, by omega, h2⟩
    · rename_i hl
      refine ⟨labSet_len, fun d hd => ?_, fun d hd => ?_⟩
      · rw [labSet_get hd]
        split
        · rename_i hr; exact ⟨fun _ => ⟨i, by omega, hr⟩, fun _ => by omega⟩
        · rename_i hr
          rw [h.met d hd]
          constructor
          · rintro ⟨c, h1, h2⟩; exact ⟨c, by omega, h2⟩
          · rintro ⟨c, h1, h2⟩
            by_cases e : c = i
            · subst e; exact absurd h2 hr
            · exact ⟨c, by omega, h2⟩
      · rw [labSet_get hd]
        have := h.low d hd
        split
        · exact ⟨by omega, by show (s.2 : Int) < ((s.2 + 1 : Nat) : Int); omega⟩
        · exact ⟨this.1, by show _ < ((s.2 + 1 : Nat) : Int); omega⟩
/-- whoever is met from i for the first time was not met ahead of it -/
theorem lab_newS (hT : Leads T n) (hb : SymR T n) {i d : Nat} {s : LSt} (hi : i < n) (h : LOK T n i s) (hl : iget s.1 i < 0) (hd : d < n) (hr : rch T n i d = true) : iget s.1 d = -1 := by
  have := h.low d hd
  by_cases e : 0 ≤ iget s.1 d
  · obtain ⟨c, h1, h2⟩ := (h.met d hd).1 e
    have h3 := rch_trans hT (by omega) hd hi h2 (hb i d hi hd hr)
    have := (h.met i hi).2 ⟨c, h1, h3⟩
    omega
  · omega
theorem labTo_mono : ∀ {i k : Nat}, i ≤ k → (labTo T n i).2 ≤ (labTo T n k).2 := by
  intro i k h
  induction k with
  | zero => obtain rfl : i = 0 := by omega
            exact Nat.le_refl _
  | succ k ih =>
    by_cases e : i = k + 1
    · subst e; exact Nat.le_refl _
    · refine Nat.le_trans (ih (by omega)) ?_
      rw [labTo_succ]; unfold labStep; split
      · exact Nat.le_refl _
      · simp [labSet]
theorem labTo_oneS (hT : Leads T n) (hb : SymR T n) (hn : 0 < n) : (labTo T n 1).2 = 1 := by
  have h0 : iget (labTo T n 0).1 0 = -1 := by simp [labTo, labStart, iget, hn]
  rw [show 1 = 0 + 1 by rfl, labTo_succ]
  unfold labStep
  rw [if_neg (by rw [h0]; omega)]
  rfl
/-- there is one orbit exactly if that of 0 is everything -/
theorem labs_oneS (hT : Leads T n) (hb : SymR T n) (hn : 0 < n) : (labs T n).2 = 1 ↔ (orb T n 0).2.length = n := by
  rw [orb_full hT hn]
  constructor
  · intro h d hd
    have key : ∀ i, 1 ≤ i → i ≤ n → labTo T n i = labTo T n 1 := by
      intro i h1 h2
      induction i with
      | zero => omega
      | succ i ih =>
        by_cases e : i = 0
        · subst e; rfl
        · have ih := ih (by omega) (by omega)
          have hm := labTo_mono (T := T) (n := n) h2
          have : (labTo T n n).2 = 1 := h
          rw [labTo_succ] at hm ⊢
          unfold labStep at hm ⊢
          split at hm
          · rename_i hl; rw [if_pos hl]; exact ih
          · rw [ih] at hm
            have := labTo_oneS hT hb hn
            simp only [labSet] at hm
            omega
    by_cases e : d = 0
    · subst e; exact rch_refl hT hn
    · have h1 : 0 ≤ iget (labTo T n d).1 d := by
        have hm := labTo_mono (T := T) (n := n) (show d + 1 ≤ n by omega)
        have : (labTo T n n).2 = 1 := h
        rw [labTo_succ] at hm
        unfold labStep at hm
        split at hm
        · rename_i hl; exact hl
        · rw [key d (by omega) (by omega)] at hm
          have := labTo_oneS hT hb hn
          simp only [labSet] at hm
          omega
      rw [key d (by omega) (by omega)] at h1
      obtain ⟨c, h2, h3⟩ := ((labTo_okS hT hb 1 hn).met d hd).1 h1
      obtain rfl : c = 0 := by omega
      exact h3
  · intro h
    have key : ∀ i, 1 ≤ i → i ≤ n → (labTo T n i).2 = 1 := by
      intro i h1 h2
      induction i with
      | zero => omega
      | succ i ih =>
        by_cases e : i = 0
        · subst e; exact labTo_oneS hT hb hn
        · rw [labTo_succ]
          unfold labStep
          rw [if_pos (((labTo_okS hT hb i (by omega)).met i (by omega)).2 ⟨0, by omega, h i (by omega)⟩)]
          exact ih (by omega) (by omega)
    exact key n hn (Nat.le_refl _)
theorem labs_one (hT : Leads T n) (hb : Back2 T n) (hn : 0 < n) : (labs T n).2 = 1 ↔ (orb T n 0).2.length = n := labs_oneS hT (hb.sym hT) hn
end
end Go.Proofs.Ytmdhljleaijkbaa

/- Permutations: the program's isPermutation and the reference's l01Perm compute one Bool. -/
namespace Go.Proofs.Ytmdhljleaijkbaa
open Go.RowKit

theorem etB : ET Try.prog 136 4 (.bool false) 1 := ⟨Try.underlying136, by kernel_rfl, rfl, by omega⟩

/-- the numbers that are still to come are within 0 to n - 1, and none of them has been seen, nor comes twice -/
def permGo (n : Nat) : List Bool → List Int → Bool
  | _, [] => true
  | seen, z :: r => inB z 0 ((n : Int) - 1) && !(seen.getD z.toNat false) && permGo n (seen.set z.toNat true) r
/-- a permutation of at most 400 points -/
def isPerm (zs : List Int) : Bool := decide (zs.length ≤ 400) && permGo zs.length (List.replicate zs.length false) zs

theorem permGo_step {n : Nat} {seen : List Bool} {zs : List Int} {k : Nat} (hk : k < zs.length) :
    permGo n seen (zs.drop k) = (inB (iget zs k) 0 ((n : Int) - 1) && !(seen.getD (iget zs k).toNat false) && permGo n (seen.set (iget zs k).toNat true) (zs.drop (k + 1))) := by
  rw [List.drop_eq_getElem_cons hk, ← iget_lt hk]; rfl

/-- a slice of bools, k of them looked up -/
def bget (bs : List Bool) (k : Nat) : Bool := bs.getD k false
theorem permGo_out {n : Nat} {seen : List Bool} {zs : List Int} {k : Nat} (hk : k < zs.length) (hx : inB (iget zs k) 0 ((n : Int) - 1) = false) : permGo n seen (zs.drop k) = false := by
  rw [permGo_step hk, hx]; rfl
theorem permGo_met {n : Nat} {seen : List Bool} {zs : List Int} {k m : Nat} (hk : k < zs.length) (hm : iget zs k = m) (hb : bget seen m = true) : permGo n seen (zs.drop k) = false := by
  unfold bget at hb
  rw [permGo_step hk, hm, Int.toNat_natCast, hb]; simp
theorem permGo_on {n : Nat} {seen : List Bool} {zs : List Int} {k m : Nat} (hk : k < zs.length) (hm : iget zs k = m) (hx : inB m 0 ((n : Int) - 1) = true) (hb : bget seen m = false) : permGo n seen (zs.drop k) = permGo n (seen.set m true) (zs.drop (k + 1)) := by
  unfold bget at hb
  rw [permGo_step hk, hm, Int.toNat_natCast, hb, hx]; simp
theorem own_bget {w : World} {base E : Nat} {g n c : Nat} {bs : List Bool} (h : Own w base E (some ⟨g, 0, none⟩) n c (bs.map Value.bool)) {k : Nat} (hk : k < n) : w.cell? ⟨g, k, none⟩ = some (.bool (bget bs k)) := by
  obtain ⟨g', hg, _, _, _, hc, _⟩ := h.form (by omega)
  obtain rfl : g = g' := by injection hg with hg; injection hg
  have hl : bs.length = n := by have := h.len; simpa using this
  rw [hc k hk, List.getElem?_map, List.getElem?_eq_getElem (by omega)]
  simp [bget, List.getD, List.getElem?_eq_getElem (show k < bs.length by omega)]
theorem own_frozen {w : World} {base E : Nat} {g n c : Nat} {xs : List Value} (h : Own w base E (some ⟨g, 0, none⟩) n c xs) (k : Nat) : w.frozen? ⟨g, k, none⟩ = false := h.1.frozenAt k

set_option maxHeartbeats 800000 in
theorem specPerm_any (ao : Option Addr) (n c : Nat) (zs : List Int) (w : World) (h : Ints w ao n zs) :
    Calls Try.prog 97 #[.slice ao n c] w fun e w' => e = .returned (.bool (isPerm zs)) ∧ Below w.heap.size w w' := by
  have hn := h.2.1
  have hl := h.1
  have HL := Lib.hid hl
  clear hl
  by_cases hs : n ≤ 400
  · have h1 : decide ((400 : Int) < n) = false := by simp; omega
    have hp : isPerm zs = permGo n (List.replicate n false) zs := by unfold isPerm; rw [HL.out]; simp [hs]
    have HP := Lib.hid hp
    clear hp
    go_enter Try.func97, Try.ntmps97
    go_wp2_with (at_make; refine wpList_mk etB _ rfl _ _ rfl w.heap.size _ _ _ _ n rfl rfl rfl rfl (by omega) (Nat.le_refl _) ?_; intro w1 hown hgrow hsz)
    have hb1 : Below w.heap.size w w1 := (Below.refl _ _).grown hgrow (Nat.le_refl _) (by simp)
    clear hgrow
    go_loopw [4] (fun i wr => ∃ (k : Nat) (seen : List Bool), k ≤ n ∧ i = .int .i64 k ∧ Own wr w.heap.size 4 (some ⟨w.heap.size, 0, none⟩) n n (seen.map Value.bool) ∧ isPerm zs = permGo n seen (zs.drop k) ∧ Below w.heap.size w wr) (fun i _ => n - (intOf i).toNat)
    case atStart => exact ⟨0, _, Nat.zero_le _, rfl, by rw [List.map_replicate]; exact hown, HP.out, hb1⟩
    case round =>
      obtain ⟨k, seen, hk, rfl, ho, hinv, hb⟩ := hrel
      clear hown hb1 hsz
      have HI := Lib.hid hinv
      clear hinv
      by_cases hlt : k < n
      · obtain ⟨b, off, rfl, hc⟩ := (h.below hb).at_ hlt
        have HK : Hid (k < zs.length) := by have := HL.out; show k < zs.length; omega
        have HH := Lib.hid h
        clear h
        cases hin : inB (iget zs k) 0 ((n : Int) - 1) with
        | false =>
          have HX := Lib.hid hin
          clear hin
          go_wp2_with (go_at_call 37; refine (specIn_any _ _ _ _).mono ?_; rintro e w' ⟨rfl, rfl⟩; rw [HX.out])
          go_ret
          exact ⟨ret_bool (HI.out.trans (permGo_out HK.out HX.out)).symm, hb⟩
        | true =>
          have HX := Lib.hid hin
          obtain ⟨hz0, hz1⟩ := inB_true.1 hin
          obtain ⟨m, hm⟩ := Int.eq_ofNat_of_zero_le hz0
          rw [hm] at hc hz1
          have HM := Lib.hid hm
          have hmn : m < n := by omega
          have hsc := own_bget ho hmn
          have hfr := own_frozen ho m
          have HXm : Hid (inB (m : Int) 0 ((n : Int) - 1) = true) := by have := HX.out; rwa [HM.out] at this
          clear hin hz0 hz1 hm
          cases hsb : bget seen m with
          | true =>
            rw [hsb] at hsc
            have HB := Lib.hid hsb
            clear hsb
            go_wp2_with (go_at_call 37; refine (specIn_any _ _ _ _).mono ?_; rintro e w' ⟨rfl, rfl⟩; rw [HXm.out])
            go_ret
            exact ⟨ret_bool (HI.out.trans (permGo_met HK.out HM.out HB.out)).symm, hb⟩
          | false =>
            rw [hsb] at hsc
            obtain ⟨st1, st2⟩ := ho.stored m (.bool true)
            have HB := Lib.hid hsb
            have HS1 := Lib.hid st1
            have HS2 := Lib.hid st2
            clear hsb st1 st2
            go_wp2_with (go_at_call 37; refine (specIn_any _ _ _ _).mono ?_; rintro e w' ⟨rfl, rfl⟩; rw [HXm.out])
            go_roundw
            case rel =>
              exact ⟨k + 1, seen.set m true, by omega, by go_num, by rw [List.map_set]; exact HS1.out, HI.out.trans (permGo_on HK.out HM.out HXm.out HB.out), hb.grown HS2.out hb.size (by intro g hg; injection hg with hg; omega)⟩
            case measure => simp [intOf]; omega
      · obtain rfl : k = n := by omega
        go_wp2
        go_ret
        exact ⟨ret_bool (by rw [HI.out, List.drop_of_length_le (Nat.le_of_eq HL.out)]; rfl), hb⟩
  · have h1 : decide ((400 : Int) < n) = true := by simp; omega
    go_enter Try.func97, Try.ntmps97
    go_wp2
    go_ret
    exact ⟨ret_bool (by unfold isPerm; rw [HL.out]; simp; intro; omega), Below.refl _ _⟩

theorem size_any (ao : Option Addr) (n c : Nat) (w : World) : Calls Try.prog 71 #[.slice ao n c] w fun e w' => e = .returned (.int .i64 n) ∧ w' = w := by
  go_enter Try.func71, Try.ntmps71
  go_wp2
  go_ret
  exact ⟨rfl, rfl⟩

set_option maxHeartbeats 800000 in
theorem implPerm_any (ao : Option Addr) (n c : Nat) (zs : List Int) (w : World) (h : Ints w ao n zs) :
    Calls Try.prog 107 #[.slice ao n c] w fun e w' => e = .returned (.bool (isPerm zs)) ∧ Below w.heap.size w w' := by
  have hn := h.2.1
  have hl := h.1
  have HL := Lib.hid hl
  clear hl
  by_cases hs : n ≤ 400
  · have h1 : decide ((400 : Int) < n) = false := by simp; omega
    have hp : isPerm zs = permGo n (List.replicate n false) zs := by unfold isPerm; rw [HL.out]; simp [hs]
    have HP := Lib.hid hp
    clear hp
    go_enter Try.func107, Try.ntmps107
    go_wp2_with (at_make; refine wpList_mk etB _ rfl _ _ rfl w.heap.size _ _ _ _ n rfl rfl rfl rfl (by omega) (Nat.le_refl _) ?_; intro w1 hown hgrow hsz)
    have hb1 : Below w.heap.size w w1 := (Below.refl _ _).grown hgrow (Nat.le_refl _) (by simp)
    clear hgrow
    go_loopw [14] (fun i wr => ∃ (k : Nat) (seen : List Bool), k ≤ n ∧ i = .int .i64 k ∧ Own wr w.heap.size 4 (some ⟨w.heap.size, 0, none⟩) n n (seen.map Value.bool) ∧ isPerm zs = permGo n seen (zs.drop k) ∧ Below w.heap.size w wr) (fun i _ => n - (intOf i).toNat)
    case atStart => exact ⟨0, _, Nat.zero_le _, rfl, by rw [List.map_replicate]; exact hown, HP.out, hb1⟩
    case round =>
      obtain ⟨k, seen, hk, rfl, ho, hinv, hb⟩ := hrel
      clear hown hb1 hsz
      have HI := Lib.hid hinv
      clear hinv
      by_cases hlt : k < n
      · obtain ⟨b, off, rfl, hc⟩ := (h.below hb).at_ hlt
        have HK : Hid (k < zs.length) := by have := HL.out; show k < zs.length; omega
        have HH := Lib.hid h
        clear h
        cases hin : inB (iget zs k) 0 ((n : Int) - 1) with
        | false =>
          have HX := Lib.hid hin
          clear hin
          go_wp2_with (first | (go_at_call 71; refine (size_any _ _ _ _).mono ?_; rintro e w' ⟨rfl, rfl⟩) | (go_at_call 35; refine (within_any _ _ _ _).mono ?_; rintro e w' ⟨rfl, rfl⟩; rw [HX.out]))
          go_ret
          exact ⟨ret_bool (HI.out.trans (permGo_out HK.out HX.out)).symm, hb⟩
        | true =>
          have HX := Lib.hid hin
          obtain ⟨hz0, hz1⟩ := inB_true.1 hin
          obtain ⟨m, hm⟩ := Int.eq_ofNat_of_zero_le hz0
          rw [hm] at hc hz1
          have HM := Lib.hid hm
          have hmn : m < n := by omega
          have hsc := own_bget ho hmn
          have hfr := own_frozen ho m
          have HXm : Hid (inB (m : Int) 0 ((n : Int) - 1) = true) := by have := HX.out; rwa [HM.out] at this
          clear hin hz0 hz1 hm
          cases hsb : bget seen m with
          | true =>
            rw [hsb] at hsc
            have HB := Lib.hid hsb
            clear hsb
            go_wp2_with (first | (go_at_call 71; refine (size_any _ _ _ _).mono ?_; rintro e w' ⟨rfl, rfl⟩) | (go_at_call 35; refine (within_any _ _ _ _).mono ?_; rintro e w' ⟨rfl, rfl⟩; rw [HXm.out]))
            go_ret
            exact ⟨ret_bool (HI.out.trans (permGo_met HK.out HM.out HB.out)).symm, hb⟩
          | false =>
            rw [hsb] at hsc
            obtain ⟨st1, st2⟩ := ho.stored m (.bool true)
            have HB := Lib.hid hsb
            have HS1 := Lib.hid st1
            have HS2 := Lib.hid st2
            clear hsb st1 st2
            go_wp2_with (first | (go_at_call 71; refine (size_any _ _ _ _).mono ?_; rintro e w' ⟨rfl, rfl⟩) | (go_at_call 35; refine (within_any _ _ _ _).mono ?_; rintro e w' ⟨rfl, rfl⟩; rw [HXm.out]))
            go_roundw
            case rel =>
              exact ⟨k + 1, seen.set m true, by omega, by go_num, by rw [List.map_set]; exact HS1.out, HI.out.trans (permGo_on HK.out HM.out HXm.out HB.out), hb.grown HS2.out hb.size (by intro g hg; injection hg with hg; omega)⟩
            case measure => simp [intOf]; omega
      · obtain rfl : k = n := by omega
        go_wp2
        go_ret
        exact ⟨ret_bool (by rw [HI.out, List.drop_of_length_le (Nat.le_of_eq HL.out)]; rfl), hb⟩
  · have h1 : decide ((400 : Int) < n) = true := by simp; omega
    go_enter Try.func107, Try.ntmps107
    go_wp2
    go_ret
    exact ⟨ret_bool (by unfold isPerm; rw [HL.out]; simp; intro; omega), Below.refl _ _⟩
end Go.Proofs.Ytmdhljleaijkbaa

/- What a permutation's numbers are. No program in sight. -/
namespace Go.Proofs.Ytmdhljleaijkbaa

theorem permGo_within {n : Nat} {zs : List Int} : ∀ {seen : List Bool}, permGo n seen zs = true → ∀ z ∈ zs, 0 ≤ z ∧ z < n := by
  induction zs with
  | nil => intro seen _ z hz; cases hz
  | cons a r ih =>
    intro seen h z hz
    simp only [permGo, Bool.and_eq_true] at h
    rcases List.mem_cons.1 hz with rfl | hz
    · have := inB_true.1 h.1.1; omega
    · exact ih h.2 z hz
theorem isPerm_within {zs : List Int} (h : isPerm zs = true) {k : Nat} (hk : k < zs.length) : 0 ≤ iget zs k ∧ iget zs k < zs.length := by
  unfold isPerm at h
  exact permGo_within ((Bool.and_eq_true _ _ ▸ h).2) _ (iget_mem hk)
end Go.Proofs.Ytmdhljleaijkbaa

/- What a maniplex is, on lists. No program in sight. -/
namespace Go.Proofs.Ytmdhljleaijkbaa

/-- no number stands at its own place, and each leads back -/
def isFreeL (zs : List Int) : Bool := (List.range zs.length).all fun i => !(iget zs i == (i : Int)) && iget zs (iget zs i).toNat == (i : Int)
theorem isFreeL_at {zs : List Int} (h : isFreeL zs = true) {i : Nat} (hi : i < zs.length) : iget zs i ≠ i ∧ iget zs (iget zs i).toNat = i := by
  unfold isFreeL at h
  have := (List.all_eq_true.1 h) i (List.mem_range.2 hi)
  simpa using this
theorem isFreeL_no {zs : List Int} {i : Nat} (hi : i < zs.length) (h : iget zs i = i ∨ iget zs (iget zs i).toNat ≠ i) : isFreeL zs = false := by
  cases hf : isFreeL zs with
  | false => rfl
  | true =>
    have := isFreeL_at hf hi
    rcases h with h | h
    · exact absurd h this.1
    · exact absurd this.2 h
theorem isFreeL_yes {zs : List Int} (h : ∀ i, i < zs.length → iget zs i ≠ i ∧ iget zs (iget zs i).toNat = i) : isFreeL zs = true := by
  unfold isFreeL
  rw [List.all_eq_true]
  intro i hi
  have := h i (List.mem_range.1 hi)
  simpa using this
/-- two moves commute at a flag, and differ there -/
def commAt (zss : List (List Int)) (i k f : Nat) : Prop := bTo zss (bTo zss f i) k = bTo zss (bTo zss f k) i ∧ bTo zss f i ≠ bTo zss f k
structure Man (zss : List (List Int)) : Prop where
  n1 : 1 ≤ zss.length
  n5 : zss.length ≤ 5
  f2 : 2 ≤ (lget zss 0).length
  f4 : (lget zss 0).length ≤ 400
  len : ∀ i, i < zss.length → (lget zss i).length = (lget zss 0).length
  perm : ∀ i, i < zss.length → isPerm (lget zss i) = true
  free : ∀ i, i < zss.length → isFreeL (lget zss i) = true
  comm : ∀ i k, i + 2 ≤ k → k < zss.length → ∀ f, f < (lget zss 0).length → commAt zss i k f
  conn : (orb zss (lget zss 0).length 0).2.length = (lget zss 0).length
noncomputable def manB (zss : List (List Int)) : Bool := @decide (Man zss) (Classical.propDecidable _)
theorem manB_yes {zss : List (List Int)} (h : Man zss) : manB zss = true := by unfold manB; exact @decide_eq_true _ (Classical.propDecidable _) h
theorem manB_no {zss : List (List Int)} (h : ¬ Man zss) : manB zss = false := by unfold manB; exact @decide_eq_false _ (Classical.propDecidable _) h
theorem manB_iff {zss : List (List Int)} : manB zss = true ↔ Man zss := by unfold manB; exact @decide_eq_true_iff _ (Classical.propDecidable _)
/-- rows that are permutations of n points -/
def Rows (zss : List (List Int)) (n m : Nat) : Prop := ∀ i, i < m → (lget zss i).length = n ∧ isPerm (lget zss i) = true ∧ isFreeL (lget zss i) = true
theorem rows_leads {zss : List (List Int)} {n : Nat} (h : Rows zss n zss.length) : Leads zss n :=
  ⟨fun k hk => (h k hk).1, fun k hk x hx => by
    have h1 := isPerm_within (h k hk).2.1 (k := x) (by rw [(h k hk).1]; exact hx)
    rw [(h k hk).1] at h1; exact h1⟩
theorem rows_back {zss : List (List Int)} {n : Nat} (h : Rows zss n zss.length) : Back2 zss n := fun g hg c hc => by
  have h1 := (isFreeL_at (h g hg).2.2 (i := c) (by rw [(h g hg).1]; exact hc)).2
  unfold bTo
  rw [h1, Int.toNat_natCast]
theorem Man.rows {zss : List (List Int)} (h : Man zss) : Rows zss (lget zss 0).length zss.length := fun i hi => ⟨h.len i hi, h.perm i hi, h.free i hi⟩
end Go.Proofs.Ytmdhljleaijkbaa

/- Rows that are permutations and free involutions: l01Perm, l01Free, isFreeInvolution. guards: -/
namespace Go.Proofs.Ytmdhljleaijkbaa
open Go.RowKit

theorem one_of1 {us : List Value} {u0 : Value} (hl : us.length = 1) (g0 : us[0]? = some u0) : us = [u0] := by
  match us, hl with
  | [p], _ => simp at g0; rw [g0]
theorem permS_fc (zss : List (List Int)) (i : Nat) (hi : i < zss.length) (hn : (lget zss i).length ≤ 1048576) :
    FC Try.prog 97 [(1003, rowsRo zss)] [o1 (.esl 1003 i 0 (lget zss i).length)] [] (vv (.bool (isPerm (lget zss i)))) [] :=
  fc_of_calls fun w η ω us hm ⟨hl, ha⟩ => by
    obtain ⟨u0, g0, d0⟩ := ha 0 _ rfl
    obtain ⟨ao, c, rfl, hI⟩ := rdRow (x := 1003) hm rfl hi d0 (by omega)
    rw [one_of1 hl g0]
    exact specPerm_any ao _ c _ w hI
theorem permI_fc (zss : List (List Int)) (i : Nat) (hi : i < zss.length) (hn : (lget zss i).length ≤ 1048576) :
    FC Try.prog 107 [(1003, rowsRo zss)] [o1 (.esl 1003 i 0 (lget zss i).length)] [] (vv (.bool (isPerm (lget zss i)))) [] :=
  fc_of_calls fun w η ω us hm ⟨hl, ha⟩ => by
    obtain ⟨u0, g0, d0⟩ := ha 0 _ rfl
    obtain ⟨ao, c, rfl, hI⟩ := rdRow (x := 1003) hm rfl hi d0 (by omega)
    rw [one_of1 hl g0]
    exact implPerm_any ao _ c _ w hI

theorem iget_nat {zs : List Int} {k : Nat} (h : 0 ≤ iget zs k) : iget zs k = (((iget zs k).toNat : Nat) : Int) := (Int.toNat_of_nonneg h).symm
set_option maxRecDepth 100000 in
set_option maxHeartbeats 1000000 in
theorem freeS_fc (zss : List (List Int)) (i : Nat) (hi : i < zss.length) (hn : (lget zss i).length ≤ 1048576) (hp : isPerm (lget zss i) = true) :
    FC Try.prog 98 [(1003, rowsRo zss)] [o1 (.esl 1003 i 0 (lget zss i).length)] [] (vv (.bool (isFreeL (lget zss i)))) [] := by
  have hrow : (irows zss)[i]? = some (ivals (lget zss i)) := irows_get hi
  have hW := fun k hk => isPerm_within hp (k := k) hk
  refine fc_enter (nt := 27) Try.func98 rfl rfl (by simp) fun w0 ω0 => ?_
  generalize lget zss i = zs at *
  (refine goes_seq ?_; refine goes_region ?_; apply run_step rfl; (exact stp_assign rfl rfl); refine run_nil ?_; refine fin_seq ?_; refine goes_seq ?_; refine goes_seq ?_; refine goes_region ?_; apply run_step rfl; (exact stp_assign rfl rfl); refine run_nil ?_; refine fin_seq ?_; refine goes_block ?_)
  refine goes_loop (fun k : Nat => St.of [(0, o1 (.esl 1003 i 0 zs.length)), (3, vv (I6 k))] [(1003, rowsRo zss)]) (fun k => k ≤ zs.length ∧ ∀ j, j < k → iget zs j ≠ j ∧ iget zs (iget zs j).toNat = j) (fun k => zs.length - k) 0 ⟨Nat.zero_le _, fun j h => absurd h (by omega)⟩ (Wk.of ⟨rfl, rfl, trivial⟩ ⟨rfl, trivial⟩ trivial) ?_
  rintro k ⟨hk, hok⟩
  (refine goes_seq ?_; refine goes_seq ?_; refine goes_region ?_; apply run_step rfl; (exact stp_move rfl rfl); apply run_step rfl; (exact stp_move rfl rfl); apply run_step rfl; (exact stp_len rfl rfl rfl (by as_aux_lemma => kernel_rfl)); apply run_step rfl; (exact stp_bin rfl rfl rfl rfl); refine run_nil ?_; refine fin_seq ?_)
  refine goes_if rfl (fun hlt => ?_) (fun hlt => ?_)
  · have hlt' : k < zs.length := by omega
    obtain ⟨d, hd⟩ : ∃ d : Nat, iget zs k = (d : Int) := ⟨_, iget_nat (hW k hlt').1⟩
    have hdl : d < zs.length := by have := (hW k hlt').2; rw [hd] at this; omega
    have gk : (ivals zs)[k]? = some (I6 (d : Int)) := by rw [ivals_get hlt', hd]
    (refine goes_skip ?_; refine fin_seq ?_; refine goes_seq ?_; refine goes_block ?_; refine goes_seq ?_; refine goes_region ?_; apply run_step rfl; (exact stp_move rfl rfl); apply run_step rfl; (exact stp_move rfl rfl); apply run_step rfl; (exact stp_ixE rfl rfl rfl rfl rfl (by as_aux_lemma => kernel_rfl) (by first | assumption | exact ivals_get (by assumption) | exact irows_get (by assumption) | exact ivals_get (by omega) | exact irows_get (by omega) | rfl) (by first | rfl | exact (Int.toNat_of_nonneg (by omega)).symm) (by first | assumption | omega | (simp; omega)) (by first | exact Nat.le_refl _ | exact Nat.le_of_eq (ivals_len _).symm | exact Nat.le_of_eq (irows_len _).symm | (refine Nat.le_trans ?_ (Nat.le_of_eq (ivals_len _).symm); (first | omega | (simp; done) | (simp; omega))) | (refine Nat.le_trans ?_ (Nat.le_of_eq (irows_len _).symm); (first | omega | (simp; done) | (simp; omega))))); apply run_step rfl; (exact stp_loadE' rfl (by as_aux_lemma => kernel_rfl) rfl rfl rfl (by first | assumption | exact ivals_get (by assumption) | exact irows_get (by assumption) | exact ivals_get (by omega) | exact irows_get (by omega) | rfl) (by first | assumption | exact ivals_get (by assumption) | exact irows_get (by assumption) | exact ivals_get (by omega) | exact irows_get (by omega) | rfl)); apply run_step rfl; (exact stp_move rfl rfl); apply run_step rfl; (exact stp_bin rfl rfl rfl rfl); apply run_step rfl; (exact stp_move rfl rfl))
    refine run_bool 16 rfl (fun h1 => ?_) (fun h1 => ?_)
    · have e1 : (d : Int) = k := of_decide_eq_true h1
      rw [isFreeL_no hlt' (.inl (hd.trans e1))]
      (apply run_gNo rfl rfl rfl rfl rfl; apply run_gNo rfl rfl rfl rfl rfl; apply run_gNo rfl rfl rfl rfl rfl; apply run_gNo rfl rfl rfl rfl rfl; apply run_gNo rfl rfl rfl rfl rfl; apply run_gNo rfl rfl rfl rfl rfl; apply run_gNo rfl rfl rfl rfl rfl; apply run_gNo rfl rfl rfl rfl rfl; apply run_gNo rfl rfl rfl rfl rfl; apply run_step rfl; (exact stp_pickT rfl rfl rfl); refine run_nil ?_; refine fin_seq ?_)
      refine goes_cond rfl (fun _ => ?_) (fun e => by cases e)
      (refine goes_seq ?_; refine goes_region ?_; apply run_step rfl; (exact stp_assign rfl rfl); refine run_nil ?_; refine fin_seq ?_; refine goes_ret ?_; refine fin_ret_block ?_; refine fin_ret_then ?_; refine fin_ret_then ?_; refine fin_ret_block ?_; refine fin_ret_then ?_)
      exact fin_ret1 (.inl rfl) rfl (.tmp rfl) trivial trivial
    · have e1 : (d : Int) ≠ k := of_decide_eq_false h1
      (apply run_gYes rfl rfl rfl; (exact stp_move rfl rfl); apply run_gYes rfl rfl rfl; (exact stp_move rfl rfl); apply run_gYes rfl rfl rfl; (exact stp_move rfl rfl); apply run_gYes rfl rfl rfl; (exact stp_ixE rfl rfl rfl rfl rfl (by as_aux_lemma => kernel_rfl) (by first | assumption | exact ivals_get (by assumption) | exact irows_get (by assumption) | exact ivals_get (by omega) | exact irows_get (by omega) | rfl) (by first | rfl | exact (Int.toNat_of_nonneg (by omega)).symm) (by first | assumption | omega | (simp; omega)) (by first | exact Nat.le_refl _ | exact Nat.le_of_eq (ivals_len _).symm | exact Nat.le_of_eq (irows_len _).symm | (refine Nat.le_trans ?_ (Nat.le_of_eq (ivals_len _).symm); (first | omega | (simp; done) | (simp; omega))) | (refine Nat.le_trans ?_ (Nat.le_of_eq (irows_len _).symm); (first | omega | (simp; done) | (simp; omega))))); apply run_gYes rfl rfl rfl; (exact stp_loadE' rfl (by as_aux_lemma => kernel_rfl) rfl rfl rfl (by first | assumption | exact ivals_get (by assumption) | exact irows_get (by assumption) | exact ivals_get (by omega) | exact irows_get (by omega) | rfl) (by first | assumption | exact ivals_get (by assumption) | exact irows_get (by assumption) | exact ivals_get (by omega) | exact irows_get (by omega) | rfl)); apply run_gYes rfl rfl rfl; (exact stp_ixE rfl rfl rfl rfl rfl (by as_aux_lemma => kernel_rfl) (by first | assumption | exact ivals_get (by assumption) | exact irows_get (by assumption) | exact ivals_get (by omega) | exact irows_get (by omega) | rfl) (by first | rfl | exact (Int.toNat_of_nonneg (by omega)).symm) (by first | assumption | omega | (simp; omega)) (by first | exact Nat.le_refl _ | exact Nat.le_of_eq (ivals_len _).symm | exact Nat.le_of_eq (irows_len _).symm | (refine Nat.le_trans ?_ (Nat.le_of_eq (ivals_len _).symm); (first | omega | (simp; done) | (simp; omega))) | (refine Nat.le_trans ?_ (Nat.le_of_eq (irows_len _).symm); (first | omega | (simp; done) | (simp; omega))))); apply run_gYes rfl rfl rfl; (exact stp_loadE' rfl (by as_aux_lemma => kernel_rfl) rfl rfl rfl (by first | assumption | exact ivals_get (by assumption) | exact irows_get (by assumption) | exact ivals_get (by omega) | exact irows_get (by omega) | rfl) (by first | assumption | exact ivals_get (by assumption) | exact irows_get (by assumption) | exact ivals_get (by omega) | exact irows_get (by omega) | rfl)); apply run_gYes rfl rfl rfl; (exact stp_move rfl rfl); apply run_gYes rfl rfl rfl; (exact stp_bin rfl rfl rfl rfl); apply run_step rfl; (exact stp_pickF rfl rfl rfl); refine run_nil ?_; refine fin_seq ?_)
      refine goes_cond rfl (fun h2 => ?_) (fun h2 => ?_)
      · have e2 : iget zs d ≠ k := by simpa using h2
        rw [isFreeL_no hlt' (.inr (by rw [hd, Int.toNat_natCast]; exact e2))]
        (refine goes_seq ?_; refine goes_region ?_; apply run_step rfl; (exact stp_assign rfl rfl); refine run_nil ?_; refine fin_seq ?_; refine goes_ret ?_; refine fin_ret_block ?_; refine fin_ret_then ?_; refine fin_ret_then ?_; refine fin_ret_block ?_; refine fin_ret_then ?_)
        exact fin_ret1 (.inl rfl) rfl (.tmp rfl) trivial trivial
      · have e2 : iget zs d = k := by simpa using h2
        (refine goes_skip ?_; refine fin_block ?_; refine fin_seq ?_; refine goes_region ?_; apply run_step rfl; (exact stp_move rfl rfl); apply run_step rfl; (exact stp_add rfl rfl rfl (by first | exact IntWalk.i64_in _ (by omega) | rfl)); apply run_step rfl; (exact stp_assign rfl rfl); refine run_nil ?_)
        exact fin_round (k + 1) ⟨by omega, fun j hj => by
          by_cases e : j = k
          · subst e; rw [hd, Int.toNat_natCast]; exact ⟨e1, e2⟩
          · exact hok j (by omega)⟩ (by omega) (Wk.of ⟨rfl, rfl, trivial⟩ ⟨rfl, trivial⟩ trivial)
  · obtain rfl : k = zs.length := by omega
    rw [isFreeL_yes hok]
    (refine goes_exit ?_; refine fin_exit_then ?_; refine fin_exit_then ?_; refine fin_exit_eq ?_; refine fin_seq ?_; refine goes_seq ?_; refine goes_region ?_; apply run_step rfl; (exact stp_assign rfl rfl); refine run_nil ?_; refine fin_seq ?_; refine goes_ret ?_)
    exact fin_ret1 (.inl rfl) rfl (.tmp rfl) trivial trivial
/-- a permutation that is a free involution -/
def freeInv (zs : List Int) : Bool := isPerm zs && isFreeL zs
set_option maxRecDepth 100000 in
set_option maxHeartbeats 1000000 in
theorem freeI_fc (zss : List (List Int)) (i : Nat) (hi : i < zss.length) (hn : (lget zss i).length ≤ 1048576) :
    FC Try.prog 70 [(1003, rowsRo zss)] [o1 (.esl 1003 i 0 (lget zss i).length)] [] (vv (.bool (freeInv (lget zss i)))) [] := by
  have hrow : (irows zss)[i]? = some (ivals (lget zss i)) := irows_get hi
  have hP := permI_fc zss i hi hn
  refine fc_enter (nt := 27) Try.func70 rfl rfl (by simp) fun w0 ω0 => ?_
  unfold freeInv
  cases hp : isPerm (lget zss i) with
  | false =>
    rw [hp] at hP
    rw [Bool.false_and]
    (refine goes_seq ?_; refine goes_region ?_; apply run_step rfl; (exact stp_assign rfl rfl); refine run_nil ?_; refine fin_seq ?_; refine goes_seq ?_; refine goes_seq ?_; refine goes_region ?_; apply run_step rfl; (exact stp_move rfl rfl); apply run_step rfl; (apply call_gate 107; exact stp_callR hP (by as_aux_lemma => kernel_rfl) rfl rfl ⟨rfl, trivial⟩ ⟨⟨_, rfl, .inl rfl⟩, trivial⟩ rfl rfl); apply run_step rfl; (exact stp_not rfl rfl); refine run_nil ?_; refine fin_seq ?_)
    refine goes_cond rfl (fun _ => ?_) (fun e => by cases e)
    (refine goes_seq ?_; refine goes_region ?_; apply run_step rfl; (exact stp_assign rfl rfl); refine run_nil ?_; refine fin_seq ?_; refine goes_ret ?_; refine fin_ret_then ?_)
    exact fin_ret1 (.inl rfl) rfl (.tmp rfl) trivial trivial
  | true =>
    rw [hp] at hP
    rw [Bool.true_and]
    have hW := fun k hk => isPerm_within hp (k := k) hk
    generalize lget zss i = zs at *
    (refine goes_seq ?_; refine goes_region ?_; apply run_step rfl; (exact stp_assign rfl rfl); refine run_nil ?_; refine fin_seq ?_; refine goes_seq ?_; refine goes_seq ?_; refine goes_region ?_; apply run_step rfl; (exact stp_move rfl rfl); apply run_step rfl; (apply call_gate 107; exact stp_callR hP (by as_aux_lemma => kernel_rfl) rfl rfl ⟨rfl, trivial⟩ ⟨⟨_, rfl, .inl rfl⟩, trivial⟩ rfl rfl); apply run_step rfl; (exact stp_not rfl rfl); refine run_nil ?_; refine fin_seq ?_)
    refine goes_cond rfl (fun e => by cases e) (fun _ => ?_)
    (refine goes_skip ?_; refine fin_seq ?_; refine goes_seq ?_; refine goes_seq ?_; refine goes_region ?_; apply run_step rfl; (exact stp_move rfl rfl); apply run_step rfl; (exact stp_len rfl rfl rfl (by as_aux_lemma => kernel_rfl)); apply run_step rfl; (exact stp_move rfl rfl); refine run_nil ?_; refine fin_seq ?_; refine goes_block ?_)
    refine goes_loop (fun k : Nat => St.of [(0, o1 (.esl 1003 i 0 zs.length)), (8, o1 (.esl 1003 i 0 zs.length)), (9, vv (I6 zs.length)), (10, vv (I6 k))] [(1003, rowsRo zss)]) (fun k => k ≤ zs.length ∧ ∀ j, j < k → iget zs j ≠ j ∧ iget zs (iget zs j).toNat = j) (fun k => zs.length - k) 0 ⟨Nat.zero_le _, fun j h => absurd h (by omega)⟩ (Wk.of ⟨rfl, rfl, rfl, rfl, trivial⟩ ⟨rfl, trivial⟩ trivial) ?_
    rintro k ⟨hk, hok⟩
    (refine goes_seq ?_; refine goes_region ?_; apply run_step rfl; (exact stp_bin rfl rfl rfl rfl); refine run_nil ?_; refine fin_seq ?_; refine goes_seq ?_)
    refine goes_if rfl (fun hlt => ?_) (fun hlt => ?_)
    · have hlt' : k < zs.length := by omega
      obtain ⟨d, hd⟩ : ∃ d : Nat, iget zs k = (d : Int) := ⟨_, iget_nat (hW k hlt').1⟩
      have hdl : d < zs.length := by have := (hW k hlt').2; rw [hd] at this; omega
      have gk : (ivals zs)[k]? = some (I6 (d : Int)) := by rw [ivals_get hlt', hd]
      (refine goes_skip ?_; refine fin_seq ?_; refine goes_seq ?_; refine goes_block ?_; refine goes_seq ?_; refine goes_region ?_; apply run_step rfl; (exact stp_move rfl rfl); apply run_step rfl; (exact stp_ixE rfl rfl rfl rfl rfl (by as_aux_lemma => kernel_rfl) (by first | assumption | exact ivals_get (by assumption) | exact irows_get (by assumption) | exact ivals_get (by omega) | exact irows_get (by omega) | rfl) (by first | rfl | exact (Int.toNat_of_nonneg (by omega)).symm) (by first | assumption | omega | (simp; omega)) (by first | exact Nat.le_refl _ | exact Nat.le_of_eq (ivals_len _).symm | exact Nat.le_of_eq (irows_len _).symm | (refine Nat.le_trans ?_ (Nat.le_of_eq (ivals_len _).symm); (first | omega | (simp; done) | (simp; omega))) | (refine Nat.le_trans ?_ (Nat.le_of_eq (irows_len _).symm); (first | omega | (simp; done) | (simp; omega))))); apply run_step rfl; (exact stp_loadE' rfl (by as_aux_lemma => kernel_rfl) rfl rfl rfl (by first | assumption | exact ivals_get (by assumption) | exact irows_get (by assumption) | exact ivals_get (by omega) | exact irows_get (by omega) | rfl) (by first | assumption | exact ivals_get (by assumption) | exact irows_get (by assumption) | exact ivals_get (by omega) | exact irows_get (by omega) | rfl)); apply run_step rfl; (exact stp_assign rfl rfl); apply run_step rfl; (exact stp_assign rfl rfl); refine run_nil ?_; refine fin_seq ?_; refine goes_seq ?_; refine goes_region ?_; apply run_step rfl; (exact stp_move rfl rfl); apply run_step rfl; (exact stp_move rfl rfl); apply run_step rfl; (exact stp_bin rfl rfl rfl rfl); apply run_step rfl; (exact stp_move rfl rfl))
      refine run_bool 18 rfl (fun h1 => ?_) (fun h1 => ?_)
      · have e1 : (d : Int) = k := of_decide_eq_true h1
        rw [isFreeL_no hlt' (.inl (hd.trans e1))]
        (apply run_gNo rfl rfl rfl rfl rfl; apply run_gNo rfl rfl rfl rfl rfl; apply run_gNo rfl rfl rfl rfl rfl; apply run_gNo rfl rfl rfl rfl rfl; apply run_gNo rfl rfl rfl rfl rfl; apply run_gNo rfl rfl rfl rfl rfl; apply run_step rfl; (exact stp_pickT rfl rfl rfl); refine run_nil ?_; refine fin_seq ?_)
        refine goes_cond rfl (fun _ => ?_) (fun e => by cases e)
        (refine goes_seq ?_; refine goes_region ?_; apply run_step rfl; (exact stp_assign rfl rfl); refine run_nil ?_; refine fin_seq ?_; refine goes_ret ?_; refine fin_ret_block ?_; refine fin_ret_then ?_; refine fin_ret_then ?_; refine fin_ret_block ?_; refine fin_ret_then ?_)
        exact fin_ret1 (.inl rfl) rfl (.tmp rfl) trivial trivial
      · have e1 : (d : Int) ≠ k := of_decide_eq_false h1
        (apply run_gYes rfl rfl rfl; (exact stp_move rfl rfl); apply run_gYes rfl rfl rfl; (exact stp_move rfl rfl); apply run_gYes rfl rfl rfl; (exact stp_ixE rfl rfl rfl rfl rfl (by as_aux_lemma => kernel_rfl) (by first | assumption | exact ivals_get (by assumption) | exact irows_get (by assumption) | exact ivals_get (by omega) | exact irows_get (by omega) | rfl) (by first | rfl | exact (Int.toNat_of_nonneg (by omega)).symm) (by first | assumption | omega | (simp; omega)) (by first | exact Nat.le_refl _ | exact Nat.le_of_eq (ivals_len _).symm | exact Nat.le_of_eq (irows_len _).symm | (refine Nat.le_trans ?_ (Nat.le_of_eq (ivals_len _).symm); (first | omega | (simp; done) | (simp; omega))) | (refine Nat.le_trans ?_ (Nat.le_of_eq (irows_len _).symm); (first | omega | (simp; done) | (simp; omega))))); apply run_gYes rfl rfl rfl; (exact stp_loadE' rfl (by as_aux_lemma => kernel_rfl) rfl rfl rfl (by first | assumption | exact ivals_get (by assumption) | exact irows_get (by assumption) | exact ivals_get (by omega) | exact irows_get (by omega) | rfl) (by first | assumption | exact ivals_get (by assumption) | exact irows_get (by assumption) | exact ivals_get (by omega) | exact irows_get (by omega) | rfl)); apply run_gYes rfl rfl rfl; (exact stp_move rfl rfl); apply run_gYes rfl rfl rfl; (exact stp_bin rfl rfl rfl rfl); apply run_step rfl; (exact stp_pickF rfl rfl rfl); refine run_nil ?_; refine fin_seq ?_)
        refine goes_cond rfl (fun h2 => ?_) (fun h2 => ?_)
        · have e2 : iget zs d ≠ k := by simpa using h2
          rw [isFreeL_no hlt' (.inr (by rw [hd, Int.toNat_natCast]; exact e2))]
          (refine goes_seq ?_; refine goes_region ?_; apply run_step rfl; (exact stp_assign rfl rfl); refine run_nil ?_; refine fin_seq ?_; refine goes_ret ?_; refine fin_ret_block ?_; refine fin_ret_then ?_; refine fin_ret_then ?_; refine fin_ret_block ?_; refine fin_ret_then ?_)
          exact fin_ret1 (.inl rfl) rfl (.tmp rfl) trivial trivial
        · have e2 : iget zs d = k := by simpa using h2
          (refine goes_skip ?_; refine fin_block ?_; refine fin_seq ?_; refine goes_region ?_; apply run_step rfl; (exact stp_add rfl rfl rfl (by first | exact IntWalk.i64_in _ (by omega) | rfl)); apply run_step rfl; (exact stp_move rfl rfl); refine run_nil ?_)
          exact fin_round (k + 1) ⟨by omega, fun j hj => by
            by_cases e : j = k
            · subst e; rw [hd, Int.toNat_natCast]; exact ⟨e1, e2⟩
            · exact hok j (by omega)⟩ (by omega) (Wk.of ⟨rfl, rfl, rfl, rfl, trivial⟩ ⟨rfl, trivial⟩ trivial)
    · obtain rfl : k = zs.length := by omega
      rw [isFreeL_yes hok]
      (refine goes_exit ?_; refine fin_exit_then ?_; refine fin_exit_then ?_; refine fin_exit_eq ?_; refine fin_seq ?_; refine goes_seq ?_; refine goes_region ?_; apply run_step rfl; (exact stp_assign rfl rfl); refine run_nil ?_; refine fin_seq ?_; refine goes_ret ?_)
      exact fin_ret1 (.inl rfl) rfl (.tmp rfl) trivial trivial
end Go.Proofs.Ytmdhljleaijkbaa

/- The orbit of a point, the reference's: l01Orbit. -/
namespace Go.Proofs.Ytmdhljleaijkbaa
open Go.RowKit

theorem bat_pad {a p : List Bool} {d : Nat} (h : d < a.length) : bat (a ++ p) d = bat a d := by simp [bat, List.getElem?_append_left h]
theorem set_padB {a p : List Bool} {d : Nat} (h : d < a.length) (b : Bool) : (a ++ p).set d b = a.set d b ++ p := List.set_append_left _ _ h
set_option maxRecDepth 100000 in
set_option maxHeartbeats 2000000 in
theorem orbS_fc (zss : List (List Int)) (n c : Nat) (hT : Leads zss n) (hpos : 0 < zss.length) (hn : n ≤ 1000000) (hg : zss.length ≤ 1000000) (hc : c < n) :
    FC Try.prog 99 [(1003, rowsRo zss)] [o1 (.sl 1003 0 zss.length), vv (I6 c)] [(12, leOw (orb zss n c).2)] (o1 (.sl 12 0 (orb zss n c).2.length)) [] := by
  have hlen : (irows zss).length = zss.length := irows_len _
  have hr0 : (lget zss 0).length = n := hT.len 0 hpos
  have hrow0 : (irows zss)[0]? = some (ivals (lget zss 0)) := irows_get hpos
  have hil : (ivals (lget zss 0)).length = n := by rw [ivals_len]; exact hr0
  refine fc_enter (nt := 63) Try.func99 rfl rfl (by simp) fun w0 ω0 => ?_
  (refine goes_seq ?_; refine goes_region ?_; apply run_step rfl; (exact stp_assign rfl rfl); refine run_nil ?_; refine fin_seq ?_; refine goes_seq ?_; refine goes_region ?_; apply run_step rfl; (exact stp_move rfl rfl); apply run_step rfl; (exact stp_lit1I (E := 2) rfl (by as_aux_lemma => kernel_rfl) rfl); apply run_step rfl; (exact stp_assign rfl rfl); refine run_nil ?_; refine fin_seq ?_; refine goes_seq ?_; refine goes_region ?_; apply run_step rfl; (exact stp_assign rfl rfl); refine run_nil ?_; refine fin_seq ?_; refine goes_seq ?_; refine goes_seq ?_; refine goes_region ?_; apply run_step rfl; (exact stp_move rfl rfl); apply run_step rfl; (exact stp_len rfl rfl rfl (by as_aux_lemma => kernel_rfl)); apply run_step rfl; (exact stp_bin rfl rfl rfl rfl); refine run_nil ?_; refine fin_seq ?_)
  refine goes_if rfl (fun _ => ?_) (fun h => absurd hpos (by omega))
  have hm0 : ((n : Int) + (c : Int) + 1) = ((n + c + 1 : Nat) : Int) := by omega
  have hrp : (List.replicate (n + c + 1) false).length = n + c + 1 := by simp
  have hst : (List.replicate (n + c + 1) false).set c true = (oStart n c).1 ++ List.replicate (c + 1) false := by
    rw [show n + c + 1 = n + (c + 1) by omega, ← List.replicate_append_replicate, set_padB (by simpa using hc)]; rfl
  have hbl : n + c + 1 ≤ (bvals (List.replicate (n + c + 1) false)).length := by rw [bvals_len]; simp
  (refine goes_region ?_; apply run_step rfl; (exact stp_move rfl rfl); apply run_step rfl; (first | exact stp_ix (j := 0) rfl rfl rfl rfl rfl (by as_aux_lemma => kernel_rfl) rfl hpos (Nat.le_of_eq hlen.symm) | exact stp_loadR rfl (by as_aux_lemma => kernel_rfl) rfl rfl rfl hrow0 hil | exact stp_makeB (n := n + c + 1) (E := 4) rfl (by as_aux_lemma => kernel_rfl) (by as_aux_lemma => kernel_rfl) rfl rfl hm0 hm0 (by omega) | exact stp_ix (j := c) rfl rfl rfl rfl rfl (by as_aux_lemma => kernel_rfl) rfl (by omega) hbl | exact stp_stB (bs := List.replicate (n + c + 1) false) rfl rfl rfl rfl rfl (by rw [hrp]; omega) (by as_aux_lemma => kernel_rfl)); apply run_step rfl; (first | exact stp_ix (j := 0) rfl rfl rfl rfl rfl (by as_aux_lemma => kernel_rfl) rfl hpos (Nat.le_of_eq hlen.symm) | exact stp_loadR rfl (by as_aux_lemma => kernel_rfl) rfl rfl rfl hrow0 hil | exact stp_makeB (n := n + c + 1) (E := 4) rfl (by as_aux_lemma => kernel_rfl) (by as_aux_lemma => kernel_rfl) rfl rfl hm0 hm0 (by omega) | exact stp_ix (j := c) rfl rfl rfl rfl rfl (by as_aux_lemma => kernel_rfl) rfl (by omega) hbl | exact stp_stB (bs := List.replicate (n + c + 1) false) rfl rfl rfl rfl rfl (by rw [hrp]; omega) (by as_aux_lemma => kernel_rfl)); apply run_step rfl; (exact stp_len rfl rfl rfl (by as_aux_lemma => kernel_rfl)); apply run_step rfl; (exact stp_assign rfl rfl); refine run_nil ?_; refine fin_seq ?_; refine goes_seq ?_; refine goes_region ?_; apply run_step rfl; (exact stp_move rfl rfl); apply run_step rfl; (exact stp_move rfl rfl); apply run_step rfl; (exact stp_add rfl rfl rfl (by first | exact IntWalk.i64_in _ (by omega) | rfl)); apply run_step rfl; (exact stp_add rfl rfl rfl (by first | exact IntWalk.i64_in _ (by omega) | rfl)); apply run_step rfl; (first | exact stp_ix (j := 0) rfl rfl rfl rfl rfl (by as_aux_lemma => kernel_rfl) rfl hpos (Nat.le_of_eq hlen.symm) | exact stp_loadR rfl (by as_aux_lemma => kernel_rfl) rfl rfl rfl hrow0 hil | exact stp_makeB (n := n + c + 1) (E := 4) rfl (by as_aux_lemma => kernel_rfl) (by as_aux_lemma => kernel_rfl) rfl rfl hm0 hm0 (by omega) | exact stp_ix (j := c) rfl rfl rfl rfl rfl (by as_aux_lemma => kernel_rfl) rfl (by omega) hbl | exact stp_stB (bs := List.replicate (n + c + 1) false) rfl rfl rfl rfl rfl (by rw [hrp]; omega) (by as_aux_lemma => kernel_rfl)); apply run_step rfl; (exact stp_assign rfl rfl); refine run_nil ?_; refine fin_seq ?_; refine goes_seq ?_; refine goes_region ?_; apply run_step rfl; (exact stp_move rfl rfl); apply run_step rfl; (exact stp_move rfl rfl); apply run_step rfl; (first | exact stp_ix (j := 0) rfl rfl rfl rfl rfl (by as_aux_lemma => kernel_rfl) rfl hpos (Nat.le_of_eq hlen.symm) | exact stp_loadR rfl (by as_aux_lemma => kernel_rfl) rfl rfl rfl hrow0 hil | exact stp_makeB (n := n + c + 1) (E := 4) rfl (by as_aux_lemma => kernel_rfl) (by as_aux_lemma => kernel_rfl) rfl rfl hm0 hm0 (by omega) | exact stp_ix (j := c) rfl rfl rfl rfl rfl (by as_aux_lemma => kernel_rfl) rfl (by omega) hbl | exact stp_stB (bs := List.replicate (n + c + 1) false) rfl rfl rfl rfl rfl (by rw [hrp]; omega) (by as_aux_lemma => kernel_rfl)); apply run_step rfl; (first | exact stp_ix (j := 0) rfl rfl rfl rfl rfl (by as_aux_lemma => kernel_rfl) rfl hpos (Nat.le_of_eq hlen.symm) | exact stp_loadR rfl (by as_aux_lemma => kernel_rfl) rfl rfl rfl hrow0 hil | exact stp_makeB (n := n + c + 1) (E := 4) rfl (by as_aux_lemma => kernel_rfl) (by as_aux_lemma => kernel_rfl) rfl rfl hm0 hm0 (by omega) | exact stp_ix (j := c) rfl rfl rfl rfl rfl (by as_aux_lemma => kernel_rfl) rfl (by omega) hbl | exact stp_stB (bs := List.replicate (n + c + 1) false) rfl rfl rfl rfl rfl (by rw [hrp]; omega) (by as_aux_lemma => kernel_rfl)); refine run_nil ?_; refine fin_seq ?_; refine goes_seq ?_; refine goes_seq ?_; refine goes_region ?_; apply run_step rfl; (exact stp_assign rfl rfl); refine run_nil ?_; refine fin_seq ?_; refine goes_block ?_)
  rw [hst]
  generalize hm : 2 ^ zss.length - 1 = mask
  have hstep : ∀ k, k < zss.length → ∀ c s, mStep zss mask c s k = oStep zss c s k := fun k hk c s => by rw [← hm]; exact oStep_eq hk c s
  have hout : orb zss n c = mLoop zss mask zss.length (n + 1) 0 (oStart n c) := by rw [← hm]; rfl
  rw [hout]
  refine goes_loop (fun q : Nat × MSt => St.of [(0, o1 (.sl 1003 0 zss.length)), (5, o1 (.sl 12 0 q.2.2.length)), (7, o1 (.sl 24 0 (n + c + 1))), (8, vv (I6 q.1))] [(1003, rowsRo zss), (12, leOw q.2.2), (24, boOw (q.2.1 ++ List.replicate (c + 1) false))])
    (fun q => q.1 ≤ q.2.2.length ∧ MOK n q.2 ∧ mLoop zss mask zss.length (n + 1 - q.1) q.1 q.2 = mLoop zss mask zss.length (n + 1) 0 (oStart n c)) (fun q => n + 1 - q.1) (0, oStart n c) ⟨Nat.zero_le _, oStart_ok hc, rfl⟩ (Wk.of ⟨rfl, rfl, rfl, rfl, trivial⟩ ⟨rfl, rfl, rfl, trivial⟩ trivial) ?_
  rintro ⟨i, s⟩ ⟨hi, hok, hl⟩
  dsimp only at hi hl ⊢
  have hOn : s.2.length ≤ n := hok.le
  (refine goes_seq ?_; refine goes_seq ?_; refine goes_region ?_; apply run_step rfl; (exact stp_move rfl rfl); apply run_step rfl; (exact stp_move rfl rfl); apply run_step rfl; (exact stp_len rfl rfl rfl (by as_aux_lemma => kernel_rfl)); apply run_step rfl; (exact stp_bin rfl rfl rfl rfl); refine run_nil ?_; refine fin_seq ?_)
  refine goes_if rfl (fun h => ?_) (fun h => ?_)
  · have hlt : i < s.2.length := by omega
    have hl' : mLoop zss mask zss.length (n - i) (i + 1) (mRow zss mask zss.length (iget s.2 i).toNat s) = mLoop zss mask zss.length (n + 1) 0 (oStart n c) := by
      rw [← hl, show n + 1 - i = (n - i) + 1 by omega]; exact (mLoop_step hlt).symm
    obtain ⟨e, he1, he2, -⟩ := hok.q i hlt
    rw [he1, Int.toNat_natCast] at hl'
    have hro := fun m hm => mRow_ok (mask := mask) hT rfl he2 hok m hm
    obtain ⟨s0, hs0⟩ : ∃ s0 : MSt, s0 = s := ⟨_, rfl⟩
    rw [← hs0] at hro hl'
    have hi0 : i < s0.2.length := by rw [hs0]; exact hlt
    have he0 : iget s0.2 i = (e : Int) := by rw [hs0]; exact he1
    (refine goes_skip ?_; refine fin_seq ?_; refine goes_seq ?_; refine goes_block ?_; refine goes_seq ?_; refine goes_region ?_; apply run_step rfl; (exact stp_assign rfl rfl); refine run_nil ?_; refine fin_seq ?_; refine goes_block ?_)
    refine goes_loop (fun q : Nat × MSt => St.of [(0, o1 (.sl 1003 0 zss.length)), (5, o1 (.sl 12 0 q.2.2.length)), (7, o1 (.sl 24 0 (n + c + 1))), (8, vv (I6 i)), (9, vv (I6 q.1))] [(1003, rowsRo zss), (12, leOw q.2.2), (24, boOw (q.2.1 ++ List.replicate (c + 1) false))])
      (fun q => q.1 ≤ zss.length ∧ (List.range q.1).foldl (mStep zss mask e) s0 = q.2) (fun q => zss.length - q.1) (0, s) ⟨Nat.zero_le _, hs0⟩ (Wk.of ⟨rfl, rfl, rfl, rfl, rfl, trivial⟩ ⟨rfl, rfl, rfl, trivial⟩ trivial) ?_
    clear hl hok hs0 he1 hlt h hi hOn
    rintro ⟨k, s⟩ ⟨hk, hfo⟩
    dsimp only at hk hfo ⊢
    obtain ⟨hok, grw, _⟩ := hro k hk
    rw [hfo] at hok grw
    have hOn : s.2.length ≤ n := hok.le
    have hlt : i < s.2.length := Nat.lt_of_lt_of_le hi0 grw.len
    have hei : iget s.2 i = (e : Int) := (grw.pre i hi0).trans he0
    have hbl : s.1.length = n := hok.l
    (refine goes_seq ?_; refine goes_seq ?_; refine goes_region ?_; apply run_step rfl; (exact stp_move rfl rfl); apply run_step rfl; (exact stp_move rfl rfl); apply run_step rfl; (exact stp_len rfl rfl rfl (by as_aux_lemma => kernel_rfl)); apply run_step rfl; (exact stp_bin rfl rfl rfl rfl); refine run_nil ?_; refine fin_seq ?_)
    refine goes_if rfl (fun h2 => ?_) (fun h2 => ?_)
    · have hkn : k < zss.length := by omega
      have hd := bTo_lt hT he2 (g := k) hkn
      have hrl : (lget zss k).length = n := hT.len k hkn
      have hrowk : (irows zss)[k]? = some (ivals (lget zss k)) := irows_get hkn
      have hilk : (ivals (lget zss k)).length = n := by rw [ivals_len]; exact hrl
      obtain ⟨d, hdd⟩ : ∃ d, bTo zss e k = d := ⟨_, rfl⟩
      have hst : (List.range (k + 1)).foldl (mStep zss mask e) s0 = oStep zss e s k := by
        rw [List.range_succ, List.foldl_append, hfo]; exact hstep k hkn e s
      unfold oStep at hst
      rw [hdd] at hd hst
      have hgetd : (ivals (lget zss k))[e]? = some (I6 (d : Int)) := by rw [ivals_get (by omega), hd.2]
      have hgq : (ivals s.2)[i]? = some (I6 (e : Int)) := by rw [ivals_get hlt, hei]
      have hgb : (bvals (s.1 ++ List.replicate (c + 1) false))[d]? = some (.bool (bat s.1 d)) := by rw [bvals_get (by rw [List.length_append]; omega), bat_pad (by omega)]
      have hel : e < (ivals (lget zss k)).length := by rw [hilk]; exact he2
      have hbb : n + c + 1 ≤ (bvals (s.1 ++ List.replicate (c + 1) false)).length := by rw [bvals_len, List.length_append, hbl, List.length_replicate]; omega
      have hq0 : s.2.length ≤ (ivals s.2).length := by rw [ivals_len]; exact Nat.le_refl _
      (refine goes_skip ?_; refine fin_seq ?_; refine goes_seq ?_; refine goes_block ?_; refine goes_seq ?_)
      apply goes_draw 11 [] [[], [], [0, 1], [0, 1, 2], [], [], [4, 5], [4, 5, 6], [0, 1, 2, 3, 4, 5, 6, 7], [0, 1, 2, 3, 4, 5, 6, 7, 8], [0, 1, 2, 3, 4, 5, 6, 7, 8, 9]] [40, 41, 42, 43, 44, 45, 46, 47, 48, 49, 10] [] (by kernel_rfl) (by kernel_rfl)
      · (apply draw_put rfl; (intro S1 hS; exact stp_move rfl (hS.op rfl)); apply draw_put rfl; (intro S1 hS; exact stp_move rfl (hS.op rfl)); (first | (apply draw_put rfl; (focus (intro S1 hS; exact stp_ix (j := k) rfl (hS.op rfl) (hS.op rfl) (hS.ch _ _ rfl) rfl (by as_aux_lemma => kernel_rfl) rfl hkn (Nat.le_of_eq hlen.symm)))) | (apply draw_put rfl; (focus (intro S1 hS; exact stp_loadR rfl (by as_aux_lemma => kernel_rfl) (hS.op rfl) (hS.ch _ _ rfl) rfl hrowk hilk))) | (apply draw_put rfl; (focus (intro S1 hS; exact stp_ix (j := i) rfl (hS.op rfl) (hS.op rfl) (hS.ch _ _ rfl) rfl (by as_aux_lemma => kernel_rfl) rfl hlt hq0))) | (apply draw_put rfl; (focus (intro S1 hS; exact stp_loadV rfl (by as_aux_lemma => kernel_rfl) (hS.op rfl) (hS.ch _ _ rfl) rfl hgq))) | (apply draw_put rfl; (focus (intro S1 hS; exact stp_ixE (j := e) rfl (hS.op rfl) (hS.op rfl) (hS.ch _ _ rfl) rfl (by as_aux_lemma => kernel_rfl) hrowk rfl he2 (Nat.le_of_eq hilk.symm)))) | (apply draw_put rfl; (focus (intro S1 hS; exact stp_loadE' rfl (by as_aux_lemma => kernel_rfl) (hS.op rfl) (hS.ch _ _ rfl) rfl hrowk hgetd)))); (first | (apply draw_put rfl; (focus (intro S1 hS; exact stp_ix (j := k) rfl (hS.op rfl) (hS.op rfl) (hS.ch _ _ rfl) rfl (by as_aux_lemma => kernel_rfl) rfl hkn (Nat.le_of_eq hlen.symm)))) | (apply draw_put rfl; (focus (intro S1 hS; exact stp_loadR rfl (by as_aux_lemma => kernel_rfl) (hS.op rfl) (hS.ch _ _ rfl) rfl hrowk hilk))) | (apply draw_put rfl; (focus (intro S1 hS; exact stp_ix (j := i) rfl (hS.op rfl) (hS.op rfl) (hS.ch _ _ rfl) rfl (by as_aux_lemma => kernel_rfl) rfl hlt hq0))) | (apply draw_put rfl; (focus (intro S1 hS; exact stp_loadV rfl (by as_aux_lemma => kernel_rfl) (hS.op rfl) (hS.ch _ _ rfl) rfl hgq))) | (apply draw_put rfl; (focus (intro S1 hS; exact stp_ixE (j := e) rfl (hS.op rfl) (hS.op rfl) (hS.ch _ _ rfl) rfl (by as_aux_lemma => kernel_rfl) hrowk rfl he2 (Nat.le_of_eq hilk.symm)))) | (apply draw_put rfl; (focus (intro S1 hS; exact stp_loadE' rfl (by as_aux_lemma => kernel_rfl) (hS.op rfl) (hS.ch _ _ rfl) rfl hrowk hgetd)))); apply draw_put rfl; (intro S1 hS; exact stp_move rfl (hS.op rfl)); apply draw_put rfl; (intro S1 hS; exact stp_move rfl (hS.op rfl)); (first | (apply draw_put rfl; (focus (intro S1 hS; exact stp_ix (j := k) rfl (hS.op rfl) (hS.op rfl) (hS.ch _ _ rfl) rfl (by as_aux_lemma => kernel_rfl) rfl hkn (Nat.le_of_eq hlen.symm)))) | (apply draw_put rfl; (focus (intro S1 hS; exact stp_loadR rfl (by as_aux_lemma => kernel_rfl) (hS.op rfl) (hS.ch _ _ rfl) rfl hrowk hilk))) | (apply draw_put rfl; (focus (intro S1 hS; exact stp_ix (j := i) rfl (hS.op rfl) (hS.op rfl) (hS.ch _ _ rfl) rfl (by as_aux_lemma => kernel_rfl) rfl hlt hq0))) | (apply draw_put rfl; (focus (intro S1 hS; exact stp_loadV rfl (by as_aux_lemma => kernel_rfl) (hS.op rfl) (hS.ch _ _ rfl) rfl hgq))) | (apply draw_put rfl; (focus (intro S1 hS; exact stp_ixE (j := e) rfl (hS.op rfl) (hS.op rfl) (hS.ch _ _ rfl) rfl (by as_aux_lemma => kernel_rfl) hrowk rfl he2 (Nat.le_of_eq hilk.symm)))) | (apply draw_put rfl; (focus (intro S1 hS; exact stp_loadE' rfl (by as_aux_lemma => kernel_rfl) (hS.op rfl) (hS.ch _ _ rfl) rfl hrowk hgetd)))); (first | (apply draw_put rfl; (focus (intro S1 hS; exact stp_ix (j := k) rfl (hS.op rfl) (hS.op rfl) (hS.ch _ _ rfl) rfl (by as_aux_lemma => kernel_rfl) rfl hkn (Nat.le_of_eq hlen.symm)))) | (apply draw_put rfl; (focus (intro S1 hS; exact stp_loadR rfl (by as_aux_lemma => kernel_rfl) (hS.op rfl) (hS.ch _ _ rfl) rfl hrowk hilk))) | (apply draw_put rfl; (focus (intro S1 hS; exact stp_ix (j := i) rfl (hS.op rfl) (hS.op rfl) (hS.ch _ _ rfl) rfl (by as_aux_lemma => kernel_rfl) rfl hlt hq0))) | (apply draw_put rfl; (focus (intro S1 hS; exact stp_loadV rfl (by as_aux_lemma => kernel_rfl) (hS.op rfl) (hS.ch _ _ rfl) rfl hgq))) | (apply draw_put rfl; (focus (intro S1 hS; exact stp_ixE (j := e) rfl (hS.op rfl) (hS.op rfl) (hS.ch _ _ rfl) rfl (by as_aux_lemma => kernel_rfl) hrowk rfl he2 (Nat.le_of_eq hilk.symm)))) | (apply draw_put rfl; (focus (intro S1 hS; exact stp_loadE' rfl (by as_aux_lemma => kernel_rfl) (hS.op rfl) (hS.ch _ _ rfl) rfl hrowk hgetd)))); (first | (apply draw_put rfl; (focus (intro S1 hS; exact stp_ix (j := k) rfl (hS.op rfl) (hS.op rfl) (hS.ch _ _ rfl) rfl (by as_aux_lemma => kernel_rfl) rfl hkn (Nat.le_of_eq hlen.symm)))) | (apply draw_put rfl; (focus (intro S1 hS; exact stp_loadR rfl (by as_aux_lemma => kernel_rfl) (hS.op rfl) (hS.ch _ _ rfl) rfl hrowk hilk))) | (apply draw_put rfl; (focus (intro S1 hS; exact stp_ix (j := i) rfl (hS.op rfl) (hS.op rfl) (hS.ch _ _ rfl) rfl (by as_aux_lemma => kernel_rfl) rfl hlt hq0))) | (apply draw_put rfl; (focus (intro S1 hS; exact stp_loadV rfl (by as_aux_lemma => kernel_rfl) (hS.op rfl) (hS.ch _ _ rfl) rfl hgq))) | (apply draw_put rfl; (focus (intro S1 hS; exact stp_ixE (j := e) rfl (hS.op rfl) (hS.op rfl) (hS.ch _ _ rfl) rfl (by as_aux_lemma => kernel_rfl) hrowk rfl he2 (Nat.le_of_eq hilk.symm)))) | (apply draw_put rfl; (focus (intro S1 hS; exact stp_loadE' rfl (by as_aux_lemma => kernel_rfl) (hS.op rfl) (hS.ch _ _ rfl) rfl hrowk hgetd)))); (first | (apply draw_put rfl; (focus (intro S1 hS; exact stp_ix (j := k) rfl (hS.op rfl) (hS.op rfl) (hS.ch _ _ rfl) rfl (by as_aux_lemma => kernel_rfl) rfl hkn (Nat.le_of_eq hlen.symm)))) | (apply draw_put rfl; (focus (intro S1 hS; exact stp_loadR rfl (by as_aux_lemma => kernel_rfl) (hS.op rfl) (hS.ch _ _ rfl) rfl hrowk hilk))) | (apply draw_put rfl; (focus (intro S1 hS; exact stp_ix (j := i) rfl (hS.op rfl) (hS.op rfl) (hS.ch _ _ rfl) rfl (by as_aux_lemma => kernel_rfl) rfl hlt hq0))) | (apply draw_put rfl; (focus (intro S1 hS; exact stp_loadV rfl (by as_aux_lemma => kernel_rfl) (hS.op rfl) (hS.ch _ _ rfl) rfl hgq))) | (apply draw_put rfl; (focus (intro S1 hS; exact stp_ixE (j := e) rfl (hS.op rfl) (hS.op rfl) (hS.ch _ _ rfl) rfl (by as_aux_lemma => kernel_rfl) hrowk rfl he2 (Nat.le_of_eq hilk.symm)))) | (apply draw_put rfl; (focus (intro S1 hS; exact stp_loadE' rfl (by as_aux_lemma => kernel_rfl) (hS.op rfl) (hS.ch _ _ rfl) rfl hrowk hgetd)))); apply draw_put rfl; (intro S1 hS; exact stp_assign rfl (hS.op rfl)); exact Draw.nil)
      · rfl
      ((refine rest_done (by as_aux_lemma => kernel_rfl) ?_; skip))
      (refine fin_seq ?_; refine goes_seq ?_; refine goes_region ?_; apply run_step rfl; (exact stp_move rfl rfl); apply run_step rfl; (exact stp_move rfl rfl); apply run_step rfl; (exact stp_ix (j := d) rfl rfl rfl rfl rfl (by as_aux_lemma => kernel_rfl) rfl (by omega) hbb); apply run_step rfl; (exact stp_loadV rfl (by as_aux_lemma => kernel_rfl) rfl rfl rfl (by first | assumption | exact ivals_get (by assumption) | exact irows_get (by assumption) | exact ivals_get (by omega) | exact irows_get (by omega) | rfl)); apply run_step rfl; (exact stp_not rfl rfl); refine run_nil ?_; refine fin_seq ?_)
      refine goes_cond rfl (fun hb => ?_) (fun hb => ?_)
      · have hb : bat s.1 d = false := by simpa using hb
        have hv : (List.range (k + 1)).foldl (mStep zss mask e) s0 = (s.1.set d true, s.2 ++ [(d : Int)]) := by rw [hst, if_pos hb]
        (refine goes_seq ?_; refine goes_region ?_; apply run_step rfl; (exact stp_move rfl rfl); apply run_step rfl; (exact stp_move rfl rfl); apply run_step rfl; (first | exact stp_ix (j := d) rfl rfl rfl rfl rfl (by as_aux_lemma => kernel_rfl) rfl (by omega) hbb | exact stp_stB rfl rfl rfl rfl rfl (by rw [List.length_append]; omega) (by as_aux_lemma => kernel_rfl)); apply run_step rfl; (first | exact stp_ix (j := d) rfl rfl rfl rfl rfl (by as_aux_lemma => kernel_rfl) rfl (by omega) hbb | exact stp_stB rfl rfl rfl rfl rfl (by rw [List.length_append]; omega) (by as_aux_lemma => kernel_rfl)); refine run_nil ?_; refine fin_seq ?_; refine goes_region ?_; apply run_step rfl; (exact stp_move rfl rfl); apply run_step rfl; (exact stp_move rfl rfl); apply run_step rfl; (exact stp_lit1I (E := 2) rfl (by as_aux_lemma => kernel_rfl) rfl); apply run_step rfl; (exact stp_appI rfl (by as_aux_lemma => kernel_rfl) rfl rfl rfl (by first | rfl | assumption | (simp; done)) rfl rfl (by omega)); apply run_step rfl; (exact stp_assign rfl rfl); refine run_nil ?_; refine fin_block ?_; refine fin_seq ?_; refine goes_region ?_; apply run_step rfl; (exact stp_move rfl rfl); apply run_step rfl; (exact stp_add rfl rfl rfl (by first | exact IntWalk.i64_in _ (by omega) | rfl)); apply run_step rfl; (exact stp_assign rfl rfl); refine run_nil ?_)
        exact fin_round (k + 1, (s.1.set d true, s.2 ++ [(d : Int)])) ⟨hkn, hv⟩ (by show zss.length - (k + 1) < zss.length - k; omega) (Wk.of ⟨rfl, congrArg (fun x => some (o1 (.sl 12 0 x))) (by simp), rfl, rfl, rfl, trivial⟩ ⟨rfl, rfl, congrArg (fun l => some (boOw l)) (set_padB (by omega) true), trivial⟩ trivial)
      · have hb : bat s.1 d = true := by simpa using hb
        have hv : (List.range (k + 1)).foldl (mStep zss mask e) s0 = s := by rw [hst, if_neg (by rw [hb]; simp)]
        (refine goes_skip ?_; refine fin_block ?_; refine fin_seq ?_; refine goes_region ?_; apply run_step rfl; (exact stp_move rfl rfl); apply run_step rfl; (exact stp_add rfl rfl rfl (by first | exact IntWalk.i64_in _ (by omega) | rfl)); apply run_step rfl; (exact stp_assign rfl rfl); refine run_nil ?_)
        exact fin_round (k + 1, s) ⟨hkn, hv⟩ (by show zss.length - (k + 1) < zss.length - k; omega) (Wk.of ⟨rfl, rfl, rfl, rfl, rfl, trivial⟩ ⟨rfl, rfl, rfl, trivial⟩ trivial)
    · obtain rfl : k = zss.length := by omega
      (refine goes_exit ?_; refine fin_exit_then ?_; refine fin_exit_then ?_; refine fin_exit_eq ?_; refine fin_block ?_; refine fin_seq ?_; refine goes_region ?_; apply run_step rfl; (exact stp_move rfl rfl); apply run_step rfl; (exact stp_add rfl rfl rfl (by first | exact IntWalk.i64_in _ (by omega) | rfl)); apply run_step rfl; (exact stp_assign rfl rfl); refine run_nil ?_)
      exact fin_round (i + 1, s) ⟨hlt, hok, by rw [← hl']; show mLoop _ _ _ (n + 1 - (i + 1)) _ _ = _; rw [show n + 1 - (i + 1) = n - i by omega]; unfold mRow; rw [hfo]⟩ (by show n + 1 - (i + 1) < n + 1 - i; omega) (Wk.of ⟨rfl, rfl, rfl, rfl, trivial⟩ ⟨rfl, rfl, rfl, trivial⟩ trivial)
  · have hio : i = s.2.length := by omega
    have hOM : mLoop zss mask zss.length (n + 1) 0 (oStart n c) = s := by
      rw [← hl, show n + 1 - i = (n - i) + 1 by omega, mLoop, if_neg (by omega)]
    rw [hOM]
    (refine goes_exit ?_; refine fin_exit_then ?_; refine fin_exit_then ?_; refine fin_exit_eq ?_; refine fin_seq ?_; refine goes_seq ?_; refine goes_region ?_; apply run_step rfl; (exact stp_move rfl rfl); apply run_step rfl; (exact stp_assign rfl rfl); refine run_nil ?_; refine fin_seq ?_; refine goes_ret ?_)
    exact fin_ret1 (.inl rfl) rfl (.tmp rfl) ⟨rfl, trivial⟩ trivial
end Go.Proofs.Ytmdhljleaijkbaa
