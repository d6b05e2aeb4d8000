/- A memory of names: a region that draws its order and holds guards, walked once. No program in sight. -/
import Derived.Test.YtnfkhgamnapgmaaPart3
import Derived.Test.YtnfkhgamnapgmaaPart2
import Derived.Test.YtnfkhgamnapgmaaProg
import Derived.Test.YtnfkhgamnapgmaaPart1
import Derived.Laws.CopyOwn
import Derived.Deep.RegionLaw
import Derived.RegionTactic
import Derived.Deep.RegionHeld3
namespace Go.Proofs.Ytnfkhgamnapgmaa
open Go.RowKit

section
variable {P : Program} {nt : Nat} {w0 w : World} {ω0 : Beg} {S S1 : St} {Q : Exit → Act → World → Prop} {a : Act}
/-- an operation, run or passed over, as its guard says -/
inductive GSt (P : Program) (nt : Nat) (ops : Array Oper) (o : Oper) (S1 : St) (A : Add) : Prop where
  | run (hg : o.guard = none) (h : Stp P nt o S1 (S1.add A))
  | yes {j d : Nat} {want : Bool} (hg : o.guard = some (j, want)) (hj : (ops[j]?).bind (·.dst) = some d) (hb : S1.sl d = some (vv (.bool want))) (h : Stp P nt o S1 (S1.add A))
  | no {j d : Nat} {want : Bool} (hg : o.guard = some (j, want)) (hj : (ops[j]?).bind (·.dst) = some d) (hb : S1.sl d = some (vv (.bool (!want)))) (ht : o.dst = some A.t) (hn : Nat.blt A.t nt = true) (ha : A.av = vv undef) (hx : A.news = none)
/-- the operations, one behind the other in the text's order: each may look at what it depends on alone -/
inductive DrawG (P : Program) (nt : Nat) (ops0 : Array Oper) (S : St) (cls : List (List Nat)) (sk : List Nat) : List Oper → List Add → List Add → Prop where
  | nil {done : List Add} : DrawG P nt ops0 S cls sk [] done done
  | skip {o : Oper} {rest : List Oper} {done all : List Add} (A : Add) (hs : memN sk done.length = true) (k : DrawG P nt ops0 S cls sk rest (A :: done) all) : DrawG P nt ops0 S cls sk (o :: rest) done all
  | cons {o : Oper} {rest : List Oper} {done all : List Add} (A : Add)
      (h : ∀ S1, (S.partR (memN (cls.getD done.length [])) done).le S1 → GSt P nt ops0 o S1 A) (k : DrawG P nt ops0 S cls sk rest (A :: done) all) : DrawG P nt ops0 S cls sk (o :: rest) done all
theorem DrawG.spec {ops0 : Array Oper} {cls : List (List Nat)} {sk : List Nat} {ops : List Oper} {done all : List Add} (h : DrawG P nt ops0 S cls sk ops done all) : (∃ r, all.reverse = done.reverse ++ r ∧ r.length = ops.length) ∧ ∀ (i : Nat) (o : Oper), ops[i]? = some o → memN sk (done.length + i) = false →
    ∃ A, all.reverse[done.length + i]? = some A ∧ ∀ S1, (S.partR (memN (cls.getD (done.length + i) [])) (all.reverse.take (done.length + i)).reverse).le S1 → GSt P nt ops0 o S1 A := by
  induction h with
  | nil => exact ⟨⟨[], by simp⟩, fun i o h => by simp at h⟩
  | @skip o rest done all A hs k ih =>
    obtain ⟨⟨r, hr, hl⟩, h2⟩ := ih
    refine ⟨⟨A :: r, by rw [hr]; simp, by simp [hl]⟩, fun i o' hi hsk => ?_⟩
    cases i with
    | zero => rw [Nat.add_zero, hs] at hsk; cases hsk
    | succ i =>
      have e : (A :: done).length + i = done.length + (i + 1) := by simp; omega
      rw [← e] at hsk ⊢
      exact h2 i o' (by simpa using hi) hsk
  | @cons o rest done all A h k ih =>
    obtain ⟨⟨r, hr, hl⟩, h2⟩ := ih
    refine ⟨⟨A :: r, by rw [hr]; simp, by simp [hl]⟩, fun i o' hi hsk => ?_⟩
    cases i with
    | zero =>
      simp at hi; subst hi
      refine ⟨A, by rw [hr]; simp, fun S1 hS => h S1 ?_⟩
      have : (all.reverse.take (done.length + 0)).reverse = done := by rw [hr]; simp
      rw [this] at hS
      exact hS
    | succ i =>
      have e : (A :: done).length + i = done.length + (i + 1) := by simp; omega
      rw [← e] at hsk ⊢
      exact h2 i o' (by simpa using hi) hsk

theorem drawG_main {l : List Oper} {nA : Nat} {sk : List Nat} {cls : List (List Nat)} {ds nms : List Nat} {adds done : List Add} (hcl : ClsOK l.toArray nA sk cls) (hdr : DrawG P nt l.toArray (S.clear ds nms) cls sk (l.take nA) [] done) (hdn : done.reverse = adds) (ok : AddsOK adds cls ds nms)
    (hk : Rest P w0 ω0 nt l.toArray Q (l.length - missing sk #[] nA) (doneL nA sk l.length) ((S.clear ds nms).part (fun j => !memN sk j) adds)) :
    ∀ (d : Nat) (L : Array Bool) (a : Act) (w : World), missing sk L nA = d → L.size = l.length → (∀ j, L.getD j false = true → j < nA ∧ memN sk j = false) → (∀ i, L.getD i false = true → ∀ j ∈ cls.getD i [], L.getD j false = true) →
      Sat w0 ω0 nt ((S.clear ds nms).part (fun j => L.getD j false) adds) a w → wpAny P .any l.toArray Q (l.length - missing sk #[] nA + d) L a w := by
  have hsz : nA ≤ l.length := by have := hcl.size; simpa using this
  obtain ⟨⟨r, hr, hrl⟩, hob⟩ := hdr.spec
  rw [hdn] at hr hob
  have hal : adds.length = nA := by rw [hr]; simp [hrl]; omega
  have hfull : ∀ (L : Array Bool) (i : Nat), i ∈ Region.ready .any l.toArray L → (∀ i, L.getD i false = true → ∀ j ∈ cls.getD i [], L.getD j false = true) → (∃ o, l.toArray[i]? = some o ∧ L.getD i true = false) ∧ ∀ j ∈ cls.getD i [], L.getD j false = true := by
    intro L i hi hclosed
    obtain ⟨h0, o, ho, he⟩ := mem_ready.1 hi
    refine ⟨⟨o, ho, h0⟩, fun j hj => ?_⟩
    obtain ⟨e, hem, hb, hje⟩ := hcl.dep i o ho j hj
    have h1 := he e hem hb
    rcases hje with rfl | hje
    · exact h1
    · exact hclosed e.on h1 j hje
  intro d
  induction d with
  | zero =>
    intro L a w hm hs hsub hclosed hsat
    have hall := missing_zero hm
    have hL : L = doneL nA sk l.length := by
      apply Array.ext
      · simp [hs, doneL]
      · intro j h1 h2
        have h3 : L[j]? = some L[j] := Array.getElem?_eq_getElem h1
        have h4 := doneL_at (nA := nA) (sk := sk) (n := l.length) (j := j) (by omega)
        rw [Array.getElem?_eq_getElem h2] at h4
        rw [Option.some.inj h4]
        cases hb : L[j] with
        | true =>
          have := hsub j (by simp [h1, hb])
          simp [this.1, this.2]
        | false =>
          by_cases hj : j < nA
          · cases hsk : memN sk j with
            | true => simp
            | false =>
              have := hall j hj hsk
              simp [h1, hb] at this
          · simp [hj]
    refine hk.go a w ((St.le.wk (part_le (ℓ1 := fun j => !memN sk j) (ℓ2 := fun j => L.getD j false) ok (fun _ _ h => h) fun j A hj hsk => ?_) fun _ _ h => h).go _ _ _ a w hsat) |> fun h => by rw [← hL] at h; exact h
    have hjl : j < adds.length := (List.getElem?_eq_some_iff.1 hj).1
    exact hall j (by omega) (by simpa using hsk)
  | succ d ih =>
    intro L a w hm hs hsub hclosed hsat
    refine ⟨fun hnil => ?_, fun i hi => ?_⟩
    · exfalso
      obtain ⟨j, hj, hjs', hjf, hlo⟩ := missing_least (k := nA) (by omega : missing sk L nA ≠ 0)
      have hjl : j < l.length := by omega
      have hjs : j < L.size := by omega
      have : j ∈ Region.ready .any l.toArray L := by
        refine mem_ready.2 ⟨?_, l[j], by simp [hjl], fun e he hb => ?_⟩
        · simp [hjs] at hjf ⊢
          exact hjf
        · have h5 := hcl.less j l[j] (by simp [hjl]) hj hjs' e he hb
          exact hlo e.on h5.1 h5.2
      rw [hnil] at this; cases this
    · obtain ⟨⟨o, ho, hi0⟩, hdep⟩ := hfull L i hi hclosed
      have hil : i < l.length := by have := (Array.getElem?_eq_some_iff.1 ho).1; simpa using this
      have his : i < L.size := by omega
      have hif : L.getD i false = false := by simp [his] at hi0 ⊢; exact hi0
      have hnl : ¬ (nA ≤ i ∨ memN sk i = true) := fun h => by
        have := missing_full (sk := sk) (L := L) (k := nA) fun j hj hsk => hdep j (hcl.late i o ho h j hj hsk)
        omega
      have hiA : i < nA := by
        rcases Nat.lt_or_ge i nA with h | h
        · exact h
        · exact absurd (.inl h) hnl
      have hisk : memN sk i = false := by
        cases hsk : memN sk i with
        | false => rfl
        | true => exact absurd (.inr hsk) hnl
      have hot : (l.take nA)[i]? = some o := by rw [List.getElem?_take, if_pos hiA]; simpa using ho
      obtain ⟨A, hA, hstp⟩ := hob i o hot (by simpa using hisk)
      simp only [List.length_nil, Nat.zero_add] at hA hstp
      have hle : ((S.clear ds nms).partR (memN (cls.getD i [])) (adds.take i).reverse).le ((S.clear ds nms).part (fun j => L.getD j false) adds) := partR_le ok (fun j B hj => by
          rw [List.reverse_reverse] at hj
          rw [List.getElem?_take] at hj; split at hj
          · exact hj
          · cases hj) fun j B _ hj => hdep j (memN_iff.1 hj)
      have cont : ∀ a' w', Sat w0 ω0 nt (((S.clear ds nms).part (fun j => L.getD j false) adds).add A) a' w' → wpAny P .any l.toArray Q (l.length - missing sk #[] nA + d) (L.setIfInBounds i true) a' w' := fun a' w' hsat' => by
        have hsat2 := (wk_add ok hA hif fun j hj hm' => by have := hclosed j hj i hm'; rw [hif] at this; cases this).go _ _ _ a' w' hsat'
        have hnew : ∀ j, (L.setIfInBounds i true).getD j false = (Nat.beq j i || L.getD j false) := fun j => by
          by_cases e : j = i
          · subst e; simp [his]
          · rw [getD_set_ne false (fun e' => e e'.symm), beq_ne e, Bool.false_or]
        refine ih (L.setIfInBounds i true) a' w' ?_ (by simp [hs]) (fun j hj => ?_) (fun j hj k hk' => ?_) ?_
        · have := missing_set his hif hisk nA hiA; omega
        · rw [hnew] at hj
          by_cases e : j = i
          · rw [e]; exact ⟨hiA, hisk⟩
          · rw [beq_ne e, Bool.false_or] at hj; exact hsub j hj
        · rw [hnew] at hj ⊢
          by_cases e : j = i
          · subst e; rw [hdep k hk']; simp
          · rw [beq_ne e, Bool.false_or] at hj; rw [hclosed j hj k hk']; simp
        · have : (fun j => (L.setIfInBounds i true).getD j false) = fun j => (Nat.beq j i || L.getD j false) := funext hnew
          rw [this]; exact hsat2
      have hy : ∀ {j dd : Nat} {b : Bool}, (l.toArray[j]?).bind (·.dst) = some dd → ((S.clear ds nms).part (fun j => L.getD j false) adds).sl dd = some (vv (.bool b)) → yielded l.toArray a.tmps j = some b := fun {j dd b} hj hb => by
        obtain ⟨η, ω, hs⟩ := hsat
        obtain ⟨u, k1, k2⟩ := hs.slots dd _ hb
        have k2 : u = .bool b := k2
        subst k2
        unfold yielded
        cases hoj : l.toArray[j]? with
        | none => rw [hoj] at hj; cases hj
        | some oj =>
          rw [hoj] at hj
          simp only [Option.bind_some] at hj
          simp [hj, k1]
      unfold wpOp
      simp only [ho]
      cases hstp _ hle with
      | run hg h =>
        rw [if_pos (by simp [Region.wanted, hg])]
        exact .inl (Oper.wp_mono (fun a' w' hsat' => cont a' w' hsat') (h.go w0 ω0 a w Q hsat))
      | yes hg hj hb h =>
        rw [if_pos (by simp [Region.wanted, hg, hy hj hb])]
        exact .inl (Oper.wp_mono (fun a' w' hsat' => cont a' w' hsat') (h.go w0 ω0 a w Q hsat))
      | @no j dd want hg hj hb ht hn ha hx =>
        rw [if_neg (by simp [Region.wanted, hg, hy hj hb])]
        refine cont _ _ ?_
        obtain ⟨η, ω, hs⟩ := hsat
        refine ⟨η, ω, ?_⟩
        have e : ((S.clear ds nms).part (fun j => L.getD j false) adds).add A = ((S.clear ds nms).part (fun j => L.getD j false) adds).put A.t (vv undef) := by unfold St.add; rw [hx, ha]; rfl
        rw [e, ht]
        exact hs.putV (by simpa using hn) rfl

theorem goes_drawG {id : Nat} {l : List Oper} (nA : Nat) (sk : List Nat) (cls : List (List Nat)) (ds nms : List Nat) {done : List Add} (hm : P.follows .mixedOrders = true) (hcl : clsB l.toArray nA sk cls = true) (hdr : DrawG P nt l.toArray (S.clear ds nms) cls sk (l.take nA) [] done) (ok : addsB done.reverse cls ds nms = true)
    (hk : Rest P w0 ω0 nt l.toArray Q (l.length - missing sk #[] nA) (doneL nA sk l.length) ((S.clear ds nms).partR (fun j => !memN sk j) done)) : Goes P w0 ω0 nt S (.region id l.toArray true) Q := by
  have hc := clsB_spec hcl
  have hsz : nA ≤ l.length := by have := hc.size; simpa using this
  have hk' : Rest P w0 ω0 nt l.toArray Q (l.length - missing sk #[] nA) (doneL nA sk l.length) ((S.clear ds nms).part (fun j => !memN sk j) done.reverse) :=
    ⟨fun a w hs => hk.go a w ((St.le.wk (partR_le (addsB_spec ok) (fun _ _ h => h) fun _ _ _ h => h) fun _ _ h => h).go _ _ _ a w hs)⟩
  have hle : ∀ k, missing sk #[] k ≤ k := fun k => by
    induction k with
    | zero => exact Nat.le_refl _
    | succ k ih => simp only [missing]; split <;> omega
  refine ⟨fun a w hs => wp_region_any hm ?_⟩
  have hfin := drawG_main hc hdr rfl (addsB_spec ok) hk' (missing sk #[] nA) (Array.replicate l.length false) a { w with drawn := w.drawn + 1 } ?_ (by simp) (fun j hj => ?_) (fun i hi => ?_) ?_
  · have := hle nA
    rw [show l.length - missing sk #[] nA + missing sk #[] nA = l.length by omega] at hfin
    simpa using hfin
  · have : ∀ k, k ≤ l.length → missing sk (Array.replicate l.length false) k = missing sk #[] k := fun k => by
      induction k with
      | zero => intro _; rfl
      | succ k ih =>
        intro hk
        simp only [missing]
        rw [ih (by omega)]
        have : (Array.replicate l.length false).getD k false = false := by simp [show k < l.length by omega]
        rw [this]; rfl
    exact this nA hsz
  · exfalso
    by_cases h : j < l.length
    · simp [h] at hj
    · simp [h] at hj
  · exfalso
    by_cases h : i < l.length
    · simp [h] at hi
    · simp [h] at hi
  · have h1 := (wk_clear S ds nms).go _ _ _ a _ (sat_drew hs)
    have hf : ∀ j, (Array.replicate l.length false).getD j false = false := fun j => by
      by_cases h : j < l.length <;> simp [h]
    refine (Wk.less (S := S.clear ds nms) (S' := (S.clear ds nms).part (fun j => (Array.replicate l.length false).getD j false) done.reverse) (fun t av h => ?_) (fun x c h => ?_) fun _ _ h => h).go _ _ _ a _ h1
    · have h : (match lkT (fun j => (Array.replicate l.length false).getD j false) 0 done.reverse t with | some av => some av | none => (S.clear ds nms).sl t) = some av := h
      split at h
      · rename_i av' h2
        obtain ⟨j, A, _, h3, _⟩ := lkT_some h2
        rw [hf] at h3; cases h3
      · exact h
    · have h : (match lkN (fun j => (Array.replicate l.length false).getD j false) 0 done.reverse x with | some c => some c | none => (S.clear ds nms).ch x) = some c := h
      split at h
      · rename_i av' h2
        obtain ⟨j, A, _, h3, _⟩ := lkN_some h2
        rw [hf] at h3; cases h3
      · exact h

end
section
variable {P : Program} {nt : Nat} {S : St} {cls : List (List Nat)} {sk : List Nat} {o : Oper} {rest : List Oper} {done all : List Add} {ops0 : Array Oper} {t : Nat} {ty : TypeId} {ps : String} {af : Array Edge} {gd : Option (Nat × Bool)} {x y : Operand}
theorem drawG_put {t : Nat} {av : AV} (hg : o.guard = none) (h : ∀ S1, (S.partR (memN (cls.getD done.length [])) done).le S1 → Stp P nt o S1 (S1.put t av)) (k : DrawG P nt ops0 S cls sk rest (⟨t, av, none⟩ :: done) all) : DrawG P nt ops0 S cls sk (o :: rest) done all := .cons ⟨t, av, none⟩ (fun S1 hS => .run hg (h S1 hS)) k
theorem drawG_yes {t j d : Nat} {want : Bool} {av : AV} (hg : o.guard = some (j, want)) (hj : (ops0[j]?).bind (·.dst) = some d) (hb : (S.partR (memN (cls.getD done.length [])) done).sl d = some (vv (.bool want))) (h : ∀ S1, (S.partR (memN (cls.getD done.length [])) done).le S1 → Stp P nt o S1 (S1.put t av)) (k : DrawG P nt ops0 S cls sk rest (⟨t, av, none⟩ :: done) all) : DrawG P nt ops0 S cls sk (o :: rest) done all := .cons ⟨t, av, none⟩ (fun S1 hS => .yes hg hj (hS.sl _ _ hb) (h S1 hS)) k
theorem drawG_no {t j d : Nat} {want : Bool} (hg : o.guard = some (j, want)) (hj : (ops0[j]?).bind (·.dst) = some d) (hb : (S.partR (memN (cls.getD done.length [])) done).sl d = some (vv (.bool (!want)))) (ht : o.dst = some t) (hn : Nat.blt t nt = true) (k : DrawG P nt ops0 S cls sk rest (⟨t, vv undef, none⟩ :: done) all) : DrawG P nt ops0 S cls sk (o :: rest) done all := .cons ⟨t, vv undef, none⟩ (fun S1 hS => .no hg hj (hS.sl _ _ hb) ht hn rfl rfl) k
end
end Go.Proofs.Ytnfkhgamnapgmaa

/- Chunks of the everyday kinds. -/
namespace Go.Proofs.Ytnfkhgamnapgmaa
open Go.RowKit

abbrev leRo (less : List Int) : Ch := ⟨false, 2, 1, .vals (ivals less)⟩
abbrev leOw (less : List Int) : Ch := ⟨true, 2, 1, .vals (ivals less)⟩
abbrev rowsRo (wss : List (List Int)) : Ch := ⟨false, 22, 1, .rows 2 (irows wss) []⟩
abbrev wRo (W : List Int) : Ch := ⟨false, 2, 1, .vals (ivals W)⟩
section
variable {P : Program} {nt : Nat} {S : St} {t : Nat} {ty : TypeId} {ps : String} {af : Array Edge} {gd : Option (Nat × Bool)} {x y : Operand}
end
end Go.Proofs.Ytnfkhgamnapgmaa

/- A memory of names: rows as words; vectors cut short. No program in sight. -/
namespace Go.Proofs.Ytnfkhgamnapgmaa
open Go.RowKit

section
variable {η : Env} {ω : Own?} {w : World} {ins : List (Nm × Ch)}
theorem rdRow {x i : Nat} {own : Bool} {E F : Nat} {zss : List (List Int)} {v : Value} (hm : Mem η ω w (fun x => lk x ins)) (hx : lk x ins = some ⟨own, E, 1, .rows F (irows zss) []⟩) (hi : i < zss.length) (hv : Den1 η (.esl x i 0 (lget zss i).length) v) (hn : (lget zss i).length ≤ 17592186044416) :
    ∃ ao c, v = .slice ao (lget zss i).length c ∧ Ints w ao (lget zss i).length (lget zss i) := by
  obtain ⟨h, h1, h2, h3⟩ := hm.1 x _ hx
  obtain ⟨ao, rfl, h4, _⟩ := hv.2 h h1
  have h3 : Vec own ω w (x, none) h E (irows zss).length (cellsOK η ω w own x (.rows F (irows zss) [])) := h3
  obtain ⟨b', o', u', g1, g2, g3, g4⟩ := h3.get (j := i) (by rw [irows_len]; exact hi)
  obtain ⟨k1, k2, k3⟩ := g4 (by simp) (ivals (lget zss i)) (irows_get hi)
  rw [h4 rfl]
  refine ⟨_, _, rfl, rfl, hn, fun h0 => ?_⟩
  obtain ⟨b2, o2, u2, m1, _, _⟩ := k3.get (j := 0) (by rw [ivals_len]; exact h0)
  refine ⟨b2, o2, m1, fun j hj => ?_⟩
  obtain ⟨b3, o3, u3, n1, n2, n3⟩ := k3.get (j := j) (by rw [ivals_len]; exact hj)
  rw [m1] at n1; injection n1 with n1; injection n1 with n1 n1'; subst n1 n1'
  rw [ivals_get hj] at n3
  rw [n2, ← n3]
/-- the labels of a component: a row of a mixed vector -/
theorem rdRowM {x i m : Nat} {own : Bool} {E kk F : Nat} {cs : List Cel} {zs : List Int} {v : Value} (hm : Mem η ω w (fun x => lk x ins)) (hx : lk x ins = some ⟨own, E, kk, .mix cs⟩) (hi : cs[i]? = some (.r F 1 m (ivals zs))) (hv : Den1 η (.esl x i 0 m) v) (hn : zs.length ≤ 17592186044416) :
    ∃ ao c, v = .slice ao zs.length c ∧ Ints w ao zs.length zs := by
  obtain ⟨h, h1, h2, h3⟩ := hm.1 x _ hx
  obtain ⟨ao, rfl, h4, _⟩ := hv.2 h h1
  have h3 : Vec own ω w (x, none) h E cs.length (cellsOK η ω w own x (.mix cs)) := h3
  obtain ⟨b', o', u', g1, g2, g3, g4⟩ := h3.get (j := i) (List.getElem?_eq_some_iff.1 hi).1
  obtain ⟨k0, k1, k2, k3⟩ := g4 _ hi
  have hm' : m = zs.length := by rw [ivals_len, Nat.mul_one] at k0; exact k0.symm
  subst hm'
  rw [h4 rfl]
  refine ⟨_, _, rfl, rfl, hn, fun h0 => ?_⟩
  obtain ⟨b2, o2, u2, m1, _, _⟩ := k3.get (j := 0) (by rw [ivals_len]; exact h0)
  refine ⟨b2, o2, m1, fun j hj => ?_⟩
  obtain ⟨b3, o3, u3, n1, n2, n3⟩ := k3.get (j := j) (by rw [ivals_len]; exact hj)
  rw [m1] at n1; injection n1 with n1; injection n1 with n1 n1'; subst n1 n1'
  rw [ivals_get hj] at n3
  rw [n2, ← n3]
end
section
variable {P : Program} {nt : Nat} {S : St} {t : Nat} {ty : TypeId} {ps : String} {af : Array Edge} {gd : Option (Nat × Bool)} {x y : Operand}
end
end Go.Proofs.Ytnfkhgamnapgmaa

/- A memory of names: a vector takes another name; an append of nothing. No program in sight. -/
namespace Go.Proofs.Ytnfkhgamnapgmaa
open Go.RowKit

section
variable {P : Program} {nt : Nat} {S : St} {t : Nat} {ty : TypeId} {ps : String} {af : Array Edge} {gd : Option (Nat × Bool)} {x y : Operand}
theorem wk_ren {x y : Nm} {s E k m : Nat} {vs : List Value} (hc : S.ch x = some ⟨true, E, k, .vals vs⟩) (hs0 : S.sl s = some (o1 (.sl x 0 m))) :
    Wk S (((S.rm x).new y ⟨true, E, k, .vals vs⟩).put s (o1 (.sl y 0 m))) := by
  refine ⟨fun w0 ω0 nt a w ⟨η, ω, h⟩ => ?_⟩
  obtain ⟨u, hu, hdu⟩ := h.slots s _ hs0
  have hdu : Den1 η (.sl x 0 m) u := hdu
  obtain ⟨hd, e1, e2, e3⟩ := h.chunk hc
  have e3 : VecO ω w (x, none) hd E vs.length (cellsOK η ω w true x (.vals vs)) := e3
  obtain ⟨ao, rfl, q1, _⟩ := hdu.2 hd e1
  let ω' : Own? := fun b => if ω b = some (x, none) then some (y, none) else ω b
  have calm : Calm (S.rm x) ω w ω' w := ⟨rfl, rfl, rfl, Nat.le_refl _, fun b _ hl => ⟨rfl, by
    have h1 : ω b ≠ some (x, none) := by
      rcases hl with h0 | ⟨y, j, c, h0, h1⟩
      · rw [h0]; simp
      · rw [h0]; intro e; simp at e; rw [e.1, ch_rm, if_pos rfl] at h1; cases h1
    exact if_neg h1⟩⟩
  have h2 := (h.drop x).lay (x := y) (c := ⟨true, E, k, .vals vs⟩) (hd := hd) (r := fun _ => ⟨none, 0, 1⟩) calm ⟨e2, by
    show VecO ω' w (y, none) hd E vs.length _
    rcases e3 with h0 | ⟨b, o, cs, f1, f2, f3, f4, f5, f6, f7⟩
    · exact .inl h0
    · exact .inr ⟨b, o, cs, f1, if_pos f2, f3, f4, f5, f6, f7⟩⟩
  refine ⟨_, ω', { h2 with slots := fun t' av ht' => ?_ }⟩
  rw [sl_put] at ht'
  by_cases e : t' = s
  · subst e
    rw [if_pos rfl] at ht'
    obtain rfl := Option.some.inj ht'
    refine ⟨_, hu, ⟨_, _, rfl⟩, fun hd' he => ?_⟩
    simp [Env.new] at he
    subst he
    exact ⟨_, rfl, fun _ => q1 rfl, fun h0 => absurd h0 (by omega)⟩
  · rw [if_neg e] at ht'
    exact h2.slots t' av ht'
/-- an append of nothing -/
theorem stp_app0 {T E n q off len : Nat} {c : Ch} {zs : List Int} (ht : Nat.blt t nt = true) (hT : elZ P T E 1 = true) (hx : S.op x = some (o1 (.sl n 0 len))) (hc : S.ch n = some c) (hce : c = ⟨true, E, 1, .vals (ivals zs)⟩) (hl : zs.length = len) (hy : S.op y = some (o1 (.sl q off 0))) :
    Stp P nt ⟨some t, .call { callee := .builtin .append, args := #[x, y], argTypes := #[T, T] }, ty, ps, af, gd⟩ S (S.put t (o1 (.sl n 0 len))) :=
  Stp.pure rfl ht fun w0 ω0 η ω a w hs => by
    subst hce hl
    obtain ⟨hd, e1, e2, e3⟩ := hs.chunk hc
    have e2 : hd.k = 1 := e2
    have e3 : VecO ω w (n, none) hd E (ivals zs).length (cellsOK η ω w true n (.vals (ivals zs))) := e3
    have hu : Den1 η (.sl n 0 zs.length) (a.eval x) := hs.opv hx
    obtain ⟨ao, hev, _, _⟩ := hu.2 hd e1
    rw [Nat.sub_zero] at hev
    have hroom : zs.length ≤ hd.c := by
      rcases e3 with ⟨_, _, h3⟩ | ⟨b, o, cs, f1, f2, f3, f4, f5, f6, f7⟩
      · rw [ivals_len] at h3; omega
      · rw [ivals_len, e2] at f5; omega
    obtain ⟨⟨ay, cy, hey⟩, _⟩ : Den1 η (.sl q off 0) (a.eval y) := hs.opv hy
    obtain ⟨i, z, g1, g2, g3, g4, g5, g6⟩ := elZ_spec hT
    refine ⟨.slice ao zs.length hd.c, ?_, by rw [← hev]; exact hu⟩
    cases ay <;> cases ao <;> simp [execOp, resolve, invoke, builtin, hev, hey, Builtin.append_, run_underlying g1, sizeOf, typeInfo, g2, Builtin.lenOf, hroom, Builtin.firstCells, loadCells, loadCellsFrom, storeCells]
end
end Go.Proofs.Ytnfkhgamnapgmaa

/- A memory of names: function values that hold variables. No program in sight. -/
namespace Go.Proofs.Ytnfkhgamnapgmaa
open Go.RowKit

section
variable {P : Program} {nt : Nat} {S S' : St} {w0 w : World} {ω0 : Beg} {ω : Own?} {η : Env} {a : Act}
theorem stp_callG {f : FuncId} {o : Oper} {dst : Option Nat} {ins outs : List (Nm × Ch)} {args : List AV} {res : AV} {back : List (Nat × AV)} (kp : List (Nat × Nm))
    (hfc : FC P f ins args outs res back) (hod : o.dst = dst) (ht : (dst.map fun t => Nat.blt t nt) != some false) (hop : ∀ {w0 : World} {ω0 : Beg} {η : Env} {ω : Own?} {a : Act} {w : World}, SatE w0 ω0 nt S η ω a w → ∃ us, (execOp a.eval o).run P w = .ok (.enter f us.toArray) w ∧ DenL η args us)
    (hin : allIn S ins) (hkp : allKp ins args back kp)
    (hnr : (res.names.all (inL outs)) = true) (hno : (outs.all fun p => p.2.own && p.2.names.all (inL outs)) = true) :
    Stp P nt o S ((S.after ins outs (kp.map (·.2))).putO dst res) := by
  classical
  refine ⟨fun w0 ω0 a w Q ⟨η, ω, hs⟩ => ?_⟩
  obtain ⟨us, hrun, hopsL⟩ := hop hs
  let η1 : Env := { η with h := fun x => if lk x ins = none then none else η.h x }
  let ω1 : Own? := fun b => match ω b with
    | some (x, i) => if consB ins x = true then some (x, i) else none
    | none => none
  have hω1n : ∀ b, ω b = none → ω1 b = none := fun b h => by simp only [ω1, h]
  have hω1s : ∀ b x i, ω b = some (x, i) → consB ins x = true → ω1 b = some (x, i) := fun b x i h h' => by simp only [ω1, h, if_pos h']
  have hω1f : ∀ b x i, ω b = some (x, i) → consB ins x = false → ω1 b = none := fun b x i h h' => by simp [ω1, h, h']
  have hη1 : ∀ x, η1.h x = none ∨ (η1.h x = η.h x ∧ ∀ i, η1.r x i = η.r x i) := fun x => by
    by_cases e : lk x ins = none
    · exact .inl (if_pos e)
    · exact .inr ⟨if_neg e, fun _ => rfl⟩
  have hmem : Mem η1 ω1 w fun x => lk x ins := by
    refine ⟨fun x c hx => ?_, fun x hx => if_pos hx⟩
    have hx : lk x ins = some c := hx
    obtain ⟨c', hc', hcc⟩ := allIn_lk hin hx
    obtain ⟨hd, h1, h2⟩ := hs.mem.1 x c' hc'
    refine ⟨hd, by simp only [η1]; rw [if_neg (by rw [hx]; simp)]; exact h1, ?_⟩
    by_cases hown : c.own = true
    · have hcc' : c' = c := by
        rcases hcc with h | h
        · exact h
        · rw [h] at hown; cases hown
      subst hcc'
      refine h2.own ⟨Nat.le_refl _, fun b hb hp => ⟨rfl, ?_⟩⟩ (fun _ => rfl) fun l _ a _ z _ => hη1 z
      rcases hp with hp | ⟨i, hp⟩
      · rw [hp]; exact hω1n b hp
      · rw [hp]; exact hω1s b x i hp (by unfold consB; rw [hx]; exact hown)
    · have hcons : consB ins x = false := by unfold consB; rw [hx]; simpa using hown
      have hc0 : c = { c' with own := false } := by
        rcases hcc with h | h
        · rw [h]; have : c.own = false := by simpa using hown
          rw [← this]
        · exact h
      rw [hc0]
      exact h2.view hω1n (fun b i hb => hω1f b x i hb hcons) (fun _ => rfl) fun l _ a _ z _ => hη1 z
  have hargs : DenL η1 args (us) := by
    obtain ⟨h1, h2⟩ := hopsL
    refine ⟨h1, fun j av hj => ?_⟩
    obtain ⟨u, h3, h4⟩ := h2 j av hj
    exact ⟨u, h3, h4.mono fun y _ => hη1 y⟩
  have hcall := hfc w η1 ω1 _ hmem hargs
  unfold Oper.wp
  rw [hrun, Oper.upon_enter]
  refine hcall.mono fun e w' hl => ?_
  obtain ⟨v, η2, ω2, rfl, hdv, hm2, hfr, hbk⟩ := hl
  have hdst : ∀ t, dst = some t → t < nt := fun t ht' => by subst ht'; simpa using ht
  let ω3 : Own? := fun b => if b < w.heap.size ∧ ω1 b = none then ω b else ω2 b
  let η3 : Env := { h := fun y => if inL outs y = true then η2.h y else if consB ins y = true then none else η.h y
                    r := fun y i => if inL outs y = true then η2.r y i else η.r y i }
  have hturn : Turn η η3 (inL outs) (memB (kp.map (·.2))) := fun y => by
    by_cases ho : inL outs y = true
    · refine .inr (.inr ⟨ho, fun hk h' he => ?_⟩)
      obtain ⟨hin', j, hj, hj'⟩ := allKp_mem hkp hk
      obtain ⟨u, hu, hdu⟩ := hbk j _ hj'
      obtain ⟨u', hu', hdu'⟩ := hopsL.2 j _ hj
      rw [hu] at hu'; obtain rfl := Option.some.inj hu'
      have he2 : η2.h y = some h' := by simp only [η3, if_pos ho] at he; exact he
      obtain ⟨b, o, g1, g2⟩ := (show Den1 η2 (.ptr y 0) u from hdu).2 h' he2
      obtain ⟨u'', hu'', hdu''⟩ := hargs.2 j _ hj
      have hlk : ∃ h, η.h y = some h := by
        obtain ⟨c, hc⟩ := Option.isSome_iff_exists.1 hin'
        obtain ⟨c', hc', _⟩ := allIn_lk hin hc
        obtain ⟨h, hh, _⟩ := hs.mem.1 y c' hc'
        exact ⟨h, hh⟩
      obtain ⟨h, hh⟩ := hlk
      obtain ⟨b', o', g1', g2'⟩ := (show Den1 η (.ptr y 0) u from hdu').2 h hh
      rw [g2] at g2'
      injection g2' with g2'; injection g2' with g2'; injection g2' with g2' g3'
      refine ⟨h, hh, ?_⟩
      rw [g1, g1']
      subst g2'
      simp at g3'
      rw [g3']
    · by_cases hc : consB ins y = true
      · exact .inl (by simp only [η3, if_neg ho, if_pos hc])
      · exact .inr (.inl ⟨by simp only [η3, if_neg ho, if_neg hc], fun i => by simp only [η3, if_neg ho]⟩)
  have hω3 : ∀ b, b < w.heap.size → ω1 b = none → ω3 b = ω b := fun b h1 h2 => by simp only [ω3, if_pos (And.intro h1 h2)]
  have hb3 : ∀ b, b < w.heap.size → ω1 b = none → w'.heap[b]? = w.heap[b]? := fun b h1 h2 => (hfr.block b h1 h2).1
  have hω32 : ∀ b o, ω2 b = some o → ω3 b = some o := fun b o h => by
    by_cases e : b < w.heap.size ∧ ω1 b = none
    · have := (hfr.block b e.1 e.2).2
      rw [this] at h; cases h
    · simp only [ω3, if_neg e, h]
  have hsame : Same ω w ω3 w' (fun o => o = none ∨ ∃ y i, o = some (y, i) ∧ consB ins y = false) := by
    refine ⟨hfr.size, fun b hb hp => ?_⟩
    have h1 : ω1 b = none := by
      rcases hp with h | ⟨y, i, h, hc⟩
      · exact hω1n b h
      · exact hω1f b y i h hc
    exact ⟨hb3 b hb h1, hω3 b hb h1⟩
  have hst : SatE w0 ω0 nt (S.after ins outs (kp.map (·.2))) η3 ω3 a w' := by
    refine { dfr := hs.dfr, tsz := hs.tsz, slots := fun t av ht' => ?_, phs := fun t av ht' => ?_, mem := ⟨fun y c hy => ?_, fun y hy => ?_⟩, fr := ?_ }
    · obtain ⟨h1, h2⟩ := bind_bad ht'
      obtain ⟨u, h3, h4⟩ := hs.slots t av h1
      exact ⟨u, h3, h4.turn hturn h2⟩
    · obtain ⟨h1, h2⟩ := bind_bad ht'
      obtain ⟨u, h3, h4⟩ := hs.phs t av h1
      exact ⟨u, h3, h4.turn hturn h2⟩
    · have hy : (match lk y outs with
        | some c => some c
        | none => bif consB ins y then none else (S.ch y).map (Ch.clean (inL outs) (memB (kp.map (·.2))))) = some c := hy
      cases hl : lk y outs with
      | some c1 =>
        rw [hl] at hy
        obtain rfl := Option.some.inj hy
        have ho : inL outs y = true := by unfold inL; rw [hl]; rfl
        obtain ⟨hd, h1, h2⟩ := hm2.1 y c1 hl
        refine ⟨hd, by simp only [η3, if_pos ho]; exact h1, ?_⟩
        have hall := List.all_eq_true.1 hno _ (lk_mem hl)
        simp only [Bool.and_eq_true] at hall
        refine ChIs.sameO (η := η2) (ω := ω2) (w := w') hall.1 (fun b i _ hb => ⟨rfl, hω32 b _ hb⟩) (fun i => by simp only [η3, if_pos ho]) (fun l hlf b1 hb1 z hz => ?_) h2
        have hz' : inL outs z = true := List.all_eq_true.1 hall.2 z (Ch.names_mem hlf hb1 hz)
        exact .inr ⟨by simp only [η3, if_pos hz'], fun i => by simp only [η3, if_pos hz']⟩
      | none =>
        rw [hl] at hy
        have ho : inL outs y = false := by unfold inL; rw [hl]; rfl
        cases hc : consB ins y with
        | true => rw [hc] at hy; cases hy
        | false =>
          rw [hc] at hy
          simp only [cond_false, Option.map_eq_some_iff] at hy
          obtain ⟨c0, hc0, rfl⟩ := hy
          obtain ⟨hd, h1, h2⟩ := hs.mem.1 y c0 hc0
          refine ⟨hd, by simp only [η3, ho, hc]; exact h1, ?_⟩
          exact h2.turn hsame (.inl rfl) (fun i => .inr ⟨y, i, rfl, hc⟩) (fun i => by simp only [η3, ho]; rfl) hturn
    · have hy : (match lk y outs with
        | some c => some c
        | none => bif consB ins y then none else (S.ch y).map (Ch.clean (inL outs) (memB (kp.map (·.2))))) = none := hy
      cases hl : lk y outs with
      | some c1 => rw [hl] at hy; cases hy
      | none =>
        rw [hl] at hy
        have ho : inL outs y = false := by unfold inL; rw [hl]; rfl
        cases hc : consB ins y with
        | true => simp only [η3, ho, hc]; rfl
        | false =>
          rw [hc] at hy
          simp only [cond_false, Option.map_eq_none_iff] at hy
          simp only [η3, ho, hc]
          exact hs.mem.2 y hy
    · refine ⟨hfr.os.trans hs.fr.os, hfr.tape.trans hs.fr.tape, hfr.output.trans hs.fr.output, Nat.le_trans hs.fr.size hfr.size, fun b hb hn => ?_⟩
      obtain ⟨h1, h2⟩ := hs.fr.block b hb hn
      have hlt := Nat.lt_of_lt_of_le hb hs.fr.size
      exact ⟨(hb3 b hlt (hω1n b h2)).trans h1, (hω3 b hlt (hω1n b h2)).trans h2⟩
  rw [hod]
  cases dst with
  | none => exact ⟨η3, ω3, hst⟩
  | some t => exact ⟨η3, ω3, hst.putV (hdst t rfl) (hdv.mono fun y hy => by
      have hz' : inL outs y = true := List.all_eq_true.1 hnr y (AV.has_names hy)
      exact .inr ⟨by simp only [η3, if_pos hz'], fun i => by simp only [η3, if_pos hz']⟩)⟩
variable {t : Nat} {ty : TypeId} {ps : String} {af : Array Edge} {gd : Option (Nat × Bool)} {x y : Operand}
/-- a function value that holds one variable -/
theorem stp_makeFunc {f : FuncId} {n off : Nat} (ht : Nat.blt t nt = true) (hx : S.op x = some (o1 (.ptr n off))) :
    Stp P nt ⟨some t, .makeFunc (.func f) #[] #[x], ty, ps, af, gd⟩ S (S.put t (o1 (.clo (.func f) [(n, off)]))) :=
  Stp.pure rfl ht fun w0 ω0 η ω a w hs => by
    have hp : Den1 η (.ptr n off) (a.eval x) := hs.opv hx
    refine ⟨.func (.func f) #[] #[a.eval x], by simp [execOp, Instr.makeFunc], ⟨#[a.eval x], rfl, rfl, fun j p hj => ?_⟩⟩
    match j, hj with
    | 0, hj => obtain rfl := Option.some.inj hj; exact ⟨a.eval x, rfl, hp.1, hp.2⟩
/-- a call of a function value that holds one variable, which only reads -/
theorem stp_callC {f : FuncId} {xs : Array Operand} {ts : Array TypeId} {n off : Nat} {ins : List (Nm × Ch)} {args args' : List AV} {res : AV} {back : List (Nat × AV)} (hy : S.op y = some (o1 (.clo (.func f) [(n, off)])))
    (hfc : FC P f ins (args ++ [o1 (.ptr n off)]) [] res back) (hf : goFnB P f = true) (ht : Nat.blt t nt = true) (hx' : opL S xs.toList = some args') (hto : allTo args' args) (hin : allIn S ins) (hro : (ins.all fun p => !p.2.own) = true) (hnr : (res.names.all (inL [])) = true) :
    Stp P nt ⟨some t, .call { callee := .value y, args := xs, argTypes := ts }, ty, ps, af, gd⟩ S (S.put t res) :=
  (stp_callG (dst := some t) (kp := []) hfc rfl (by simp [ht]) (fun {w0 ω0 η ω a w} hs => by
    obtain ⟨us, hev, hus, hat⟩ : Den1 η (.clo (.func f) [(n, off)]) (a.eval y) := hs.opv hy
    obtain ⟨q, hq, hp1, hp2⟩ := hat 0 (n, off) rfl
    have hl : us.size = 1 := hus
    have hue : us = #[q] := by
      apply Array.ext (by simpa using hl)
      intro i h1 h2
      obtain rfl : i = 0 := by simp at h2; omega
      rw [Array.getElem?_eq_getElem h1] at hq
      simpa using hq
    subst hue
    obtain ⟨d1, d2⟩ := (hs.opsL hx').to hto
    refine ⟨xs.toList.map a.eval ++ [q], ?_, by rw [List.length_append, List.length_append, d1]; rfl, fun j av hj => ?_⟩
    · have : (xs.toList.map a.eval ++ [q]).toArray = xs.map a.eval ++ #[q] := by apply Array.ext'; simp
      rw [this]
      simp [execOp, resolve, hev, Deferred.ofValue, invoke, goFnB_run hf]
    · by_cases h : j < args.length
      · rw [List.getElem?_append_left h] at hj
        obtain ⟨u, g1, g2⟩ := d2 j av hj
        exact ⟨u, by rw [List.getElem?_append_left (by rw [d1]; exact h)]; exact g1, g2⟩
      · rw [List.getElem?_append_right (by omega)] at hj
        have e : j - args.length = 0 := by
          have := (List.getElem?_eq_some_iff.1 hj).1
          simp at this; omega
        rw [e] at hj
        obtain rfl := Option.some.inj hj
        exact ⟨q, by rw [List.getElem?_append_right (by omega), d1, e]; rfl, hp1, hp2⟩) hin trivial hnr rfl).wk (wk_after0 hro)
end
end Go.Proofs.Ytnfkhgamnapgmaa

/- A memory of names: steps whose outcome is not told in full (some list with a property); contracts of such a kind; between words and names, in place. No program in sight. -/
namespace Go.Proofs.Ytnfkhgamnapgmaa
open Go.RowKit

section
variable {P : Program} {nt : Nat} {S S' S1 S2 : St} {w0 w : World} {ω0 : Beg} {ω : Own?} {η : Env} {a : Act} {Q : Exit → Act → World → Prop} {ops : Array Oper} {rest : List Oper} {t : Nat} {ty : TypeId} {ps : String} {af : Array Edge} {gd : Option (Nat × Bool)} {x y : Operand} {o : Oper} {α : Type}
/-- an operation after which the state is that of some z with a property -/
structure StpEx (P : Program) (nt : Nat) (o : Oper) (S : St) (p : α → Prop) (F : α → St) : Prop where
  go : ∀ w0 ω0 a w Q, Sat w0 ω0 nt S a w → o.wp P a w (fun a w => ∃ z, p z ∧ Sat w0 ω0 nt (F z) a w) Q
theorem run_ex {p : α → Prop} {F : α → St} (hg : o.guard = none) (h : StpEx P nt o S p F) (k : ∀ z, p z → Run P w0 ω0 nt ops Q (F z) rest) : Run P w0 ω0 nt ops Q S (o :: rest) := by
  refine ⟨fun a w hs => wpList_plain hg fun K' hK' => ?_⟩
  exact Oper.wp_mono (fun a' w' ⟨z, hz, h'⟩ => hK' _ _ ((k z hz).go a' w' h')) (h.go w0 ω0 a w Q hs)
/-- the ways meet again in the state of some z -/
theorem goes_cutx {c : Code} {p : α → Prop} (F : α → St) (h : Goes P w0 ω0 nt S c (fun e a w => e = .normal ∧ ∃ z, p z ∧ Sat w0 ω0 nt (F z) a w)) (k : ∀ z, p z → Fin w0 ω0 nt (F z) .normal Q) : Goes P w0 ω0 nt S c Q :=
  ⟨fun a w hs => Code.wp_mono (fun e a' w' ⟨he, z, hz, h'⟩ => by subst he; exact (k z hz).go a' w' h') (h.go a w hs)⟩
theorem fin_joinx {p : α → Prop} {F : α → St} (z : α) (hz : p z) (h : Wk S1 (F z)) : Fin w0 ω0 nt S1 .normal (fun e a w => e = .normal ∧ ∃ z, p z ∧ Sat w0 ω0 nt (F z) a w) := ⟨fun a w hs => ⟨rfl, z, hz, h.go _ _ _ a w hs⟩⟩

/-- a contract whose outcome is that of some z with a property; no results -/
def FCx (P : Program) (f : FuncId) (ins : List (Nm × Ch)) (args : List AV) (p : α → Prop) (outs : α → List (Nm × Ch)) (back : List (Nat × AV)) : Prop :=
  ∀ w η ω us, Mem η ω w (fun x => lk x ins) → DenL η args us → Calls P f us.toArray w fun e w' => ∃ z, p z ∧ Left w ω us (outs z) (.tup []) back e w'
theorem fcx_enter {f : FuncId} {fn : Func} {c : Code} {ins : List (Nm × Ch)} {args : List AV} {p : α → Prop} {outs : α → List (Nm × Ch)} {back : List (Nat × AV)} (hf : P.funcs[f]? = some fn) (hb : fn.body = some c) (hn : fn.ntmps = nt) (hl : args.length ≤ nt)
    (h : ∀ w0 ω0, Goes P w0 ω0 nt (St.of (zipA 0 args) ins (zipA 0 args)) c (bodyPost P fn (fun e w' => ∃ z, p z ∧ Left w0 ω0.own ω0.ph (outs z) (.tup []) back e w'))) : FCx P f ins args p outs back := by
  intro w η ω us hm hd
  refine calls_of_wp hf hb ((h w ⟨ω, us⟩).go _ _ ⟨η, ω, ?_⟩)
  have hsz : us.toArray.size = us.length := by simp
  refine { dfr := rfl, tsz := ?_, slots := fun t av ht => ?_, phs := fun t av ht => ?_, mem := hm, fr := Fr.refl _ _ }
  · have := hd.1
    simp; omega
  · obtain ⟨j, rfl, hj⟩ := lk_zipA ht
    obtain ⟨u, h1, h2⟩ := hd.2 j av hj
    refine ⟨u, ?_, h2⟩
    have hlt : j < us.length := (List.getElem?_eq_some_iff.1 h1).1
    simp only [Nat.zero_add]
    rw [Array.getElem?_append_left (by simpa using hlt)]
    simpa using h1
  · obtain ⟨j, rfl, hj⟩ := lk_zipA ht
    obtain ⟨u, h1, h2⟩ := hd.2 j av hj
    exact ⟨u, by simpa using h1, h2⟩
theorem fin_ret0x {fn : Func} {e : Exit} {p : α → Prop} {outs : α → List (Nm × Ch)} {back : List (Nat × AV)} (z : α) (hz : p z) (he : e = .ret ∨ e = .normal) (hf : fn.results = #[]) (hc : allCh S (outs z)) (hb : allPh S back) :
    Fin w0 ω0 nt S e (bodyPost P fn (fun e w' => ∃ z, p z ∧ Left w0 ω0.own ω0.ph (outs z) (.tup []) back e w')) := by
  refine ⟨fun a w ⟨η, ω, hs⟩ => ?_⟩
  have : a.defers = [] ∧ ∃ v, (results fn a.tmps).run P w = .ok v w ∧ ∃ z, p z ∧ Left w0 ω0.own ω0.ph (outs z) (.tup []) back (.returned v) w := ⟨hs.dfr, _, run_results0 hf, z, hz, hs.left hc hb ⟨#[], rfl, rfl, fun j b hj => by simp at hj⟩⟩
  rcases he with rfl | rfl <;> exact this
theorem own_lift {w : World} {lo base E n c : Nat} {ao : Option Addr} {xs : List Value} (h : Own w lo E ao n c xs) (hb : ∀ g, bk ao = some g → base ≤ g) : Own w base E ao n c xs := by
  obtain ⟨⟨h1, h2⟩, h3⟩ := h
  refine ⟨⟨h1, ?_⟩, h3⟩
  rcases h2 with h2 | ⟨b, c', cs, k1, k2, k3⟩
  · exact .inl h2
  · refine .inr ⟨b, c', cs, k1, ?_, k3⟩
    have : bk ao = some b := by injection k1 with q1 q2 q3; rw [q1]; rfl
    exact hb b this
/-- in words: what such a contract says of a row that the caller owns -/
theorem FCx.turn {f : FuncId} {E : Nat} {vs : List Value} {n c base : Nat} {ao : Option Addr} {zs : List Int} {p : List Int → Prop} {w : World} (hl : zs.length = n) (hp : ∀ z, p z → z.length = n) (h4 : n ≤ 4398046511104)
    (h : FCx P f [(1003, ⟨true, E, 1, .vals (ivals zs)⟩)] (o1 (.sl 1003 0 n) :: vs.map vv) p (fun z => [(1003, ⟨true, E, 1, .vals (ivals z)⟩)]) [(0, o1 (.sl 1003 0 n))]) (ho : Own w base E ao n c (ivals zs)) :
    Calls P f (Value.slice ao n c :: vs).toArray w fun e w' => e = .returned (.tuple #[]) ∧ ∃ z, p z ∧ Own w' base E ao n c (ivals z) ∧ w.grownBy w' (bk ao) := by
  classical
  let η : Env := { h := fun x => if x = 1003 then some ⟨ao, c, 1⟩ else none, r := fun _ _ => ⟨none, 0, 0⟩ }
  let ω : Own? := fun b => if bk ao = some b then some (1003, none) else none
  have hv := vecO_of (ω' := ω) ho (x := (1003, none)) fun g hg => by simp only [ω]; rw [if_pos hg]
  have hη : η.h 1003 = some ⟨ao, c, 1⟩ := by simp [η]
  have hm : Mem η ω w fun x => lk x [(1003, (⟨true, E, 1, .vals (ivals zs)⟩ : Ch))] := by
    refine ⟨fun x ch hx => ?_, fun x hx => ?_⟩
    · by_cases e : x = 1003
      · subst e
        have hx : some (⟨true, E, 1, .vals (ivals zs)⟩ : Ch) = some ch := hx
        obtain rfl := Option.some.inj hx
        exact ⟨⟨ao, c, 1⟩, hη, rfl, hv⟩
      · have : lk x [(1003, (⟨true, E, 1, .vals (ivals zs)⟩ : Ch))] = none := by
          simp only [lk]
          cases hb : Nat.beq x 1003 with
          | true => exact absurd (beq_true hb) e
          | false => rfl
        have hx : lk x [(1003, (⟨true, E, 1, .vals (ivals zs)⟩ : Ch))] = some ch := hx
        rw [this] at hx; cases hx
    · by_cases e : x = 1003
      · subst e; cases hx
      · exact if_neg e
  have hd : DenL η (o1 (.sl 1003 0 n) :: vs.map vv) (Value.slice ao n c :: vs) := by
    refine ⟨by simp, fun j av hj => ?_⟩
    match j, hj with
    | 0, hj =>
      obtain rfl := Option.some.inj hj
      refine ⟨_, rfl, ⟨⟨_, _, rfl⟩, fun hd hh => ?_⟩⟩
      rw [hη] at hh
      obtain rfl := Option.some.inj hh
      exact ⟨ao, rfl, fun _ => rfl, fun h0 => absurd h0 (by omega)⟩
    | j + 1, hj =>
      simp only [List.getElem?_cons_succ, List.getElem?_map, Option.map_eq_some_iff] at hj
      obtain ⟨u, h1, rfl⟩ := hj
      exact ⟨u, by simpa using h1, rfl⟩
  refine (h w η ω _ hm hd).mono ?_
  rintro e w' ⟨z, hz, v, η', ω', rfl, hdv, hm', hfr, hbk⟩
  have hzl := hp z hz
  obtain ⟨us, rfl, hus, _⟩ : Den η' (.tup []) v := hdv
  have hus : us = #[] := by simpa using hus
  subst hus
  obtain ⟨u, hu, hu2⟩ := hbk 0 _ rfl
  obtain rfl := Option.some.inj hu
  obtain ⟨hd', e1, e2, e3⟩ := hm'.1 1003 ⟨true, E, 1, .vals (ivals z)⟩ rfl
  have e2 : hd'.k = 1 := e2
  have e3 : VecO ω' w' (1003, none) hd' E (ivals z).length (cellsOK η' ω' w' true 1003 (.vals (ivals z))) := e3
  obtain ⟨ao', hev, q1, _⟩ := (show Den1 η' (.sl 1003 0 n) _ from hu2).2 hd' e1
  have q1 := q1 rfl
  subst q1
  injection hev with g1 g2 g3
  have hown := VecO.own (lo := 0) (xs := ivals z) e2 e3 (fun b hb => absurd hb (by omega)) (by rw [ivals_len]; omega) rfl (fun j u hj ⟨b, o, f1, f2⟩ => by
    obtain ⟨b', o', u', k1, k2, k3⟩ := Vec.get (own := true) e3 hj
    rw [f1] at k1; injection k1 with k1; injection k1 with k1 k1'; subst k1 k1'
    rw [f2] at k2
    obtain rfl := Option.some.inj k2
    exact k3)
  rw [ivals_len, hzl] at hown
  have hc : hd'.c = c := by omega
  rw [← g1, hc] at hown
  refine ⟨rfl, z, hz, own_lift hown.1 fun g hg => (ho.lt g hg).1, hfr.os, hfr.tape, hfr.output, hfr.size, fun b hb hne => ?_⟩
  have hn0 : ω b = none := by simp only [ω]; exact if_neg fun e => hne e.symm
  exact (hfr.block b hb hn0).1
/-- a call in place, whose outcome is some list with a property, from a contract in words -/
theorem stp_turnY {f : FuncId} {ts : Array TypeId} {xs : Array Operand} {n : Nm} {E len : Nat} {zs : List Int} {vs : List Value} {args : List AV} {p : List Int → Prop} (hto : ∀ η us, DenL η args us → DenL η (o1 (.sl n 0 len) :: vs.map vv) us) (ht : Nat.blt t nt = true) (hf : goFnB P f = true) (hx : opL S xs.toList = some args) (hc : S.ch n = some ⟨true, E, 1, .vals (ivals zs)⟩) (hl : zs.length = len) (hlen : len ≤ 4398046511104)
    (h : ∀ ao c (w : World), Own w 0 E ao len c (ivals zs) → Calls P f (Value.slice ao len c :: vs).toArray w fun e w' => e = .returned (.tuple #[]) ∧ ∃ z, p z ∧ Own w' 0 E ao len c (ivals z) ∧ w.grownBy w' (bk ao)) :
    StpEx P nt ⟨some t, .call { callee := .value (.func f), args := xs, argTypes := ts }, ty, ps, af, gd⟩ S p (fun z => (S.set n ⟨true, E, 1, .vals (ivals z)⟩).put t (.tup [])) := by
  refine ⟨fun w0 ω0 a w Q ⟨η, ω, hs⟩ => ?_⟩
  obtain ⟨hd, e1, e2, e3⟩ := hs.chunk hc
  have e2 : hd.k = 1 := e2
  have e3 : VecO ω w (n, none) hd E (ivals zs).length (cellsOK η ω w true n (.vals (ivals zs))) := e3
  obtain ⟨l1, l2⟩ := hto _ _ (hs.opsL hx)
  obtain ⟨u0, u1, u2⟩ := l2 0 _ rfl
  have hu : Den1 η (.sl n 0 len) u0 := u2
  obtain ⟨ao, hev, q1, _⟩ := hu.2 hd e1
  have q1 := q1 rfl
  subst q1
  rw [Nat.sub_zero] at hev
  have hus : xs.toList.map a.eval = Value.slice hd.ao len hd.c :: vs := by
    apply List.ext_getElem?
    intro j
    match j with
    | 0 => rw [u1, hev]; rfl
    | j + 1 =>
      by_cases hj : j < vs.length
      · obtain ⟨u, k1, k2⟩ := l2 (j + 1) (vv vs[j]) (by simp [hj])
        have k2 : u = vs[j] := k2
        rw [k1, k2]; simp [hj]
      · rw [List.getElem?_eq_none, List.getElem?_eq_none]
        · simp; omega
        · rw [l1]; simp; omega
  have hown := VecO.own (lo := 0) (xs := ivals zs) e2 e3 (fun b hb => absurd hb (by omega)) (by rw [ivals_len]; omega) rfl (fun j u hj ⟨b, o, f1, f2⟩ => by
    obtain ⟨b', o', u', g1, g2, g3⟩ := Vec.get (own := true) e3 hj
    rw [f1] at g1; injection g1 with g1; injection g1 with g1 g1'; subst g1 g1'
    rw [f2] at g2
    obtain rfl := Option.some.inj g2
    exact g3)
  rw [ivals_len, hl] at hown
  have hua : xs.map a.eval = (Value.slice hd.ao len hd.c :: vs).toArray := by
    rw [← hus]; apply Array.ext'; simp
  have hrun : (execOp a.eval ⟨some t, .call { callee := .value (.func f), args := xs, argTypes := ts }, ty, ps, af, gd⟩).run P w = .ok (.enter f (Value.slice hd.ao len hd.c :: vs).toArray) w := by
    have hfe : a.eval (.func f) = .func (Fn.func f) #[] #[] := rfl
    rw [← hua]
    simp [execOp, resolve, hfe, Deferred.ofValue, invoke, goFnB_run hf]
  unfold Oper.wp
  rw [hrun, Oper.upon_enter]
  refine (h _ _ _ hown.1).mono ?_
  rintro e w' ⟨rfl, z, hz, ho, hg⟩
  have hsz := hg.size
  have hw := hs.write (x := n) (c' := ⟨true, E, 1, .vals (ivals z)⟩) (ω' := ω) (w' := w') e1 ⟨hg.os, hg.tape, hg.output, hsz, fun b hb hlv => ⟨hg.block b hb fun e => ?_, rfl⟩⟩ ⟨e2, ?_⟩
  · exact ⟨z, hz, η, ω, hw.putV (by simpa using ht) ⟨#[], rfl, rfl, fun j b hj => by simp at hj⟩⟩
  · have h1 := (hown.2 b e.symm).2
    rcases hlv with h0 | ⟨y, i, c, h0, h2⟩
    · rw [h1] at h0; cases h0
    · rw [h1] at h0; simp at h0; rw [← h0.1, ch_rm, if_pos rfl] at h2; cases h2
  · have hv := vecO_of (ω' := ω) ho (x := (n, none)) fun g hg' => (hown.2 g hg').2
    have : hd = ⟨hd.ao, hd.c, 1⟩ := by rw [← e2]
    rw [this]
    exact hv
theorem stp_turnX {f : FuncId} {ts : Array TypeId} {xs : Array Operand} {n : Nm} {E len : Nat} {zs : List Int} {vs : List Value} {p : List Int → Prop} (ht : Nat.blt t nt = true) (hf : goFnB P f = true) (hx : opL S xs.toList = some (o1 (.sl n 0 len) :: vs.map vv)) (hc : S.ch n = some ⟨true, E, 1, .vals (ivals zs)⟩) (hl : zs.length = len) (hlen : len ≤ 4398046511104)
    (h : ∀ ao c (w : World), Own w 0 E ao len c (ivals zs) → Calls P f (Value.slice ao len c :: vs).toArray w fun e w' => e = .returned (.tuple #[]) ∧ ∃ z, p z ∧ Own w' 0 E ao len c (ivals z) ∧ w.grownBy w' (bk ao)) :
    StpEx P nt ⟨some t, .call { callee := .value (.func f), args := xs, argTypes := ts }, ty, ps, af, gd⟩ S p (fun z => (S.set n ⟨true, E, 1, .vals (ivals z)⟩).put t (.tup [])) := stp_turnY (fun _ _ h => h) ht hf hx hc hl hlen h
/-- the same with a function that holds nothing as the second argument -/
theorem den_clo {n : Nm} {len : Nat} {g : FuncId} (η : Env) (us : List Value) (h : DenL η [o1 (.sl n 0 len), o1 (.clo (.func g) [])] us) : DenL η (o1 (.sl n 0 len) :: [Value.func (.func g) #[] #[]].map vv) us := by
  refine ⟨h.1, fun j av hj => ?_⟩
  match j, hj with
  | 0, hj => exact h.2 0 av hj
  | 1, hj =>
    obtain rfl := Option.some.inj hj
    obtain ⟨u, h1, us', h2, h3, _⟩ := h.2 1 _ rfl
    have h3 : us'.size = 0 := h3
    have : us' = #[] := Array.size_eq_zero_iff.1 h3
    subst this
    exact ⟨u, h1, h2⟩
/-- a call of a function value that holds nothing, which only reads -/
theorem stp_callV {f : FuncId} {xs : Array Operand} {ts : Array TypeId} {ins : List (Nm × Ch)} {args args' : List AV} {res : AV} {back : List (Nat × AV)} (hy : S.op y = some (vv (.func (.func f) #[] #[])))
    (hfc : FC P f ins args [] res back) (hf : goFnB P f = true) (ht : Nat.blt t nt = true) (hx' : opL S xs.toList = some args') (hto : allTo args' args) (hin : allIn S ins) (hro : (ins.all fun p => !p.2.own) = true) (hnr : (res.names.all (inL [])) = true) :
    Stp P nt ⟨some t, .call { callee := .value y, args := xs, argTypes := ts }, ty, ps, af, gd⟩ S (S.put t res) :=
  (stp_callG (dst := some t) (kp := []) hfc rfl (by simp [ht]) (fun {w0 ω0 η ω a w} hs => by
    have hev : a.eval y = .func (.func f) #[] #[] := hs.opV hy
    obtain ⟨d1, d2⟩ := (hs.opsL hx').to hto
    refine ⟨xs.toList.map a.eval, ?_, d1, d2⟩
    have : (xs.toList.map a.eval).toArray = xs.map a.eval := by apply Array.ext'; simp
    rw [this]
    simp [execOp, resolve, hev, Deferred.ofValue, invoke, goFnB_run hf]) hin trivial hnr rfl).wk (wk_after0 hro)
/-- half of a number that fits: the way over unsigned numbers -/
theorem stp_halfU {xt yt : TypeId} {n : Nat} (ht : Nat.blt t nt = true) (hx : S.op x = some (vv (.int .u64 (n : Int)))) (hn : n < 1000000) :
    Stp P nt ⟨some t, .binOp .shr xt x (.const (.int .u64 1)) yt, ty, ps, af, gd⟩ S (S.put t (vv (.int .u64 ((n / 2 : Nat) : Int)))) :=
  Stp.pure rfl ht fun _ _ η _ s w hs => by
    refine ⟨.int .u64 ((n / 2 : Nat) : Int), ?_, rfl⟩
    have e : Op.shift .shr .u64 (n : Int) .u64 1 = pure (.int .u64 ((n / 2 : Nat) : Int)) := by
      rw [shift_shr_u64 (x := (n : Int)) (y := 1) (yk := .u64) (by omega) (by omega)]
      simp
    have he : s.eval (.const (.int .u64 1)) = .int .u64 1 := rfl
    simp [execOp, hs.opV hx, he, eqGuard, binOp, e]
end
end Go.Proofs.Ytnfkhgamnapgmaa

/- slices.symMergeCmpFunc at []int64: two lists in order become one. guards: (gen_stbm.py) -/
namespace Go.Proofs.Ytnfkhgamnapgmaa
open Go.RowKit

abbrev zOw (W : List Int) : Ch := ⟨true, 2, 1, .vals (ivals W)⟩
theorem cmpZ_fc {zs : List Int} (h : Rng zs) (i j : Nat) : FC Try.prog 136 [] [vv (I6 (iget zs i)), vv (I6 (iget zs j))] [] (vv (I6 (cmpZ (iget zs i) (iget zs j)))) [] :=
  fc_of_calls fun w η ω us hm ⟨hl, ha⟩ => by
    obtain ⟨u0, g0, d0⟩ := ha 0 _ rfl
    obtain ⟨u1, g1, d1⟩ := ha 1 _ rfl
    have d0 : u0 = I6 (iget zs i) := d0
    have d1 : u1 = I6 (iget zs j) := d1
    subst d0 d1
    have : us = [I6 (iget zs i), I6 (iget zs j)] := by
      apply List.ext_getElem?
      intro k
      match k with
      | 0 => exact g0
      | 1 => exact g1
      | k + 2 => rw [List.getElem?_eq_none, List.getElem?_eq_none] <;> simp at * <;> omega
    subst this
    exact (cmp_at h i j w).mono fun e w' ⟨h1, h2⟩ => ⟨h1, by rw [h2]; exact Below.refl _ _⟩
set_option maxRecDepth 100000 in
set_option maxHeartbeats 8000000 in
theorem symM_fc (key : Int → Nat) (zs : List Int) (n a m b : Nat) (hn : n ≤ 1000) (hzl : zs.length = n) (ham : a + 2 ≤ m) (hmb : m + 2 ≤ b) (hb : b ≤ n) (hr : Rng zs) (hA : Asc key zs a m) (hB : Asc key zs m b) (hag : Agr key lessZ zs a m b)
    (ih : ∀ (a' m' b' : Nat) (zs' : List Int) (ao : Option Addr) (c base : Nat) (w : World), b' - a' < b - a → Own w base 2 ao n c (zs'.map (Value.int .i64)) → a' < m' → m' < b' → b' ≤ n → Rng zs' → Asc key zs' a' m' → Asc key zs' m' b' → Agr key lessZ zs' a' m' b' →
      Calls Try.prog 204 #[.slice ao n c, .int .i64 a', .int .i64 m', .int .i64 b', cmpF] w fun e w' => e = .returned (.tuple #[]) ∧ Merged key zs' a' b' ao n c base w w') :
    FCx Try.prog 204 [(1003, zOw zs)] [o1 (.sl 1003 0 n), vv (I6 a), vv (I6 m), vv (I6 b), vv cmpF] (fun z => Kept zs z a b ∧ Asc key z a b) (fun z => [(1003, zOw z)]) [(0, o1 (.sl 1003 0 n))] := by
  obtain ⟨md, hmd⟩ : ∃ md, (a + b) / 2 = md := ⟨_, rfl⟩
  obtain ⟨nn, hnn⟩ : ∃ nn, md + m = nn := ⟨_, rfl⟩
  obtain ⟨p, hp⟩ : ∃ p, p + 1 = nn := ⟨nn - 1, by omega⟩
  have e1 : IntKind.i64.wrap ((m : Int) - (a : Int)) = ((m - a : Nat) : Int) := sub_w (by omega) (by omega)
  have e2 : IntKind.i64.wrap ((b : Int) - (m : Int)) = ((b - m : Nat) : Int) := sub_w (by omega) (by omega)
  have e3 : IntKind.i64.wrap ((a : Int) + (b : Int)) = ((a + b : Nat) : Int) := add_w (by omega) (by omega)
  have hcu : IntKind.u64.wrap ((a + b : Nat) : Int) = ((a + b : Nat) : Int) := by rw [IntKind.wrap_u64]; omega
  have hcm : a + b < 1000000 := by omega
  have hci' : IntKind.i64.wrap (((a + b) / 2 : Nat) : Int) = (((a + b) / 2 : Nat) : Int) := IntWalk.i64_in _ (by omega)
  rw [hmd] at hci'
  have e4 : IntKind.i64.wrap ((md : Int) + (m : Int)) = (nn : Int) := by rw [IntWalk.i64_in _ (by omega)]; omega
  have e5 : IntKind.i64.wrap ((nn : Int) - 1) = (p : Int) := by rw [IntWalk.i64_in _ (by omega)]; omega
  have hil : n ≤ (ivals zs).length := by rw [ivals_len, hzl]; exact Nat.le_refl _
  obtain ⟨s0, hs0⟩ : ∃ s0, (if m > md then md + m - b else a) = s0 := ⟨_, rfl⟩
  obtain ⟨r0, hr0⟩ : ∃ r0, (if m > md then md else m) = r0 := ⟨_, rfl⟩
  refine fcx_enter (nt := 220) Try.func204 rfl rfl (by simp) fun w0 ω0 => ?_
  (refine goes_seq ?_; refine goes_seq ?_; refine goes_region ?_; apply run_step rfl; (exact stp_move rfl rfl); apply run_step rfl; (exact stp_move rfl rfl); apply run_step rfl; (exact stp_sub rfl rfl rfl e1); apply run_step rfl; (exact stp_bin rfl rfl rfl rfl); refine run_nil ?_; refine fin_seq ?_)
  refine goes_cond rfl (fun e => absurd e (by simp; omega)) (fun _ => ?_)
  (refine goes_skip ?_; refine fin_seq ?_; refine goes_seq ?_; refine goes_seq ?_; refine goes_region ?_; apply run_step rfl; (exact stp_move rfl rfl); apply run_step rfl; (exact stp_move rfl rfl); apply run_step rfl; (exact stp_sub rfl rfl rfl e2); apply run_step rfl; (exact stp_bin rfl rfl rfl rfl); refine run_nil ?_; refine fin_seq ?_)
  refine goes_cond rfl (fun e => absurd e (by simp; omega)) (fun _ => ?_)
  (refine goes_skip ?_; refine fin_seq ?_; refine goes_seq ?_; refine goes_region ?_; apply run_step rfl; (exact stp_move rfl rfl); apply run_step rfl; (exact stp_move rfl rfl); apply run_step rfl; (first | exact stp_add rfl rfl rfl e3 | exact stp_convN (k2 := .u64) rfl rfl (by as_aux_lemma => kernel_rfl) (by as_aux_lemma => kernel_rfl) hcu | exact hmd ▸ stp_halfU rfl rfl hcm | exact stp_convN (k2 := .i64) rfl rfl (by as_aux_lemma => kernel_rfl) (by as_aux_lemma => kernel_rfl) hci' | exact stp_add rfl rfl rfl e4); apply run_step rfl; (first | exact stp_add rfl rfl rfl e3 | exact stp_convN (k2 := .u64) rfl rfl (by as_aux_lemma => kernel_rfl) (by as_aux_lemma => kernel_rfl) hcu | exact hmd ▸ stp_halfU rfl rfl hcm | exact stp_convN (k2 := .i64) rfl rfl (by as_aux_lemma => kernel_rfl) (by as_aux_lemma => kernel_rfl) hci' | exact stp_add rfl rfl rfl e4); apply run_step rfl; (first | exact stp_add rfl rfl rfl e3 | exact stp_convN (k2 := .u64) rfl rfl (by as_aux_lemma => kernel_rfl) (by as_aux_lemma => kernel_rfl) hcu | exact hmd ▸ stp_halfU rfl rfl hcm | exact stp_convN (k2 := .i64) rfl rfl (by as_aux_lemma => kernel_rfl) (by as_aux_lemma => kernel_rfl) hci' | exact stp_add rfl rfl rfl e4); apply run_step rfl; (first | exact stp_add rfl rfl rfl e3 | exact stp_convN (k2 := .u64) rfl rfl (by as_aux_lemma => kernel_rfl) (by as_aux_lemma => kernel_rfl) hcu | exact hmd ▸ stp_halfU rfl rfl hcm | exact stp_convN (k2 := .i64) rfl rfl (by as_aux_lemma => kernel_rfl) (by as_aux_lemma => kernel_rfl) hci' | exact stp_add rfl rfl rfl e4); apply run_step rfl; (exact stp_assign rfl rfl); refine run_nil ?_; refine fin_seq ?_; refine goes_seq ?_; refine goes_region ?_; apply run_step rfl; (exact stp_move rfl rfl); apply run_step rfl; (exact stp_move rfl rfl); apply run_step rfl; (first | exact stp_add rfl rfl rfl e3 | exact stp_convN (k2 := .u64) rfl rfl (by as_aux_lemma => kernel_rfl) (by as_aux_lemma => kernel_rfl) hcu | exact hmd ▸ stp_halfU rfl rfl hcm | exact stp_convN (k2 := .i64) rfl rfl (by as_aux_lemma => kernel_rfl) (by as_aux_lemma => kernel_rfl) hci' | exact stp_add rfl rfl rfl e4); apply run_step rfl; (exact stp_assign rfl rfl); refine run_nil ?_; refine fin_seq ?_; refine goes_seq ?_; refine goes_region ?_; apply run_step rfl; (exact stp_assign rfl rfl); apply run_step rfl; (exact stp_assign rfl rfl); refine run_nil ?_; refine fin_seq ?_; refine goes_seq ?_; refine goes_seq ?_; refine goes_region ?_; apply run_step rfl; (exact stp_move rfl rfl); apply run_step rfl; (exact stp_move rfl rfl); apply run_step rfl; (exact stp_bin rfl rfl rfl rfl); refine run_nil ?_; refine fin_seq ?_)
  skip
  refine goes_cut (St.of [(0, o1 (.sl 1003 0 n)), (1, vv (I6 a)), (2, vv (I6 m)), (3, vv (I6 b)), (4, vv cmpF), (18, vv (I6 md)), (19, vv (I6 nn)), (20, vv (I6 s0)), (21, vv (I6 r0))] [(1003, zOw zs)] [(0, o1 (.sl 1003 0 n))]) ?_ ?_
  · refine goes_if rfl (fun h => ?_) (fun h => ?_)
    · have h : m > md := by omega
      rw [if_pos h] at hs0 hr0
      have e6 : IntKind.i64.wrap ((nn : Int) - (b : Int)) = (s0 : Int) := by rw [IntWalk.i64_in _ (by omega)]; omega
      subst hr0
      (refine goes_seq ?_; refine goes_region ?_; apply run_step rfl; (exact stp_move rfl rfl); apply run_step rfl; (exact stp_move rfl rfl); apply run_step rfl; (exact stp_sub rfl rfl rfl e6); apply run_step rfl; (exact stp_assign rfl rfl); refine run_nil ?_; refine fin_seq ?_; refine goes_region ?_; apply run_step rfl; (exact stp_move rfl rfl); apply run_step rfl; (exact stp_assign rfl rfl); refine run_nil ?_)
      exact fin_join (Wk.of ⟨rfl, rfl, rfl, rfl, rfl, rfl, rfl, rfl, rfl, trivial⟩ ⟨rfl, trivial⟩ ⟨rfl, trivial⟩)
    · have h : ¬ m > md := by omega
      rw [if_neg h] at hs0 hr0
      subst hs0 hr0
      (refine goes_seq ?_; refine goes_region ?_; apply run_step rfl; (exact stp_move rfl rfl); apply run_step rfl; (exact stp_assign rfl rfl); refine run_nil ?_; refine fin_seq ?_; refine goes_region ?_; apply run_step rfl; (exact stp_move rfl rfl); apply run_step rfl; (exact stp_assign rfl rfl); refine run_nil ?_)
      exact fin_join (Wk.of ⟨rfl, rfl, rfl, rfl, rfl, rfl, rfl, rfl, rfl, trivial⟩ ⟨rfl, trivial⟩ ⟨rfl, trivial⟩)
  have bnd : ∀ c, s0 ≤ c → c < r0 → a ≤ c ∧ c < m ∧ m ≤ p - c ∧ p - c < b ∧ c ≤ p := fun c h1 h2 => by
    by_cases h : m > md
    · rw [if_pos h] at hs0 hr0; omega
    · rw [if_neg h] at hs0 hr0; omega
  have hsr : s0 ≤ r0 ∧ r0 ≤ m := by
    by_cases h : m > md
    · rw [if_pos h] at hs0 hr0; omega
    · rw [if_neg h] at hs0 hr0; omega
  (refine fin_seq ?_; refine goes_seq ?_; refine goes_region ?_; apply run_step rfl; (exact stp_move rfl rfl); apply run_step rfl; (exact stp_sub rfl rfl rfl e5); apply run_step rfl; (exact stp_assign rfl rfl); refine run_nil ?_; refine fin_seq ?_; refine goes_seq ?_; refine goes_block ?_)
  refine goes_loop (fun q : Nat × Nat => St.of [(0, o1 (.sl 1003 0 n)), (1, vv (I6 a)), (2, vv (I6 m)), (3, vv (I6 b)), (4, vv cmpF), (18, vv (I6 md)), (19, vv (I6 nn)), (20, vv (I6 q.1)), (21, vv (I6 q.2)), (22, vv (I6 p))] [(1003, zOw zs)] [(0, o1 (.sl 1003 0 n))]) (fun q => s0 ≤ q.1 ∧ q.1 ≤ q.2 ∧ q.2 ≤ r0 ∧ (∀ t, s0 ≤ t → t < q.1 → key (iget zs t) ≤ key (iget zs (md + m - 1 - t))) ∧ (∀ t, q.2 ≤ t → t < r0 → key (iget zs (md + m - 1 - t)) ≤ key (iget zs t))) (fun q => q.2 - q.1) (s0, r0) ⟨Nat.le_refl _, hsr.1, Nat.le_refl _, fun t h1 h2 => absurd h2 (by omega), fun t h1 h2 => absurd h2 (by omega)⟩ (Wk.of ⟨rfl, rfl, rfl, rfl, rfl, rfl, rfl, rfl, rfl, rfl, trivial⟩ ⟨rfl, trivial⟩ ⟨rfl, trivial⟩) ?_
  rintro ⟨i, j⟩ ⟨hi, hij, hj, hlo, hhi⟩
  dsimp only at hi hij hj hlo hhi ⊢
  (refine goes_seq ?_; refine goes_seq ?_; refine goes_region ?_; apply run_step rfl; (exact stp_move rfl rfl); apply run_step rfl; (exact stp_move rfl rfl); apply run_step rfl; (exact stp_bin rfl rfl rfl rfl); refine run_nil ?_; refine fin_seq ?_)
  refine goes_if rfl (fun hlt => ?_) (fun hlt => ?_)
  · obtain ⟨h, hh⟩ : ∃ h, (i + j) / 2 = h := ⟨_, rfl⟩
    have hh1 : i ≤ h := by omega
    have hh2 : h < j := by omega
    obtain ⟨b1, b2, b3, b4, b5⟩ := bnd h (by omega) (by omega)
    obtain ⟨d, hd⟩ : ∃ d, p - h = d := ⟨_, rfl⟩
    rw [hd] at b3 b4
    have c3 : IntKind.i64.wrap ((i : Int) + (j : Int)) = ((i + j : Nat) : Int) := add_w (by omega) (by omega)
    have ccu : IntKind.u64.wrap ((i + j : Nat) : Int) = ((i + j : Nat) : Int) := by rw [IntKind.wrap_u64]; omega
    have ccm : i + j < 1000000 := by omega
    have cci : IntKind.i64.wrap (((i + j) / 2 : Nat) : Int) = (((i + j) / 2 : Nat) : Int) := IntWalk.i64_in _ (by omega)
    have e6 : IntKind.i64.wrap ((p : Int) - (h : Int)) = (d : Int) := by rw [IntWalk.i64_in _ (by omega)]; omega
    have hdn : d < n := by omega
    have hhn : h < n := by omega
    have gd : (ivals zs)[d]? = some (I6 (iget zs d)) := ivals_get (by omega)
    have gh : (ivals zs)[h]? = some (I6 (iget zs h)) := ivals_get (by omega)
    have hC := cmpZ_fc hr d h
    have hk := hag h d b1 b2 b3 b4
    have hlz : lessZ (iget zs d) (iget zs h) = decide (cmpZ (iget zs d) (iget zs h) < 0) := rfl
    have e8 : IntKind.i64.wrap ((h : Int) + 1) = ((h + 1 : Nat) : Int) := by rw [IntWalk.i64_in _ (by omega)]; omega
    (refine goes_skip ?_; refine fin_seq ?_; refine goes_block ?_; refine goes_seq ?_; refine goes_region ?_; apply run_step rfl; (exact stp_move rfl rfl); apply run_step rfl; (exact stp_move rfl rfl); apply run_step rfl; (first | exact stp_add rfl rfl rfl c3 | exact stp_convN (k2 := .u64) rfl rfl (by as_aux_lemma => kernel_rfl) (by as_aux_lemma => kernel_rfl) ccu | exact stp_halfU rfl rfl ccm | exact stp_convN (k2 := .i64) rfl rfl (by as_aux_lemma => kernel_rfl) (by as_aux_lemma => kernel_rfl) cci); apply run_step rfl; (first | exact stp_add rfl rfl rfl c3 | exact stp_convN (k2 := .u64) rfl rfl (by as_aux_lemma => kernel_rfl) (by as_aux_lemma => kernel_rfl) ccu | exact stp_halfU rfl rfl ccm | exact stp_convN (k2 := .i64) rfl rfl (by as_aux_lemma => kernel_rfl) (by as_aux_lemma => kernel_rfl) cci); apply run_step rfl; (first | exact stp_add rfl rfl rfl c3 | exact stp_convN (k2 := .u64) rfl rfl (by as_aux_lemma => kernel_rfl) (by as_aux_lemma => kernel_rfl) ccu | exact stp_halfU rfl rfl ccm | exact stp_convN (k2 := .i64) rfl rfl (by as_aux_lemma => kernel_rfl) (by as_aux_lemma => kernel_rfl) cci); apply run_step rfl; (first | exact stp_add rfl rfl rfl c3 | exact stp_convN (k2 := .u64) rfl rfl (by as_aux_lemma => kernel_rfl) (by as_aux_lemma => kernel_rfl) ccu | exact stp_halfU rfl rfl ccm | exact stp_convN (k2 := .i64) rfl rfl (by as_aux_lemma => kernel_rfl) (by as_aux_lemma => kernel_rfl) cci); apply run_step rfl; (exact stp_assign rfl rfl); refine run_nil ?_; refine fin_seq ?_; refine goes_seq ?_)
    rw [hh]
    apply goes_draw 14 [] [[], [], [], [], [2, 3], [1, 2, 3, 4], [1, 2, 3, 4, 5], [], [], [7, 8], [7, 8, 9], [0, 1, 2, 3, 4, 5, 6, 7, 8, 9, 10], [0, 1, 2, 3, 4, 5, 6, 7, 8, 9, 10, 11], [0, 1, 2, 3, 4, 5, 6, 7, 8, 9, 10, 11, 12]] [158, 159, 160, 161, 162, 163, 164, 165, 166, 167, 168, 169, 170, 171] [] (by kernel_rfl) (by kernel_rfl)
    · (apply draw_put rfl; (intro S1 hS; exact stp_move rfl (hS.op rfl)))
      (apply draw_put rfl; (intro S1 hS; exact stp_move rfl (hS.op rfl)))
      (apply draw_put rfl; (intro S1 hS; exact stp_move rfl (hS.op rfl)))
      (apply draw_put rfl; (intro S1 hS; exact stp_move rfl (hS.op rfl)))
      (apply draw_put rfl; (intro S1 hS; exact stp_sub rfl (hS.op rfl) (hS.op rfl) e6))
      (apply draw_put rfl; (intro S1 hS; exact stp_ix (j := d) rfl (hS.op rfl) (hS.op rfl) (hS.ch _ _ rfl) rfl (by as_aux_lemma => kernel_rfl) rfl hdn hil))
      (apply draw_put rfl; (intro S1 hS; exact stp_loadV rfl (by as_aux_lemma => kernel_rfl) (hS.op rfl) (hS.ch _ _ rfl) rfl gd))
      (apply draw_put rfl; (intro S1 hS; exact stp_move rfl (hS.op rfl)))
      (apply draw_put rfl; (intro S1 hS; exact stp_move rfl (hS.op rfl)))
      (apply draw_put rfl; (intro S1 hS; exact stp_ix (j := h) rfl (hS.op rfl) (hS.op rfl) (hS.ch _ _ rfl) rfl (by as_aux_lemma => kernel_rfl) rfl hhn hil))
      (apply draw_put rfl; (intro S1 hS; exact stp_loadV rfl (by as_aux_lemma => kernel_rfl) (hS.op rfl) (hS.ch _ _ rfl) rfl gh))
      (apply draw_put rfl; (intro S1 hS; exact stp_callV (args := [vv (I6 (iget zs d)), vv (I6 (iget zs h))]) (hS.op rfl) hC (by as_aux_lemma => kernel_rfl) rfl (opL_le hS rfl) ⟨rfl, rfl, trivial⟩ trivial rfl rfl))
      (apply draw_put rfl; (intro S1 hS; exact stp_bin rfl (hS.op rfl) (hS.op rfl) rfl))
      (apply draw_put rfl; (intro S1 hS; exact stp_not rfl (hS.op rfl)))
      exact Draw.nil
    · rfl
    ((refine rest_done (by as_aux_lemma => kernel_rfl) ?_; skip))
    (refine fin_seq ?_)
    refine goes_cond rfl (fun e => ?_) (fun e => ?_)
    · have hk : key (iget zs h) ≤ key (iget zs d) := Nat.le_of_not_lt fun e' => by rw [← hlz, hk.2 e'] at e; cases e
      (refine goes_region ?_; apply run_step rfl; (exact stp_move rfl rfl); apply run_step rfl; (exact stp_add rfl rfl rfl e8); apply run_step rfl; (exact stp_assign rfl rfl); refine run_nil ?_; refine fin_block ?_)
      exact fin_round (h + 1, j) ⟨by dsimp only; omega, by dsimp only; omega, hj, fun t t1 t2 => by
        dsimp only at t2
        by_cases e : t = h
        · rw [e, show md + m - 1 - h = d by omega]; exact hk
        · have hbt := bnd t t1 (by omega)
          exact Nat.le_trans (hA t h (by omega) (by omega) (by omega)) (Nat.le_trans hk (hB _ _ (by omega) (by omega) (by omega))), hhi⟩ (by dsimp only; omega) (Wk.of ⟨rfl, rfl, rfl, rfl, rfl, rfl, rfl, rfl, rfl, rfl, trivial⟩ ⟨rfl, trivial⟩ ⟨rfl, trivial⟩)
    · have hk : key (iget zs d) < key (iget zs h) := by
        rw [← hlz] at e
        exact hk.1 (by cases hx : lessZ (iget zs d) (iget zs h) with
          | true => rfl
          | false => rw [hx] at e; cases e)
      (refine goes_region ?_; apply run_step rfl; (exact stp_move rfl rfl); apply run_step rfl; (exact stp_assign rfl rfl); refine run_nil ?_; refine fin_block ?_)
      exact fin_round (i, h) ⟨hi, hh1, by dsimp only; omega, hlo, fun t t1 t2 => by
        dsimp only at t1
        by_cases e : t = h
        · rw [e, show md + m - 1 - h = d by omega]; omega
        · have := bnd t (by omega) t2
          exact Nat.le_trans (hB _ _ (by omega) (by omega) (by omega)) (Nat.le_trans (Nat.le_of_lt hk) (hA h t (by omega) (by omega) (by omega)))⟩ (by dsimp only; omega) (Wk.of ⟨rfl, rfl, rfl, rfl, rfl, rfl, rfl, rfl, rfl, rfl, trivial⟩ ⟨rfl, trivial⟩ ⟨rfl, trivial⟩)
  obtain rfl : i = j := by omega
  have hc := cut_of (key := key) (zs := zs) (st := i) hmd.symm ham hmb hA hB (by rw [hs0]; exact hi) (by rw [hr0]; exact hj) (by rw [hs0]; exact hlo) (by rw [hr0]; exact hhi)
  obtain ⟨en, hen⟩ : ∃ en, md + m - i = en := ⟨_, rfl⟩
  rw [hen] at hc
  have c1 := hc.s1
  have c2 := hc.s2
  have c3 := hc.e1
  have c4 := hc.e2
  have c5 := hc.sum
  have e7 : IntKind.i64.wrap ((nn : Int) - (i : Int)) = (en : Int) := by rw [IntWalk.i64_in _ (by omega)]; omega
  clear hlo hhi hi hj hlt bnd hsr
  (repeat (first | refine goes_seq ?_ | refine fin_seq ?_ | refine goes_skip ?_ | refine goes_block ?_ | refine fin_block ?_ | refine goes_exit ?_ | refine fin_exit_eq ?_ | refine fin_exit_ne rfl ?_ | refine fin_exit_then ?_))
  refine goes_cut (St.of [(0, o1 (.sl 1003 0 n)), (1, vv (I6 a)), (2, vv (I6 m)), (3, vv (I6 b)), (4, vv cmpF), (18, vv (I6 md)), (20, vv (I6 i)), (24, vv (I6 en))] [(1003, zOw zs)] [(0, o1 (.sl 1003 0 n))]) ?_ ?_
  · (refine goes_region ?_; apply run_step rfl; (exact stp_move rfl rfl); apply run_step rfl; (exact stp_move rfl rfl); apply run_step rfl; (exact stp_sub rfl rfl rfl e7); apply run_step rfl; (exact stp_assign rfl rfl); refine run_nil ?_)
    exact fin_join (Wk.of ⟨rfl, rfl, rfl, rfl, rfl, rfl, rfl, rfl, trivial⟩ ⟨rfl, trivial⟩ ⟨rfl, trivial⟩)
  refine fin_seq ?_
  refine goes_seq ?_
  refine goes_cutx (p := fun z => Rot zs z i m en) (fun z => St.of [(0, o1 (.sl 1003 0 n)), (1, vv (I6 a)), (2, vv (I6 m)), (3, vv (I6 b)), (4, vv cmpF), (18, vv (I6 md)), (20, vv (I6 i)), (24, vv (I6 en))] [(1003, zOw z)] [(0, o1 (.sl 1003 0 n))]) ?_ ?_
  · (refine goes_seq ?_; refine goes_region ?_; apply run_step rfl; (exact stp_move rfl rfl); apply run_step rfl; (exact stp_move rfl rfl); apply run_step rfl; (exact stp_bin rfl rfl rfl rfl); apply run_step rfl; (exact stp_move rfl rfl))
    refine run_bool 181 rfl (fun h => ?_) (fun h => ?_)
    · have hB1 : i < m := by simpa using h
      (apply run_gYes rfl rfl rfl; (exact stp_move rfl rfl); apply run_gYes rfl rfl rfl; (exact stp_move rfl rfl); apply run_gYes rfl rfl rfl; (exact stp_bin rfl rfl rfl rfl); apply run_step rfl; (exact stp_pickT rfl rfl rfl); refine run_nil ?_; refine fin_seq ?_)
      refine goes_if rfl (fun hC => ?_) (fun hC => ?_)
      · (refine goes_region ?_; apply run_step rfl; (exact stp_move rfl rfl); apply run_step rfl; (exact stp_move rfl rfl); apply run_step rfl; (exact stp_move rfl rfl); apply run_step rfl; (exact stp_move rfl rfl); apply run_step rfl; (exact stp_move rfl rfl))
        refine run_ex rfl (stp_turnX (p := fun z => Rot zs z i m en) (vs := [I6 i, I6 m, I6 en, cmpF]) rfl (by as_aux_lemma => kernel_rfl) rfl rfl hzl (by omega) fun ao c w ho => rotate_any ao n c i m en zs w 0 ho hn hB1 (by omega) (by omega) cmpF) fun zs1 hrot => ?_
        (refine run_nil ?_)
        exact fin_joinx zs1 hrot (Wk.of ⟨rfl, rfl, rfl, rfl, rfl, rfl, rfl, rfl, trivial⟩ ⟨rfl, trivial⟩ ⟨rfl, trivial⟩)
      · (refine goes_skip ?_)
        exact fin_joinx zs (Rot.none (by omega) c2 c3) (Wk.of ⟨rfl, rfl, rfl, rfl, rfl, rfl, rfl, rfl, trivial⟩ ⟨rfl, trivial⟩ ⟨rfl, trivial⟩)
    · have hB1 : ¬ i < m := by simpa using h
      (apply run_gNo rfl rfl rfl rfl rfl; apply run_gNo rfl rfl rfl rfl rfl; apply run_gNo rfl rfl rfl rfl rfl; apply run_step rfl; (exact stp_pickF rfl rfl rfl); refine run_nil ?_; refine fin_seq ?_)
      refine goes_cond rfl (fun e => by cases e) (fun _ => ?_)
      (refine goes_skip ?_)
      exact fin_joinx zs (Rot.none (by omega) c2 c3) (Wk.of ⟨rfl, rfl, rfl, rfl, rfl, rfl, rfl, rfl, trivial⟩ ⟨rfl, trivial⟩ ⟨rfl, trivial⟩)
  intro zs1 hrot
  have hv := halves_of hc hA hB hag hrot
  have hr1 : Rng zs1 := hr.perm hrot.kept.perm
  have hz1 : zs1.length = n := hrot.kept.len.trans hzl
  refine fin_seq ?_
  refine goes_seq ?_
  refine goes_cutx (p := fun z => Kept zs1 z a md ∧ Asc key z a md) (fun z => St.of [(0, o1 (.sl 1003 0 n)), (1, vv (I6 a)), (2, vv (I6 m)), (3, vv (I6 b)), (4, vv cmpF), (18, vv (I6 md)), (20, vv (I6 i)), (24, vv (I6 en))] [(1003, zOw z)] [(0, o1 (.sl 1003 0 n))]) ?_ ?_
  · (refine goes_seq ?_; refine goes_region ?_; apply run_step rfl; (exact stp_move rfl rfl); apply run_step rfl; (exact stp_move rfl rfl); apply run_step rfl; (exact stp_bin rfl rfl rfl rfl); apply run_step rfl; (exact stp_move rfl rfl))
    refine run_bool 195 rfl (fun h => ?_) (fun h => ?_)
    · have hA1 : a < i := by simpa using h
      (apply run_gYes rfl rfl rfl; (exact stp_move rfl rfl); apply run_gYes rfl rfl rfl; (exact stp_move rfl rfl); apply run_gYes rfl rfl rfl; (exact stp_bin rfl rfl rfl rfl); apply run_step rfl; (exact stp_pickT rfl rfl rfl); refine run_nil ?_; refine fin_seq ?_)
      refine goes_if rfl (fun hC => ?_) (fun hC => ?_)
      · (refine goes_region ?_; apply run_step rfl; (exact stp_move rfl rfl); apply run_step rfl; (exact stp_move rfl rfl); apply run_step rfl; (exact stp_move rfl rfl); apply run_step rfl; (exact stp_move rfl rfl); apply run_step rfl; (exact stp_move rfl rfl))
        refine run_ex rfl (stp_turnX (p := fun z => Kept zs1 z a md ∧ Asc key z a md) (vs := [I6 a, I6 i, I6 md, cmpF]) rfl (by as_aux_lemma => kernel_rfl) rfl rfl hz1 (by omega) fun ao c w ho => ih a i md zs1 ao c 0 w (by omega) ho hA1 (by omega) (by omega) hr1 hv.o1 hv.o2 hv.g1) fun zs2 h2 => ?_
        (refine run_nil ?_)
        exact fin_joinx zs2 h2 (Wk.of ⟨rfl, rfl, rfl, rfl, rfl, rfl, rfl, rfl, trivial⟩ ⟨rfl, trivial⟩ ⟨rfl, trivial⟩)
      · (refine goes_skip ?_)
        exact fin_joinx zs1 ⟨Kept.refl _ _ _, hv.o1.glue hv.o2 (by omega)⟩ (Wk.of ⟨rfl, rfl, rfl, rfl, rfl, rfl, rfl, rfl, trivial⟩ ⟨rfl, trivial⟩ ⟨rfl, trivial⟩)
    · have hA1 : ¬ a < i := by simpa using h
      (apply run_gNo rfl rfl rfl rfl rfl; apply run_gNo rfl rfl rfl rfl rfl; apply run_gNo rfl rfl rfl rfl rfl; apply run_step rfl; (exact stp_pickF rfl rfl rfl); refine run_nil ?_; refine fin_seq ?_)
      refine goes_cond rfl (fun e => by cases e) (fun _ => ?_)
      (refine goes_skip ?_)
      exact fin_joinx zs1 ⟨Kept.refl _ _ _, hv.o1.glue hv.o2 (by omega)⟩ (Wk.of ⟨rfl, rfl, rfl, rfl, rfl, rfl, rfl, rfl, trivial⟩ ⟨rfl, trivial⟩ ⟨rfl, trivial⟩)
  rintro zs2 ⟨k2, a2⟩
  have hz2 : zs2.length = n := k2.len.trans hz1
  have fin : ∀ zs3, Kept zs2 zs3 md b → Asc key zs3 md b → Kept zs zs3 a b ∧ Asc key zs3 a b := fun zs3 k3 a3 => by
    obtain ⟨f1, f2⟩ := join_of (by omega) (by omega) k2 a2 k3 a3 hv.ac
    exact ⟨(hrot.kept.wide (by omega) (by omega)).trans f1, f2⟩
  have o3 := hv.o3.keep k2 (.inl (Nat.le_refl _))
  have o4 := hv.o4.keep k2 (.inl (by omega))
  have g2 := hv.g2.keep k2 (.inl (Nat.le_refl _))
  (refine fin_seq ?_; refine goes_seq ?_; refine goes_region ?_; apply run_step rfl; (exact stp_move rfl rfl); apply run_step rfl; (exact stp_move rfl rfl); apply run_step rfl; (exact stp_bin rfl rfl rfl rfl); apply run_step rfl; (exact stp_move rfl rfl))
  refine run_bool 209 rfl (fun h => ?_) (fun h => ?_)
  · have hB1 : md < en := by simpa using h
    (apply run_gYes rfl rfl rfl; (exact stp_move rfl rfl); apply run_gYes rfl rfl rfl; (exact stp_move rfl rfl); apply run_gYes rfl rfl rfl; (exact stp_bin rfl rfl rfl rfl); apply run_step rfl; (exact stp_pickT rfl rfl rfl); refine run_nil ?_; refine fin_seq ?_)
    refine goes_if rfl (fun hD => ?_) (fun hD => ?_)
    · (refine goes_region ?_; apply run_step rfl; (exact stp_move rfl rfl); apply run_step rfl; (exact stp_move rfl rfl); apply run_step rfl; (exact stp_move rfl rfl); apply run_step rfl; (exact stp_move rfl rfl); apply run_step rfl; (exact stp_move rfl rfl))
      refine run_ex rfl (stp_turnX (p := fun z => Kept zs2 z md b ∧ Asc key z md b) (vs := [I6 md, I6 en, I6 b, cmpF]) rfl (by as_aux_lemma => kernel_rfl) rfl rfl hz2 (by omega) fun ao c w ho => ih md en b zs2 ao c 0 w (by omega) ho hB1 (by omega) hb (hr1.perm k2.perm) o3 o4 g2) fun zs3 h3 => ?_
      (refine run_nil ?_)
      exact fin_ret0x zs3 (fin zs3 h3.1 h3.2) (.inr rfl) rfl ⟨rfl, trivial⟩ ⟨rfl, trivial⟩
    · (refine goes_skip ?_)
      exact fin_ret0x zs2 (fin zs2 (Kept.refl _ _ _) (o3.glue o4 (by omega))) (.inr rfl) rfl ⟨rfl, trivial⟩ ⟨rfl, trivial⟩
  · have hB1 : ¬ md < en := by simpa using h
    (apply run_gNo rfl rfl rfl rfl rfl; apply run_gNo rfl rfl rfl rfl rfl; apply run_gNo rfl rfl rfl rfl rfl; apply run_step rfl; (exact stp_pickF rfl rfl rfl); refine run_nil ?_; refine fin_seq ?_)
    refine goes_cond rfl (fun e => by cases e) (fun _ => ?_)
    (refine goes_skip ?_)
    exact fin_ret0x zs2 (fin zs2 (Kept.refl _ _ _) (o3.glue o4 (by omega))) (.inr rfl) rfl ⟨rfl, trivial⟩ ⟨rfl, trivial⟩
theorem symM_any (key : Int → Nat) (n : Nat) (hn : n ≤ 1000) : ∀ (N a m b : Nat) (zs : List Int) (ao : Option Addr) (c base : Nat) (w : World), b - a ≤ N → Own w base 2 ao n c (zs.map (Value.int .i64)) → a < m → m < b → b ≤ n → Rng zs →
    Asc key zs a m → Asc key zs m b → Agr key lessZ zs a m b →
    Calls Try.prog 204 #[.slice ao n c, .int .i64 a, .int .i64 m, .int .i64 b, cmpF] w fun e w' => e = .returned (.tuple #[]) ∧ Merged key zs a b ao n c base w w'
  | 0, a, m, b, zs, ao, c, base, w, hN, h, ham, hmb, hb, hr, hA, hB, hag => by omega
  | N + 1, a, m, b, zs, ao, c, base, w, hN, h, ham, hmb, hb, hr, hA, hB, hag => by
    have hzl : zs.length = n := by have := h.len; simpa using this
    obtain ⟨g, rfl, -⟩ := h.form (by omega)
    by_cases h1 : m = a + 1
    · subst h1
      exact symL_any key g n c a b zs w base h hn hmb hb hr hB hag
    by_cases h2 : b = m + 1
    · subst h2
      exact symR_any key g n c a m zs w base h hn (by omega) hb hr hA hag
    exact (symM_fc key zs n a m b hn hzl (by omega) (by omega) hb hr hA hB hag fun a' m' b' zs' ao' c' base' w' hlt => symM_any key n hn N a' m' b' zs' ao' c' base' w' (by omega)).turn (vs := [I6 a, I6 m, I6 b, cmpF]) hzl (fun z hz => hz.1.len.trans hzl) (by omega) h
end Go.Proofs.Ytnfkhgamnapgmaa

/- slices.SortStableFunc at []int64 with the program's comparison of masks, at most 32 elements. -/
namespace Go.Proofs.Ytnfkhgamnapgmaa
open Go.RowKit

theorem agr_of {key : Int → Nat} {less : Int → Int → Bool} {zs z1 z2 : List Int} {m n : Nat} (hm : m ≤ n) (h : AgrA key less zs 0 n) (k1 : Kept zs z1 0 m) (k2 : Kept z1 z2 m n) : Agr key less z2 0 m n := fun i j i1 i2 i3 i4 => by
  obtain ⟨x, x1, x2, x3⟩ := k1.mem i i1 i2
  obtain ⟨y, y1, y2, y3⟩ := k2.mem j i3 i4
  rw [k2.out i (.inl i2), x3, y3, k1.out y (.inr y1)]
  exact h x y x1 (by omega) y2
theorem agrA_sub {key : Int → Nat} {less : Int → Int → Bool} {zs : List Int} {a b a' b' : Nat} (h : AgrA key less zs a b) (ha : a ≤ a') (hb : b' ≤ b) : AgrA key less zs a' b' := fun i j i1 i2 i3 => h i j (by omega) i2 (by omega)
theorem agrA_out {key : Int → Nat} {less : Int → Int → Bool} {zs z1 : List Int} {a m b : Nat} (h : AgrA key less zs m b) (k : Kept zs z1 a m) : AgrA key less z1 m b := fun i j i1 i2 i3 => by
  rw [k.out i (.inr i1), k.out j (.inr (by omega))]; exact h i j i1 i2 i3
set_option maxRecDepth 100000 in
set_option maxHeartbeats 1600000 in
theorem stable_any (key : Int → Nat) (ao : Option Addr) (n c : Nat) (zs : List Int) (w : World) (base : Nat) (h : Own w base 2 ao n c (zs.map (Value.int .i64))) (hn : n ≤ 32) (hr : Rng zs) (hag : AgrA key lessZ zs 0 n) :
    Calls Try.prog 177 #[.slice ao n c, .int .i64 n, cmpF] w fun e w' => e = .returned (.tuple #[]) ∧ Merged key zs 0 n ao n c base w w' := by
  have HR := Lib.hid hr
  have HAG := Lib.hid hag
  clear hr hag
  by_cases h20 : n < 20
  · have hI := fun (w1 : World) (h1 : Own w1 base 2 ao n c (zs.map (Value.int .i64))) => insertF_any key ao n c 0 n zs w1 base h1 (by omega) (Nat.zero_le _) (Nat.le_refl _) HR.out HAG.out
    go_enter Try.func177, Try.ntmps177
    go_wp2_with fail
    refine wp_loop_rounds 1 ?_
    rw [rounds_succ]
    go_wp2_with fail
    refine (hI _ h).mono ?_
    rintro e w1 ⟨rfl, zt, hz, ho, hg⟩
    have HZ := Lib.hid hz
    have HO := Lib.hid ho
    have HG := Lib.hid hg
    clear hz ho hg
    go_wp2_with fail
    refine wp_loop_rounds 1 ?_
    rw [rounds_succ]
    go_wp2_with fail
    go_end0
    exact ⟨rfl, zt, HZ.out, HO.out, HG.out⟩
  · have hI := fun (w1 : World) (h1 : Own w1 base 2 ao n c (zs.map (Value.int .i64))) => insertF_any key ao n c 0 20 zs w1 base h1 (by omega) (by omega) (by omega) HR.out (agrA_sub HAG.out (Nat.le_refl _) (by omega))
    go_enter Try.func177, Try.ntmps177
    go_wp2_with fail
    refine wp_loop_rounds 2 ?_
    rw [rounds_succ]
    go_wp2_with fail
    refine (hI _ h).mono ?_
    rintro e w1 ⟨rfl, z1, hz, ho, hg⟩
    have HZ := Lib.hid hz
    have HO := Lib.hid ho
    have HG := Lib.hid hg
    clear hz ho hg
    go_wp2_with fail
    rw [rounds_succ]
    go_wp2_with fail
    refine (insertF_any key ao n c 20 n z1 _ base HO.out (by omega) (by omega) (Nat.le_refl _) (HR.out.perm HZ.out.1.perm) (agrA_out (agrA_sub HAG.out (by omega) (Nat.le_refl _)) HZ.out.1)).mono ?_
    rintro e w2 ⟨rfl, z2, hz, ho, hg⟩
    have HZ2 := Lib.hid hz
    have HO2 := Lib.hid ho
    have HG2 := Lib.hid (grown_tr HG.out hg)
    clear hz ho hg
    go_wp2_with fail
    by_cases hn2 : 20 < n
    · refine wp_loop_rounds 2 ?_
      rw [rounds_succ]
      go_wp2_with fail
      refine wp_loop_rounds 1 ?_
      rw [rounds_succ]
      go_wp2_with fail
      refine (symM_any key n (by omega) n 0 20 n z2 ao c base _ (by omega) HO2.out (by omega) hn2 (Nat.le_refl _) ((HR.out.perm HZ.out.1.perm).perm HZ2.out.1.perm) (HZ.out.2.keep HZ2.out.1 (.inr (Nat.le_refl _))) HZ2.out.2 (agr_of (by omega) HAG.out HZ.out.1 HZ2.out.1)).mono ?_
      rintro e w3 ⟨rfl, z3, hz, ho, hg⟩
      have HZ3 := Lib.hid hz
      have HO3 := Lib.hid ho
      have HG3 := Lib.hid (grown_tr HG2.out hg)
      clear hz ho hg
      go_wp2_with fail
      rw [rounds_succ]
      go_wp2_with fail
      go_end0
      exact ⟨rfl, z3, ⟨((HZ.out.1.wide (Nat.le_refl _) (by omega)).trans (HZ2.out.1.wide (by omega) (Nat.le_refl _))).trans HZ3.out.1, HZ3.out.2⟩, HO3.out, HG3.out⟩
    · refine wp_loop_rounds 1 ?_
      rw [rounds_succ]
      go_wp2_with fail
      go_end0
      obtain rfl : n = 20 := by omega
      exact ⟨rfl, z2, ⟨(HZ.out.1).trans (HZ2.out.1.wide (by omega) (Nat.le_refl _)), HZ.out.2.keep HZ2.out.1 (.inr (Nat.le_refl _))⟩, HO2.out, HG2.out⟩
set_option maxHeartbeats 800000 in
theorem sortStable_any (key : Int → Nat) (ao : Option Addr) (n c : Nat) (zs : List Int) (w : World) (base : Nat) (h : Own w base 2 ao n c (zs.map (Value.int .i64))) (hn : n ≤ 32) (hr : Rng zs) (hag : AgrA key lessZ zs 0 n) :
    Calls Try.prog 135 #[.slice ao n c, cmpF] w fun e w' => e = .returned (.tuple #[]) ∧ Merged key zs 0 n ao n c base w w' := by
  have HR := Lib.hid hr
  have HAG := Lib.hid hag
  clear hr hag
  go_enter Try.func135, Try.ntmps135
  go_wp2_with fail
  refine (stable_any key ao n c zs _ base h hn HR.out HAG.out).mono ?_
  rintro e w1 ⟨rfl, zt, hz, ho, hg⟩
  go_wp2
  go_end0
  exact ⟨rfl, zt, hz, ho, hg⟩
end Go.Proofs.Ytnfkhgamnapgmaa

/- Components of a diagram, and their degrees, on lists. No program in sight. -/
namespace Go.Proofs.Ytnfkhgamnapgmaa

/-- components: their masks and their labels -/
abbrev Cmps := List (Nat × List Int)
def cget (ps : Cmps) (k : Nat) : Nat × List Int := ps.getD k (0, [])
theorem cget_lt {ps : Cmps} {k : Nat} (h : k < ps.length) : cget ps k = ps[k] := by simp [cget, h]
theorem cget_mem {ps : Cmps} {k : Nat} (h : k < ps.length) : cget ps k ∈ ps := by rw [cget_lt h]; exact List.getElem_mem h
/-- whether node i goes on with the component of the node ahead of it -/
def jn (zs : List Int) (mask i : Nat) : Bool := decide (0 < i) && (mBit mask (i - 1) && !(iget zs (i - 1) == 2))
def pLast (ps : Cmps) (i : Nat) (z : Int) : Cmps := ps.set (ps.length - 1) ((cget ps (ps.length - 1)).1 ||| 2 ^ i, (cget ps (ps.length - 1)).2 ++ [z])
def pStep (zs : List Int) (mask : Nat) (ps : Cmps) (i : Nat) : Cmps := if mBit mask i then (if jn zs mask i then pLast ps i (iget zs (i - 1)) else ps ++ [(2 ^ i, [])]) else ps
def pTo (zs : List Int) (mask n : Nat) : Cmps := (List.range n).foldl (pStep zs mask) []
def comps (zs : List Int) (mask : Nat) : Cmps := pTo zs mask (zs.length + 1)
theorem pTo_succ (zs : List Int) (mask i : Nat) : pTo zs mask (i + 1) = pStep zs mask (pTo zs mask i) i := by unfold pTo; rw [List.range_succ, List.foldl_append]; rfl
def csum (ps : Cmps) : Nat := (ps.map fun p => p.2.length + 1).sum
theorem csum_app (a b : Cmps) : csum (a ++ b) = csum a + csum b := by simp [csum]
theorem csum_set : ∀ (ps : Cmps) (k : Nat) (p : Nat × List Int), k < ps.length → csum (ps.set k p) + ((cget ps k).2.length + 1) = csum ps + (p.2.length + 1)
  | [], k, _, h => by simp at h
  | a :: r, 0, p, _ => by simp [csum, cget]; omega
  | a :: r, k + 1, p, h => by
    have := csum_set r k p (by simpa using h)
    simp [csum, cget] at this ⊢
    omega
theorem csum_le : ∀ {ps : Cmps} {p : Nat × List Int}, p ∈ ps → p.2.length + 1 ≤ csum ps
  | a :: r, p, h => by
    rcases List.mem_cons.1 h with rfl | h
    · simp [csum]
    · have := csum_le h; simp [csum] at this ⊢; omega
theorem csum_len : ∀ (ps : Cmps), ps.length ≤ csum ps
  | [] => by simp [csum]
  | a :: r => by have := csum_len r; simp [csum] at this ⊢; omega
structure POK (zs : List Int) (mask i : Nat) (ps : Cmps) : Prop where
  lt : ∀ p ∈ ps, p.1 < 2 ^ i
  lab : ∀ p ∈ ps, ∀ z ∈ p.2, z ∈ zs ∧ z ≠ 2
  sum : csum ps ≤ i
  ne : 0 < i → mBit mask (i - 1) = true → 0 < ps.length
theorem or_lt2 {a i : Nat} (h : a < 2 ^ i) : a ||| 2 ^ i < 2 ^ (i + 1) := Nat.or_lt_two_pow (Nat.lt_of_lt_of_le h (Nat.pow_le_pow_right (by decide) (by omega))) (Nat.pow_lt_pow_right (by decide) (by omega))
theorem jn_spec {zs : List Int} {mask i : Nat} (h : jn zs mask i = true) : 0 < i ∧ mBit mask (i - 1) = true ∧ iget zs (i - 1) ≠ 2 := by
  unfold jn at h; simpa using h
theorem pTo_ok (zs : List Int) (mask : Nat) : ∀ i, i ≤ zs.length + 1 → POK zs mask i (pTo zs mask i)
  | 0, _ => ⟨fun p hp => (nomatch hp), fun p hp => (nomatch hp), by simp [pTo, csum], fun h => absurd h (by omega)⟩
  | i + 1, hi => by
    have h := pTo_ok zs mask i (by omega)
    have h2 : 2 ^ i < 2 ^ (i + 1) := Nat.pow_lt_pow_right (by decide) (by omega)
    rw [pTo_succ]
    generalize pTo zs mask i = ps at *
    unfold pStep
    split
    · split
      · rename_i hj
        obtain ⟨j1, j2, j3⟩ := jn_spec hj
        have hne := h.ne j1 j2
        have hk : ps.length - 1 < ps.length := by omega
        have hmem := cget_mem hk
        unfold pLast
        refine ⟨fun p hp => ?_, fun p hp => ?_, ?_, fun _ _ => by rw [List.length_set]; exact hne⟩
        · rcases List.mem_or_eq_of_mem_set hp with hp | rfl
          · exact Nat.lt_trans (h.lt p hp) h2
          · exact or_lt2 (h.lt _ hmem)
        · rcases List.mem_or_eq_of_mem_set hp with hp | rfl
          · exact h.lab p hp
          · intro z hz
            rcases List.mem_append.1 hz with hz | hz
            · exact h.lab _ hmem z hz
            · obtain rfl : z = iget zs (i - 1) := by simpa using hz
              exact ⟨iget_mem (by omega), j3⟩
        · have := csum_set ps (ps.length - 1) ((cget ps (ps.length - 1)).1 ||| 2 ^ i, (cget ps (ps.length - 1)).2 ++ [iget zs (i - 1)]) hk
          have h3 := h.sum
          simp only [List.length_append, List.length_singleton] at this
          omega
      · refine ⟨fun p hp => ?_, fun p hp => ?_, ?_, fun _ _ => by simp⟩
        · rcases List.mem_append.1 hp with hp | hp
          · exact Nat.lt_trans (h.lt p hp) h2
          · obtain rfl : p = (2 ^ i, []) := by simpa using hp
            exact h2
        · rcases List.mem_append.1 hp with hp | hp
          · exact h.lab p hp
          · obtain rfl : p = (2 ^ i, []) := by simpa using hp
            intro z hz; cases hz
        · rw [csum_app]; have h3 := h.sum; simp [csum] at h3 ⊢; omega
    · rename_i hb
      refine ⟨fun p hp => Nat.lt_trans (h.lt p hp) h2, h.lab, by have := h.sum; omega, fun _ h' => ?_⟩
      rw [Nat.add_sub_cancel] at h'; exact absurd h' hb
theorem comps_ok (zs : List Int) (mask : Nat) : POK zs mask (zs.length + 1) (comps zs mask) := pTo_ok zs mask _ (Nat.le_refl _)

/-- a list, or the same the other way round -/
def eith (part list : List Int) : Bool := part == list || part == list.reverse
theorem eith_iff {part list : List Int} : eith part list = true ↔ part = list ∨ part = list.reverse := by simp [eith]
def ramp (n : Nat) (step : Int) : List Int := (List.range n).map fun i : Nat => 2 + step * i
theorem ramp_succ (n : Nat) (step : Int) : ramp (n + 1) step = ramp n step ++ [2 + step * n] := by simp [ramp, List.range_succ]
theorem ramp_len (n : Nat) (step : Int) : (ramp n step).length = n := by simp [ramp]
/-- the degrees of a component, no list if it is not finite -/
def degs (part : List Int) : List Int :=
  if part.length = 0 then [2]
  else if part.length = 1 ∧ 0 < iget part 0 then [2, iget part 0]
  else if eith part [3, 5] then [2, 6, 10]
  else if eith part [3, 3, 5] then [2, 12, 20, 30]
  else if eith part [3, 4, 3] then [2, 6, 8, 12]
  else if part = List.replicate part.length 3 then ramp (part.length + 1) 1
  else if eith part ((List.replicate part.length (3 : Int)).set 0 4) then ramp (part.length + 1) 2
  else []
def affB (part : List Int) : Bool := eith part [0] || (eith part [4, 4] || (eith part [3, 6] || (eith part [4, 3, 4] || (eith part [3, 4, 3, 3] || eith part [4, 3, 3, 4]))))
/-- labels that may stand in a component -/
def Labs (part : List Int) : Prop := part.length ≤ 4 ∧ ∀ z ∈ part, 0 ≤ z ∧ z ≤ 32 ∧ z ≠ 1 ∧ z ≠ 2
theorem degs_len (part : List Int) (h : part.length ≤ 4) : (degs part).length = 0 ∨ (degs part).length = part.length + 1 := by
  unfold degs
  split
  · right; rename_i h; simp [h]
  split
  · right; rename_i h; simp [h.1]
  split
  · rename_i h; rcases eith_iff.1 h with rfl | rfl <;> exact .inr rfl
  split
  · rename_i h; rcases eith_iff.1 h with rfl | rfl <;> exact .inr rfl
  split
  · rename_i h; rcases eith_iff.1 h with rfl | rfl <;> exact .inr rfl
  split
  · exact .inr (ramp_len _ _)
  split
  · exact .inr (ramp_len _ _)
  · exact .inl rfl
theorem degs_in {part : List Int} (hp : Labs part) : ∀ d ∈ degs part, 2 ≤ d ∧ d ≤ 32 := by
  have hramp : ∀ step : Int, (step = 1 ∨ step = 2) → ∀ d ∈ ramp (part.length + 1) step, 2 ≤ d ∧ d ≤ 32 := fun step hs d hd => by
    unfold ramp at hd
    rw [List.mem_map] at hd
    obtain ⟨i, hi, rfl⟩ := hd
    have hi := List.mem_range.1 hi
    have := hp.1
    rcases hs with rfl | rfl <;> omega
  unfold degs
  split
  · intro d hd; simp at hd; omega
  split
  · rename_i h1 h2
    intro d hd
    have := hp.2 _ (iget_mem (zs := part) (k := 0) (by omega))
    simp at hd; omega
  split
  · intro d hd; simp at hd; omega
  split
  · intro d hd; simp at hd; omega
  split
  · intro d hd; simp at hd; omega
  split
  · exact hramp 1 (.inl rfl)
  split
  · exact hramp 2 (.inr rfl)
  · intro d hd; cases hd

/-- what the reference does where all labels but perhaps one at an end are 3 -/
def ends (part : List Int) : List Int := if iget part 0 = 3 then part else part.reverse
def tailOk (part : List Int) : Bool := (List.range (part.length - 1)).all fun i => iget (ends part) i == 3
def tailS (part : List Int) : List Int := if tailOk part then (if iget (ends part) (part.length - 1) = 3 then ramp (part.length + 1) 1 else if iget (ends part) (part.length - 1) = 4 then ramp (part.length + 1) 2 else []) else []
theorem tailS_eq {part : List Int} (h2 : 2 ≤ part.length) (h4 : part.length ≤ 4) : tailS part = if part = List.replicate part.length 3 then ramp (part.length + 1) 1 else if eith part ((List.replicate part.length (3 : Int)).set 0 4) then ramp (part.length + 1) 2 else [] := by
  match part, h2, h4 with
  | [a, b], _, _ =>
    simp only [tailS, tailOk, ends, eith, iget, List.length_cons, List.length_nil]
    simp [List.range_succ, List.replicate]
    by_cases ha : a = 3 <;> by_cases hb : b = 3 <;> by_cases ha4 : a = 4 <;> by_cases hb4 : b = 4 <;> simp_all
  | [a, b, c], _, _ =>
    simp only [tailS, tailOk, ends, eith, iget, List.length_cons, List.length_nil]
    simp [List.range_succ, List.replicate]
    by_cases ha : a = 3 <;> by_cases hb : b = 3 <;> by_cases hc : c = 3 <;> by_cases ha4 : a = 4 <;> by_cases hc4 : c = 4 <;> simp_all
  | [a, b, c, d], _, _ =>
    simp only [tailS, tailOk, ends, eith, iget, List.length_cons, List.length_nil]
    simp [List.range_succ, List.replicate]
    by_cases ha : a = 3 <;> by_cases hb : b = 3 <;> by_cases hc : c = 3 <;> by_cases hd : d = 3 <;> by_cases ha4 : a = 4 <;> by_cases hd4 : d = 4 <;> simp_all
end Go.Proofs.Ytnfkhgamnapgmaa

/- Comparisons of lists, the greatest one of an ascending list, the greatest common divisor. -/
namespace Go.Proofs.Ytnfkhgamnapgmaa
open Go.RowKit

set_option maxHeartbeats 400000 in
theorem same_any (a b : Option Addr) (na nb ca cb : Nat) (za zb : List Int) (w : World) (ha : Ints w a na za) (hb : Ints w b nb zb) :
    Calls Try.prog 226 #[.slice a na ca, .slice b nb cb] w fun e w' => e = .returned (.bool (decide (za = zb))) ∧ ∃ m, w' = w.drewN m := by
  have hla := ha.2.1
  have hlb := hb.2.1
  by_cases hl : na = nb
  · subst hl
    have hl' : ((na : Int) != (na:Int)) = false := by simp
    go_enter Try.func226, Try.ntmps226
    go_wp2
    go_loopw [5] (fun i wr => ∃ k : Nat, k ≤ na ∧ i = .int .i64 k ∧ za.take k = zb.take k ∧ ∃ m, wr = w.drewN m) (fun i _ => na - (intOf i).toNat)
    case atStart => exact ⟨0, Nat.zero_le _, rfl, rfl, 0, rfl⟩
    case round =>
      obtain ⟨k, hk, rfl, hpre, m, rfl⟩ := hrel
      have HP := Lib.hid hpre
      clear hpre
      by_cases hlt : k < na
      · obtain ⟨ba, oa, rfl, hca⟩ := ha.at_ hlt
        obtain ⟨bb, ob, rfl, hcb⟩ := hb.at_ hlt
        have h1 := ha.1
        have h2 := hb.1
        have H1 := Lib.hid h1
        have H2 := Lib.hid h2
        clear h1 h2
        by_cases he : iget za k = iget zb k
        · have he' : (iget za k != iget zb k) = false := by simp [he]
          have HE := Lib.hid he
          clear he
          go_wp2_with fail
          go_quiet (fail)
          go_wp2
          go_roundw
          case rel => exact ⟨k + 1, by omega, by go_num, by rw [take_iget (by rw [H1.out]; omega), take_iget (by rw [H2.out]; omega), HP.out, HE.out], _, rfl⟩
          case measure => simp [intOf]; omega
        · have he' : (iget za k != iget zb k) = true := by simp [he]
          have HE := Lib.hid he
          clear he
          go_wp2_with fail
          go_quiet (fail)
          go_wp2
          go_ret
          exact ⟨ret_bool (by symm; rw [decide_eq_false_iff_not]; intro e; exact HE.out (by rw [e])), _, World.drewN_drewN _ _ _⟩
      · obtain rfl : k = na := by omega
        have h1 := ha.1
        have h2 := hb.1
        have hab : za = zb := by have := HP.out; rwa [List.take_of_length_le (by omega), List.take_of_length_le (by omega)] at this
        have HA := Lib.hid hab
        clear h1 h2 hab
        go_wp2
        go_ret
        exact ⟨ret_bool (by symm; simpa using HA.out), _, rfl⟩
  · have hl' : ((na : Int) != (nb:Int)) = true := by simp; omega
    go_enter Try.func226, Try.ntmps226
    go_wp2
    go_ret
    refine ⟨ret_bool ?_, 0, rfl⟩
    symm
    rw [decide_eq_false_iff_not]
    intro e
    exact hl (by rw [← ha.1, ← hb.1, e])

set_option maxHeartbeats 400000 in
theorem equal_any (a b : Option Addr) (na nb ca cb : Nat) (za zb : List Int) (w : World) (ha : Ints w a na za) (hb : Ints w b nb zb) :
    Calls Try.prog 223 #[.slice a na ca, .slice b nb cb] w fun e w' => e = .returned (.bool (decide (za = zb))) ∧ ∃ m, w' = w.drewN m := by
  have hla := ha.2.1
  have hlb := hb.2.1
  by_cases hl : na = nb
  · subst hl
    have hl' : ((na : Int) != (na:Int)) = false := by simp
    go_enter Try.func223, Try.ntmps223
    go_wp2
    go_loopw [13] (fun i wr => ∃ k : Nat, k ≤ na ∧ i = .int .i64 k ∧ za.take k = zb.take k ∧ ∃ m, wr = w.drewN m) (fun i _ => na - (intOf i).toNat)
    case atStart => exact ⟨0, Nat.zero_le _, rfl, rfl, 0, rfl⟩
    case round =>
      obtain ⟨k, hk, rfl, hpre, m, rfl⟩ := hrel
      have HP := Lib.hid hpre
      clear hpre
      by_cases hlt : k < na
      · obtain ⟨ba, oa, rfl, hca⟩ := ha.at_ hlt
        obtain ⟨bb, ob, rfl, hcb⟩ := hb.at_ hlt
        have h1 := ha.1
        have h2 := hb.1
        have H1 := Lib.hid h1
        have H2 := Lib.hid h2
        clear h1 h2
        by_cases he : iget za k = iget zb k
        · have he' : (iget za k != iget zb k) = false := by simp [he]
          have HE := Lib.hid he
          clear he
          go_wp2_with fail
          go_quiet (fail)
          go_wp2
          go_roundw
          case rel => exact ⟨k + 1, by omega, by go_num, by rw [take_iget (by rw [H1.out]; omega), take_iget (by rw [H2.out]; omega), HP.out, HE.out], _, rfl⟩
          case measure => simp [intOf]; omega
        · have he' : (iget za k != iget zb k) = true := by simp [he]
          have HE := Lib.hid he
          clear he
          go_wp2_with fail
          go_quiet (fail)
          go_wp2
          go_ret
          exact ⟨ret_bool (by symm; rw [decide_eq_false_iff_not]; intro e; exact HE.out (by rw [e])), _, World.drewN_drewN _ _ _⟩
      · obtain rfl : k = na := by omega
        have h1 := ha.1
        have h2 := hb.1
        have hab : za = zb := by have := HP.out; rwa [List.take_of_length_le (by omega), List.take_of_length_le (by omega)] at this
        have HA := Lib.hid hab
        clear h1 h2 hab
        go_wp2
        go_ret
        exact ⟨ret_bool (by symm; simpa using HA.out), _, rfl⟩
  · have hl' : ((na : Int) != (nb:Int)) = true := by simp; omega
    go_enter Try.func223, Try.ntmps223
    go_wp2
    go_ret
    refine ⟨ret_bool ?_, 0, rfl⟩
    symm
    rw [decide_eq_false_iff_not]
    intro e
    exact hl (by rw [← ha.1, ← hb.1, e])


theorem us_two {us : List Value} {u0 u1 : Value} (hl : us.length = 2) (g0 : us[0]? = some u0) (g1 : us[1]? = some u1) : us = [u0, u1] := by
  match us, hl with
  | [p, q], _ => simp at g0 g1; rw [g0, g1]
theorem us_one {us : List Value} {u0 : Value} (hl : us.length = 1) (g0 : us[0]? = some u0) : us = [u0] := by
  match us, hl with
  | [p], _ => simp at g0; rw [g0]
theorem eqB (a b : List Int) : decide (a = b) = (a == b) := by
  by_cases h : a = b
  · subst h; simp
  · rw [decide_eq_false h]; symm; simpa using h
/-- slices.Equal of the labels of a component and of a list -/
theorem equalM_fc (cs : List Cel) (i m n E kk : Nat) (labs list : List Int) (hi : cs[i]? = some (.r 2 1 m (ivals labs))) (hm : labs.length = m) (hn : list.length = n) (hm4 : m ≤ 1000000) (hn4 : n ≤ 1000000) :
    FC Try.prog 223 [(1000, ⟨false, E, kk, .mix cs⟩), (1001, wRo list)] [o1 (.esl 1000 i 0 m), o1 (.sl 1001 0 n)] [] (vv (.bool (labs == list))) [] :=
  fc_of_calls fun w η ω us hme ⟨hl, ha⟩ => by
    subst hm hn
    obtain ⟨u0, g0, d0⟩ := ha 0 _ rfl
    obtain ⟨u1, g1, d1⟩ := ha 1 _ rfl
    obtain ⟨ao, c, rfl, h0⟩ := rdRowM (x := 1000) hme rfl hi d0 (by omega)
    obtain ⟨ao', c', rfl, h1⟩ := rdS (x := 1001) hme rfl d1 (by omega)
    rw [us_two hl g0 g1]
    refine (equal_any ao ao' _ _ c c' labs list w h0 h1).mono ?_
    rintro e w' ⟨rfl, hq⟩
    exact ⟨ret_bool (eqB _ _), below_of_quiet hq⟩
/-- l01Same of a row and of a list -/
theorem sameR_fc (zss : List (List Int)) (i n E : Nat) (list : List Int) (hi : i < zss.length) (hn : list.length = n) (hm4 : (lget zss i).length ≤ 1000000) (hn4 : n ≤ 1000000) :
    FC Try.prog 226 [(1000, rowsRo zss), (1001, wRo list)] [o1 (.esl 1000 i 0 (lget zss i).length), o1 (.sl 1001 0 n)] [] (vv (.bool (lget zss i == list))) [] :=
  fc_of_calls fun w η ω us hme ⟨hl, ha⟩ => by
    subst hn
    obtain ⟨u0, g0, d0⟩ := ha 0 _ rfl
    obtain ⟨u1, g1, d1⟩ := ha 1 _ rfl
    obtain ⟨ao, c, rfl, h0⟩ := rdRow (x := 1000) hme rfl hi d0 (by omega)
    obtain ⟨ao', c', rfl, h1⟩ := rdS (x := 1001) hme rfl d1 (by omega)
    rw [us_two hl g0 g1]
    refine (same_any ao ao' _ _ c c' _ list w h0 h1).mono ?_
    rintro e w' ⟨rfl, hq⟩
    exact ⟨ret_bool (eqB _ _), below_of_quiet hq⟩
theorem sameS_fc (zs list : List Int) (m n : Nat) (hm : zs.length = m) (hn : list.length = n) (hm4 : m ≤ 1000000) (hn4 : n ≤ 1000000) :
    FC Try.prog 226 [(1000, wRo zs), (1001, wRo list)] [o1 (.sl 1000 0 m), o1 (.sl 1001 0 n)] [] (vv (.bool (zs == list))) [] :=
  fc_of_calls fun w η ω us hme ⟨hl, ha⟩ => by
    subst hm hn
    obtain ⟨u0, g0, d0⟩ := ha 0 _ rfl
    obtain ⟨u1, g1, d1⟩ := ha 1 _ rfl
    obtain ⟨ao, c, rfl, h0⟩ := rdS (x := 1000) hme rfl d0 (by omega)
    obtain ⟨ao', c', rfl, h1⟩ := rdS (x := 1001) hme rfl d1 (by omega)
    rw [us_two hl g0 g1]
    refine (same_any ao ao' _ _ c c' _ list w h0 h1).mono ?_
    rintro e w' ⟨rfl, hq⟩
    exact ⟨ret_bool (eqB _ _), below_of_quiet hq⟩
/-- slices.Clone of a list -/
theorem cloneS_fc (x y n : Nat) (zs : List Int) (hn : zs.length = n) (hl : n ≤ 1000000) :
    FC Try.prog 168 [(x, wRo zs)] [o1 (.sl x 0 n)] [(y, leOw zs)] (o1 (.sl y 0 n)) [] := by
  subst hn
  exact fc_of_own fun w η ω us hm ⟨hl', ha⟩ => by
    obtain ⟨u0, g0, d0⟩ := ha 0 _ rfl
    obtain ⟨ao, c, rfl, hr⟩ := rdS (x := x) (own := false) (E := 2) hm (by simp [lk]) d0 (by omega)
    rw [us_one hl' g0]
    refine (clone_any ao _ c _ w hr (by omega)).mono ?_
    rintro e w' ⟨ao', c', rfl, ho, hb⟩
    exact ⟨ao', c', rfl, ho, hb⟩
/-- l12Turned of a row -/
theorem turnedR_fc (y : Nat) (zss : List (List Int)) (i : Nat) (hi : i < zss.length) (hl : (lget zss i).length ≤ 1000000) :
    FC Try.prog 210 [(1000, rowsRo zss)] [o1 (.esl 1000 i 0 (lget zss i).length)] [(y, leOw (lget zss i).reverse)] (o1 (.sl y 0 (lget zss i).length)) [] := by
  have h := fc_of_own (P := Try.prog) (f := 210) (ins := [(1000, rowsRo zss)]) (args := [o1 (.esl 1000 i 0 (lget zss i).length)]) (x := y) (E := 2) (zs := (lget zss i).reverse) fun w η ω us hm ⟨hl', ha⟩ => by
    obtain ⟨u0, g0, d0⟩ := ha 0 _ rfl
    obtain ⟨ao, c, rfl, hr⟩ := rdRow (x := 1000) hm rfl hi d0 (by omega)
    rw [us_one hl' g0]
    refine (spec12Turned_any ao _ c _ w hr (by omega)).mono ?_
    rintro e w' ⟨ao', c', rfl, ho, hb⟩
    rw [List.length_reverse]
    exact ⟨ao', c', rfl, ho, hb⟩
  rw [List.length_reverse] at h
  exact h

set_option maxRecDepth 100000 in
theorem maxA_fc (zs : List Int) (n : Nat) (hn : zs.length = n) (hpos : 0 < n) (hn4 : n ≤ 1000000) (ha : ∀ i, i + 1 < n → iget zs i ≤ iget zs (i + 1)) :
    FC Try.prog 206 [(1005, leRo zs)] [o1 (.sl 1005 0 n)] [] (vv (I6 (iget zs (n - 1)))) [] := by
  refine fc_enter (nt := 25) Try.func206 rfl rfl (by simp) fun w0 ω0 => ?_
  have hil : n ≤ (ivals zs).length := by rw [ivals_len, hn]; exact Nat.le_refl _
  (refine goes_seq ?_; refine goes_region ?_; apply run_step rfl; (exact stp_assign rfl rfl); refine run_nil ?_; refine fin_seq ?_; refine goes_seq ?_; refine goes_seq ?_; refine goes_region ?_; apply run_step rfl; (exact stp_move rfl rfl); apply run_step rfl; (exact stp_len rfl rfl rfl (by as_aux_lemma => kernel_rfl)); apply run_step rfl; (exact stp_bin rfl rfl rfl rfl); refine run_nil ?_; refine fin_seq ?_)
  refine goes_if rfl (fun h => absurd hpos (by omega)) (fun h => ?_)
  have hg0 : (ivals zs)[0]? = some (I6 (iget zs 0)) := ivals_get (by omega)
  (refine goes_skip ?_; refine fin_seq ?_; refine goes_seq ?_; refine goes_region ?_; apply run_step rfl; (exact stp_move rfl rfl); apply run_step rfl; (exact stp_ix (j := 0) rfl rfl rfl rfl rfl (by as_aux_lemma => kernel_rfl) rfl hpos hil); apply run_step rfl; (exact stp_loadV rfl (by as_aux_lemma => kernel_rfl) rfl rfl rfl (by first | assumption | exact ivals_get (by assumption) | exact irows_get (by assumption) | exact ivals_get (by omega) | exact irows_get (by omega) | rfl)); apply run_step rfl; (exact stp_assign rfl rfl); refine run_nil ?_; refine fin_seq ?_; refine goes_seq ?_; refine goes_seq ?_; refine goes_region ?_; apply run_step rfl; (exact stp_assign rfl rfl); refine run_nil ?_; refine fin_seq ?_; refine goes_block ?_)
  refine goes_loop (fun i : Nat => St.of [(0, o1 (.sl 1005 0 n)), (3, vv (I6 (iget zs (i - 1)))), (4, vv (I6 i))] [(1005, leRo zs)]) (fun i => 1 ≤ i ∧ i ≤ n) (fun i => n - i) 1 ⟨Nat.le_refl _, hpos⟩ (Wk.of ⟨rfl, rfl, rfl, trivial⟩ ⟨rfl, trivial⟩ trivial) ?_
  rintro i ⟨hi1, hi2⟩
  (refine goes_seq ?_; refine goes_seq ?_; refine goes_region ?_; apply run_step rfl; (exact stp_move rfl rfl); apply run_step rfl; (exact stp_move rfl rfl); apply run_step rfl; (exact stp_len rfl rfl rfl (by as_aux_lemma => kernel_rfl)); apply run_step rfl; (exact stp_bin rfl rfl rfl rfl); refine run_nil ?_; refine fin_seq ?_)
  refine goes_if rfl (fun hlt => ?_) (fun hlt => ?_)
  · have hlt' : i < n := by omega
    have hgi : (ivals zs)[i]? = some (I6 (iget zs i)) := ivals_get (by omega)
    have hle : iget zs (i - 1) ≤ iget zs i := by
      have := ha (i - 1) (by omega)
      rwa [show i - 1 + 1 = i by omega] at this
    have hmx : (if iget zs i > iget zs (i - 1) then iget zs i else iget zs (i - 1)) = iget zs (i + 1 - 1) := by
      rw [Nat.add_sub_cancel]; split
      · rfl
      · omega
    (refine goes_skip ?_; refine fin_seq ?_; refine goes_seq ?_; refine goes_block ?_; refine goes_region ?_; apply run_step rfl; (exact stp_move rfl rfl); apply run_step rfl; (exact stp_move rfl rfl); apply run_step rfl; (exact stp_move rfl rfl); apply run_step rfl; (exact stp_ix (j := i) rfl rfl rfl rfl rfl (by as_aux_lemma => kernel_rfl) rfl hlt' hil); apply run_step rfl; (exact stp_loadV rfl (by as_aux_lemma => kernel_rfl) rfl rfl rfl (by first | assumption | exact ivals_get (by assumption) | exact irows_get (by assumption) | exact ivals_get (by omega) | exact irows_get (by omega) | rfl)); apply run_step rfl; (exact stp_max rfl rfl rfl); apply run_step rfl; (exact stp_assign rfl rfl); refine run_nil ?_; refine fin_block ?_; refine fin_seq ?_; refine goes_region ?_; apply run_step rfl; (exact stp_move rfl rfl); apply run_step rfl; (exact stp_add rfl rfl rfl (by first | exact IntWalk.i64_in _ (by omega) | rfl)); apply run_step rfl; (exact stp_assign rfl rfl); refine run_nil ?_)
    exact fin_round (i + 1) ⟨by omega, by omega⟩ (by omega) (Wk.of ⟨rfl, congrArg (fun z => some (vv (I6 z))) hmx, rfl, trivial⟩ ⟨rfl, trivial⟩ trivial)
  · obtain rfl : i = n := by omega
    (refine goes_exit ?_; refine fin_exit_then ?_; refine fin_exit_then ?_; refine fin_exit_eq ?_; refine fin_seq ?_; refine goes_seq ?_; refine goes_region ?_; apply run_step rfl; (exact stp_move rfl rfl); apply run_step rfl; (exact stp_assign rfl rfl); refine run_nil ?_; refine fin_seq ?_; refine goes_ret ?_)
    exact fin_ret1 (.inl rfl) rfl (.tmp rfl) trivial trivial

set_option maxRecDepth 100000 in
theorem gcd_fc (a b : Nat) (ha : a < 1000000000000) (hb : b < 1000000000000) : FC Try.prog 207 [] [vv (I6 a), vv (I6 b)] [] (vv (I6 (Nat.gcd a b))) [] := by
  refine fc_enter (nt := 12) Try.func207 rfl rfl (by simp) fun w0 ω0 => ?_
  (refine goes_seq ?_; refine goes_region ?_; apply run_step rfl; (exact stp_assign rfl rfl); refine run_nil ?_; refine fin_seq ?_; refine goes_seq ?_; refine goes_block ?_)
  refine goes_loop (fun q : Nat × Nat => St.of [(0, vv (I6 q.1)), (1, vv (I6 q.2))] []) (fun q => Nat.gcd q.1 q.2 = Nat.gcd a b ∧ q.1 < 1000000000000 ∧ q.2 < 1000000000000) (fun q => q.2) (a, b) ⟨rfl, ha, hb⟩ (Wk.of ⟨rfl, rfl, trivial⟩ trivial trivial) ?_
  rintro ⟨c, d⟩ ⟨hg, hc, hd⟩
  dsimp only at hg hc hd ⊢
  (refine goes_seq ?_; refine goes_seq ?_; refine goes_region ?_; apply run_step rfl; (exact stp_move rfl rfl); apply run_step rfl; (exact stp_bin rfl rfl rfl rfl); refine run_nil ?_; refine fin_seq ?_)
  refine goes_cond rfl (fun h => ?_) (fun h => ?_)
  · have hd0 : 0 < d := by
      have : (d : Int) ≠ 0 := by simpa using h
      omega
    have hlt := Nat.mod_lt c hd0
    have hg' : Nat.gcd d (c % d) = Nat.gcd a b := by rw [← hg, Nat.gcd_comm c d, Nat.gcd_rec d c, Nat.gcd_comm]
    (refine goes_skip ?_; refine fin_seq ?_; refine goes_block ?_)
    apply goes_drawL 4 [] [2, 3] [[], [], [], [1, 2], [0, 1], [0, 1, 2, 3, 4]] [7, 8, 9, 10] [] (by kernel_rfl) (by kernel_rfl) (by kernel_rfl)
    · (apply draw_put rfl; (intro S1 hS; exact stp_move rfl (hS.op rfl)); apply draw_put rfl; (intro S1 hS; exact stp_move rfl (hS.op rfl)); apply draw_put rfl; (intro S1 hS; exact stp_move rfl (hS.op rfl)); (apply draw_put rfl; (focus (intro S1 hS; exact stp_remN rfl (hS.op rfl) (hS.op rfl) hd0 hc))); exact Draw.nil)
    · rfl
    refine ⟨⟨?_, ?_⟩, ?_, ?_⟩
    · refine rest_join (St.of [(0, vv (I6 d)), (1, vv (I6 (c % d : Nat)))] []) ?_ ?_
      · ((apply rest_one 4 rfl (by as_aux_lemma => kernel_rfl) rfl rfl; (exact stp_assign rfl rfl)); (apply rest_one 5 rfl (by as_aux_lemma => kernel_rfl) rfl rfl; (exact stp_assign rfl rfl)); (refine rest_done (by as_aux_lemma => kernel_rfl) ?_; exact fin_join (Wk.of ⟨rfl, rfl, trivial⟩ trivial trivial)))
      · (refine fin_block ?_)
        exact fin_round (d, c % d) ⟨hg', hd, by dsimp only; omega⟩ hlt (Wk.of ⟨rfl, rfl, trivial⟩ trivial trivial)
    · refine rest_join (St.of [(0, vv (I6 d)), (1, vv (I6 (c % d : Nat)))] []) ?_ ?_
      · ((apply rest_two 3 4 rfl (by as_aux_lemma => kernel_rfl) rfl rfl rfl rfl; (exact stp_remN rfl rfl rfl hd0 hc); (exact stp_assign rfl rfl); (focus ((apply rest_one 4 rfl (by as_aux_lemma => kernel_rfl) rfl rfl; (exact stp_assign rfl rfl)); (apply rest_one 5 rfl (by as_aux_lemma => kernel_rfl) rfl rfl; (exact stp_assign rfl rfl)); (refine rest_done (by as_aux_lemma => kernel_rfl) ?_; exact fin_join (Wk.of ⟨rfl, rfl, trivial⟩ trivial trivial)))); (focus ((apply rest_one 3 rfl (by as_aux_lemma => kernel_rfl) rfl rfl; (exact stp_remN rfl rfl rfl hd0 hc)); (apply rest_one 5 rfl (by as_aux_lemma => kernel_rfl) rfl rfl; (exact stp_assign rfl rfl)); (refine rest_done (by as_aux_lemma => kernel_rfl) ?_; exact fin_join (Wk.of ⟨rfl, rfl, trivial⟩ trivial trivial))))))
      · (refine fin_block ?_)
        exact fin_round (d, c % d) ⟨hg', hd, by dsimp only; omega⟩ hlt (Wk.of ⟨rfl, rfl, trivial⟩ trivial trivial)
    · refine rest_join (St.of [(0, vv (I6 d)), (1, vv (I6 (c % d : Nat)))] []) ?_ ?_
      · ((apply rest_two 2 4 rfl (by as_aux_lemma => kernel_rfl) rfl rfl rfl rfl; (exact stp_move rfl rfl); (exact stp_assign rfl rfl); (focus ((apply rest_one 4 rfl (by as_aux_lemma => kernel_rfl) rfl rfl; (exact stp_assign rfl rfl)); (apply rest_one 5 rfl (by as_aux_lemma => kernel_rfl) rfl rfl; (exact stp_assign rfl rfl)); (refine rest_done (by as_aux_lemma => kernel_rfl) ?_; exact fin_join (Wk.of ⟨rfl, rfl, trivial⟩ trivial trivial)))); (focus ((apply rest_one 2 rfl (by as_aux_lemma => kernel_rfl) rfl rfl; (exact stp_move rfl rfl)); (apply rest_one 5 rfl (by as_aux_lemma => kernel_rfl) rfl rfl; (exact stp_assign rfl rfl)); (refine rest_done (by as_aux_lemma => kernel_rfl) ?_; exact fin_join (Wk.of ⟨rfl, rfl, trivial⟩ trivial trivial))))))
      · (refine fin_block ?_)
        exact fin_round (d, c % d) ⟨hg', hd, by dsimp only; omega⟩ hlt (Wk.of ⟨rfl, rfl, trivial⟩ trivial trivial)
    · refine rest_join (St.of [(0, vv (I6 d)), (1, vv (I6 (c % d : Nat)))] []) ?_ ?_
      · ((apply rest_two 2 4 rfl (by as_aux_lemma => kernel_rfl) rfl rfl rfl rfl; (exact stp_move rfl rfl); (exact stp_assign rfl rfl); (focus ((apply rest_two 3 4 rfl (by as_aux_lemma => kernel_rfl) rfl rfl rfl rfl; (exact stp_remN rfl rfl rfl hd0 hc); (exact stp_assign rfl rfl); (focus ((apply rest_one 4 rfl (by as_aux_lemma => kernel_rfl) rfl rfl; (exact stp_assign rfl rfl)); (apply rest_one 5 rfl (by as_aux_lemma => kernel_rfl) rfl rfl; (exact stp_assign rfl rfl)); (refine rest_done (by as_aux_lemma => kernel_rfl) ?_; exact fin_join (Wk.of ⟨rfl, rfl, trivial⟩ trivial trivial)))); (focus ((apply rest_one 3 rfl (by as_aux_lemma => kernel_rfl) rfl rfl; (exact stp_remN rfl rfl rfl hd0 hc)); (apply rest_one 5 rfl (by as_aux_lemma => kernel_rfl) rfl rfl; (exact stp_assign rfl rfl)); (refine rest_done (by as_aux_lemma => kernel_rfl) ?_; exact fin_join (Wk.of ⟨rfl, rfl, trivial⟩ trivial trivial))))))); (focus ((apply rest_one 2 rfl (by as_aux_lemma => kernel_rfl) rfl rfl; (exact stp_move rfl rfl)); (apply rest_one 3 rfl (by as_aux_lemma => kernel_rfl) rfl rfl; (exact stp_remN rfl rfl rfl hd0 hc)); (apply rest_one 5 rfl (by as_aux_lemma => kernel_rfl) rfl rfl; (exact stp_assign rfl rfl)); (refine rest_done (by as_aux_lemma => kernel_rfl) ?_; exact fin_join (Wk.of ⟨rfl, rfl, trivial⟩ trivial trivial))))))
      · (refine fin_block ?_)
        exact fin_round (d, c % d) ⟨hg', hd, by dsimp only; omega⟩ hlt (Wk.of ⟨rfl, rfl, trivial⟩ trivial trivial)
  · have hd0 : d = 0 := by
      have : (d : Int) = 0 := by simpa using h
      omega
    subst hd0
    rw [← hg, Nat.gcd_zero_right]
    (refine goes_exit ?_; refine fin_exit_then ?_; refine fin_exit_then ?_; refine fin_exit_eq ?_; refine fin_seq ?_; refine goes_seq ?_; refine goes_region ?_; apply run_step rfl; (exact stp_move rfl rfl); apply run_step rfl; (exact stp_assign rfl rfl); refine run_nil ?_; refine fin_seq ?_; refine goes_ret ?_)
    exact fin_ret1 (.inl rfl) rfl (.tmp rfl) trivial trivial
end Go.Proofs.Ytnfkhgamnapgmaa

/- The kind of a diagram, on lists; isDiagram, allNodes and their like in names. -/
namespace Go.Proofs.Ytnfkhgamnapgmaa
open Go.RowKit

def kStep (k : Nat) (labs : List Int) : Nat := if (degs labs).length = 0 then (if affB labs = true ∧ k ≠ 2 then 1 else 2) else k
def kindN (ps : Cmps) (j : Nat) : Nat := (ps.take j).foldl (fun k p => kStep k p.2) 0
theorem kindN_succ {ps : Cmps} {j : Nat} (h : j < ps.length) : kindN ps (j + 1) = kStep (kindN ps j) (cget ps j).2 := by
  unfold kindN
  rw [List.take_add_one, List.getElem?_eq_getElem h, List.foldl_append, cget_lt h]
  rfl
theorem kindN_le (ps : Cmps) : ∀ j, kindN ps j ≤ 2 := by
  intro j
  induction j with
  | zero => exact Nat.zero_le _
  | succ j ih =>
    by_cases h : j < ps.length
    · rw [kindN_succ h]; unfold kStep; split
      · split
        · decide
        · exact Nat.le_refl _
      · exact ih
    · have : kindN ps (j + 1) = kindN ps j := by unfold kindN; rw [List.take_of_length_le (by omega), List.take_of_length_le (by omega)]
      rw [this]; exact ih
/-- the mask of all nodes -/
def allN (zs : List Int) : Nat := 2 ^ (zs.length + 1) - 1
theorem allN_lt {zs : List Int} (h : zs.length ≤ 4) : allN zs < 1000 := by
  have : 2 ^ (zs.length + 1) ≤ 2 ^ 5 := Nat.pow_le_pow_right (by decide) (by omega)
  unfold allN; omega
theorem isDiag_len {zs : List Int} (h : isDiag zs = true) : zs.length ≤ 4 := by unfold isDiag at h; simp at h; omega
theorem isDiag_mem {zs : List Int} (h : isDiag zs = true) : ∀ z ∈ zs, z = 0 ∨ (2 ≤ z ∧ z ≤ 32) := by
  intro z hz
  unfold isDiag at h
  simp at h
  have := h.1 z hz
  unfold isLabel inB at this
  simp at this
  omega
theorem labs_of {zs : List Int} {mask : Nat} (h : isDiag zs = true) {k : Nat} (hk : k < (comps zs mask).length) : Labs (cget (comps zs mask) k).2 := by
  have hl := isDiag_len h
  have hp := comps_ok zs mask
  have hm := cget_mem hk
  refine ⟨?_, fun z hz => ?_⟩
  · have h1 := csum_le hm
    have h2 := hp.sum
    omega
  · have h1 := hp.lab _ hm z hz
    have h2 := isDiag_mem h z h1.1
    have h3 := h1.2
    omega
theorem diagI_fc (zs : List Int) (L : Nat) (hL : zs.length = L) (hn : L ≤ 4398046511104) : FC Try.prog 82 [(1003, wRo zs)] [o1 (.sl 1003 0 L)] [] (vv (.bool (isDiag zs))) [] :=
  fc_of_calls fun w η ω us hm ⟨hl, ha⟩ => by
    subst hL
    obtain ⟨u0, g0, d0⟩ := ha 0 _ rfl
    obtain ⟨ao, c, rfl, hI⟩ := rdS (x := 1003) hm rfl d0 (by omega)
    rw [us_one hl g0]
    exact isDiagramImpl_any ao _ c _ w hI
theorem diagS_fc (zs : List Int) (L : Nat) (hL : zs.length = L) (hn : L ≤ 4398046511104) : FC Try.prog 75 [(1003, wRo zs)] [o1 (.sl 1003 0 L)] [] (vv (.bool (isDiag zs))) [] :=
  fc_of_calls fun w η ω us hm ⟨hl, ha⟩ => by
    subst hL
    obtain ⟨u0, g0, d0⟩ := ha 0 _ rfl
    obtain ⟨ao, c, rfl, hI⟩ := rdS (x := 1003) hm rfl d0 (by omega)
    rw [us_one hl g0]
    refine (spec12Is_any ao _ c _ w hI).mono ?_
    rintro e w' ⟨rfl, rfl⟩
    exact ⟨rfl, Below.refl _ _⟩
theorem allN_pos (L : Nat) : 1 ≤ 2 ^ L := Nat.one_le_two_pow
theorem allI_fc (zs : List Int) (L : Nat) (hL : zs.length = L) (h4 : L ≤ 4) : FC Try.prog 133 [(1003, wRo zs)] [o1 (.sl 1003 0 L)] [] (vv (I6 (allN zs))) [] := by
  have h5 : L ≤ 5 := by omega
  have hp : 2 ^ (L + 1) ≤ 2 ^ 5 := Nat.pow_le_pow_right (by decide) (by omega)
  have h1 := allN_pos (L + 1)
  have hw : IntKind.i64.wrap (((2 ^ (L + 1) : Nat) : Int) - 1) = ((allN zs : Nat) : Int) := by
    rw [IntWalk.i64_in _ (by omega)]
    unfold allN; rw [hL]; omega
  refine fc_enter (nt := 7) Try.func133 rfl rfl (by simp) fun w0 ω0 => ?_
  (refine goes_seq ?_; refine goes_region ?_; apply run_step rfl; (exact stp_assign rfl rfl); refine run_nil ?_; refine fin_seq ?_; refine goes_seq ?_; refine goes_region ?_; apply run_step rfl; (exact stp_move rfl rfl); apply run_step rfl; (exact stp_len rfl rfl rfl (by as_aux_lemma => kernel_rfl)); apply run_step rfl; (first | exact stp_shl2 (g := L) rfl rfl rfl h5 | exact stp_sub rfl rfl rfl hw); apply run_step rfl; (first | exact stp_shl2 (g := L) rfl rfl rfl h5 | exact stp_sub rfl rfl rfl hw); apply run_step rfl; (exact stp_assign rfl rfl); refine run_nil ?_; refine fin_seq ?_; refine goes_ret ?_)
  exact fin_ret1 (.inl rfl) rfl (.tmp rfl) trivial trivial
end Go.Proofs.Ytnfkhgamnapgmaa

/- All degrees of a finite diagram, on lists. No program in sight. -/
namespace Go.Proofs.Ytnfkhgamnapgmaa

theorem fin_step {k : Nat} {labs : List Int} : kStep k labs = 0 ↔ k = 0 ∧ (degs labs).length ≠ 0 := by
  unfold kStep
  by_cases h : (degs labs).length = 0
  · rw [if_pos h]
    constructor
    · intro h2; split at h2 <;> omega
    · intro h2; exact absurd h h2.2
  · rw [if_neg h]; exact ⟨fun h2 => ⟨h2, h⟩, fun h2 => h2.1⟩
theorem fin_all {ps : Cmps} : ∀ j, j ≤ ps.length → (kindN ps j = 0 ↔ ∀ k, k < j → (degs (cget ps k).2).length ≠ 0)
  | 0, _ => ⟨fun _ k hk => absurd hk (by omega), fun _ => rfl⟩
  | j + 1, h => by
    rw [kindN_succ (by omega), fin_step, fin_all j (by omega)]
    constructor
    · intro ⟨h1, h2⟩ k hk
      by_cases e : k = j
      · rw [e]; exact h2
      · exact h1 k (by omega)
    · intro h1; exact ⟨fun k hk => h1 k (by omega), h1 j (by omega)⟩
def catD (ps : Cmps) (j : Nat) : List Int := ((ps.take j).map fun p => degs p.2).flatten
theorem catD_succ {ps : Cmps} {j : Nat} (h : j < ps.length) : catD ps (j + 1) = catD ps j ++ degs (cget ps j).2 := by
  unfold catD
  rw [List.take_add_one, List.getElem?_eq_getElem h, cget_lt h, List.map_append, List.flatten_append]
  simp only [Option.toList_some, List.map_cons, List.map_nil, List.flatten_cons, List.flatten_nil, List.append_nil]
/-- the greatest degree of a component -/
def topD (labs : List Int) : Nat := (iget (degs labs) ((degs labs).length - 1)).toNat
def mulD (ps : Cmps) (j : Nat) : Nat := (ps.take j).foldl (fun m p => Nat.lcm m (topD p.2)) 1
theorem mulD_succ {ps : Cmps} {j : Nat} (h : j < ps.length) : mulD ps (j + 1) = Nat.lcm (mulD ps j) (topD (cget ps j).2) := by
  unfold mulD
  rw [List.take_add_one, List.getElem?_eq_getElem h, List.foldl_append, cget_lt h]
  rfl
theorem topD_le {labs : List Int} (h : Labs labs) : topD labs ≤ 32 := by
  unfold topD
  by_cases hl : (degs labs).length = 0
  · rw [List.length_eq_zero_iff.1 hl]; simp [iget]
  · have := degs_in h _ (iget_mem (zs := degs labs) (k := (degs labs).length - 1) (by omega))
    omega
theorem topD_pos {labs : List Int} (h : Labs labs) (hl : (degs labs).length ≠ 0) : 0 < topD labs := by
  unfold topD
  have := degs_in h _ (iget_mem (zs := degs labs) (k := (degs labs).length - 1) (by omega))
  omega
theorem topD_int {labs : List Int} (h : Labs labs) (hl : (degs labs).length ≠ 0) : iget (degs labs) ((degs labs).length - 1) = (topD labs : Int) := by
  have := degs_in h _ (iget_mem (zs := degs labs) (k := (degs labs).length - 1) (by omega))
  unfold topD
  omega
theorem lcm_le' (m h : Nat) : Nat.lcm m h ≤ m * h := by unfold Nat.lcm; exact Nat.div_le_self _ _
theorem mulD_le {ps : Cmps} (hL : ∀ k, k < ps.length → Labs (cget ps k).2) : ∀ j, j ≤ ps.length → mulD ps j ≤ 32 ^ j
  | 0, _ => by simp [mulD]
  | j + 1, h => by
    rw [mulD_succ (by omega), Nat.pow_succ]
    exact Nat.le_trans (lcm_le' _ _) (Nat.mul_le_mul (mulD_le hL j (by omega)) (topD_le (hL j (by omega))))
theorem mulD_lt {ps : Cmps} (hL : ∀ k, k < ps.length → Labs (cget ps k).2) {j : Nat} (h : j ≤ ps.length) (h5 : j ≤ 5) : mulD ps j ≤ 33554432 :=
  Nat.le_trans (mulD_le hL j h) (Nat.le_trans (Nat.pow_le_pow_right (by decide) h5) (by decide))
theorem lcm_quo (m h : Nat) : m * (h / Nat.gcd m h) = Nat.lcm m h := by unfold Nat.lcm; rw [Nat.mul_div_assoc _ (Nat.gcd_dvd_right m h)]
theorem gcd_pos' {m h : Nat} (hh : 0 < h) : 0 < Nat.gcd m h := Nat.gcd_pos_of_pos_right m hh
theorem ramp_get {n : Nat} {step : Int} {i : Nat} (h : i < n) : iget (ramp n step) i = 2 + step * i := by
  rw [iget_lt (by rw [ramp_len]; exact h)]; simp [ramp]
theorem degs_asc {labs : List Int} (hL : Labs labs) : ∀ i, i + 1 < (degs labs).length → iget (degs labs) i ≤ iget (degs labs) (i + 1) := by
  have hr : ∀ step : Int, 0 ≤ step → ∀ i, i + 1 < (ramp (labs.length + 1) step).length → iget (ramp (labs.length + 1) step) i ≤ iget (ramp (labs.length + 1) step) (i + 1) := fun step hs i hi => by
    rw [ramp_len] at hi
    rw [ramp_get (by omega), ramp_get hi]
    have : step * (i : Int) ≤ step * ((i + 1 : Nat) : Int) := Int.mul_le_mul_of_nonneg_left (by omega) hs
    omega
  have h0 : ∀ l : List Int, l.length ≤ 4 → (∀ i, i < 3 → i + 1 < l.length → iget l i ≤ iget l (i + 1)) → ∀ i, i + 1 < l.length → iget l i ≤ iget l (i + 1) := fun l h1 h2 i hi => h2 i (by omega) hi
  unfold degs
  split
  · intro i hi; simp at hi
  split
  · rename_i h1 h2
    have h3 := hL.2 _ (iget_mem (zs := labs) (k := 0) (by omega))
    intro i hi
    obtain rfl : i = 0 := by simp at hi; omega
    show (2 : Int) ≤ iget labs 0
    omega
  split
  · intro i hi; simp at hi
    rcases (by omega : i = 0 ∨ i = 1) with rfl | rfl <;> decide
  split
  · intro i hi; simp at hi
    rcases (by omega : i = 0 ∨ i = 1 ∨ i = 2) with rfl | rfl | rfl <;> decide
  split
  · intro i hi; simp at hi
    rcases (by omega : i = 0 ∨ i = 1 ∨ i = 2) with rfl | rfl | rfl <;> decide
  split
  · exact hr 1 (by decide)
  split
  · exact hr 2 (by decide)
  · intro i hi; simp at hi
/-- whether a set of nodes is finite -/
def finB (zs : List Int) (mask : Nat) : Bool := decide (kindN (comps zs mask) (comps zs mask).length = 0)
def allD (zs : List Int) (mask : Nat) : List Int := sortL (catD (comps zs mask) (comps zs mask).length)
def mulA (zs : List Int) (mask : Nat) : Nat := mulD (comps zs mask) (comps zs mask).length
theorem catD_len {ps : Cmps} (hL : ∀ k, k < ps.length → Labs (cget ps k).2) : ∀ j, j ≤ ps.length → (catD ps j).length ≤ csum (ps.take j)
  | 0, _ => by simp [catD]
  | j + 1, h => by
    rw [catD_succ (by omega), List.take_add_one, List.getElem?_eq_getElem (by omega), csum_app, List.length_append]
    have h1 := catD_len hL j (by omega)
    have h2 := degs_len (cget ps j).2 (hL j (by omega)).1
    rw [cget_lt (by omega)] at h2 ⊢
    simp [csum] at h1 ⊢
    omega
theorem csum_take (ps : Cmps) (j : Nat) : csum (ps.take j) ≤ csum ps := by
  have : csum ps = csum (ps.take j) + csum (ps.drop j) := by rw [← csum_app, List.take_append_drop]
  omega
end Go.Proofs.Ytnfkhgamnapgmaa

/- slices.Repeat at []int64. -/
namespace Go.Proofs.Ytnfkhgamnapgmaa
open Go.RowKit

theorem ofInt_u64 (a : Nat) (ha : a < 18446744073709551616) : (BitVec.ofInt 64 (a : Int)).toNat = a := by
  rw [BitVec.ofInt_natCast, BitVec.toNat_ofNat]; exact Nat.mod_eq_of_lt (by omega)
theorem and_low (a : Nat) (ha : a ≤ 1048576) : bits .and .u64 (a : Int) 4294967295 = (a : Int) := by
  show IntKind.u64.wrap ((BitVec.ofInt 64 (a : Int) &&& BitVec.ofInt 64 ((4294967295 : Nat) : Int)).toNat : Int) = _
  rw [BitVec.toNat_and, ofInt_u64 a (by omega), ofInt_u64 4294967295 (by omega), show (4294967295 : Nat) = 2 ^ 32 - 1 from rfl, Nat.and_two_pow_sub_one_eq_mod, Nat.mod_eq_of_lt (by omega)]
  simp [IntKind.wrap, IntKind.signed, IntKind.bits]; omega

theorem wrap_u64_nat (a : Nat) (ha : a ≤ 4294967295) : IntKind.u64.wrap ((a : Nat) : Int) = (a : Int) := by
  simp [IntKind.wrap, IntKind.signed, IntKind.bits]; omega

set_option maxHeartbeats 400000 in
theorem bitsMul_any (a b : Nat) (w : World) (ha : a ≤ 1048576) (hb : b ≤ 1048576) (hab : a * b ≤ 4294967295) :
    Calls Try.prog 193 #[.int .u64 a, .int .u64 b] w fun e w' => e = .returned (.tuple #[.int .u64 0, .int .u64 ((a * b : Nat) : Int)]) ∧ w = w' := by
  have e1 : (a : Int) / 4294967296 = 0 := by omega
  have e2 : (b : Int) / 4294967296 = 0 := by omega
  have e3 : bits .and .u64 (a : Int) 4294967295 = (a : Int) := and_low a ha
  have e4 : bits .and .u64 (b : Int) 4294967295 = (b : Int) := and_low b hb
  have e5 : (a : Int) * (b : Int) = ((a * b : Nat) : Int) := by rw [Int.natCast_mul]
  have e6 : IntKind.u64.wrap ((a : Int) * (b : Int)) = ((a * b : Nat) : Int) := by rw [e5]; exact wrap_u64_nat _ hab
  have e7 : ((a : Int) * (b : Int)) / 4294967296 = 0 := by rw [e5]; omega
  have e8 : bits .and .u64 0 4294967295 = 0 := by decide +kernel
  have e9 : IntKind.u64.wrap 0 = 0 := by decide +kernel
  have H6 := Lib.hid e6
  have H5 := Lib.hid e5
  clear e5 e6
  have e10 : IntKind.u64.wrap ((a : Int) * (b : Int)) = (a : Int) * (b : Int) := by rw [H6.out, H5.out]
  go_enter Try.func193, Try.ntmps193
  go_wp2
  go_ret2
  exact ⟨by simp, rfl⟩

/-- a list again and again -/
def repL {α : Type} (zs : List α) (count : Nat) : List α := (List.replicate count zs).flatten
theorem length_repL {α : Type} (zs : List α) (count : Nat) : (repL zs count).length = zs.length * count := by
  unfold repL; rw [List.length_flatten]; simp; exact Nat.mul_comm _ _
theorem repL_add {α : Type} (zs : List α) (a b : Nat) : repL zs (a + b) = repL zs a ++ repL zs b := by
  unfold repL; rw [← List.replicate_append_replicate, List.flatten_append]
theorem repL_one {α : Type} (zs : List α) : repL zs 1 = zs := by simp [repL]
/-- what is copied from the front to behind place k, k a multiple of the period -/
theorem repL_double {α : Type} {zs : List α} {count j c : Nat} (hj : j ≤ count) (hc : c ≤ zs.length * (count - j)) : (repL zs count).take (zs.length * j + c) = (repL zs count).take (zs.length * j) ++ (repL zs count).take c := by
  have h1 : repL zs count = repL zs j ++ repL zs (count - j) := by rw [← repL_add]; congr 1; omega
  have h2 : repL zs count = repL zs (count - j) ++ repL zs j := by rw [← repL_add]; congr 1; omega
  have l1 := length_repL zs j
  have l2 := length_repL zs (count - j)
  have e3 : (repL zs count).take c = (repL zs (count - j)).take c := by rw [h2, List.take_append_of_le_length (by omega)]
  have e4 : (repL zs count).take (zs.length * j) = repL zs j := by rw [h1, ← l1, List.take_left']; rfl
  rw [e3, e4, h1, List.take_append, List.take_of_length_le (by omega)]
  congr 2; omega

theorem splice_pad {α : Type} {R : List α} {z : α} {k c T : Nat} (hR : R.length = T) (hk : k + c ≤ T) (h : R.take (k + c) = R.take k ++ R.take c) : splice (R.take k ++ List.replicate (T - k) z) k (R.take c) = R.take (k + c) ++ List.replicate (T - (k + c)) z := by
  unfold splice
  have l1 : (R.take k).length = k := by simp; omega
  have l2 : (R.take c).length = c := by simp; omega
  rw [List.take_append_of_le_length (by omega), List.take_of_length_le (by omega), l2, List.drop_append, List.drop_of_length_le (by omega), l1, h]
  simp
  omega

theorem splice_map {α β : Type} (f : α → β) (xs : List α) (k : Nat) (ys : List α) : (splice xs k ys).map f = splice (xs.map f) k (ys.map f) := by
  unfold splice; simp

/-- a whole row of the call's own, cell by cell -/
theorem Own.heap_ {w : World} {base E g T : Nat} {xs : List Value} (h : Own w base E (some ⟨g, 0, none⟩) T T xs) : w.heap[g]? = some (.cells xs.toArray E (0, 0)) := by
  rcases h.1.2 with ⟨h2, _⟩ | ⟨g', cap, cur, hv, _, hh, _, _, hs, ht⟩
  · cases h2
  · injection hv with h1 h2 h3
    injection h1 with h1; injection h1 with h1
    subst h1 h3
    have : cur.toList = xs := by rw [← ht, List.take_of_length_le]; rw [Array.length_toList, hs]; exact Nat.le_refl _
    rw [hh, ← this, Array.toArray_toList]
theorem Own.of_heap {w w' : World} {base E g T : Nat} {xs ys : List Value} (h : Own w base E (some ⟨g, 0, none⟩) T T xs) (hh : w'.heap[g]? = some (.cells ys.toArray E (0, 0))) (hl : ys.length = T) : Own w' base E (some ⟨g, 0, none⟩) T T ys := by
  refine ⟨⟨by rw [hl, Nat.mul_one], .inr ⟨g, T, ys.toArray, rfl, (h.lt g rfl).1, hh, Nat.le_refl _, by have := h.2; simp [maxLen]; omega, by simp [hl], ?_⟩⟩, h.2⟩
  simp [← hl]
section
variable {P : Program} {ops : Array Oper} {rest : List Oper} {o : Oper} {a : Act} {Q : Exit → Act → World → Prop}
/-- copy into a row of the call's own -/
theorem wpList_cp {S E : TypeId} {z : Value} {bytes : Nat} (et : ET P S E z bytes) (w : World) (hg : o.guard = none) (d s : Operand) (ho : o.op = .call { callee := .builtin .copy, args := #[d, s], argTypes := #[S, S] })
    (base g T off : Nat) (xs cs : List Value) (hown : Own w base E (some ⟨g, 0, none⟩) T T xs) (dp : Option Addr) (dLen dCap : Nat) (hd : a.eval d = .slice dp dLen dCap) (sp : Option Addr) (sLen sCap : Nat) (hs : a.eval s = .slice sp sLen sCap)
    (hn : cs.length = Nat.min sLen dLen) (hpos : 0 < cs.length → dp = some ⟨g, off, none⟩ ∧ ∃ ad, sp = some ad ∧ ∀ j v, cs[j]? = some v → w.cell? (ad.add j) = some v) (hfit : off + cs.length ≤ T) (h1 : ∀ v ∈ cs, v.oneCell' = true)
    (h : ∀ w', Own w' base E (some ⟨g, 0, none⟩) T T (splice xs off cs) → Below g w w' → wpList P ops Q rest (a.put o.dst (goInt cs.length)) w') : wpList P ops Q (o :: rest) a w := by
  obtain ⟨i, hi, hz, hsz, hby⟩ := info_parts et.info
  refine wpList_copy_splice hg d s S S ho E et.und (by rw [hi]; simp [hsz]) dp sp dLen dCap sLen sCap hd hs g off xs E hown.heap_ cs hn hpos (by rw [hown.len]; exact hfit) h1 g w (Below.refl _ _) (Nat.le_refl _) ?_
  intro w' hh hb
  exact h w' (hown.of_heap hh.out (by rw [length_splice _ _ _ (by rw [hown.len]; exact hfit), hown.len])) hb
theorem step_cp {S E : TypeId} {z : Value} {bytes : Nat} (et : ET P S E z bytes) {w : World} {K : Act → World → Prop} {X : Prop} (hg : o.guard = none) (d s : Operand) (ho : o.op = .call { callee := .builtin .copy, args := #[d, s], argTypes := #[S, S] })
    (base g T off : Nat) (xs cs : List Value) (hown : Own w base E (some ⟨g, 0, none⟩) T T xs) (dp : Option Addr) (dLen dCap : Nat) (hd : a.eval d = .slice dp dLen dCap) (sp : Option Addr) (sLen sCap : Nat) (hs : a.eval s = .slice sp sLen sCap)
    (hn : cs.length = Nat.min sLen dLen) (hpos : 0 < cs.length → dp = some ⟨g, off, none⟩ ∧ ∃ ad, sp = some ad ∧ ∀ j v, cs[j]? = some v → w.cell? (ad.add j) = some v) (hfit : off + cs.length ≤ T) (h1 : ∀ v ∈ cs, v.oneCell' = true)
    (h : ∀ w', Own w' base E (some ⟨g, 0, none⟩) T T (splice xs off cs) → Below g w w' → K (a.put o.dst (goInt cs.length)) w') : if Region.wanted o (yielded ops a.tmps) = true then Oper.wp P o a w K Q else X := by
  obtain ⟨i, hi, hz, hsz, hby⟩ := info_parts et.info
  refine step_copy_splice hg d s S S ho E et.und (by rw [hi]; simp [hsz]) dp sp dLen dCap sLen sCap hd hs g off xs E hown.heap_ cs hn hpos (by rw [hown.len]; exact hfit) h1 g w (Below.refl _ _) (Nat.le_refl _) ?_
  intro w' hh hb
  exact h w' (hown.of_heap hh.out (by rw [length_splice _ _ _ (by rw [hown.len]; exact hfit), hown.len])) hb
end

set_option maxRecDepth 100000 in
set_option maxHeartbeats 3200000 in
theorem repeat_any (ao : Option Addr) (n c count : Nat) (zs : List Int) (w : World) (h : Ints w ao n zs) (hn : n ≤ 1048576) (hc : count ≤ 1048576) (hnc : n * count ≤ 1048576) (hpos : 0 < n * count) :
    Calls Try.prog 162 #[.slice ao n c, .int .i64 count] w fun e w' => ∃ ao' c', e = .returned (.slice ao' (n * count) c') ∧ Own w' w.heap.size 2 ao' (n * count) c' ((repL zs count).map (Value.int .i64)) ∧ Below w.heap.size w w' := by
  have HL := Lib.hid h.1
  have hn0 : 0 < n := Nat.pos_of_mul_pos_right hpos
  have hc0 : 0 < count := Nat.pos_of_mul_pos_left hpos
  have hle : n ≤ n * count := Nat.le_mul_of_pos_right _ hc0
  obtain ⟨T, hT⟩ : ∃ T, n * count = T := ⟨_, rfl⟩
  rw [hT] at hpos hle ⊢
  have HT := Lib.hid hT
  have hT2 : T ≤ 1048576 := by omega
  clear hT hnc
  have hRl : ((repL zs count)).length = T := by rw [length_repL, HL.out, HT.out]
  have HR := Lib.hid hRl
  clear hRl
  obtain ⟨b, off, rfl, hb0, hcells⟩ := h.all_ hn0
  obtain ⟨cs, hcs⟩ : ∃ cs : List Value, cs = ((repL zs count).take n).map (Value.int .i64) := ⟨_, rfl⟩
  have hcl : cs.length = n := by rw [hcs]; simp [HR.out]; omega
  have hc1 : ∀ v ∈ cs, v.oneCell' = true := by rw [hcs]; exact ints_oneCell _ _
  have hcsv : ∀ j v, cs[j]? = some v → w.cell? ⟨b, off + j, none⟩ = some v := by
    intro j v hv
    have hj : j < n := by have := (List.getElem?_eq_some_iff.1 hv).1; omega
    have hrn : (repL zs count).take n = zs := by
      have e : repL zs count = zs ++ repL zs (count - 1) := by
        have : count = 1 + (count - 1) := by omega
        conv => lhs; rw [this]
        rw [repL_add, repL_one]
      rw [e, ← HL.out, List.take_left']; rfl
    rw [hcs, hrn, List.getElem?_map, List.getElem?_eq_getElem (by rw [HL.out]; exact hj)] at hv
    rw [hcells j hj, ← hv, iget_lt (by rw [HL.out]; exact hj)]; rfl
  have HCS := Lib.hid hcs
  have HCL := Lib.hid hcl
  have HC1 := Lib.hid hc1
  have HCV := Lib.hid hcsv
  have x1 := wrap_u64_nat n (by omega)
  have x2 := wrap_u64_nat count (by omega)
  clear hcs hcl hc1 hcsv hcells
  go_enter Try.func162, Try.ntmps162
  go_wp2_with (first | (go_at_call 193; refine (bitsMul_any n count _ hn hc (by rw [HT.out]; omega)).mono ?_; rintro e w' ⟨rfl, rfl⟩; rw [HT.out]) | (at_make; refine wpList_mk etI _ rfl _ _ rfl w.heap.size _ _ _ _ T rfl rfl rfl rfl (by omega) (Nat.le_refl _) ?_; intro w1 hown hgrow hsz; have hb1 : Below w.heap.size w w1 := (Below.refl _ _).grown hgrow (Nat.le_refl _) (by simp); clear hgrow) | (with_reducible refine wpList_cp (o := ⟨some 33, _, _, _, _, _⟩) etI _ rfl (.tmp 31) (.tmp 32) rfl w.heap.size w.heap.size T 0 _ cs hown _ _ _ rfl _ _ _ rfl ?_ ?_ ?_ HC1.out ?_))
  · rw [HCL.out]; exact (Nat.min_eq_left hle).symm
  · exact fun _ j v hv => (hb1.cell (p := ⟨b, off + j, none⟩) hb0).trans (HCV.out j v hv)
  · rw [HCL.out]; omega
  intro w2 o2 b2
  have hb2 : Below w.heap.size w w2 := hb1.trans b2
  have e0 : splice (List.replicate T (Value.int .i64 0)) 0 cs = ((repL zs count).take n ++ List.replicate (T - n) 0).map (Value.int .i64) := by
    rw [HCS.out, ← List.map_replicate]
    have := splice_pad (R := repL zs count) (z := (0 : Int)) (k := 0) (c := n) HR.out (by omega) (by simp)
    simp only [List.take_zero, List.nil_append, Nat.zero_add, Nat.sub_zero] at this
    rw [← this]
    simp [splice]
  rw [e0] at o2
  rw [HCL.out]
  clear e0 hown hsz hb1 b2 HCV HC1 HCS HCL
  go_wp2
  go_loopw [8] (fun i wr => ∃ k j : Nat, i = .int .i64 k ∧ 0 < k ∧ k ≤ T ∧ (k = n * j ∧ j ≤ count ∨ k = T) ∧ Own wr w.heap.size 2 (some ⟨w.heap.size, 0, none⟩) T T (((repL zs count).take k ++ List.replicate (T - k) 0).map (Value.int .i64)) ∧ Below w.heap.size w wr) (fun i _ => T - (intOf i).toNat)
  case atStart => exact ⟨n, 1, by simp, hn0, hle, .inl ⟨by omega, by omega⟩, o2, hb2⟩
  case round =>
    obtain ⟨k, j, rfl, hk0, hkT, hkj, ho, hb⟩ := hrel
    clear o2 hb2
    have HK := Lib.hid hkj
    clear hkj
    by_cases hlt : k < T
    · obtain ⟨c2, hc2⟩ : ∃ c2, c2 = Nat.min k (T - k) := ⟨_, rfl⟩
      have hc2a : c2 ≤ k := by rw [hc2]; exact Nat.min_le_left _ _
      have hc2b : c2 ≤ T - k := by rw [hc2]; exact Nat.min_le_right _ _
      have hc2c : 0 < c2 := by rw [hc2]; exact Nat.lt_min.2 ⟨hk0, by omega⟩
      have hdb : (repL zs count).take (k + c2) = (repL zs count).take k ++ (repL zs count).take c2 := by
        rcases HK.out with ⟨e, hj⟩ | e
        · have hx : c2 ≤ zs.length * (count - j) := by rw [HL.out, Nat.mul_sub, HT.out, ← e]; exact hc2b
          have := repL_double (zs := zs) hj hx
          rwa [HL.out, ← e] at this
        · omega
      obtain ⟨cs, hcs⟩ : ∃ cs : List Value, cs = ((repL zs count).take c2).map (Value.int .i64) := ⟨_, rfl⟩
      have hcl : cs.length = c2 := by rw [hcs]; simp [HR.out]; omega
      have hc1 : ∀ v ∈ cs, v.oneCell' = true := by rw [hcs]; exact ints_oneCell _ _
      have hcsv : ∀ j v, cs[j]? = some v → wr.cell? ⟨w.heap.size, j, none⟩ = some v := by
        intro j v hv
        have hj : j < c2 := by have := (List.getElem?_eq_some_iff.1 hv).1; omega
        obtain ⟨g', eg, -, -, -, hcell, -⟩ := ho.form (by omega)
        injection eg with eg; injection eg with eg; subst eg
        rw [hcell j (by omega), ← hv, hcs, List.getElem?_map, List.getElem?_map, List.getElem?_append_left (by simp [HR.out]; omega), List.getElem?_take, List.getElem?_take, if_pos (by omega), if_pos (by omega)]
      have HD := Lib.hid hdb
      have HC := Lib.hid hcs
      have HCL := Lib.hid hcl
      have HC1 := Lib.hid hc1
      have HCV := Lib.hid hcsv
      have HC2 := Lib.hid hc2
      have hTk : ((T - k : Nat) : Int) = (T : Int) - k := by omega
      clear hdb hcs hcl hc1 hcsv hc2 hTk
      go_wp2_with fail
      have HB := Lib.hid hb
      have HS := Lib.hid (show ((k : Nat) : Int) + ((c2 : Nat) : Int) = ((k + c2 : Nat) : Int) by omega)
      have hw : IntKind.i64.wrap (((k + c2 : Nat) : Nat) : Int) = ((k + c2 : Nat) : Int) := by simp [IntKind.wrap, IntKind.signed, IntKind.bits]; omega
      have HW := Lib.hid hw
      clear hw
      go_region_held3 (fun w' => Below w.heap.size w w') (first | exact HB.out.drew | assumption) (first | (refine step_cp (o := ⟨some 45, _, _, _, _, _⟩) etI rfl (.tmp 41) (.tmp 44) rfl w.heap.size w.heap.size T k _ cs (ho.drewN 1) _ _ _ rfl _ _ _ rfl ?_ ?_ ?_ HC1.out ?_; (rw [HCL.out, HC2.out]); (intro _; exact ⟨if_neg (by omega), _, rfl, fun j v hv => by have hx := HCV.out j v hv; by_cases e : j = 0 <;> simp_all [Addr.add]⟩); (rw [HCL.out]; omega); intro w3 o3 b3; have b4 : Below w.heap.size w w3 := HB.out.drew.trans b3))
      rw [HCL.out, HS.out, HW.out]
      have o4 : Own w3 w.heap.size 2 (some ⟨w.heap.size, 0, none⟩) T T (((repL zs count).take (k + c2) ++ List.replicate (T - (k + c2)) 0).map (Value.int .i64)) := by
        have e := splice_pad (R := repL zs count) (z := (0 : Int)) (k := k) (c := c2) HR.out (by omega) HD.out
        rw [← e]
        rw [HC.out] at o3
        rw [splice_map]
        exact o3
      go_roundw
      case rel =>
        refine ⟨_, _, _, _, _, _, _, _, _, _, _, _, _, _, ⟨k + c2, 2 * j, rfl, by omega, by omega, ?_, o4, b4⟩, rfl⟩
        rcases HK.out with ⟨e, hj⟩ | e
        · by_cases hx : k ≤ T - k
          · have hc2k : c2 = k := by rw [HC2.out]; exact Nat.min_eq_left hx
            left
            have e2 : n * (2 * j) = k + k := by rw [e, Nat.mul_left_comm]; omega
            refine ⟨by omega, ?_⟩
            have : n * (2 * j) ≤ n * count := by rw [HT.out]; omega
            exact Nat.le_of_mul_le_mul_left this hn0
          · have hc2k : c2 = T - k := by rw [HC2.out]; exact Nat.min_eq_right (by omega)
            right; omega
        · omega
      case measure => simp [intOf]; omega
    · obtain rfl : k = T := by omega
      rw [Nat.sub_self, List.replicate_zero, List.append_nil, List.take_of_length_le (Nat.le_of_eq HR.out)] at ho
      go_wp2
      go_ret
      exact ⟨_, _, rfl, ho, hb⟩
end Go.Proofs.Ytnfkhgamnapgmaa

/- Contracts in names of small functions: size, slices.Repeat. -/
namespace Go.Proofs.Ytnfkhgamnapgmaa
open Go.RowKit

theorem sizeV_fc (x n : Nat) : FC Try.prog 85 [] [o1 (.sl x 0 n)] [] (vv (I6 n)) [] := by
  refine fc_enter (nt := 5) Try.func85 rfl rfl (by simp) fun w0 ω0 => ?_
  (refine goes_seq ?_; refine goes_region ?_; apply run_step rfl; (exact stp_assign rfl rfl); refine run_nil ?_; refine fin_seq ?_; refine goes_seq ?_; refine goes_region ?_; apply run_step rfl; (exact stp_move rfl rfl); apply run_step rfl; (exact stp_len rfl rfl rfl (by as_aux_lemma => kernel_rfl)); apply run_step rfl; (exact stp_assign rfl rfl); refine run_nil ?_; refine fin_seq ?_; refine goes_ret ?_)
  exact fin_ret1 (.inl rfl) rfl (.tmp rfl) trivial trivial

theorem sizeE_fc (x i n : Nat) : FC Try.prog 85 [] [o1 (.esl x i 0 n)] [] (vv (I6 n)) [] := by
  refine fc_enter (nt := 5) Try.func85 rfl rfl (by simp) fun w0 ω0 => ?_
  (refine goes_seq ?_; refine goes_region ?_; apply run_step rfl; (exact stp_assign rfl rfl); refine run_nil ?_; refine fin_seq ?_; refine goes_seq ?_; refine goes_region ?_; apply run_step rfl; (exact stp_move rfl rfl); apply run_step rfl; (exact stp_len rfl rfl rfl (by as_aux_lemma => kernel_rfl)); apply run_step rfl; (exact stp_assign rfl rfl); refine run_nil ?_; refine fin_seq ?_; refine goes_ret ?_)
  exact fin_ret1 (.inl rfl) rfl (.tmp rfl) trivial trivial

theorem repL_single (z : Int) : ∀ n, repL [z] n = List.replicate n z := fun n => by
  unfold repL
  induction n with
  | zero => rfl
  | succ n ih => simp [List.replicate_succ] at ih ⊢
theorem lk_self {α : Type} (x : Nat) (c : α) : lk x [(x, c)] = some c := by simp [lk]
/-- slices.Repeat of a list of one number -/
theorem repeat1_fc (x y n : Nat) (z : Int) (hn : n ≤ 1048576) (hn0 : 0 < n) :
    FC Try.prog 162 [(x, ⟨false, 2, 1, .vals (ivals [z])⟩)] [o1 (.sl x 0 1), vv (I6 n)] [(y, ⟨true, 2, 1, .vals (ivals (List.replicate n z))⟩)] (o1 (.sl y 0 n)) [] := by
  have h := fc_of_own (P := Try.prog) (f := 162) (ins := [(x, ⟨false, 2, 1, .vals (ivals [z])⟩)]) (args := [o1 (.sl x 0 1), vv (I6 n)]) (x := y) (E := 2) (zs := List.replicate n z) fun w η ω us hm hd => by
    obtain ⟨hl, ha⟩ := hd
    obtain ⟨u0, h0, d0⟩ := ha 0 _ rfl
    obtain ⟨u1, h1, d1⟩ := ha 1 _ rfl
    obtain ⟨ao, c, e0, hi⟩ := rdS (zs := [z]) (E := 2) (own := false) hm (lk_self _ _) d0 (by simp)
    have d1 : u1 = I6 n := d1
    subst e0 d1
    obtain rfl : us = [.slice ao 1 c, I6 n] := by
      match us, hl, h0, h1 with
      | [p, q], _, h0, h1 => simp at h0 h1; rw [h0, h1]
    refine (repeat_any ao 1 c n [z] w hi (by omega) hn (by omega) (by omega)).mono ?_
    rintro e w' ⟨ao', c', rfl, ho, hb⟩
    rw [Nat.one_mul, repL_single] at ho
    rw [List.length_replicate]
    exact ⟨ao', c', by rw [Nat.one_mul], ho, hb⟩
  rw [List.length_replicate] at h
  exact h
end Go.Proofs.Ytnfkhgamnapgmaa

/- The components of a diagram, the program's: components. guards: -/
namespace Go.Proofs.Ytnfkhgamnapgmaa
open Go.RowKit

/-- components as cells: a mask, a row of labels -/
abbrev mixC (ps : Cmps) : List Cel := ps.flatMap fun p => [.v (I6 (p.1 : Int)), .r 2 1 p.2.length (ivals p.2)]
abbrev cpOw (ps : Cmps) : Ch := ⟨true, 152, 2, .mix (mixC ps)⟩
theorem mixC_len (ps : Cmps) : (mixC ps).length = ps.length * 2 := by
  induction ps with
  | nil => rfl
  | cons p r ih => simp [mixC] at ih ⊢; omega
theorem mixC_get : ∀ {ps : Cmps} {k : Nat}, k < ps.length → (mixC ps)[k * 2]? = some (.v (I6 ((cget ps k).1 : Int))) ∧ (mixC ps)[k * 2 + 1]? = some (.r 2 1 (cget ps k).2.length (ivals (cget ps k).2))
  | [], _, h => by simp at h
  | p :: r, 0, _ => ⟨rfl, rfl⟩
  | p :: r, k + 1, h => by
    have := mixC_get (ps := r) (k := k) (by simpa using h)
    rw [show (k + 1) * 2 = k * 2 + 2 by omega]
    exact this
theorem mixC_app (a b : Cmps) : mixC (a ++ b) = mixC a ++ mixC b := by simp [mixC]
theorem mixC_set : ∀ (ps : Cmps) (k : Nat) (m : Nat) (zs : List Int), k < ps.length → ((mixC ps).set (k * 2) (.v (I6 (m : Int)))).set (k * 2 + 1) (.r 2 1 zs.length (ivals zs)) = mixC (ps.set k (m, zs))
  | [], _, _, _, h => by simp at h
  | p :: r, 0, m, zs, _ => rfl
  | p :: r, k + 1, m, zs, h => by
    have := mixC_set r k m zs (by simpa using h)
    rw [show (k + 1) * 2 = k * 2 + 2 by omega]
    show ((.v (I6 (p.1 : Int))) :: .r 2 1 p.2.length (ivals p.2) :: ((mixC r).set (k * 2) (.v (I6 (m : Int)))).set (k * 2 + 1) (.r 2 1 zs.length (ivals zs))) = _
    rw [this]; rfl
set_option maxRecDepth 100000 in
set_option maxHeartbeats 2000000 in
theorem comps_fc (zs : List Int) (L mask : Nat) (hL : zs.length = L) (h4 : L ≤ 4) (hm : mask < 1000) :
    FC Try.prog 175 [(1003, wRo zs)] [o1 (.sl 1003 0 L), vv (I6 mask)] [(2000, cpOw (comps zs mask))] (o1 (.sl 2000 0 (comps zs mask).length)) [] := by
  have hSz := sizeV_fc 1003 L
  refine fc_enter (nt := 68) Try.func175 rfl rfl (by simp) fun w0 ω0 => ?_
  have hil : L ≤ (ivals zs).length := by rw [ivals_len, hL]; exact Nat.le_refl _
  have hL1 : IntKind.i64.wrap ((L : Int) + 1) = ((L + 1 : Nat) : Int) := IntWalk.i64_in _ (by omega)
  (refine goes_seq ?_; refine goes_region ?_; apply run_step rfl; (exact stp_assign rfl rfl); refine run_nil ?_; refine fin_seq ?_; refine goes_seq ?_; refine goes_region ?_; apply run_step rfl; (exact stp_assign rfl rfl); refine run_nil ?_; refine fin_seq ?_; refine goes_seq ?_; refine goes_region ?_; apply run_step rfl; (exact stp_assign rfl rfl); refine run_nil ?_; refine fin_seq ?_; refine goes_seq ?_; refine goes_seq ?_; refine goes_region ?_; apply run_step rfl; (exact stp_move rfl rfl); apply run_step rfl; (first | (apply call_gate 85; exact stp_callR hSz (by as_aux_lemma => kernel_rfl) rfl rfl ⟨rfl, trivial⟩ trivial rfl rfl) | exact stp_add rfl rfl rfl hL1); apply run_step rfl; (first | (apply call_gate 85; exact stp_callR hSz (by as_aux_lemma => kernel_rfl) rfl rfl ⟨rfl, trivial⟩ trivial rfl rfl) | exact stp_add rfl rfl rfl hL1); apply run_step rfl; (exact stp_move rfl rfl); refine run_nil ?_; refine fin_seq ?_; refine goes_block ?_)
  refine goes_loop (fun q : Nat × Cmps × Bool => St.of [(0, o1 (.sl 1003 0 L)), (1, vv (I6 mask)), (5, o1 (.sl 2000 0 q.2.1.length)), (6, vv (.bool q.2.2)), (11, vv (I6 (L + 1 : Nat))), (12, vv (I6 q.1))] [(1003, wRo zs), (2000, cpOw q.2.1)])
    (fun q => q.1 ≤ L + 1 ∧ pTo zs mask q.1 = q.2.1 ∧ (q.1 ≤ L → q.2.2 = jn zs mask q.1)) (fun q => L + 1 - q.1) (0, [], false) ⟨Nat.zero_le _, rfl, fun _ => rfl⟩
    (Wk.trans (wk_nil (t := 5) (n := 2000) (k := 2) (E := 152) (d := .mix (mixC [])) rfl rfl) (Wk.of ⟨rfl, rfl, rfl, rfl, rfl, rfl, trivial⟩ ⟨rfl, rfl, trivial⟩ trivial)) ?_
  rintro ⟨i, ps, jb⟩ ⟨hi, hp, hj⟩
  dsimp only at hi hp hj ⊢
  have hps := pTo_ok zs mask i (by omega)
  have hnx := pTo_succ zs mask i
  rw [hp] at hps hnx
  have hpl : ps.length ≤ 5 := by have := csum_len ps; have := hps.sum; omega
  have hmx := mixC_len ps
  (refine goes_seq ?_; refine goes_region ?_; apply run_step rfl; (exact stp_bin rfl rfl rfl rfl); refine run_nil ?_; refine fin_seq ?_; refine goes_seq ?_)
  refine goes_if rfl (fun hlt => ?_) (fun hlt => ?_)
  · have hiL : i ≤ L := by omega
    have hj := hj hiL
    have hi64 : i ≤ 64 := by omega
    have hmm : mask < 1000000 := by omega
    have hmle : mask / 2 ^ i ≤ mask := Nat.div_le_self _ _
    (refine goes_skip ?_; refine fin_seq ?_; refine goes_seq ?_; refine goes_block ?_; refine goes_seq ?_; refine goes_region ?_; apply run_step rfl; (exact stp_move rfl rfl); apply run_step rfl; (exact stp_assign rfl rfl); refine run_nil ?_; refine fin_seq ?_; refine goes_seq ?_; refine goes_seq ?_; refine goes_region ?_; apply run_step rfl; (exact stp_move rfl rfl); apply run_step rfl; (exact stp_move rfl rfl); apply run_step rfl; (first | exact stp_shrN (g := i) rfl rfl rfl hi64 | exact stp_bit rfl rfl hmm | exact stp_eqBit0 rfl rfl); apply run_step rfl; (first | exact stp_shrN (g := i) rfl rfl rfl hi64 | exact stp_bit rfl rfl hmm | exact stp_eqBit0 rfl rfl); apply run_step rfl; (first | exact stp_shrN (g := i) rfl rfl rfl hi64 | exact stp_bit rfl rfl hmm | exact stp_eqBit0 rfl rfl); refine run_nil ?_; refine fin_seq ?_)
    refine goes_cond rfl (fun hb => ?_) (fun hb => ?_)
    · have hb : mBit mask i = false := by simpa using hb
      have hv : pTo zs mask (i + 1) = ps := by rw [hnx]; unfold pStep; rw [if_neg (by rw [hb]; simp)]
      (refine goes_seq ?_; refine goes_region ?_; apply run_step rfl; (exact stp_assign rfl rfl); refine run_nil ?_; refine fin_seq ?_; refine goes_exit ?_; refine fin_exit_then ?_; refine fin_exit_eq ?_; refine fin_seq ?_; refine goes_region ?_; apply run_step rfl; (exact stp_add rfl rfl rfl (by first | exact IntWalk.i64_in _ (by omega) | rfl)); apply run_step rfl; (exact stp_move rfl rfl); refine run_nil ?_)
      exact fin_round (i + 1, ps, false) ⟨by omega, hv, fun _ => by unfold jn; rw [Nat.add_sub_cancel, hb]; simp⟩ (by show L + 1 - (i + 1) < L + 1 - i; omega) (Wk.of ⟨rfl, rfl, rfl, rfl, rfl, rfl, trivial⟩ ⟨rfl, rfl, trivial⟩ trivial)
    · have hb : mBit mask i = true := by simpa using hb
      unfold pStep at hnx
      rw [if_pos hb, ← hj] at hnx
      have hjn : ∀ b : Bool, i ≤ L → (i + 1 ≤ L → b = !(iget zs i == 2)) → (i + 1 ≤ L → b = jn zs mask (i + 1)) := fun b _ h1 h2 => by
        rw [h1 h2]; unfold jn; rw [Nat.add_sub_cancel, hb]; simp
      have hi5 : i ≤ 5 := by omega
      (refine goes_skip ?_; refine fin_seq ?_; refine goes_seq ?_; refine goes_seq ?_; refine goes_region ?_; apply run_step rfl; (exact stp_move rfl rfl); refine run_nil ?_; refine fin_seq ?_)
      refine goes_cut (St.of [(0, o1 (.sl 1003 0 L)), (1, vv (I6 mask)), (5, o1 (.sl 2000 0 (pTo zs mask (i + 1)).length)), (7, vv (I6 i)), (11, vv (I6 (L + 1 : Nat))), (12, vv (I6 i))] [(1003, wRo zs), (2000, cpOw (pTo zs mask (i + 1)))]) ?_ ?_
      · refine goes_cond rfl (fun hjb => ?_) (fun hjb => ?_)
        · have hjs := jn_spec (hj ▸ hjb)
          have hne := hps.ne hjs.1 hjs.2.1
          obtain ⟨j, hjl⟩ : ∃ j, ps.length = j + 1 := ⟨ps.length - 1, by omega⟩
          have hjp : j < ps.length := by omega
          have hv : pTo zs mask (i + 1) = ps.set j ((cget ps j).1 ||| 2 ^ i, (cget ps j).2 ++ [iget zs (i - 1)]) := by
            rw [hnx, if_pos hjb]; unfold pLast; rw [show ps.length - 1 = j by omega]
          have hsub : IntKind.i64.wrap ((ps.length : Int) - 1) = (j : Int) := by rw [hjl]; exact (IntWalk.i64_in _ (by omega)).trans (by omega)
          have hget := mixC_get hjp
          have hmlt := hps.lt _ (cget_mem hjp)
          have hllt := csum_le (cget_mem hjp)
          have hsum := hps.sum
          have h2i : 2 ^ i ≤ 2 ^ 5 := Nat.pow_le_pow_right (by decide) hi5
          have hset := mixC_set ps j ((cget ps j).1 ||| 2 ^ i) ((cget ps j).2 ++ [iget zs (i - 1)]) hjp
          have hml : (mixC ps).length = ps.length * 2 := hmx
          rw [hv]
          generalize (cget ps j).1 = m at *
          generalize (cget ps j).2 = labs at *
          have gz : (ivals zs)[i - 1]? = some (I6 (iget zs (i - 1))) := ivals_get (by omega)
          have hi1 : (i : Int) - 1 = ((i - 1 : Nat) : Int) := by omega
          have hi1L : i - 1 < L := by omega
          have hm6 : m < 1000000 := by omega
          have h2i6 : 2 ^ i < 1000000 := by omega
          have hv0 : (mixC ps)[j * 2 + 0]? = some (.v (I6 (m : Int))) := hget.1
          have hv1 : ((mixC ps).set (j * 2 + 0) (.v (I6 ((m ||| 2 ^ i : Nat) : Int))))[j * 2 + 1]? = some (.r 2 1 labs.length (ivals labs)) := by
            rw [List.getElem?_set_ne (by omega)]; exact hget.2
          have hvl : (ivals (labs ++ [iget zs (i - 1)])).length = (labs.length + 1) * 1 := by rw [ivals_len]; simp
          have hk1l : j * 2 + 1 < (((mixC ps).set (j * 2 + 0) (.v (I6 ((m ||| 2 ^ i : Nat) : Int)))).set (j * 2 + 1) .any).length := by rw [List.length_set, List.length_set]; omega
          have hfin : (((mixC ps).set (j * 2 + 0) (.v (I6 ((m ||| 2 ^ i : Nat) : Int)))).set (j * 2 + 1) .any).set (j * 2 + 1) (.r 2 1 (labs.length + 1) (ivals (labs ++ [iget zs (i - 1)]))) = mixC (ps.set j (m ||| 2 ^ i, labs ++ [iget zs (i - 1)])) := by
            rw [List.set_set, ← hset]; simp
          have hix : ps.length * 2 ≤ (mixC ps).length := Nat.le_of_eq hmx.symm
          (refine goes_seq ?_; refine goes_region ?_; apply run_step rfl; (exact stp_move rfl rfl); apply run_step rfl; (exact stp_move rfl rfl); apply run_step rfl; (exact stp_len rfl rfl rfl (by as_aux_lemma => kernel_rfl)); apply run_step rfl; (first | exact stp_sub rfl rfl rfl hsub | exact stp_ixT (k := 2) (j := j) rfl rfl rfl rfl rfl (by as_aux_lemma => kernel_rfl) rfl hjp hix (by omega) rfl); apply run_step rfl; (first | exact stp_sub rfl rfl rfl hsub | exact stp_ixT (k := 2) (j := j) rfl rfl rfl rfl rfl (by as_aux_lemma => kernel_rfl) rfl hjp hix (by omega) rfl); apply run_step rfl; (exact stp_assign rfl rfl); refine run_nil ?_; refine fin_seq ?_; refine goes_seq ?_)
          apply goes_draw 7 [] [[], [0], [0, 1], [0, 1, 2], [], [4], [0, 1, 2, 3, 4, 5], [0, 1, 2, 3, 4, 5, 6], [0, 1, 2, 3, 4, 5, 6, 7], [0, 1, 2, 3, 4, 5, 6, 7, 8]] [26, 27, 28, 29, 30, 31, 32] [] (by kernel_rfl) (by kernel_rfl)
          · (apply draw_put rfl; (intro S1 hS; exact stp_move rfl (hS.op rfl)); apply draw_put rfl; (intro S1 hS; exact stp_nilCheck rfl (hS.op rfl) (hS.ch _ _ rfl)); apply draw_put rfl; (intro S1 hS; exact stp_fieldAddr (d := 0) rfl (hS.op rfl) (hS.ch _ _ rfl) (by as_aux_lemma => kernel_rfl)); (first | (apply draw_put rfl; (focus (intro S1 hS; exact stp_loadM rfl (by as_aux_lemma => kernel_rfl) (hS.op rfl) (hS.ch _ _ rfl) rfl hv0))) | (apply draw_put rfl; (focus (intro S1 hS; exact stp_shl1 (g := i) rfl (hS.op rfl) (hS.op rfl) hi5))) | (apply draw_put rfl; (focus (intro S1 hS; exact stp_orN rfl (hS.op rfl) (hS.op rfl) hm6 h2i6)))); apply draw_put rfl; (intro S1 hS; exact stp_move rfl (hS.op rfl)); (first | (apply draw_put rfl; (focus (intro S1 hS; exact stp_loadM rfl (by as_aux_lemma => kernel_rfl) (hS.op rfl) (hS.ch _ _ rfl) rfl hv0))) | (apply draw_put rfl; (focus (intro S1 hS; exact stp_shl1 (g := i) rfl (hS.op rfl) (hS.op rfl) hi5))) | (apply draw_put rfl; (focus (intro S1 hS; exact stp_orN rfl (hS.op rfl) (hS.op rfl) hm6 h2i6)))); (first | (apply draw_put rfl; (focus (intro S1 hS; exact stp_loadM rfl (by as_aux_lemma => kernel_rfl) (hS.op rfl) (hS.ch _ _ rfl) rfl hv0))) | (apply draw_put rfl; (focus (intro S1 hS; exact stp_shl1 (g := i) rfl (hS.op rfl) (hS.op rfl) hi5))) | (apply draw_put rfl; (focus (intro S1 hS; exact stp_orN rfl (hS.op rfl) (hS.op rfl) hm6 h2i6)))); exact Draw.nil)
          · rfl
          ((apply rest_one 7 rfl (by as_aux_lemma => kernel_rfl) rfl rfl; (exact stp_nilCheck rfl rfl rfl)); (apply rest_one 8 rfl (by as_aux_lemma => kernel_rfl) rfl rfl; (exact stp_fieldAddr (d := 0) rfl rfl rfl (by as_aux_lemma => kernel_rfl))); (apply rest_one 9 rfl (by as_aux_lemma => kernel_rfl) rfl rfl; (exact stp_storeM rfl rfl rfl rfl rfl hv0 (by as_aux_lemma => kernel_rfl) rfl)); (refine rest_done (by as_aux_lemma => kernel_rfl) ?_; skip))
          (refine fin_seq ?_)
          apply goes_drawF 11 [] 0 [[], [], [1], [1, 2], [1, 2, 3], [], [], [6], [5, 6, 7], [5, 6, 7, 8], [5, 6, 7, 8, 9], [1, 2, 3, 4, 5, 6, 7, 8, 9, 10], [0, 1, 2, 3, 4, 5, 6, 7, 8, 9, 10, 11], [0, 1, 2, 3, 4, 5, 6, 7, 8, 9, 10, 11, 12], [0, 1, 2, 3, 4, 5, 6, 7, 8, 9, 10, 11, 12, 13]] [35, 36, 37, 38, 39, 40, 41, 42, 43, 44, 45] [45] (by kernel_rfl) (by kernel_rfl) rfl
          · (apply draw_put rfl; (intro S1 hS; exact stp_move rfl (hS.op rfl)); apply draw_put rfl; (intro S1 hS; exact stp_move rfl (hS.op rfl)); apply draw_put rfl; (intro S1 hS; exact stp_nilCheck rfl (hS.op rfl) (hS.ch _ _ rfl)); apply draw_put rfl; (intro S1 hS; exact stp_fieldAddr (d := 1) rfl (hS.op rfl) (hS.ch _ _ rfl) (by as_aux_lemma => kernel_rfl)); (first | (apply draw_put rfl; (focus (intro S1 hS; exact stp_loadMR rfl (by as_aux_lemma => kernel_rfl) (hS.op rfl) (hS.ch _ _ rfl) rfl hv1))) | (apply draw_put rfl; (focus (intro S1 hS; exact stp_sub rfl (hS.op rfl) (hS.op rfl) (IntWalk.i64_in _ (by omega))))) | (apply draw_put rfl; (focus (intro S1 hS; exact stp_ix (j := i - 1) rfl (hS.op rfl) (hS.op rfl) (hS.ch _ _ rfl) rfl (by as_aux_lemma => kernel_rfl) hi1 hi1L hil))) | (apply draw_put rfl; (focus (intro S1 hS; exact stp_loadV rfl (by as_aux_lemma => kernel_rfl) (hS.op rfl) (hS.ch _ _ rfl) rfl gz)))); apply draw_put rfl; (intro S1 hS; exact stp_move rfl (hS.op rfl)); apply draw_put rfl; (intro S1 hS; exact stp_move rfl (hS.op rfl)); (first | (apply draw_put rfl; (focus (intro S1 hS; exact stp_loadMR rfl (by as_aux_lemma => kernel_rfl) (hS.op rfl) (hS.ch _ _ rfl) rfl hv1))) | (apply draw_put rfl; (focus (intro S1 hS; exact stp_sub rfl (hS.op rfl) (hS.op rfl) (IntWalk.i64_in _ (by omega))))) | (apply draw_put rfl; (focus (intro S1 hS; exact stp_ix (j := i - 1) rfl (hS.op rfl) (hS.op rfl) (hS.ch _ _ rfl) rfl (by as_aux_lemma => kernel_rfl) hi1 hi1L hil))) | (apply draw_put rfl; (focus (intro S1 hS; exact stp_loadV rfl (by as_aux_lemma => kernel_rfl) (hS.op rfl) (hS.ch _ _ rfl) rfl gz)))); (first | (apply draw_put rfl; (focus (intro S1 hS; exact stp_loadMR rfl (by as_aux_lemma => kernel_rfl) (hS.op rfl) (hS.ch _ _ rfl) rfl hv1))) | (apply draw_put rfl; (focus (intro S1 hS; exact stp_sub rfl (hS.op rfl) (hS.op rfl) (IntWalk.i64_in _ (by omega))))) | (apply draw_put rfl; (focus (intro S1 hS; exact stp_ix (j := i - 1) rfl (hS.op rfl) (hS.op rfl) (hS.ch _ _ rfl) rfl (by as_aux_lemma => kernel_rfl) hi1 hi1L hil))) | (apply draw_put rfl; (focus (intro S1 hS; exact stp_loadV rfl (by as_aux_lemma => kernel_rfl) (hS.op rfl) (hS.ch _ _ rfl) rfl gz)))); (first | (apply draw_put rfl; (focus (intro S1 hS; exact stp_loadMR rfl (by as_aux_lemma => kernel_rfl) (hS.op rfl) (hS.ch _ _ rfl) rfl hv1))) | (apply draw_put rfl; (focus (intro S1 hS; exact stp_sub rfl (hS.op rfl) (hS.op rfl) (IntWalk.i64_in _ (by omega))))) | (apply draw_put rfl; (focus (intro S1 hS; exact stp_ix (j := i - 1) rfl (hS.op rfl) (hS.op rfl) (hS.ch _ _ rfl) rfl (by as_aux_lemma => kernel_rfl) hi1 hi1L hil))) | (apply draw_put rfl; (focus (intro S1 hS; exact stp_loadV rfl (by as_aux_lemma => kernel_rfl) (hS.op rfl) (hS.ch _ _ rfl) rfl gz)))); apply draw_new rfl; (intro S1 hS; exact stp_lit1I (E := 2) rfl (by as_aux_lemma => kernel_rfl) (hS.op rfl)); exact Draw.nil)
          · rfl
          · refine rest_join (St.of [(0, o1 (.sl 1003 0 L)), (1, vv (I6 mask)), (5, o1 (.sl 2000 0 ps.length)), (7, vv (I6 i)), (11, vv (I6 (L + 1 : Nat))), (12, vv (I6 i))] [(1003, wRo zs), (2000, cpOw (ps.set j (m ||| 2 ^ i, labs ++ [iget zs (i - 1)])))]) ?_ ?_
            · ((apply rest_one 11 rfl (by as_aux_lemma => kernel_rfl) rfl rfl; ((first | exact Stp.pre (wk_takeMx (n := 2000) (z := 46) (s := 39) rfl rfl hv1 rfl) (stp_appI rfl (by as_aux_lemma => kernel_rfl) rfl rfl rfl rfl rfl rfl (by omega)) | exact stp_storeMx rfl rfl rfl rfl hvl rfl hk1l (by as_aux_lemma => kernel_rfl)))); (apply rest_one 12 rfl (by as_aux_lemma => kernel_rfl) rfl rfl; (exact stp_nilCheck rfl rfl rfl)); (apply rest_one 13 rfl (by as_aux_lemma => kernel_rfl) rfl rfl; (exact stp_fieldAddr (d := 1) rfl rfl rfl (by as_aux_lemma => kernel_rfl))); (apply rest_one 14 rfl (by as_aux_lemma => kernel_rfl) rfl rfl; ((first | exact Stp.pre (wk_takeMx (n := 2000) (z := 46) (s := 39) rfl rfl hv1 rfl) (stp_appI rfl (by as_aux_lemma => kernel_rfl) rfl rfl rfl rfl rfl rfl (by omega)) | exact stp_storeMx rfl rfl rfl rfl hvl rfl hk1l (by as_aux_lemma => kernel_rfl)))); (refine rest_done (by as_aux_lemma => kernel_rfl) ?_; exact fin_join (Wk.of ⟨rfl, rfl, rfl, rfl, rfl, rfl, trivial⟩ ⟨rfl, congrArg (fun l => some (⟨true, 152, 2, .mix l⟩ : Ch)) hfin, trivial⟩ trivial)))
            · (skip)
              exact fin_join (Wk.of ⟨rfl, rfl, congrArg (fun n => some (o1 (.sl 2000 0 n))) (List.length_set ..).symm, rfl, rfl, rfl, trivial⟩ ⟨rfl, rfl, trivial⟩ trivial)
          · refine rest_join (St.of [(0, o1 (.sl 1003 0 L)), (1, vv (I6 mask)), (5, o1 (.sl 2000 0 ps.length)), (7, vv (I6 i)), (11, vv (I6 (L + 1 : Nat))), (12, vv (I6 i))] [(1003, wRo zs), (2000, cpOw (ps.set j (m ||| 2 ^ i, labs ++ [iget zs (i - 1)])))]) ?_ ?_
            · ((apply rest_two 0 11 rfl (by as_aux_lemma => kernel_rfl) rfl rfl rfl rfl; (exact stp_move rfl rfl); ((first | exact Stp.pre (wk_takeMx (n := 2000) (z := 46) (s := 39) rfl rfl hv1 rfl) (stp_appI rfl (by as_aux_lemma => kernel_rfl) rfl rfl rfl rfl rfl rfl (by omega)) | exact stp_storeMx rfl rfl rfl rfl hvl rfl hk1l (by as_aux_lemma => kernel_rfl))); (focus ((apply rest_one 11 rfl (by as_aux_lemma => kernel_rfl) rfl rfl; ((first | exact Stp.pre (wk_takeMx (n := 2000) (z := 46) (s := 39) rfl rfl hv1 rfl) (stp_appI rfl (by as_aux_lemma => kernel_rfl) rfl rfl rfl rfl rfl rfl (by omega)) | exact stp_storeMx rfl rfl rfl rfl hvl rfl hk1l (by as_aux_lemma => kernel_rfl)))); (apply rest_one 12 rfl (by as_aux_lemma => kernel_rfl) rfl rfl; (exact stp_nilCheck rfl rfl rfl)); (apply rest_one 13 rfl (by as_aux_lemma => kernel_rfl) rfl rfl; (exact stp_fieldAddr (d := 1) rfl rfl rfl (by as_aux_lemma => kernel_rfl))); (apply rest_one 14 rfl (by as_aux_lemma => kernel_rfl) rfl rfl; ((first | exact Stp.pre (wk_takeMx (n := 2000) (z := 46) (s := 39) rfl rfl hv1 rfl) (stp_appI rfl (by as_aux_lemma => kernel_rfl) rfl rfl rfl rfl rfl rfl (by omega)) | exact stp_storeMx rfl rfl rfl rfl hvl rfl hk1l (by as_aux_lemma => kernel_rfl)))); (refine rest_done (by as_aux_lemma => kernel_rfl) ?_; exact fin_join (Wk.of ⟨rfl, rfl, rfl, rfl, rfl, rfl, trivial⟩ ⟨rfl, congrArg (fun l => some (⟨true, 152, 2, .mix l⟩ : Ch)) hfin, trivial⟩ trivial)))); (focus ((apply rest_one 0 rfl (by as_aux_lemma => kernel_rfl) rfl rfl; (exact stp_move rfl rfl)); (apply rest_one 12 rfl (by as_aux_lemma => kernel_rfl) rfl rfl; (exact stp_nilCheck rfl rfl rfl)); (apply rest_one 13 rfl (by as_aux_lemma => kernel_rfl) rfl rfl; (exact stp_fieldAddr (d := 1) rfl rfl rfl (by as_aux_lemma => kernel_rfl))); (apply rest_one 14 rfl (by as_aux_lemma => kernel_rfl) rfl rfl; ((first | exact Stp.pre (wk_takeMx (n := 2000) (z := 46) (s := 39) rfl rfl hv1 rfl) (stp_appI rfl (by as_aux_lemma => kernel_rfl) rfl rfl rfl rfl rfl rfl (by omega)) | exact stp_storeMx rfl rfl rfl rfl hvl rfl hk1l (by as_aux_lemma => kernel_rfl)))); (refine rest_done (by as_aux_lemma => kernel_rfl) ?_; exact fin_join (Wk.of ⟨rfl, rfl, rfl, rfl, rfl, rfl, trivial⟩ ⟨rfl, congrArg (fun l => some (⟨true, 152, 2, .mix l⟩ : Ch)) hfin, trivial⟩ trivial))))))
            · (skip)
              exact fin_join (Wk.of ⟨rfl, rfl, congrArg (fun n => some (o1 (.sl 2000 0 n))) (List.length_set ..).symm, rfl, rfl, rfl, trivial⟩ ⟨rfl, rfl, trivial⟩ trivial)
        · have hv : pTo zs mask (i + 1) = ps ++ [(2 ^ i, [])] := by rw [hnx, if_neg (by rw [hjb]; simp)]
          rw [hv]
          have hcel : ∀ (j : Nat) (c : Cel) (u : Value), [Cel.v (I6 ((2 ^ i : Nat) : Int)), Cel.r 2 1 0 []][j]? = some c → [I6 ((2 ^ i : Nat) : Int), Value.slice none 0 0][j]? = some u → celNew c u := by
            intro j c u h1 h2
            match j, h1, h2 with
            | 0, h1, h2 => simp at h1 h2; subst h1 h2; rfl
            | 1, h1, h2 => simp at h1 h2; subst h1 h2; exact ⟨rfl, rfl, rfl⟩
          have h1c : ∀ v ∈ [I6 ((2 ^ i : Nat) : Int), Value.slice none 0 0], v.oneCell' = true := by
            intro v hv
            rcases List.mem_cons.1 hv with rfl | hv
            · rfl
            · obtain rfl : v = .slice none 0 0 := by simpa using hv
              rfl
          (refine goes_region ?_; apply run_step rfl; (exact stp_move rfl rfl); apply run_step rfl; (exact stp_move rfl rfl); apply run_step rfl; (first | exact stp_shl1 (g := i) rfl rfl rfl hi5 | exact stp_build1V (vs := [I6 ((2 ^ i : Nat) : Int), .slice none 0 0]) rfl rfl rfl | exact stp_lit2V (E := 152) rfl (by as_aux_lemma => kernel_rfl) rfl | exact stp_appendMx (cn := [Cel.v (I6 ((2 ^ i : Nat) : Int)), Cel.r 2 1 0 []]) (news := [I6 ((2 ^ i : Nat) : Int), .slice none 0 0]) (k := 2) (m := 1) rfl (by as_aux_lemma => kernel_rfl) rfl rfl rfl hmx rfl (reads_vals (k := 2) (vs := [I6 ((2 ^ i : Nat) : Int), .slice none 0 0]) rfl rfl rfl rfl (Nat.le_refl _)) (by omega) h1c rfl hcel (by omega)); apply run_step rfl; (first | exact stp_shl1 (g := i) rfl rfl rfl hi5 | exact stp_build1V (vs := [I6 ((2 ^ i : Nat) : Int), .slice none 0 0]) rfl rfl rfl | exact stp_lit2V (E := 152) rfl (by as_aux_lemma => kernel_rfl) rfl | exact stp_appendMx (cn := [Cel.v (I6 ((2 ^ i : Nat) : Int)), Cel.r 2 1 0 []]) (news := [I6 ((2 ^ i : Nat) : Int), .slice none 0 0]) (k := 2) (m := 1) rfl (by as_aux_lemma => kernel_rfl) rfl rfl rfl hmx rfl (reads_vals (k := 2) (vs := [I6 ((2 ^ i : Nat) : Int), .slice none 0 0]) rfl rfl rfl rfl (Nat.le_refl _)) (by omega) h1c rfl hcel (by omega)); apply run_step rfl; (first | exact stp_shl1 (g := i) rfl rfl rfl hi5 | exact stp_build1V (vs := [I6 ((2 ^ i : Nat) : Int), .slice none 0 0]) rfl rfl rfl | exact stp_lit2V (E := 152) rfl (by as_aux_lemma => kernel_rfl) rfl | exact stp_appendMx (cn := [Cel.v (I6 ((2 ^ i : Nat) : Int)), Cel.r 2 1 0 []]) (news := [I6 ((2 ^ i : Nat) : Int), .slice none 0 0]) (k := 2) (m := 1) rfl (by as_aux_lemma => kernel_rfl) rfl rfl rfl hmx rfl (reads_vals (k := 2) (vs := [I6 ((2 ^ i : Nat) : Int), .slice none 0 0]) rfl rfl rfl rfl (Nat.le_refl _)) (by omega) h1c rfl hcel (by omega)); apply run_step rfl; (first | exact stp_shl1 (g := i) rfl rfl rfl hi5 | exact stp_build1V (vs := [I6 ((2 ^ i : Nat) : Int), .slice none 0 0]) rfl rfl rfl | exact stp_lit2V (E := 152) rfl (by as_aux_lemma => kernel_rfl) rfl | exact stp_appendMx (cn := [Cel.v (I6 ((2 ^ i : Nat) : Int)), Cel.r 2 1 0 []]) (news := [I6 ((2 ^ i : Nat) : Int), .slice none 0 0]) (k := 2) (m := 1) rfl (by as_aux_lemma => kernel_rfl) rfl rfl rfl hmx rfl (reads_vals (k := 2) (vs := [I6 ((2 ^ i : Nat) : Int), .slice none 0 0]) rfl rfl rfl rfl (Nat.le_refl _)) (by omega) h1c rfl hcel (by omega)); apply run_step rfl; (exact stp_assign rfl rfl); refine run_nil ?_)
          exact fin_join (Wk.of ⟨rfl, rfl, congrArg (fun n => some (o1 (.sl 2000 0 n))) (by simp), rfl, rfl, rfl, trivial⟩ ⟨rfl, congrArg (fun l => some (⟨true, 152, 2, .mix l⟩ : Ch)) (mixC_app ps [(2 ^ i, [])]).symm, trivial⟩ trivial)
      · (refine fin_seq ?_; refine goes_region ?_; apply run_step rfl; (exact stp_move rfl rfl); apply run_step rfl; (exact stp_move rfl rfl); apply run_step rfl; (apply call_gate 85; exact stp_callR hSz (by as_aux_lemma => kernel_rfl) rfl rfl ⟨rfl, trivial⟩ trivial rfl rfl); apply run_step rfl; (exact stp_bin rfl rfl rfl rfl); apply run_step rfl; (exact stp_move rfl rfl))
        refine run_bool 59 rfl (fun h1 => ?_) (fun h1 => ?_)
        · have h1' : i < L := by have := of_decide_eq_true h1; omega
          have gi : (ivals zs)[i]? = some (I6 (iget zs i)) := ivals_get (by omega)
          (apply run_gYes rfl rfl rfl; (exact stp_move rfl rfl); apply run_gYes rfl rfl rfl; (exact stp_move rfl rfl); apply run_gYes rfl rfl rfl; (exact stp_ix (j := i) rfl rfl rfl rfl rfl (by as_aux_lemma => kernel_rfl) rfl h1' hil); apply run_gYes rfl rfl rfl; (exact stp_loadV rfl (by as_aux_lemma => kernel_rfl) rfl rfl rfl (by first | assumption | exact ivals_get (by assumption) | exact irows_get (by assumption) | exact ivals_get (by omega) | exact irows_get (by omega) | rfl)); apply run_gYes rfl rfl rfl; (exact stp_bin rfl rfl rfl rfl); apply run_step rfl; (exact stp_pickT rfl rfl rfl); apply run_step rfl; (exact stp_assign rfl rfl); refine run_nil ?_; refine fin_block ?_; refine fin_seq ?_; refine goes_region ?_; apply run_step rfl; (exact stp_add rfl rfl rfl (by first | exact IntWalk.i64_in _ (by omega) | rfl)); apply run_step rfl; (exact stp_move rfl rfl); refine run_nil ?_)
          exact fin_round (i + 1, pTo zs mask (i + 1), iget zs i != 2) ⟨by omega, rfl, hjn _ hiL fun _ => rfl⟩ (by show L + 1 - (i + 1) < L + 1 - i; omega) (Wk.of ⟨rfl, rfl, rfl, rfl, rfl, rfl, trivial⟩ ⟨rfl, rfl, trivial⟩ trivial)
        · have h1' : ¬ i < L := by have := of_decide_eq_false h1; omega
          (apply run_gNo rfl rfl rfl rfl rfl; apply run_gNo rfl rfl rfl rfl rfl; apply run_gNo rfl rfl rfl rfl rfl; apply run_gNo rfl rfl rfl rfl rfl; apply run_gNo rfl rfl rfl rfl rfl; apply run_step rfl; (exact stp_pickF rfl rfl rfl); apply run_step rfl; (exact stp_assign rfl rfl); refine run_nil ?_; refine fin_block ?_; refine fin_seq ?_; refine goes_region ?_; apply run_step rfl; (exact stp_add rfl rfl rfl (by first | exact IntWalk.i64_in _ (by omega) | rfl)); apply run_step rfl; (exact stp_move rfl rfl); refine run_nil ?_)
          exact fin_round (i + 1, pTo zs mask (i + 1), false) ⟨by omega, rfl, fun h => absurd h (by omega)⟩ (by show L + 1 - (i + 1) < L + 1 - i; omega) (Wk.of ⟨rfl, rfl, rfl, rfl, rfl, rfl, trivial⟩ ⟨rfl, rfl, trivial⟩ trivial)
  · obtain rfl : i = L + 1 := by omega
    have hv : comps zs mask = ps := by unfold comps; rw [hL]; exact hp
    rw [hv]
    (refine goes_exit ?_; refine fin_exit_then ?_; refine fin_exit_then ?_; refine fin_exit_eq ?_; refine fin_seq ?_; refine goes_seq ?_; refine goes_region ?_; apply run_step rfl; (exact stp_move rfl rfl); apply run_step rfl; (exact stp_assign rfl rfl); refine run_nil ?_; refine fin_seq ?_; refine goes_ret ?_)
    exact fin_ret1 (.inl rfl) rfl (.tmp rfl) ⟨rfl, trivial⟩ trivial
end Go.Proofs.Ytnfkhgamnapgmaa
