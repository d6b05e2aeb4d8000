/- A memory of names: structs stored whole, rows laid into rows, nil cells. No program in sight. -/
import Derived.Test.YtljimlejcecleaaGreatDoorPart2
import Derived.Lib.LazyBuf
import Derived.Lib.SliceRun
import Derived.Test.YtljimlejcecleaaGreatDoorProg
import Derived.Test.YtljimlejcecleaaGreatDoorPart1
import Derived.RegionTactic
namespace Go.Proofs.YtljimlejcecleaaGreatDoor
open Go.RowKit

def A1.hasE (x : Nm) : A1 → Bool
  | .esl y _ _ _ | .eptr y _ _ => Nat.beq x y
  | _ => false
def A2.hasE (x : Nm) : A2 → Bool
  | .one a => a.hasE x
  | .agg l => l.any (A1.hasE x)
def AV.hasE (x : Nm) : AV → Bool
  | .s a => a.hasE x
  | .tup l => l.any (A2.hasE x)
def Dat.cutE (x : Nm) : Dat → Dat
  | .flat l => .flat (l.map fun a => bif a.hasE x then .any else a)
  | d => d
/-- whatever looks into a row of x is forgotten -/
def St.cutE (S : St) (x : Nm) : St :=
  { sl := fun t => (S.sl t).bind fun av => bif av.hasE x then none else some av
    ph := fun t => (S.ph t).bind fun av => bif av.hasE x then none else some av
    ch := fun y => (S.ch y).map fun c => { c with d := c.d.cutE x } }
structure RowTurn (η η' : Env) (n : Nm) : Prop where
  h : ∀ y, η'.h y = η.h y
  r : ∀ y, y ≠ n → ∀ i, η'.r y i = η.r y i
theorem Den1.cut {η η' : Env} {n : Nm} {a : A1} {u : Value} (ht : RowTurn η η' n) (hb : a.hasE n = false) (h : Den1 η a u) : Den1 η' a u := by
  cases a with
  | esl x i off m =>
    have hne : x ≠ n := fun e => by subst e; simp [A1.hasE] at hb
    exact ⟨h.1, fun hd he => by rw [ht.r x hne i]; exact h.2 hd (ht.h x ▸ he)⟩
  | eptr x i off =>
    have hne : x ≠ n := fun e => by subst e; simp [A1.hasE] at hb
    exact ⟨h.1, fun hd he => by rw [ht.r x hne i]; exact h.2 hd (ht.h x ▸ he)⟩
  | sl x off m => exact ⟨h.1, fun hd he => h.2 hd (ht.h x ▸ he)⟩
  | ptr x off => exact ⟨h.1, fun hd he => h.2 hd (ht.h x ▸ he)⟩
  | val v => exact h
  | any => exact h
  | clo f xs =>
    obtain ⟨us, h1, h2, h3⟩ := h
    refine ⟨us, h1, h2, fun j p hp => ?_⟩
    obtain ⟨q, hq, hq1, hq2⟩ := h3 j p hp
    exact ⟨q, hq, hq1, fun hd he => hq2 hd (ht.h p.1 ▸ he)⟩
theorem Den2.cut {η η' : Env} {n : Nm} {a : A2} {u : Value} (ht : RowTurn η η' n) (hb : a.hasE n = false) (h : Den2 η a u) : Den2 η' a u := by
  cases a with
  | one a => exact Den1.cut ht hb h
  | agg l =>
    obtain ⟨us, h1, h2, h3⟩ := h
    refine ⟨us, h1, h2, fun j a ha => ?_⟩
    obtain ⟨u', h4, h5⟩ := h3 j a ha
    exact ⟨u', h4, h5.cut ht (by have := List.any_eq_false.1 (show l.any (A1.hasE n) = false from hb) a (List.mem_of_getElem? ha); simpa using this)⟩
theorem Den.cut {η η' : Env} {n : Nm} {a : AV} {u : Value} (ht : RowTurn η η' n) (hb : a.hasE n = false) (h : Den η a u) : Den η' a u := by
  cases a with
  | s a => exact Den2.cut ht hb h
  | tup l =>
    obtain ⟨us, h1, h2, h3⟩ := h
    refine ⟨us, h1, h2, fun j a ha => ?_⟩
    obtain ⟨u', h4, h5⟩ := h3 j a ha
    exact ⟨u', h4, h5.cut ht (by have := List.any_eq_false.1 (show l.any (A2.hasE n) = false from hb) a (List.mem_of_getElem? ha); simpa using this)⟩

section
variable {P : Program} {nt : Nat} {S S' : St} {w0 w : World} {ω0 : Beg} {ω : Own?} {η : Env} {a : Act}
variable {t : Nat} {ty : TypeId} {ps : String} {af : Array Edge} {gd : Option (Nat × Bool)} {x y : Operand} {av : AV}

/-- a chunk of rows is written, and its rows turn -/
theorem SatE.rewrite (h : SatE w0 ω0 nt S η ω a w) {n : Nm} {c' : Ch} {hd : Hd} {r : Nat → Hd} {ω' : Own?} {w' : World} (he : η.h n = some hd) (hk : Calm (S.rm n) ω w ω' w')
    (hc : ChIs { η with r := fun y i => if y = n then r i else η.r y i } ω' w' n hd c') : SatE w0 ω0 nt ((S.cutE n).set n c') { η with r := fun y i => if y = n then r i else η.r y i } ω' a w' := by
  have ht : RowTurn η { η with r := fun y i => if y = n then r i else η.r y i } n := ⟨fun _ => rfl, fun y hy i => if_neg hy⟩
  refine { dfr := h.dfr, tsz := h.tsz, fr := hk.fr h.fr, slots := fun t av hs => ?_, phs := fun t av hs => ?_, mem := ⟨fun y d hy => ?_, fun y hy => ?_⟩ }
  · obtain ⟨h1, h2⟩ := bind_bad hs
    obtain ⟨u, h3, h4⟩ := h.slots t av h1
    exact ⟨u, h3, h4.cut ht h2⟩
  · obtain ⟨h1, h2⟩ := bind_bad hs
    obtain ⟨u, h3, h4⟩ := h.phs t av h1
    exact ⟨u, h3, h4.cut ht h2⟩
  · rw [ch_set] at hy
    by_cases e : y = n
    · subst e
      rw [if_pos rfl] at hy
      obtain rfl := Option.some.inj hy
      exact ⟨hd, he, hc⟩
    · rw [if_neg e] at hy
      simp only [St.cutE, Option.map_eq_some_iff] at hy
      obtain ⟨d0, hd0, rfl⟩ := hy
      obtain ⟨hq, e1, e2⟩ := h.mem.1 y d0 hd0
      refine ⟨hq, e1, e2.1, ?_⟩
      have hl : (d0.d.cutE n).len = d0.d.len := by cases d0.d <;> simp [Dat.cutE, Dat.len]
      show Vec d0.own ω' w' (y, none) hq d0.E (d0.d.cutE n).len (cellsOK _ ω' w' d0.own y (d0.d.cutE n))
      rw [hl]
      have hlive : live (S.rm n) (some (y, none)) := .inr ⟨y, none, d0, rfl, by rw [ch_rm, if_neg e]; exact hd0⟩
      refine e2.2.same hk.same (.inl rfl) hlive fun j u hu => ?_
      cases hdd : d0.d with
      | flat l =>
        rw [hdd] at hu
        intro b hb
        simp only [List.getElem?_map, Option.map_eq_some_iff] at hb
        obtain ⟨b0, hb0, rfl⟩ := hb
        cases hbad : b0.hasE n with
        | true =>
          refine (hu b0 hb0).one fun v hv => ?_
          subst hv; cases hbad
        | false => exact (hu b0 hb0).cut ht hbad
      | vals vs => rw [hdd] at hu; exact hu
      | rows E vss holes =>
        rw [hdd] at hu
        refine ⟨hu.1, fun hj vs hvs => ?_⟩
        obtain ⟨h1, h2, h3⟩ := hu.2 hj vs hvs
        simp only [if_neg e]
        exact ⟨h1, h2, h3.same hk.same (.inl rfl) (.inr ⟨y, some j, d0, rfl, by rw [ch_rm, if_neg e]; exact hd0⟩) fun _ _ h => h⟩
      | mix cs =>
        rw [hdd] at hu
        exact ⟨hu.1, fun c hc => (hu.2 c hc).move (if_neg e) fun _ _ _ _ _ h3 => h3.same hk.same (.inl rfl) (.inr ⟨y, some j, d0, rfl, by rw [ch_rm, if_neg e]; exact hd0⟩) fun _ _ h => h⟩
  · rw [ch_set] at hy
    by_cases e : y = n
    · rw [if_pos e] at hy; cases hy
    · rw [if_neg e] at hy
      simp only [St.cutE, Option.map_eq_none_iff] at hy
      exact h.mem.2 y hy

/-- a struct is stored whole -/
theorem stp_storeAgg {T : TypeId} {n : Nm} {k : Nat} {c : Ch} {l l' : List A1} (hx : S.op x = some (o1 (.ptr n 0))) (hy : S.op y = some (.s (.agg l'))) (hc : S.ch n = some c) (hown : c.own = true) (hd : c.d = .flat l) (hk : l.length = k) (hk' : l'.length = k) (hk0 : Nat.blt 0 k = true)
    (hT : sizeB P T k = true) (h1 : (l'.all fun b => (A2.one b).okB) = true) : Stp P nt ⟨none, .store T x y, ty, ps, af, gd⟩ S (S.set n { c with d := .flat l' }) :=
  Stp.unit rfl fun w0 ω0 η ω a w hs => by
    have hp : Den1 η (.ptr n 0) (a.eval x) := hs.opv hx
    obtain ⟨us, hus, hul, hua⟩ : Den2 η (.agg l') (a.eval y) := hs.opv hy
    obtain ⟨h, e1, e2, e3⟩ := hs.chunk hc
    obtain ⟨b, o, g1, g2⟩ := hp.2 h e1
    rw [hown, hd] at e3
    have hk0' : 0 < k := by simpa using hk0
    rcases e3 with ⟨_, _, h0⟩ | ⟨b', o', cs, f1, f2, f3, f4, f5, f6, f7⟩
    · have h0 : l.length = 0 := h0; omega
    rw [g1] at f1; injection f1 with f1; injection f1 with f1 f1'; subst f1 f1'
    have f5 : l.length ≤ h.c * h.k := f5
    have hone : ∀ v ∈ us.toList, v.oneCell' = true := by
      intro v hv
      obtain ⟨j, hj, rfl⟩ := List.getElem_of_mem hv
      have hjl : j < l'.length := by rw [← hul]; simpa using hj
      obtain ⟨u', hu', hdu⟩ := hua j l'[j] (List.getElem?_eq_getElem hjl)
      have : u' = us.toList[j] := by
        have h2 : us[j]? = some us.toList[j] := by rw [← Array.getElem?_toList, List.getElem?_eq_getElem hj]
        rw [hu'] at h2; exact Option.some.inj h2
      rw [← this]
      exact hdu.one fun v hv => A2.okB_spec (List.all_eq_true.1 h1 _ (List.getElem_mem hjl)) v (by rw [hv])
    have hst := run_storeCells_at P b o c.E us.toList 0 cs w f3 (by simp [hul]; omega) hone
    simp only [Nat.add_zero] at hst
    refine ⟨w.setRow b (cs.toList.take o ++ us.toList ++ cs.toList.drop (o + us.toList.length)).toArray, by simp only [execOp, g2, hus]; simp [Instr.storeAt, Instr.sureAddr, storeVar, sizeB_run hT, Value.cells, hul, hk']; rw [hst]; simp [hul, hk'], η, ω, hs.write e1 (c' := { c with d := .flat l' }) ⟨rfl, rfl, rfl, by simp, fun b2 hb2 hl => ⟨setRow_other w b b2 _ (fun e => ?_), rfl⟩⟩ ⟨e2, ?_⟩⟩
    · subst e
      rcases hl with h0 | ⟨y, j, c2, h0, h2⟩
      · rw [f2] at h0; cases h0
      · rw [f2] at h0; simp at h0; rw [← h0.1, ch_rm, if_pos rfl] at h2; cases h2
    · show Vec c.own ω _ (n, none) h c.E l'.length (cellsOK η ω _ c.own n (.flat l'))
      rw [hown]
      have htl : (cs.toList.take o).length = o := by rw [List.length_take, Array.length_toList]; omega
      refine .inr ⟨b, o, _, g1, f2, setRow_heap w b cs _ c.E _ f3, ?_, by omega, f6, fun j hj => ?_⟩
      · simp only [List.size_toArray, List.length_append, htl, List.length_drop, Array.length_toList, hul]; omega
      · obtain ⟨u', hu', hdu⟩ := hua j l'[j] (List.getElem?_eq_getElem hj)
        refine ⟨u', ?_, fun b1 hb1 => ?_⟩
        · simp only [List.getElem?_toArray]
          have := get_app3 (a := cs.toList.take o) (b := us.toList) (c := cs.toList.drop (o + us.toList.length)) (j := j) (v := u') (by rw [Array.getElem?_toList]; exact hu')
          rw [htl] at this
          exact this
        · rw [List.getElem?_eq_getElem hj] at hb1
          obtain rfl := Option.some.inj hb1; exact hdu
end
end Go.Proofs.YtljimlejcecleaaGreatDoor

/- A memory of names: a region that draws its order. Its first operations read, or make memory; whatever comes behind waits for all of them. No program in sight. -/
namespace Go.Proofs.YtljimlejcecleaaGreatDoor
open Go.RowKit

structure Add where
  t : Nat
  av : AV
  news : Option (Nm × Ch)
def St.newO (S : St) : Option (Nm × Ch) → St
  | none => S
  | some (x, c) => S.new x c
def St.add (S : St) (A : Add) : St := (S.newO A.news).put A.t A.av
def memN (l : List Nat) (x : Nat) : Bool := l.any (Nat.beq x)
theorem memN_iff {l : List Nat} {x : Nat} : memN l x = true ↔ x ∈ l := by
  unfold memN; rw [List.any_eq_true]
  exact ⟨fun ⟨y, h1, h2⟩ => beq_true h2 ▸ h1, fun h => ⟨x, h, by simp⟩⟩
def noK : Nm → Bool := fun _ => false
/-- no name of the list, no slot of the list -/
def St.clear (S : St) (ds nms : List Nat) : St :=
  { sl := fun t => bif memN ds t then none else (S.sl t).bind fun av => bif av.bad (memN nms) noK then none else some av
    ph := fun t => (S.ph t).bind fun av => bif av.bad (memN nms) noK then none else some av
    ch := fun x => bif memN nms x then none else (S.ch x).map (Ch.clean (memN nms) noK) }
def lkT (ℓ : Nat → Bool) : Nat → List Add → Nat → Option AV
  | _, [], _ => none
  | k, A :: r, t => bif Nat.beq t A.t && ℓ k then some A.av else lkT ℓ (k + 1) r t
def Add.chAt (A : Add) (x : Nm) : Option Ch := match A.news with
  | some (y, c) => bif Nat.beq x y then some c else none
  | none => none
def lkN (ℓ : Nat → Bool) : Nat → List Add → Nm → Option Ch
  | _, [], _ => none
  | k, A :: r, x => match (bif ℓ k then A.chAt x else none) with
    | some c => some c
    | none => lkN ℓ (k + 1) r x
/-- the state in which the operations ℓ have been done -/
def St.part (S : St) (ℓ : Nat → Bool) (adds : List Add) : St :=
  { sl := fun t => match lkT ℓ 0 adds t with | some av => some av | none => S.sl t
    ph := S.ph
    ch := fun x => match lkN ℓ 0 adds x with | some c => some c | none => S.ch x }
structure St.le (S S1 : St) : Prop where
  sl : ∀ t av, S.sl t = some av → S1.sl t = some av
  ch : ∀ x c, S.ch x = some c → S1.ch x = some c
theorem St.le.op {S S1 : St} (h : S.le S1) {x : Operand} {av : AV} (hx : S.op x = some av) : S1.op x = some av := by
  cases x with
  | tmp t => exact h.sl t av hx
  | const v => exact hx
  | func f => exact hx
  | global g => cases hx

theorem lkT_some {ℓ : Nat → Bool} : ∀ {l : List Add} {k t : Nat} {av : AV}, lkT ℓ k l t = some av → ∃ j A, l[j]? = some A ∧ ℓ (k + j) = true ∧ A.t = t ∧ A.av = av
  | [], _, _, _, h => by cases h
  | A :: r, k, t, av, h => by
    unfold lkT at h
    cases hb : (Nat.beq t A.t && ℓ k) with
    | true =>
      rw [hb] at h; simp only [cond_true, Option.some.injEq] at h
      simp only [Bool.and_eq_true] at hb
      exact ⟨0, A, rfl, hb.2, (beq_true hb.1).symm, h⟩
    | false =>
      rw [hb] at h
      obtain ⟨j, B, h1, h2, h3⟩ := lkT_some (l := r) (k := k + 1) h
      exact ⟨j + 1, B, by simpa using h1, by rw [show k + (j + 1) = k + 1 + j by omega]; exact h2, h3⟩
theorem lkT_at {ℓ : Nat → Bool} : ∀ {l : List Add} {k j : Nat} {A : Add}, l[j]? = some A → ℓ (k + j) = true → (l.map (·.t)).Nodup → lkT ℓ k l A.t = some A.av
  | [], _, _, _, h, _, _ => by simp at h
  | B :: r, k, 0, A, h, hl, _ => by
    simp at h; subst h
    unfold lkT
    simp at hl
    simp [hl]
  | B :: r, k, j + 1, A, h, hl, hn => by
    have h' : r[j]? = some A := by simpa using h
    simp only [List.map_cons, List.nodup_cons] at hn
    have hne : A.t ≠ B.t := fun e => hn.1 (List.mem_map.2 ⟨A, List.mem_of_getElem? h', e⟩)
    unfold lkT
    rw [beq_ne hne]
    exact lkT_at h' (by rw [show k + 1 + j = k + (j + 1) by omega]; exact hl) hn.2
theorem lkN_some {ℓ : Nat → Bool} : ∀ {l : List Add} {k : Nat} {x : Nm} {c : Ch}, lkN ℓ k l x = some c → ∃ j A, l[j]? = some A ∧ ℓ (k + j) = true ∧ A.news = some (x, c)
  | [], _, _, _, h => by cases h
  | A :: r, k, x, c, h => by
    unfold lkN at h
    split at h
    · rename_i c' hc
      obtain rfl := Option.some.inj h
      cases hl : ℓ k with
      | false => rw [hl] at hc; cases hc
      | true =>
        rw [hl] at hc
        simp only [cond_true, Add.chAt] at hc
        cases hn : A.news with
        | none => rw [hn] at hc; cases hc
        | some p =>
          obtain ⟨y, d⟩ := p
          rw [hn] at hc
          simp only at hc
          cases hb : Nat.beq x y with
          | false => rw [hb] at hc; cases hc
          | true => rw [hb] at hc; simp at hc; subst hc; exact ⟨0, A, rfl, hl, by rw [hn, beq_true hb]⟩
    · obtain ⟨j, B, h1, h2, h3⟩ := lkN_some (l := r) (k := k + 1) h
      exact ⟨j + 1, B, by simpa using h1, by rw [show k + (j + 1) = k + 1 + j by omega]; exact h2, h3⟩
def newNms (l : List Add) : List Nm := l.filterMap fun A => A.news.map (·.1)
theorem lkN_at {ℓ : Nat → Bool} : ∀ {l : List Add} {k j : Nat} {A : Add} {x : Nm} {c : Ch}, l[j]? = some A → ℓ (k + j) = true → A.news = some (x, c) → (newNms l).Nodup → lkN ℓ k l x = some c
  | [], _, _, _, _, _, h, _, _, _ => by simp at h
  | B :: r, k, 0, A, x, c, h, hl, ha, _ => by
    simp at h; subst h
    unfold lkN
    simp at hl
    simp [hl, Add.chAt, ha]
  | B :: r, k, j + 1, A, x, c, h, hl, ha, hn => by
    have h' : r[j]? = some A := by simpa using h
    have hx : x ∈ newNms r := List.mem_filterMap.2 ⟨A, List.mem_of_getElem? h', by rw [ha]; rfl⟩
    unfold lkN
    have hB : B.chAt x = none := by
      unfold Add.chAt
      cases hb : B.news with
      | none => rfl
      | some p =>
        obtain ⟨y, d⟩ := p
        have hne : x ≠ y := fun e => by
          subst e
          have : newNms (B :: r) = x :: newNms r := by simp [newNms, hb]
          rw [this, List.nodup_cons] at hn
          exact hn.1 hx
        simp [beq_ne hne]
    have hn' : (newNms r).Nodup := by
      unfold newNms at hn ⊢
      rw [List.filterMap_cons] at hn
      split at hn
      · exact hn
      · exact (List.nodup_cons.1 hn).2
    have : (bif ℓ k then B.chAt x else none) = none := by rw [hB]; cases ℓ k <;> rfl
    rw [this]
    exact lkN_at h' (by rw [show k + 1 + j = k + (j + 1) by omega]; exact hl) ha hn'

theorem A1.forget_id {a : A1} {x : Nm} (h : a.has x = false) : a.forget x = a := by unfold A1.forget; rw [h]; rfl
theorem Ch.forget_id {c : Ch} {x : Nm} (h : x ∉ c.names) : c.forget x = c := by
  unfold Ch.forget Dat.forget
  obtain ⟨ow, E, k, d⟩ := c
  cases d with
  | flat l =>
    have : l.map (A1.forget x) = l := by
      conv => rhs; rw [← List.map_id l]
      refine List.map_congr_left fun a ha => A1.forget_id ?_
      cases hx : a.has x with
      | false => rfl
      | true => exact absurd (Ch.names_mem (c := ⟨ow, E, k, .flat l⟩) rfl ha hx) h
    simp [this]
  | vals vs => rfl
  | rows F vss hs => rfl
  | mix cs => rfl
theorem bad_names {o : Nm → Bool} {a : A1} {y : Nm} (hb : a.bad o noK = false) (hy : y ∈ a.names) : o y = false := by
  cases a with
  | val v => cases hy
  | any => cases hy
  | sl z _ _ => simp [A1.names] at hy; subst hy; exact hb
  | ptr z _ => simp [A1.names] at hy; subst hy; have hb : (o y && !noK y) = false := hb; simpa [noK] using hb
  | esl z _ _ _ => simp [A1.names] at hy; subst hy; exact hb
  | eptr z _ _ => simp [A1.names] at hy; subst hy; exact hb
  | clo f xs =>
    simp only [A1.names, List.mem_map] at hy
    obtain ⟨p, hp, rfl⟩ := hy
    have := List.any_eq_false.1 (show xs.any (fun q => o q.1 && !noK q.1) = false from hb) p hp
    simpa [noK] using this
theorem bad_names2 {o : Nm → Bool} {a : A2} {y : Nm} (hb : a.bad o noK = false) (hy : y ∈ a.names) : o y = false := by
  cases a with
  | one a => exact bad_names hb hy
  | agg l =>
    obtain ⟨a, ha, hy⟩ := List.mem_flatMap.1 hy
    exact bad_names (by have := List.any_eq_false.1 (show l.any (A1.bad o noK) = false from hb) a ha; simpa using this) hy
theorem bad_names3 {o : Nm → Bool} {a : AV} {y : Nm} (hb : a.bad o noK = false) (hy : y ∈ a.names) : o y = false := by
  cases a with
  | s a => exact bad_names2 hb hy
  | tup l =>
    obtain ⟨a, ha, hy⟩ := List.mem_flatMap.1 hy
    exact bad_names2 (by have := List.any_eq_false.1 (show l.any (A2.bad o noK) = false from hb) a ha; simpa using this) hy
theorem names_clean {o : Nm → Bool} {c : Ch} {y : Nm} (h : y ∈ (c.clean o noK).names) : o y = false := by
  obtain ⟨ow, E, k, d⟩ := c
  cases d with
  | flat l =>
    simp only [Ch.clean, Dat.clean, Ch.names, List.mem_flatMap, List.mem_map] at h
    obtain ⟨a', ⟨a, ha, rfl⟩, hy⟩ := h
    cases hx : a.bad o noK with
    | true => rw [hx] at hy; cases hy
    | false => rw [hx] at hy; exact bad_names hx hy
  | vals vs => cases h
  | rows F vss hs => cases h
  | mix cs => cases h

def Add.names (A : Add) : List Nm := A.av.names ++ (match A.news with | some (_, c) => c.names | none => [])
/-- whoever names what another operation of the region makes waits for it -/
def mentionB (cls : List (List Nat)) (adds : List Add) : Bool :=
  adds.zipIdx.all fun p => p.1.names.all fun y => adds.zipIdx.all fun q => match q.1.news with
    | some (x, _) => !(Nat.beq x y) || Nat.beq q.2 p.2 || memN (cls.getD p.2 []) q.2
    | none => true
theorem mentionB_spec {cls : List (List Nat)} {adds : List Add} (h : mentionB cls adds = true) {i j : Nat} {A B : Add} {x : Nm} {c : Ch} (hi : adds[i]? = some A) (hj : adds[j]? = some B) (hB : B.news = some (x, c)) (hx : x ∈ A.names) : j = i ∨ j ∈ cls.getD i [] := by
  have h1 := List.all_eq_true.1 h (A, i) (by rw [List.mem_zipIdx_iff_getElem?]; exact hi)
  have h2 := List.all_eq_true.1 h1 x hx
  have h3 := List.all_eq_true.1 h2 (B, j) (by rw [List.mem_zipIdx_iff_getElem?]; exact hj)
  simp only [hB, Bool.or_eq_true] at h3
  rcases h3 with (h3 | h3) | h3
  · simp at h3
  · exact .inl (beq_true h3)
  · exact .inr (memN_iff.1 h3)
end Go.Proofs.YtljimlejcecleaaGreatDoor

/- A memory of names: a region that draws its order, walked once. No program in sight. -/
namespace Go.Proofs.YtljimlejcecleaaGreatDoor
open Go.RowKit

section
variable {P : Program} {nt : Nat} {w0 w : World} {ω0 : Beg} {S S1 : St} {Q : Exit → Act → World → Prop} {a : Act}

def lkTR (ℓ : Nat → Bool) (t : Nat) : List Add → Option AV
  | [] => none
  | A :: r => bif Nat.beq t A.t && ℓ r.length then some A.av else lkTR ℓ t r
def lkNR (ℓ : Nat → Bool) (x : Nm) : List Add → Option Ch
  | [] => none
  | A :: r => match (bif ℓ r.length then A.chAt x else none) with
    | some c => some c
    | none => lkNR ℓ x r
/-- the same with the last operation in front -/
def St.partR (S : St) (ℓ : Nat → Bool) (done : List Add) : St :=
  { sl := fun t => match lkTR ℓ t done with | some av => some av | none => S.sl t
    ph := S.ph
    ch := fun x => match lkNR ℓ x done with | some c => some c | none => S.ch x }
theorem lkTR_some {ℓ : Nat → Bool} {t : Nat} {av : AV} : ∀ {l : List Add}, lkTR ℓ t l = some av → ∃ j A, l.reverse[j]? = some A ∧ ℓ j = true ∧ A.t = t ∧ A.av = av
  | [], h => by cases h
  | A :: r, h => by
    unfold lkTR at h
    cases hb : (Nat.beq t A.t && ℓ r.length) with
    | true =>
      rw [hb] at h; simp only [cond_true, Option.some.injEq] at h
      simp only [Bool.and_eq_true] at hb
      exact ⟨r.length, A, by simp, hb.2, (beq_true hb.1).symm, h⟩
    | false =>
      rw [hb] at h
      obtain ⟨j, B, h1, h2⟩ := lkTR_some (l := r) h
      have : j < r.length := by have := (List.getElem?_eq_some_iff.1 h1).1; simpa using this
      exact ⟨j, B, by rw [List.reverse_cons, List.getElem?_append_left (by simpa using this)]; exact h1, h2⟩
theorem lkNR_some {ℓ : Nat → Bool} {x : Nm} {c : Ch} : ∀ {l : List Add}, lkNR ℓ x l = some c → ∃ j A, l.reverse[j]? = some A ∧ ℓ j = true ∧ A.news = some (x, c)
  | [], h => by cases h
  | A :: r, h => by
    unfold lkNR at h
    split at h
    · rename_i c' hc
      obtain rfl := Option.some.inj h
      cases hl : ℓ r.length with
      | false => rw [hl] at hc; cases hc
      | true =>
        rw [hl] at hc
        simp only [cond_true, Add.chAt] at hc
        cases hn : A.news with
        | none => rw [hn] at hc; cases hc
        | some p =>
          obtain ⟨y, d⟩ := p
          rw [hn] at hc
          simp only at hc
          cases hb : Nat.beq x y with
          | false => rw [hb] at hc; cases hc
          | true => rw [hb] at hc; simp at hc; subst hc; exact ⟨r.length, A, by simp, hl, by rw [hn, beq_true hb]⟩
    · obtain ⟨j, B, h1, h2⟩ := lkNR_some (l := r) h
      have : j < r.length := by have := (List.getElem?_eq_some_iff.1 h1).1; simpa using this
      exact ⟨j, B, by rw [List.reverse_cons, List.getElem?_append_left (by simpa using this)]; exact h1, h2⟩

/-- the operations, one behind the other in the text's order: each may look at what it depends on alone -/
inductive Draw (P : Program) (nt : Nat) (S : St) (cls : List (List Nat)) (sk : List Nat) : List Oper → List Add → List Add → Prop where
  | nil {done : List Add} : Draw P nt S cls sk [] done done
  | skip {o : Oper} {rest : List Oper} {done all : List Add} (A : Add) (hs : memN sk done.length = true) (k : Draw P nt S cls sk rest (A :: done) all) : Draw P nt S cls sk (o :: rest) done all
  | cons {o : Oper} {rest : List Oper} {done all : List Add} (A : Add) (hg : o.guard = none)
      (h : ∀ S1, (S.partR (memN (cls.getD done.length [])) done).le S1 → Stp P nt o S1 (S1.add A)) (k : Draw P nt S cls sk rest (A :: done) all) : Draw P nt S cls sk (o :: rest) done all
theorem Draw.spec {cls : List (List Nat)} {sk : List Nat} {ops : List Oper} {done all : List Add} (h : Draw P nt S cls sk ops done all) : (∃ r, all.reverse = done.reverse ++ r ∧ r.length = ops.length) ∧ ∀ (i : Nat) (o : Oper), ops[i]? = some o → memN sk (done.length + i) = false →
    ∃ A, all.reverse[done.length + i]? = some A ∧ o.guard = none ∧ ∀ S1, (S.partR (memN (cls.getD (done.length + i) [])) (all.reverse.take (done.length + i)).reverse).le S1 → Stp P nt o S1 (S1.add A) := by
  induction h with
  | nil => exact ⟨⟨[], by simp⟩, fun i o h => by simp at h⟩
  | @skip o rest done all A hs k ih =>
    obtain ⟨⟨r, hr, hl⟩, h2⟩ := ih
    refine ⟨⟨A :: r, by rw [hr]; simp, by simp [hl]⟩, fun i o' hi hsk => ?_⟩
    cases i with
    | zero => rw [Nat.add_zero, hs] at hsk; cases hsk
    | succ i =>
      have e : (A :: done).length + i = done.length + (i + 1) := by simp; omega
      rw [← e] at hsk ⊢
      exact h2 i o' (by simpa using hi) hsk
  | @cons o rest done all A hg h k ih =>
    obtain ⟨⟨r, hr, hl⟩, h2⟩ := ih
    refine ⟨⟨A :: r, by rw [hr]; simp, by simp [hl]⟩, fun i o' hi hsk => ?_⟩
    cases i with
    | zero =>
      simp at hi; subst hi
      refine ⟨A, by rw [hr]; simp, hg, fun S1 hS => h S1 ?_⟩
      have : (all.reverse.take (done.length + 0)).reverse = done := by rw [hr]; simp
      rw [this] at hS
      exact hS
    | succ i =>
      have e : (A :: done).length + i = done.length + (i + 1) := by simp; omega
      rw [← e] at hsk ⊢
      exact h2 i o' (by simpa using hi) hsk

/-- what the first nA operations depend on; all others wait for them -/
def clsB (ops : Array Oper) (nA : Nat) (sk : List Nat) (cls : List (List Nat)) : Bool :=
  Nat.ble nA ops.size && (List.range ops.size).all fun i => match ops[i]? with
    | some o => (Nat.ble nA i || memN sk i || o.after.all fun e => !Region.binds .any e || (Nat.blt e.on i && !memN sk e.on)) && ((cls.getD i []).all fun j => o.after.any fun e => Region.binds .any e && (Nat.beq j e.on || memN (cls.getD e.on []) j)) &&
        ((Nat.blt i nA && !memN sk i) || (List.range nA).all fun j => memN sk j || memN (cls.getD i []) j) && (Nat.ble nA i || (cls.getD i []).all fun j => Nat.blt j i)
    | none => true
structure ClsOK (ops : Array Oper) (nA : Nat) (sk : List Nat) (cls : List (List Nat)) : Prop where
  size : nA ≤ ops.size
  less : ∀ i o, ops[i]? = some o → i < nA → memN sk i = false → ∀ e ∈ o.after, Region.binds .any e = true → e.on < i ∧ memN sk e.on = false
  dep : ∀ i o, ops[i]? = some o → ∀ j ∈ cls.getD i [], ∃ e ∈ o.after, Region.binds .any e = true ∧ (j = e.on ∨ j ∈ cls.getD e.on [])
  late : ∀ i o, ops[i]? = some o → (nA ≤ i ∨ memN sk i = true) → ∀ j, j < nA → memN sk j = false → j ∈ cls.getD i []
  lt : ∀ i o, ops[i]? = some o → i < nA → ∀ j ∈ cls.getD i [], j < i
theorem clsB_spec {ops : Array Oper} {nA : Nat} {sk : List Nat} {cls : List (List Nat)} (h : clsB ops nA sk cls = true) : ClsOK ops nA sk cls := by
  unfold clsB at h
  simp only [Bool.and_eq_true, Nat.ble_eq] at h
  obtain ⟨h0, h⟩ := h
  have key : ∀ i o, ops[i]? = some o → _ := fun i o ho => by
    have hi : i < ops.size := (Array.getElem?_eq_some_iff.1 ho).1
    have h1 := List.all_eq_true.1 h i (List.mem_range.2 hi)
    simp only [ho, Bool.and_eq_true, Bool.or_eq_true] at h1
    exact h1
  refine ⟨h0, fun i o ho hi hsk e he hb => ?_, fun i o ho j hj => ?_, fun i o ho hi j hj hsk => ?_, fun i o ho hi j hj => ?_⟩
  · rcases (key i o ho).1.1.1 with (h1 | h1) | h1
    · have := Nat.le_of_ble_eq_true h1; omega
    · rw [hsk] at h1; cases h1
    · have := Array.all_eq_true_iff_forall_mem.1 h1 e he
      simp [hb] at this; exact this
  · have := List.all_eq_true.1 (key i o ho).1.1.2 j hj
    obtain ⟨e, he, h2⟩ := Array.any_eq_true'.1 this
    simp only [Bool.and_eq_true, Bool.or_eq_true] at h2
    exact ⟨e, he, h2.1, h2.2.imp (fun h => beq_true h) (fun h => memN_iff.1 h)⟩
  · rcases (key i o ho).1.2 with h1 | h1
    · exfalso
      have h2 : i < nA := by simpa using h1.1
      have h3 : memN sk i = false := by simpa using h1.2
      rcases hi with h4 | h4
      · omega
      · rw [h3] at h4; cases h4
    · have h2 := List.all_eq_true.1 h1 j (List.mem_range.2 hj)
      simp only [Bool.or_eq_true, hsk, Bool.false_eq_true, false_or] at h2
      exact memN_iff.1 h2
  · rcases (key i o ho).2 with h1 | h1
    · have := Nat.le_of_ble_eq_true h1; omega
    · exact (by have := List.all_eq_true.1 h1 j hj; simpa using this)

def missing (sk : List Nat) (L : Array Bool) : Nat → Nat
  | 0 => 0
  | k + 1 => missing sk L k + if L.getD k false = true ∨ memN sk k = true then 0 else 1
theorem missing_set_lo (sk : List Nat) (L : Array Bool) (i : Nat) : ∀ k, k ≤ i → missing sk (L.setIfInBounds i true) k = missing sk L k
  | 0, _ => rfl
  | k + 1, h => by simp only [missing]; rw [missing_set_lo sk L i k (by omega), getD_set_ne false (by omega)]
theorem missing_set {sk : List Nat} {L : Array Bool} {i : Nat} (hi : i < L.size) (hL : L.getD i false = false) (hs : memN sk i = false) : ∀ k, i < k → missing sk L k = missing sk (L.setIfInBounds i true) k + 1
  | 0, h => by omega
  | k + 1, h => by
    simp only [missing]
    by_cases e : k = i
    · subst e
      rw [missing_set_lo sk L k k (Nat.le_refl _), hL, hs]
      simp [hi]
    · rw [missing_set hi hL hs k (by omega), getD_set_ne false (by omega)]; omega
theorem missing_zero {sk : List Nat} {L : Array Bool} : ∀ {k}, missing sk L k = 0 → ∀ j, j < k → memN sk j = false → L.getD j false = true
  | 0, _, j, h, _ => by omega
  | k + 1, h0, j, h, hs => by
    simp only [missing] at h0
    by_cases e : j = k
    · subst e
      by_cases hb : L.getD j false = true
      · exact hb
      · rw [if_neg (by rw [hs]; simpa using hb)] at h0; omega
    · exact missing_zero (k := k) (by omega) j (by omega) hs
theorem missing_full {sk : List Nat} {L : Array Bool} : ∀ {k}, (∀ j, j < k → memN sk j = false → L.getD j false = true) → missing sk L k = 0
  | 0, _ => rfl
  | k + 1, h => by
    simp only [missing]
    rw [missing_full fun j hj => h j (by omega), if_pos]
    cases hs : memN sk k with
    | true => exact .inr rfl
    | false => exact .inl (h k (by omega) hs)
theorem missing_least {sk : List Nat} {L : Array Bool} : ∀ {k}, missing sk L k ≠ 0 → ∃ j, j < k ∧ memN sk j = false ∧ L.getD j false = false ∧ ∀ i, i < j → memN sk i = false → L.getD i false = true
  | 0, h => absurd rfl h
  | k + 1, h => by
    by_cases h0 : missing sk L k = 0
    · simp only [missing, h0] at h
      have h1 : ¬ (L.getD k false = true ∨ memN sk k = true) := fun e => by rw [if_pos e] at h; simp at h
      refine ⟨k, by omega, ?_, ?_, missing_zero h0⟩
      · cases hs : memN sk k with
        | false => rfl
        | true => exact absurd (.inr hs) h1
      · cases hb : L.getD k false with
        | false => rfl
        | true => exact absurd (.inl hb) h1
    · obtain ⟨j, h1, h2⟩ := missing_least h0
      exact ⟨j, by omega, h2⟩

/-- the checks on what the operations make -/
structure AddsOK (adds : List Add) (cls : List (List Nat)) (ds nms : List Nat) : Prop where
  t : (adds.map (·.t)).Nodup
  n : (newNms adds).Nodup
  ds : ∀ A ∈ adds, A.t ∈ ds
  nms : ∀ A ∈ adds, ∀ x c, A.news = some (x, c) → x ∈ nms
  ment : mentionB cls adds = true
theorem clear_sl {S : St} {ds nms : List Nat} {t : Nat} {av : AV} (h : (S.clear ds nms).sl t = some av) : t ∉ ds ∧ av.bad (memN nms) noK = false ∧ S.sl t = some av := by
  have h : (bif memN ds t then none else (S.sl t).bind fun av => bif av.bad (memN nms) noK then none else some av) = some av := h
  cases hb : memN ds t with
  | true => rw [hb] at h; cases h
  | false =>
    rw [hb] at h
    obtain ⟨h1, h2⟩ := bind_bad (b := AV.bad (memN nms) noK) h
    exact ⟨fun e => (by rw [memN_iff.2 e] at hb; cases hb), h2, h1⟩
theorem clear_ch {S : St} {ds nms : List Nat} {x : Nm} {c : Ch} (h : (S.clear ds nms).ch x = some c) : x ∉ nms ∧ ∃ c0, S.ch x = some c0 ∧ c = c0.clean (memN nms) noK := by
  have h : (bif memN nms x then none else (S.ch x).map (Ch.clean (memN nms) noK)) = some c := h
  cases hb : memN nms x with
  | true => rw [hb] at h; cases h
  | false =>
    rw [hb] at h
    simp only [cond_false, Option.map_eq_some_iff] at h
    obtain ⟨c0, h1, h2⟩ := h
    exact ⟨fun e => (by rw [memN_iff.2 e] at hb; cases hb), c0, h1, h2.symm⟩
theorem part_le {S : St} {ds nms : List Nat} {adds adds' : List Add} {cls : List (List Nat)} (ok : AddsOK adds cls ds nms) {ℓ1 ℓ2 : Nat → Bool} (hsub : ∀ (j : Nat) (A : Add), adds'[j]? = some A → adds[j]? = some A) (hl : ∀ (j : Nat) (A : Add), adds'[j]? = some A → ℓ1 j = true → ℓ2 j = true) :
    ((S.clear ds nms).part ℓ1 adds').le ((S.clear ds nms).part ℓ2 adds) := by
  constructor
  · intro t av h
    have h : (match lkT ℓ1 0 adds' t with | some av => some av | none => (S.clear ds nms).sl t) = some av := h
    show (match lkT ℓ2 0 adds t with | some av => some av | none => (S.clear ds nms).sl t) = some av
    split at h
    · rename_i av' h1
      obtain rfl := Option.some.inj h
      obtain ⟨j, A, h2, h3, rfl, rfl⟩ := lkT_some h1
      rw [Nat.zero_add] at h3
      have := lkT_at (ℓ := ℓ2) (k := 0) (hsub j A h2) (by rw [Nat.zero_add]; exact hl j A h2 h3) ok.t
      rw [this]
    · split
      · rename_i av' h1
        obtain ⟨j, A, h2, h3, rfl, rfl⟩ := lkT_some h1
        exact absurd (ok.ds A (List.mem_of_getElem? h2)) (clear_sl h).1
      · exact h
  · intro x c h
    have h : (match lkN ℓ1 0 adds' x with | some c => some c | none => (S.clear ds nms).ch x) = some c := h
    show (match lkN ℓ2 0 adds x with | some c => some c | none => (S.clear ds nms).ch x) = some c
    split at h
    · rename_i c' h1
      obtain rfl := Option.some.inj h
      obtain ⟨j, A, h2, h3, h4⟩ := lkN_some h1
      rw [Nat.zero_add] at h3
      have := lkN_at (ℓ := ℓ2) (k := 0) (hsub j A h2) (by rw [Nat.zero_add]; exact hl j A h2 h3) h4 ok.n
      rw [this]
    · split
      · rename_i c' h1
        obtain ⟨j, A, h2, h3, h4⟩ := lkN_some h1
        exact absurd (ok.nms A (List.mem_of_getElem? h2) x _ h4) (clear_ch h).1
      · exact h
theorem partR_le {S : St} {ds nms : List Nat} {adds done : List Add} {cls : List (List Nat)} (ok : AddsOK adds cls ds nms) {ℓ1 ℓ2 : Nat → Bool} (hsub : ∀ (j : Nat) (A : Add), done.reverse[j]? = some A → adds[j]? = some A) (hl : ∀ (j : Nat) (A : Add), done.reverse[j]? = some A → ℓ1 j = true → ℓ2 j = true) :
    ((S.clear ds nms).partR ℓ1 done).le ((S.clear ds nms).part ℓ2 adds) := by
  constructor
  · intro t av h
    have h : (match lkTR ℓ1 t done with | some av => some av | none => (S.clear ds nms).sl t) = some av := h
    show (match lkT ℓ2 0 adds t with | some av => some av | none => (S.clear ds nms).sl t) = some av
    split at h
    · rename_i av' h1
      obtain rfl := Option.some.inj h
      obtain ⟨j, A, h2, h3, rfl, rfl⟩ := lkTR_some h1
      have := lkT_at (ℓ := ℓ2) (k := 0) (hsub j A h2) (by rw [Nat.zero_add]; exact hl j A h2 h3) ok.t
      rw [this]
    · split
      · rename_i av' h1
        obtain ⟨j, A, h2, h3, rfl, rfl⟩ := lkT_some h1
        exact absurd (ok.ds A (List.mem_of_getElem? h2)) (clear_sl h).1
      · exact h
  · intro x c h
    have h : (match lkNR ℓ1 x done with | some c => some c | none => (S.clear ds nms).ch x) = some c := h
    show (match lkN ℓ2 0 adds x with | some c => some c | none => (S.clear ds nms).ch x) = some c
    split at h
    · rename_i c' h1
      obtain rfl := Option.some.inj h
      obtain ⟨j, A, h2, h3, h4⟩ := lkNR_some h1
      have := lkN_at (ℓ := ℓ2) (k := 0) (hsub j A h2) (by rw [Nat.zero_add]; exact hl j A h2 h3) h4 ok.n
      rw [this]
    · split
      · rename_i c' h1
        obtain ⟨j, A, h2, h3, h4⟩ := lkN_some h1
        exact absurd (ok.nms A (List.mem_of_getElem? h2) x _ h4) (clear_ch h).1
      · exact h
theorem St.le.wk {S S1 : St} (h : S.le S1) (hp : ∀ t av, S.ph t = some av → S1.ph t = some av) : Wk S1 S := Wk.less h.sl h.ch hp

theorem wk_clear (S : St) (ds nms : List Nat) : Wk S (S.clear ds nms) := by
  refine ⟨fun w0 ω0 nt a w ⟨η, ω, h⟩ => ?_⟩
  let η' : Env := { η with h := fun x => bif memN nms x then none else η.h x }
  have ht : Turn η η' (memN nms) noK := fun y => by
    cases hb : memN nms y with
    | true => exact .inl (by simp only [η', hb]; rfl)
    | false => exact .inr (.inl ⟨by simp only [η', hb]; rfl, fun _ => rfl⟩)
  refine ⟨η', ω, { dfr := h.dfr, tsz := h.tsz, fr := h.fr, slots := fun t av hs => ?_, phs := fun t av hs => ?_, mem := ⟨fun y c hy => ?_, fun y hy => ?_⟩ }⟩
  · obtain ⟨_, h2, h1⟩ := clear_sl hs
    obtain ⟨u, h3, h4⟩ := h.slots t av h1
    exact ⟨u, h3, h4.turn ht h2⟩
  · obtain ⟨h1, h2⟩ := bind_bad (b := AV.bad (memN nms) noK) hs
    obtain ⟨u, h3, h4⟩ := h.phs t av h1
    exact ⟨u, h3, h4.turn ht h2⟩
  · obtain ⟨h1, c0, h2, rfl⟩ := clear_ch hy
    obtain ⟨hd, h3, h4⟩ := h.mem.1 y c0 h2
    have hb : memN nms y = false := by
      cases hb : memN nms y with
      | false => rfl
      | true => exact absurd (memN_iff.1 hb) h1
    exact ⟨hd, by simp only [η', hb]; exact h3, ChIs.turn (η := η) (p := fun _ => True) (Same.refl _ _ _) trivial (fun _ => trivial) (fun _ => rfl) ht h4⟩
  · have hy : (bif memN nms y then none else (S.ch y).map (Ch.clean (memN nms) noK)) = none := hy
    cases hb : memN nms y with
    | true => simp only [η', hb]; rfl
    | false =>
      rw [hb] at hy
      simp only [cond_false, Option.map_eq_none_iff] at hy
      simp only [η', hb]
      exact h.mem.2 y hy

/-- one operation more -/
theorem wk_add {S : St} {ds nms : List Nat} {adds : List Add} {cls : List (List Nat)} (ok : AddsOK adds cls ds nms) {ℓ : Nat → Bool} {i : Nat} {A : Add} (hi : adds[i]? = some A) (hL : ℓ i = false) (hcl : ∀ j, ℓ j = true → i ∉ cls.getD j []) :
    Wk (((S.clear ds nms).part ℓ adds).add A) ((S.clear ds nms).part (fun j => Nat.beq j i || ℓ j) adds) := by
  -- whoever is done does not name what A makes
  have hno : ∀ (j : Nat) (B : Add), adds[j]? = some B → ℓ j = true → ∀ x c, A.news = some (x, c) → x ∉ B.names := fun j B hj hlj x c hx hm => by
    rcases mentionB_spec ok.ment hj hi hx hm with h1 | h1
    · subst h1; rw [hL] at hlj; cases hlj
    · exact hcl j hlj h1
  have hat : A ∈ adds := List.mem_of_getElem? hi
  refine Wk.less (fun t av h => ?_) (fun x c h => ?_) fun t av h => ?_
  · have h : (match lkT (fun j => Nat.beq j i || ℓ j) 0 adds t with | some av => some av | none => (S.clear ds nms).sl t) = some av := h
    show ((((S.clear ds nms).part ℓ adds).newO A.news).put A.t A.av).sl t = some av
    rw [sl_put]
    by_cases e : t = A.t
    · subst e
      rw [lkT_at (ℓ := fun j => Nat.beq j i || ℓ j) (k := 0) hi (by simp) ok.t] at h
      rw [if_pos rfl]; exact h
    · rw [if_neg e]
      have h1 : ((S.clear ds nms).part ℓ adds).sl t = some av ∧ ∀ x c, A.news = some (x, c) → av.has x = false := by
        split at h
        · rename_i av' h1
          obtain rfl := Option.some.inj h
          obtain ⟨j, B, h2, h3, rfl, rfl⟩ := lkT_some h1
          rw [Nat.zero_add] at h3
          have hji : j ≠ i := fun e' => by subst e'; rw [hi] at h2; obtain rfl := Option.some.inj h2; exact e rfl
          have hlj : ℓ j = true := by simpa [hji] using h3
          refine ⟨?_, fun x c hx => ?_⟩
          · show (match lkT ℓ 0 adds B.t with | some av => some av | none => (S.clear ds nms).sl B.t) = some B.av
            rw [lkT_at (ℓ := ℓ) (k := 0) h2 (by rw [Nat.zero_add]; exact hlj) ok.t]
          · cases hh : B.av.has x with
            | false => rfl
            | true => exact absurd (List.mem_append_left _ (AV.has_names hh)) (hno j B h2 hlj x c hx)
        · rename_i h0
          refine ⟨?_, fun x c hx => ?_⟩
          · show (match lkT ℓ 0 adds t with | some av => some av | none => (S.clear ds nms).sl t) = some av
            cases h1 : lkT ℓ 0 adds t with
            | none => exact h
            | some av' =>
              obtain ⟨j, B, h2, h3, rfl, rfl⟩ := lkT_some h1
              rw [lkT_at (ℓ := fun j => Nat.beq j i || ℓ j) (k := 0) h2 (by rw [Nat.zero_add] at h3; simp [h3]) ok.t] at h0
              cases h0
          · cases hh : av.has x with
            | false => rfl
            | true =>
              have h5 := bad_names3 (clear_sl h).2.1 (AV.has_names hh)
              rw [memN_iff.2 (ok.nms A hat x c hx)] at h5; cases h5
      cases hn : A.news with
      | none => exact h1.1
      | some p =>
        obtain ⟨x, c⟩ := p
        show (((S.clear ds nms).part ℓ adds).new x c).sl t = some av
        unfold St.new
        simp only [h1.1, Option.bind_some, h1.2 x c hn, cond_false]
  · have h : (match lkN (fun j => Nat.beq j i || ℓ j) 0 adds x with | some c => some c | none => (S.clear ds nms).ch x) = some c := h
    show ((((S.clear ds nms).part ℓ adds).newO A.news).put A.t A.av).ch x = some c
    show (((S.clear ds nms).part ℓ adds).newO A.news).ch x = some c
    have old : (∀ c', A.news ≠ some (x, c')) → ((S.clear ds nms).part ℓ adds).ch x = some c ∧ ∀ y d, A.news = some (y, d) → y ∉ c.names := fun hx => by
      split at h
      · rename_i c' h1
        obtain rfl := Option.some.inj h
        obtain ⟨j, B, h2, h3, h4⟩ := lkN_some h1
        rw [Nat.zero_add] at h3
        have hji : j ≠ i := fun e' => by subst e'; rw [hi] at h2; obtain rfl := Option.some.inj h2; exact hx _ h4
        have hlj : ℓ j = true := by simpa [hji] using h3
        refine ⟨?_, fun y d hy hm => hno j B h2 hlj y d hy (List.mem_append_right _ (by rw [h4]; exact hm))⟩
        show (match lkN ℓ 0 adds x with | some c => some c | none => (S.clear ds nms).ch x) = _
        rw [lkN_at (ℓ := ℓ) (k := 0) h2 (by rw [Nat.zero_add]; exact hlj) h4 ok.n]
      · rename_i h0
        refine ⟨?_, fun y d hy hm => ?_⟩
        · show (match lkN ℓ 0 adds x with | some c => some c | none => (S.clear ds nms).ch x) = some c
          cases h1 : lkN ℓ 0 adds x with
          | none => exact h
          | some c' =>
            obtain ⟨j, B, h2, h3, h4⟩ := lkN_some h1
            rw [lkN_at (ℓ := fun j => Nat.beq j i || ℓ j) (k := 0) h2 (by rw [Nat.zero_add] at h3; simp [h3]) h4 ok.n] at h0
            cases h0
        · obtain ⟨_, c0, _, rfl⟩ := clear_ch h
          have h5 := names_clean hm
          rw [memN_iff.2 (ok.nms A hat y d hy)] at h5; cases h5
    cases hn : A.news with
    | none => exact (old fun c' => by rw [hn]; simp).1
    | some p =>
      obtain ⟨y, d⟩ := p
      show (((S.clear ds nms).part ℓ adds).new y d).ch x = some c
      rw [ch_new]
      by_cases e : x = y
      · subst e
        rw [if_pos rfl]
        rw [lkN_at (ℓ := fun j => Nat.beq j i || ℓ j) (k := 0) hi (by simp) hn ok.n] at h
        exact h
      · rw [if_neg e]
        obtain ⟨h1, h2⟩ := old fun c' he => by rw [hn] at he; simp at he; exact e he.1.symm
        rw [h1, Option.map_some, Ch.forget_id (h2 y d hn)]
  · have h : (S.clear ds nms).ph t = some av := h
    show (((S.clear ds nms).part ℓ adds).newO A.news).ph t = some av
    cases hn : A.news with
    | none => exact h
    | some p =>
      obtain ⟨y, d⟩ := p
      show (((S.clear ds nms).part ℓ adds).new y d).ph t = some av
      have h' : ((S.clear ds nms).part ℓ adds).ph t = some av := h
      unfold St.new
      obtain ⟨_, h2⟩ := bind_bad (b := AV.bad (memN nms) noK) h
      have hh : av.has y = false := by
        cases hh : av.has y with
        | false => rfl
        | true =>
          have h5 := bad_names3 h2 (AV.has_names hh)
          rw [memN_iff.2 (ok.nms A hat y d hn)] at h5; cases h5
      simp only [h', Option.bind_some, hh, cond_false]

theorem sat_drew (h : Sat w0 ω0 nt S a w) : Sat w0 ω0 nt S a { w with drawn := w.drawn + 1 } := by
  obtain ⟨η, ω, h⟩ := h
  exact ⟨η, ω, { dfr := h.dfr, tsz := h.tsz, slots := h.slots, phs := h.phs, fr := ⟨h.fr.os, h.fr.tape, h.fr.output, h.fr.size, h.fr.block⟩
                 mem := ⟨fun x c hx => by
                   obtain ⟨hd, h1, h2⟩ := h.mem.1 x c hx
                   exact ⟨hd, h1, ChIs.same (η := η) (ω := ω) (w := w) (w' := { w with drawn := w.drawn + 1 }) (p := fun _ => True) ⟨Nat.le_refl _, fun _ _ _ => ⟨rfl, rfl⟩⟩ trivial (fun _ => trivial) (fun _ => rfl) (fun l _ a _ z _ => .inr ⟨rfl, fun _ => rfl⟩) h2⟩, h.mem.2⟩ }⟩

/-- what comes behind the first operations, whatever is to come -/
structure Rest (P : Program) (w0 : World) (ω0 : Beg) (nt : Nat) (ops : Array Oper) (Q : Exit → Act → World → Prop) (n : Nat) (L : Array Bool) (S : St) : Prop where
  go : ∀ a w, Sat w0 ω0 nt S a w → wpAny P .any ops Q n L a w

def doneL (nA : Nat) (sk : List Nat) (n : Nat) : Array Bool := ((List.range n).map fun j => Nat.blt j nA && !memN sk j).toArray
theorem doneL_at {nA n j : Nat} {sk : List Nat} (h : j < n) : (doneL nA sk n)[j]? = some (Nat.blt j nA && !memN sk j) := by
  unfold doneL; simp [h]
theorem draw_main {l : List Oper} {nA : Nat} {sk : List Nat} {cls : List (List Nat)} {ds nms : List Nat} {adds done : List Add} (hcl : ClsOK l.toArray nA sk cls) (hdr : Draw P nt (S.clear ds nms) cls sk (l.take nA) [] done) (hdn : done.reverse = adds) (ok : AddsOK adds cls ds nms)
    (hk : Rest P w0 ω0 nt l.toArray Q (l.length - missing sk #[] nA) (doneL nA sk l.length) ((S.clear ds nms).part (fun j => !memN sk j) adds)) :
    ∀ (d : Nat) (L : Array Bool) (a : Act) (w : World), missing sk L nA = d → L.size = l.length → (∀ j, L.getD j false = true → j < nA ∧ memN sk j = false) → (∀ i, L.getD i false = true → ∀ j ∈ cls.getD i [], L.getD j false = true) →
      Sat w0 ω0 nt ((S.clear ds nms).part (fun j => L.getD j false) adds) a w → wpAny P .any l.toArray Q (l.length - missing sk #[] nA + d) L a w := by
  have hsz : nA ≤ l.length := by have := hcl.size; simpa using this
  obtain ⟨⟨r, hr, hrl⟩, hob⟩ := hdr.spec
  rw [hdn] at hr hob
  have hal : adds.length = nA := by rw [hr]; simp [hrl]; omega
  have hfull : ∀ (L : Array Bool) (i : Nat), i ∈ Region.ready .any l.toArray L → (∀ i, L.getD i false = true → ∀ j ∈ cls.getD i [], L.getD j false = true) → (∃ o, l.toArray[i]? = some o ∧ L.getD i true = false) ∧ ∀ j ∈ cls.getD i [], L.getD j false = true := by
    intro L i hi hclosed
    obtain ⟨h0, o, ho, he⟩ := mem_ready.1 hi
    refine ⟨⟨o, ho, h0⟩, fun j hj => ?_⟩
    obtain ⟨e, hem, hb, hje⟩ := hcl.dep i o ho j hj
    have h1 := he e hem hb
    rcases hje with rfl | hje
    · exact h1
    · exact hclosed e.on h1 j hje
  intro d
  induction d with
  | zero =>
    intro L a w hm hs hsub hclosed hsat
    have hall := missing_zero hm
    have hL : L = doneL nA sk l.length := by
      apply Array.ext
      · simp [hs, doneL]
      · intro j h1 h2
        have h3 : L[j]? = some L[j] := Array.getElem?_eq_getElem h1
        have h4 := doneL_at (nA := nA) (sk := sk) (n := l.length) (j := j) (by omega)
        rw [Array.getElem?_eq_getElem h2] at h4
        rw [Option.some.inj h4]
        cases hb : L[j] with
        | true =>
          have := hsub j (by simp [h1, hb])
          simp [this.1, this.2]
        | false =>
          by_cases hj : j < nA
          · cases hsk : memN sk j with
            | true => simp
            | false =>
              have := hall j hj hsk
              simp [h1, hb] at this
          · simp [hj]
    refine hk.go a w ((St.le.wk (part_le (ℓ1 := fun j => !memN sk j) (ℓ2 := fun j => L.getD j false) ok (fun _ _ h => h) fun j A hj hsk => ?_) fun _ _ h => h).go _ _ _ a w hsat) |> fun h => by rw [← hL] at h; exact h
    have hjl : j < adds.length := (List.getElem?_eq_some_iff.1 hj).1
    exact hall j (by omega) (by simpa using hsk)
  | succ d ih =>
    intro L a w hm hs hsub hclosed hsat
    refine ⟨fun hnil => ?_, fun i hi => ?_⟩
    · exfalso
      obtain ⟨j, hj, hjs', hjf, hlo⟩ := missing_least (k := nA) (by omega : missing sk L nA ≠ 0)
      have hjl : j < l.length := by omega
      have hjs : j < L.size := by omega
      have : j ∈ Region.ready .any l.toArray L := by
        refine mem_ready.2 ⟨?_, l[j], by simp [hjl], fun e he hb => ?_⟩
        · simp [hjs] at hjf ⊢
          exact hjf
        · have h5 := hcl.less j l[j] (by simp [hjl]) hj hjs' e he hb
          exact hlo e.on h5.1 h5.2
      rw [hnil] at this; cases this
    · obtain ⟨⟨o, ho, hi0⟩, hdep⟩ := hfull L i hi hclosed
      have hil : i < l.length := by have := (Array.getElem?_eq_some_iff.1 ho).1; simpa using this
      have his : i < L.size := by omega
      have hif : L.getD i false = false := by simp [his] at hi0 ⊢; exact hi0
      have hnl : ¬ (nA ≤ i ∨ memN sk i = true) := fun h => by
        have := missing_full (sk := sk) (L := L) (k := nA) fun j hj hsk => hdep j (hcl.late i o ho h j hj hsk)
        omega
      have hiA : i < nA := by
        rcases Nat.lt_or_ge i nA with h | h
        · exact h
        · exact absurd (.inl h) hnl
      have hisk : memN sk i = false := by
        cases hsk : memN sk i with
        | false => rfl
        | true => exact absurd (.inr hsk) hnl
      have hot : (l.take nA)[i]? = some o := by rw [List.getElem?_take, if_pos hiA]; simpa using ho
      obtain ⟨A, hA, hg, hstp⟩ := hob i o hot (by simpa using hisk)
      simp only [List.length_nil, Nat.zero_add] at hA hstp
      have hle : ((S.clear ds nms).partR (memN (cls.getD i [])) (adds.take i).reverse).le ((S.clear ds nms).part (fun j => L.getD j false) adds) := partR_le ok (fun j B hj => by
          rw [List.reverse_reverse] at hj
          rw [List.getElem?_take] at hj; split at hj
          · exact hj
          · cases hj) fun j B _ hj => hdep j (memN_iff.1 hj)
      have hst := (hstp _ hle).go w0 ω0 a w Q hsat
      unfold wpOp
      simp only [ho]
      rw [if_pos (by simp [Region.wanted, hg])]
      refine .inl (Oper.wp_mono (fun a' w' hsat' => ?_) hst)
      have hsat2 := (wk_add ok hA hif fun j hj hm' => by have := hclosed j hj i hm'; rw [hif] at this; cases this).go _ _ _ a' w' hsat'
      have hnew : ∀ j, (L.setIfInBounds i true).getD j false = (Nat.beq j i || L.getD j false) := fun j => by
        by_cases e : j = i
        · subst e; simp [his]
        · rw [getD_set_ne false (fun e' => e e'.symm), beq_ne e, Bool.false_or]
      refine ih (L.setIfInBounds i true) a' w' ?_ (by simp [hs]) (fun j hj => ?_) (fun j hj k hk' => ?_) ?_
      · have := missing_set his hif hisk nA hiA; omega
      · rw [hnew] at hj
        by_cases e : j = i
        · rw [e]; exact ⟨hiA, hisk⟩
        · rw [beq_ne e, Bool.false_or] at hj; exact hsub j hj
      · rw [hnew] at hj ⊢
        by_cases e : j = i
        · subst e; rw [hdep k hk']; simp
        · rw [beq_ne e, Bool.false_or] at hj; rw [hclosed j hj k hk']; simp
      · have : (fun j => (L.setIfInBounds i true).getD j false) = fun j => (Nat.beq j i || L.getD j false) := funext hnew
        rw [this]; exact hsat2

/-- the checks on what the operations make, all in one -/
def nodupB : List Nat → Bool
  | [] => true
  | x :: r => !memN r x && nodupB r
theorem nodupB_spec : ∀ {l : List Nat}, nodupB l = true → l.Nodup
  | [], _ => List.nodup_nil
  | x :: r, h => by
    simp only [nodupB, Bool.and_eq_true, Bool.not_eq_true'] at h
    exact List.nodup_cons.2 ⟨fun hm => (by rw [memN_iff.2 hm] at h; cases h.1), nodupB_spec h.2⟩
def addsB (adds : List Add) (cls : List (List Nat)) (ds nms : List Nat) : Bool :=
  nodupB (adds.map (·.t)) && nodupB (newNms adds) && (adds.all fun A => memN ds A.t) && ((newNms adds).all fun x => memN nms x) && mentionB cls adds
theorem addsB_spec {adds : List Add} {cls : List (List Nat)} {ds nms : List Nat} (h : addsB adds cls ds nms = true) : AddsOK adds cls ds nms := by
  simp only [addsB, Bool.and_eq_true] at h
  obtain ⟨⟨⟨⟨h1, h2⟩, h3⟩, h4⟩, h5⟩ := h
  exact ⟨nodupB_spec h1, nodupB_spec h2, fun A hA => memN_iff.1 (List.all_eq_true.1 h3 A hA), fun A hA x c hx => memN_iff.1 (List.all_eq_true.1 h4 x (List.mem_filterMap.2 ⟨A, hA, by rw [hx]; rfl⟩)), h5⟩

theorem goes_draw {id : Nat} {l : List Oper} (nA : Nat) (sk : List Nat) (cls : List (List Nat)) (ds nms : List Nat) {done : List Add} (hm : P.follows .mixedOrders = true) (hcl : clsB l.toArray nA sk cls = true) (hdr : Draw P nt (S.clear ds nms) cls sk (l.take nA) [] done) (ok : addsB done.reverse cls ds nms = true)
    (hk : Rest P w0 ω0 nt l.toArray Q (l.length - missing sk #[] nA) (doneL nA sk l.length) ((S.clear ds nms).partR (fun j => !memN sk j) done)) : Goes P w0 ω0 nt S (.region id l.toArray true) Q := by
  have hc := clsB_spec hcl
  have hsz : nA ≤ l.length := by have := hc.size; simpa using this
  have hk' : Rest P w0 ω0 nt l.toArray Q (l.length - missing sk #[] nA) (doneL nA sk l.length) ((S.clear ds nms).part (fun j => !memN sk j) done.reverse) :=
    ⟨fun a w hs => hk.go a w ((St.le.wk (partR_le (addsB_spec ok) (fun _ _ h => h) fun _ _ _ h => h) fun _ _ h => h).go _ _ _ a w hs)⟩
  have hle : ∀ k, missing sk #[] k ≤ k := fun k => by
    induction k with
    | zero => exact Nat.le_refl _
    | succ k ih => simp only [missing]; split <;> omega
  refine ⟨fun a w hs => wp_region_any hm ?_⟩
  have hfin := draw_main hc hdr rfl (addsB_spec ok) hk' (missing sk #[] nA) (Array.replicate l.length false) a { w with drawn := w.drawn + 1 } ?_ (by simp) (fun j hj => ?_) (fun i hi => ?_) ?_
  · have := hle nA
    rw [show l.length - missing sk #[] nA + missing sk #[] nA = l.length by omega] at hfin
    simpa using hfin
  · have : ∀ k, k ≤ l.length → missing sk (Array.replicate l.length false) k = missing sk #[] k := fun k => by
      induction k with
      | zero => intro _; rfl
      | succ k ih =>
        intro hk
        simp only [missing]
        rw [ih (by omega)]
        have : (Array.replicate l.length false).getD k false = false := by simp [show k < l.length by omega]
        rw [this]; rfl
    exact this nA hsz
  · exfalso
    by_cases h : j < l.length
    · simp [h] at hj
    · simp [h] at hj
  · exfalso
    by_cases h : i < l.length
    · simp [h] at hi
    · simp [h] at hi
  · have h1 := (wk_clear S ds nms).go _ _ _ a _ (sat_drew hs)
    have hf : ∀ j, (Array.replicate l.length false).getD j false = false := fun j => by
      by_cases h : j < l.length <;> simp [h]
    refine (Wk.less (S := S.clear ds nms) (S' := (S.clear ds nms).part (fun j => (Array.replicate l.length false).getD j false) done.reverse) (fun t av h => ?_) (fun x c h => ?_) fun _ _ h => h).go _ _ _ a _ h1
    · have h : (match lkT (fun j => (Array.replicate l.length false).getD j false) 0 done.reverse t with | some av => some av | none => (S.clear ds nms).sl t) = some av := h
      split at h
      · rename_i av' h2
        obtain ⟨j, A, _, h3, _⟩ := lkT_some h2
        rw [hf] at h3; cases h3
      · exact h
    · have h : (match lkN (fun j => (Array.replicate l.length false).getD j false) 0 done.reverse x with | some c => some c | none => (S.clear ds nms).ch x) = some c := h
      split at h
      · rename_i av' h2
        obtain ⟨j, A, _, h3, _⟩ := lkN_some h2
        rw [hf] at h3; cases h3
      · exact h

theorem Oper.wp_mono2 {o : Oper} {K K' : Act → World → Prop} {Q' : Exit → Act → World → Prop} (h : ∀ a w, K a w → K' a w) (hq : ∀ e a w, Q e a w → Q' e a w) (hh : o.wp P a w K Q) : o.wp P a w K' Q' := by
  unfold Oper.wp at *
  generalize (execOp a.eval o).run P w = r at *
  cases r with
  | ok n w' =>
    cases n <;> simp only [Oper.upon] at hh ⊢ <;>
      first
        | exact h _ _ hh
        | exact Calls.mono hh (fun e w'' he => by cases e <;> first | exact h _ _ he | exact hq _ _ _ he | (obtain ⟨a, w, hl⟩ := he; exact ⟨a, w, hq _ _ _ hl⟩))
        | exact Rows.mono hh (fun _ _ he => h _ _ he)
  | halt x w' => cases x <;> simp only [Oper.upon] at hh ⊢ <;> first | exact hh | exact hq _ _ _ hh
theorem wpAny_mono {ops : Array Oper} {Q' : Exit → Act → World → Prop} (hq : ∀ e a w, Q e a w → Q' e a w) : ∀ (n : Nat) (L : Array Bool) (a : Act) (w : World), wpAny P .any ops Q n L a w → wpAny P .any ops Q' n L a w
  | 0, _, _, _, h => ⟨h.1, hq _ _ _ h.2⟩
  | n + 1, L, a, w, h => ⟨fun h0 => hq _ _ _ (h.1 h0), fun i hi => by
    have h1 := h.2 i hi
    unfold wpOp at h1 ⊢
    split
    · rename_i ho; simp only [ho] at h1; exact wpAny_mono hq n _ _ _ h1
    · rename_i o ho
      simp only [ho] at h1
      split
      · rename_i hw
        simp only [hw, if_true] at h1
        rcases h1 with h1 | ⟨h1, a', w', h2⟩
        · exact .inl (Oper.wp_mono2 (fun a w => wpAny_mono hq n _ a w) hq h1)
        · exact .inr ⟨h1, a', w', hq _ _ _ h2⟩
      · rename_i hw; simp only [hw] at h1; exact wpAny_mono hq n _ _ _ h1⟩
/-- the orders meet again -/
theorem rest_join {N : Nat} {ops : Array Oper} {L : Array Bool} (S' : St) (h : Rest P w0 ω0 nt ops (fun e a w => e = .normal ∧ Sat w0 ω0 nt S' a w) N L S) (k : Fin w0 ω0 nt S' .normal Q) : Rest P w0 ω0 nt ops Q N L S :=
  ⟨fun a w hs => wpAny_mono (fun e a w he => by obtain ⟨rfl, h2⟩ := he; exact k.go a w h2) _ _ _ _ (h.go a w hs)⟩
theorem rest_done {n : Nat} {ops : Array Oper} {L : Array Bool} (hr : Region.ready .any ops L = []) (h : Fin w0 ω0 nt S .normal Q) : Rest P w0 ω0 nt ops Q n L S := ⟨fun a w hs => wpAny_done hr (h.go a w hs) n⟩
theorem rest_one {N : Nat} (i : Nat) {ops : Array Oper} {L : Array Bool} {o : Oper} (hN : Nat.blt 0 N = true) (hr : Region.ready .any ops L = [i]) (ho : ops[i]? = some o) (hg : o.guard = none) (h : Stp P nt o S S1) (k : Rest P w0 ω0 nt ops Q (N - 1) (L.setIfInBounds i true) S1) : Rest P w0 ω0 nt ops Q N L S := by
  have hN' : 0 < N := by simpa using hN
  obtain ⟨n, rfl⟩ : ∃ n, N = n + 1 := ⟨N - 1, by omega⟩
  exact ⟨fun a w hs => wpAny_all hr (by simp) fun i' hi' => by
    simp at hi'; subst hi'
    unfold wpOp
    simp only [ho]
    rw [if_pos (by simp [Region.wanted, hg])]
    exact .inl (Oper.wp_mono (fun a' w' h' => k.go a' w' h') (h.go w0 ω0 a w Q hs))⟩
theorem rest_two {N : Nat} (i j : Nat) {ops : Array Oper} {L : Array Bool} {o o' : Oper} {S2 : St} (hN : Nat.blt 0 N = true) (hr : Region.ready .any ops L = [i, j]) (ho : ops[i]? = some o) (ho' : ops[j]? = some o') (hg : o.guard = none) (hg' : o'.guard = none) (h : Stp P nt o S S1) (h' : Stp P nt o' S S2)
    (k : Rest P w0 ω0 nt ops Q (N - 1) (L.setIfInBounds i true) S1) (k' : Rest P w0 ω0 nt ops Q (N - 1) (L.setIfInBounds j true) S2) : Rest P w0 ω0 nt ops Q N L S := by
  have hN' : 0 < N := by simpa using hN
  obtain ⟨n, rfl⟩ : ∃ n, N = n + 1 := ⟨N - 1, by omega⟩
  exact ⟨fun a w hs => wpAny_all hr (by simp) fun i' hi' => by
    simp at hi'
    rcases hi' with rfl | rfl
    · unfold wpOp
      simp only [ho]
      rw [if_pos (by simp [Region.wanted, hg])]
      exact .inl (Oper.wp_mono (fun a' w' h' => k.go a' w' h') (h.go w0 ω0 a w Q hs))
    · unfold wpOp
      simp only [ho']
      rw [if_pos (by simp [Region.wanted, hg'])]
      exact .inl (Oper.wp_mono (fun a' w' h' => k'.go a' w' h') (h'.go w0 ω0 a w Q hs))⟩
end
end Go.Proofs.YtljimlejcecleaaGreatDoor

/- A memory of names: the steps of a region that draws its order. No program in sight. -/
namespace Go.Proofs.YtljimlejcecleaaGreatDoor
open Go.RowKit

section
variable {P : Program} {nt : Nat} {w0 w : World} {ω0 : Beg} {S S1 : St} {Q : Exit → Act → World → Prop} {cls : List (List Nat)} {sk : List Nat} {o : Oper} {rest : List Oper} {done all : List Add}
theorem Stp.wk {S2 S3 : St} (h : Stp P nt o S S2) (k : Wk S2 S3) : Stp P nt o S S3 :=
  ⟨fun w0 ω0 a w Q hs => Oper.wp_mono (fun a' w' h' => k.go _ _ _ a' w' h') (h.go w0 ω0 a w Q hs)⟩
theorem draw_put {t : Nat} {av : AV} (hg : o.guard = none) (h : ∀ S1, (S.partR (memN (cls.getD done.length [])) done).le S1 → Stp P nt o S1 (S1.put t av)) (k : Draw P nt S cls sk rest (⟨t, av, none⟩ :: done) all) : Draw P nt S cls sk (o :: rest) done all := .cons ⟨t, av, none⟩ hg h k
theorem draw_new {t : Nat} {av : AV} {x : Nm} {c : Ch} (hg : o.guard = none) (h : ∀ S1, (S.partR (memN (cls.getD done.length [])) done).le S1 → Stp P nt o S1 ((S1.new x c).put t av)) (k : Draw P nt S cls sk rest (⟨t, av, some (x, c)⟩ :: done) all) : Draw P nt S cls sk (o :: rest) done all := .cons ⟨t, av, some (x, c)⟩ hg h k
theorem bad_nil {k : Nm → Bool} (a : A1) : a.bad (inL []) k = false := by
  cases a <;> first | rfl | skip
  rename_i f xs
  show xs.any (fun p => inL [] p.1 && !k p.1) = false
  induction xs with
  | nil => rfl
  | cons p r ih => simp [inL, lk] at ih ⊢
theorem bad_nil3 {k : Nm → Bool} (a : AV) : a.bad (inL []) k = false := by
  have h2 : ∀ b : A2, b.bad (inL []) k = false := fun b => by
    cases b with
    | one b => exact bad_nil b
    | agg l => exact List.any_eq_false.2 fun b _ => by rw [bad_nil b]; simp
  cases a with
  | s b => exact h2 b
  | tup l => exact List.any_eq_false.2 fun b _ => by rw [h2 b]; simp
theorem clean_nil {k : Nm → Bool} (c : Ch) : c.clean (inL []) k = c := by
  obtain ⟨ow, E, kk, d⟩ := c
  unfold Ch.clean Dat.clean
  cases d with
  | flat l =>
    have : (l.map fun a => bif a.bad (inL []) k then A1.any else a) = l := by
      conv => rhs; rw [← List.map_id l]
      exact List.map_congr_left fun a _ => by rw [bad_nil a]; rfl
    simp only [this]
  | vals vs => rfl
  | rows F vss hs => rfl
  | mix cs => rfl
/-- a call that takes nothing and makes nothing leaves the state as it is -/
theorem wk_after0 {ins : List (Nm × Ch)} {t : Nat} {res : AV} (hro : (ins.all fun p => !p.2.own) = true) : Wk ((S.after ins [] []).putO (some t) res) (S.put t res) := by
  have hc : ∀ x, consB ins x = false := fun x => by
    unfold consB
    cases h : lk x ins with
    | none => rfl
    | some c => have := List.all_eq_true.1 hro _ (lk_mem h); simpa using this
  refine Wk.less (fun t' av h => ?_) (fun x c h => ?_) fun t' av h => ?_
  · rw [sl_put] at h
    show ((S.after ins [] []).put t res).sl t' = some av
    rw [sl_put]
    by_cases e : t' = t
    · rw [if_pos e] at h ⊢; exact h
    · rw [if_neg e] at h ⊢
      show ((S.sl t').bind fun av => bif av.bad (inL []) (memB []) then none else some av) = some av
      rw [h, Option.bind_some, bad_nil3]; rfl
  · show (match lk x [] with | some c => some c | none => bif consB ins x then none else (S.ch x).map (Ch.clean (inL []) (memB []))) = some c
    have h : S.ch x = some c := h
    simp only [lk, hc, cond_false, h, Option.map_some, clean_nil]
  · have h : S.ph t' = some av := h
    show ((S.ph t').bind fun av => bif av.bad (inL []) (memB []) then none else some av) = some av
    rw [h, Option.bind_some, bad_nil3]; rfl
/-- an arm for a call of f alone -/
theorem call_gate {S2 : St} (f : FuncId) {d : Option Nat} {xs : Array Operand} {ts : Array TypeId} {ty : TypeId} {ps : String} {af : Array Edge} {gd : Option (Nat × Bool)} (h : Stp P nt ⟨d, .call { callee := .value (.func f), args := xs, argTypes := ts }, ty, ps, af, gd⟩ S S2) :
    Stp P nt ⟨d, .call { callee := .value (.func f), args := xs, argTypes := ts }, ty, ps, af, gd⟩ S S2 := h
/-- a call that only reads -/
theorem stp_callR {f : FuncId} {xs : Array Operand} {ts : Array TypeId} {t : Nat} {ty : TypeId} {ps : String} {af : Array Edge} {gd : Option (Nat × Bool)} {ins : List (Nm × Ch)} {args args' : List AV} {res : AV} {back : List (Nat × AV)}
    (hfc : FC P f ins args [] res back) (hf : goFnB P f = true) (ht : Nat.blt t nt = true) (hx' : opL S xs.toList = some args') (hto : allTo args' args) (hin : allIn S ins) (hro : (ins.all fun p => !p.2.own) = true) (hnr : (res.names.all (inL [])) = true) :
    Stp P nt ⟨some t, .call { callee := .value (.func f), args := xs, argTypes := ts }, ty, ps, af, gd⟩ S (S.put t res) :=
  (stp_call (kp := []) hfc hf (by simp [ht]) hx' hto hin trivial hnr rfl).wk (wk_after0 hro)
end
end Go.Proofs.YtljimlejcecleaaGreatDoor

/- A memory of names: everyday forms of alloc and append. No program in sight. -/
namespace Go.Proofs.YtljimlejcecleaaGreatDoor
open Go.RowKit


section
variable {P : Program} {nt : Nat} {S S' : St} {w0 w : World} {ω0 : Beg} {ω : Own?} {η : Env} {a : Act}
variable {t : Nat} {ty : TypeId} {ps : String} {af : Array Edge} {gd : Option (Nat × Bool)} {x y : Operand} {av : AV}
theorem stp_allocZ {T : TypeId} (zs : List Value) (ht : Nat.blt t nt = true) (hz : ((P.info? T).bind (·.zero)).map (fun v => v.cells.toList) = some zs) :
    Stp P nt ⟨some t, .alloc T, ty, ps, af, gd⟩ S ((S.new t ⟨true, T, zs.length, .flat (zs.map .val)⟩).put t (o1 (.ptr t 0))) := by

  simp only [Option.map_eq_some_iff, Option.bind_eq_some_iff] at hz
  obtain ⟨z, ⟨i, hi, hz⟩, rfl⟩ := hz
  have := stp_alloc (P := P) (nt := nt) (S := S) (t := t) (ty := ty) (ps := ps) (af := af) (gd := gd) ht hi hz
  simpa using this
theorem stp_lit1I {T E : Nat} {x0 : Operand} {z0 : Int} (ht : Nat.blt t nt = true) (hT : elZ P T E 1 = true) (hx : S.op x0 = some (vv (I6 z0))) :
    Stp P nt ⟨some t, .buildSlice T 1 #[(0, x0)], ty, ps, af, gd⟩ S ((S.new t ⟨true, E, 1, .vals (ivals [z0])⟩).put t (o1 (.sl t 0 1))) :=
  Stp.of _ fun w0 ω0 η ω a w hs => by
    obtain ⟨i, z, k1, k2, k3, k4, k5, k6⟩ := elZ_spec hT
    have h0 := hs.opV hx
    refine ⟨.slice (some ⟨w.heap.size, 0, none⟩) 1 1, w.alloc (.cells #[I6 z0] E), ?_, ?_⟩
    · simp [execOp, Instr.buildSlice, run_underlying k1, sizeOf, typeInfo, k2, k3, zeroValue, k5, Instr.fill, newRow, h0, Value.cells, range1]
    · have hal := hs.alloc (x := t) (c := ⟨true, E, 1, .vals (ivals [z0])⟩) (cs := #[I6 z0]) (r := fun _ => ⟨none, 0, 1⟩) (n := 1) rfl (by simp) (by simp [Dat.len, ivals]) (by simp [maxLen]) fun j hj => by
        have hj0 : j = 0 := by simp [Dat.len, ivals] at hj; omega
        subst hj0
        exact ⟨I6 z0, by simp, rfl⟩
      exact ⟨_, _, hal.putV (by simpa using ht) den_newsl⟩
theorem stp_lit2I {T E : Nat} {x0 x1 : Operand} {z0 z1 : Int} (ht : Nat.blt t nt = true) (hT : elZ P T E 1 = true) (hx0 : S.op x0 = some (vv (I6 z0))) (hx1 : S.op x1 = some (vv (I6 z1))) :
    Stp P nt ⟨some t, .buildSlice T 2 #[(0, x0), (1, x1)], ty, ps, af, gd⟩ S ((S.new t ⟨true, E, 1, .vals (ivals [z0, z1])⟩).put t (o1 (.sl t 0 2))) :=
  Stp.of _ fun w0 ω0 η ω a w hs => by
    obtain ⟨i, z, k1, k2, k3, k4, k5, k6⟩ := elZ_spec hT
    have h0 := hs.opV hx0
    have h1 := hs.opV hx1
    refine ⟨.slice (some ⟨w.heap.size, 0, none⟩) 2 2, w.alloc (.cells #[I6 z0, I6 z1] E), ?_, ?_⟩
    · simp [execOp, Instr.buildSlice, run_underlying k1, sizeOf, typeInfo, k2, k3, zeroValue, k5, Instr.fill, newRow, h0, h1, Value.cells, range2]
    · have hal := hs.alloc (x := t) (c := ⟨true, E, 1, .vals (ivals [z0, z1])⟩) (cs := #[I6 z0, I6 z1]) (r := fun _ => ⟨none, 0, 1⟩) (n := 2) rfl (by simp) (by simp [Dat.len, ivals]) (by simp [maxLen]) fun j hj => by
        match j, hj with
        | 0, _ => exact ⟨I6 z0, by simp, rfl⟩
        | 1, _ => exact ⟨I6 z1, by simp, rfl⟩
        | j + 2, hj => exact absurd hj (by simp [Dat.len, ivals])
      exact ⟨_, _, hal.putV (by simpa using ht) den_newsl⟩
/-- append of one integer -/
theorem stp_appI {T E n q len : Nat} {c : Ch} {zs : List Int} {z : Int} (ht : Nat.blt t nt = true) (hT : elZ P T E 1 = true) (hx : S.op x = some (o1 (.sl n 0 len))) (hc : S.ch n = some c) (hce : c = ⟨true, E, 1, .vals (ivals zs)⟩) (hl : zs.length = len)
    (hy : S.op y = some (o1 (.sl q 0 1))) (hq : S.ch q = some ⟨true, E, 1, .vals (ivals [z])⟩) (hb : len + 1 ≤ 2199023255552) :
    Stp P nt ⟨some t, .call { callee := .builtin .append, args := #[x, y], argTypes := #[T, T] }, ty, ps, af, gd⟩ S ((S.new n ⟨true, E, 1, .vals (ivals (zs ++ [z]))⟩).put t (o1 (.sl n 0 (len + 1)))) := by
  have := stp_append (P := P) (nt := nt) (ty := ty) (ps := ps) (af := af) (gd := gd) (vs := ivals zs) (news := ivals [z]) (m := 1) (k := 1) ht hT rfl hx hc hce rfl (by rw [ivals_len]; omega) hy (reads_all hq rfl rfl rfl) (by omega) (by intro v hv; simp [ivals] at hv; subst hv; rfl) hb
  rw [Nat.zero_mul, List.drop_zero, show ivals zs ++ ivals [z] = ivals (zs ++ [z]) from ivals_app zs z] at this
  exact this
theorem stp_stI {T : TypeId} {n : Nm} {i : Nat} {c : Ch} {zs : List Int} {z : Int} (hx : S.op x = some (o1 (.ptr n i))) (hy : S.op y = some (vv (I6 z))) (hc : S.ch n = some c) (hown : c.own = true) (hd : c.d = .vals (ivals zs)) (hi : i < zs.length) (hT : sizeB P T 1 = true) :
    Stp P nt ⟨none, .store T x y, ty, ps, af, gd⟩ S (S.set n { c with d := .vals (ivals (zs.set i z)) }) := by
  have := stp_storeV (P := P) (nt := nt) (ty := ty) (ps := ps) (af := af) (gd := gd) hx hy hc hown hd (by rw [ivals_len]; exact hi) hT rfl
  rwa [ivals_set] at this
end
section
variable {P : Program} {nt : Nat} {w0 : World} {ω0 : Beg} {S S1 S' : St} {Q : Exit → Act → World → Prop}
end
end Go.Proofs.YtljimlejcecleaaGreatDoor

/- A memory of names: a region that draws its order, in which one operation of the first ones is free to come at any time. No program in sight. -/
namespace Go.Proofs.YtljimlejcecleaaGreatDoor
open Go.RowKit

section
variable {P : Program} {nt : Nat} {w0 w : World} {ω0 : Beg} {S S1 : St} {Q : Exit → Act → World → Prop} {a : Act}

theorem memN_cons {f : Nat} {sk : List Nat} {j : Nat} : memN (f :: sk) j = (Nat.beq j f || memN sk j) := by
  unfold memN
  rw [List.any_cons]
theorem missing_le {sk : List Nat} {L : Array Bool} : ∀ k, missing sk L k ≤ k := fun k => by
  induction k with
  | zero => exact Nat.le_refl _
  | succ k ih => simp only [missing]; split <;> omega
theorem missing_cons_lo {sk : List Nat} {L : Array Bool} (f : Nat) : ∀ k, k ≤ f → missing (f :: sk) L k = missing sk L k
  | 0, _ => rfl
  | k + 1, h => by
    simp only [missing]
    rw [missing_cons_lo f k (by omega), memN_cons, beq_ne (by omega : k ≠ f), Bool.false_or]
theorem missing_le_cons {sk : List Nat} {L : Array Bool} (f : Nat) (hL : L.getD f false = false) (hs : memN sk f = false) : ∀ k, f < k → missing sk L k = missing (f :: sk) L k + 1
  | 0, h => by omega
  | k + 1, h => by
    simp only [missing]
    rw [memN_cons]
    by_cases e : k = f
    · subst e
      rw [missing_cons_lo k k (Nat.le_refl _), hL, hs]
      simp
    · rw [missing_le_cons f hL hs k (by omega), beq_ne e, Bool.false_or]; omega
theorem missing_cons {sk : List Nat} {f nA : Nat} (hf : f < nA) (hs : memN sk f = false) : missing (f :: sk) #[] nA = missing sk #[] nA - 1 ∧ 0 < missing sk #[] nA := by
  have := missing_le_cons (sk := sk) (L := #[]) f (by simp) hs nA hf
  omega

/-- what the first nA operations depend on; all others wait for them, but perhaps not for f -/
def clsFB (ops : Array Oper) (nA : Nat) (sk : List Nat) (f : Nat) (cls : List (List Nat)) : Bool :=
  Nat.ble nA ops.size && (List.range ops.size).all fun i => match ops[i]? with
    | some o => (Nat.ble nA i || memN sk i || o.after.all fun e => !Region.binds .any e || (Nat.blt e.on i && !memN sk e.on)) && ((cls.getD i []).all fun j => o.after.any fun e => Region.binds .any e && (Nat.beq j e.on || memN (cls.getD e.on []) j)) &&
        ((Nat.blt i nA && !memN sk i) || (List.range nA).all fun j => Nat.beq j f || memN sk j || memN (cls.getD i []) j) && (Nat.ble nA i || (cls.getD i []).all fun j => Nat.blt j i)
    | none => true
structure ClsFOK (ops : Array Oper) (nA : Nat) (sk : List Nat) (f : Nat) (cls : List (List Nat)) : Prop where
  size : nA ≤ ops.size
  less : ∀ i o, ops[i]? = some o → i < nA → memN sk i = false → ∀ e ∈ o.after, Region.binds .any e = true → e.on < i ∧ memN sk e.on = false
  dep : ∀ i o, ops[i]? = some o → ∀ j ∈ cls.getD i [], ∃ e ∈ o.after, Region.binds .any e = true ∧ (j = e.on ∨ j ∈ cls.getD e.on [])
  late : ∀ i o, ops[i]? = some o → (nA ≤ i ∨ memN sk i = true) → ∀ j, j < nA → memN sk j = false → j ≠ f → j ∈ cls.getD i []
  lt : ∀ i o, ops[i]? = some o → i < nA → ∀ j ∈ cls.getD i [], j < i
theorem clsFB_spec {ops : Array Oper} {nA : Nat} {sk : List Nat} {f : Nat} {cls : List (List Nat)} (h : clsFB ops nA sk f cls = true) : ClsFOK ops nA sk f cls := by
  unfold clsFB at h
  simp only [Bool.and_eq_true, Nat.ble_eq] at h
  obtain ⟨h0, h⟩ := h
  have key : ∀ i o, ops[i]? = some o → _ := fun i o ho => by
    have hi : i < ops.size := (Array.getElem?_eq_some_iff.1 ho).1
    have h1 := List.all_eq_true.1 h i (List.mem_range.2 hi)
    simp only [ho, Bool.and_eq_true, Bool.or_eq_true] at h1
    exact h1
  refine ⟨h0, fun i o ho hi hsk e he hb => ?_, fun i o ho j hj => ?_, fun i o ho hi j hj hsk hf => ?_, fun i o ho hi j hj => ?_⟩
  · rcases (key i o ho).1.1.1 with (h1 | h1) | h1
    · have := Nat.le_of_ble_eq_true h1; omega
    · rw [hsk] at h1; cases h1
    · have := Array.all_eq_true_iff_forall_mem.1 h1 e he
      simp [hb] at this; exact this
  · have := List.all_eq_true.1 (key i o ho).1.1.2 j hj
    obtain ⟨e, he, h2⟩ := Array.any_eq_true'.1 this
    simp only [Bool.and_eq_true, Bool.or_eq_true] at h2
    exact ⟨e, he, h2.1, h2.2.imp (fun h => beq_true h) (fun h => memN_iff.1 h)⟩
  · rcases (key i o ho).1.2 with h1 | h1
    · exfalso
      have h2 : i < nA := by simpa using h1.1
      have h3 : memN sk i = false := by simpa using h1.2
      rcases hi with h4 | h4
      · omega
      · rw [h3] at h4; cases h4
    · have h2 := List.all_eq_true.1 h1 j (List.mem_range.2 hj)
      simp only [Bool.or_eq_true, hsk, beq_ne hf, Bool.false_eq_true, false_or] at h2
      exact memN_iff.1 h2
  · rcases (key i o ho).2 with h1 | h1
    · have := Nat.le_of_ble_eq_true h1; omega
    · exact (by have := List.all_eq_true.1 h1 j hj; simpa using this)

theorem draw_mainF {l : List Oper} {nA : Nat} {sk : List Nat} {cls : List (List Nat)} {ds nms : List Nat} {adds done : List Add} {f : Nat} (hfA : f < nA) (hfs : memN sk f = false) (hcl : ClsFOK l.toArray nA sk f cls) (hdr : Draw P nt (S.clear ds nms) cls sk (l.take nA) [] done) (hdn : done.reverse = adds) (ok : AddsOK adds cls ds nms)
    (hk : Rest P w0 ω0 nt l.toArray Q (l.length - missing sk #[] nA) (doneL nA sk l.length) ((S.clear ds nms).part (fun j => !memN sk j) adds))
    (hk0 : Rest P w0 ω0 nt l.toArray Q (l.length - missing (f :: sk) #[] nA) (doneL nA (f :: sk) l.length) ((S.clear ds nms).part (fun j => !memN (f :: sk) j) adds)) :
    ∀ (d : Nat) (L : Array Bool) (a : Act) (w : World), missing sk L nA = d → L.size = l.length → (∀ j, L.getD j false = true → j < nA ∧ memN sk j = false) → (∀ i, L.getD i false = true → ∀ j ∈ cls.getD i [], L.getD j false = true) →
      Sat w0 ω0 nt ((S.clear ds nms).part (fun j => L.getD j false) adds) a w → wpAny P .any l.toArray Q (l.length - missing sk #[] nA + d) L a w := by
  have hsz : nA ≤ l.length := by have := hcl.size; simpa using this
  obtain ⟨⟨r, hr, hrl⟩, hob⟩ := hdr.spec
  rw [hdn] at hr hob
  have hal : adds.length = nA := by rw [hr]; simp [hrl]; omega
  have hfull : ∀ (L : Array Bool) (i : Nat), i ∈ Region.ready .any l.toArray L → (∀ i, L.getD i false = true → ∀ j ∈ cls.getD i [], L.getD j false = true) → (∃ o, l.toArray[i]? = some o ∧ L.getD i true = false) ∧ ∀ j ∈ cls.getD i [], L.getD j false = true := by
    intro L i hi hclosed
    obtain ⟨h0, o, ho, he⟩ := mem_ready.1 hi
    refine ⟨⟨o, ho, h0⟩, fun j hj => ?_⟩
    obtain ⟨e, hem, hb, hje⟩ := hcl.dep i o ho j hj
    have h1 := he e hem hb
    rcases hje with rfl | hje
    · exact h1
    · exact hclosed e.on h1 j hje
  intro d
  induction d with
  | zero =>
    intro L a w hm hs hsub hclosed hsat
    have hall := missing_zero hm
    have hL : L = doneL nA sk l.length := by
      apply Array.ext
      · simp [hs, doneL]
      · intro j h1 h2
        have h3 : L[j]? = some L[j] := Array.getElem?_eq_getElem h1
        have h4 := doneL_at (nA := nA) (sk := sk) (n := l.length) (j := j) (by omega)
        rw [Array.getElem?_eq_getElem h2] at h4
        rw [Option.some.inj h4]
        cases hb : L[j] with
        | true =>
          have := hsub j (by simp [h1, hb])
          simp [this.1, this.2]
        | false =>
          by_cases hj : j < nA
          · cases hsk : memN sk j with
            | true => simp
            | false =>
              have := hall j hj hsk
              simp [h1, hb] at this
          · simp [hj]
    refine hk.go a w ((St.le.wk (part_le (ℓ1 := fun j => !memN sk j) (ℓ2 := fun j => L.getD j false) ok (fun _ _ h => h) fun j A hj hsk => ?_) fun _ _ h => h).go _ _ _ a w hsat) |> fun h => by rw [← hL] at h; exact h
    have hjl : j < adds.length := (List.getElem?_eq_some_iff.1 hj).1
    exact hall j (by omega) (by simpa using hsk)
  | succ d ih =>
    intro L a w hm hs hsub hclosed hsat
    by_cases h0 : missing (f :: sk) L nA = 0 ∧ L.getD f false = false
    · obtain ⟨h0, hff⟩ := h0
      have hall := missing_zero h0
      have hL : L = doneL nA (f :: sk) l.length := by
        apply Array.ext
        · simp [hs, doneL]
        · intro j h1 h2
          have h3 : L[j]? = some L[j] := Array.getElem?_eq_getElem h1
          have h4 := doneL_at (nA := nA) (sk := f :: sk) (n := l.length) (j := j) (by omega)
          rw [Array.getElem?_eq_getElem h2] at h4
          rw [Option.some.inj h4]
          cases hb : L[j] with
          | true =>
            have := hsub j (by simp [h1, hb])
            have hjf : j ≠ f := fun e => by subst e; simp [h1, hb] at hff
            rw [memN_cons, this.2, beq_ne hjf]; simp [this.1]
          | false =>
            by_cases hj : j < nA
            · cases hsk : memN (f :: sk) j with
              | true => simp
              | false =>
                have := hall j hj hsk
                simp [h1, hb] at this
            · simp [hj]
      have hd : missing (f :: sk) #[] nA = missing sk #[] nA - 1 ∧ 0 < missing sk #[] nA := missing_cons hfA hfs
      have hd1 : d = 0 := by
        have := missing_le_cons (sk := sk) (L := L) f hff hfs nA hfA
        omega
      subst hd1
      have hmn : ∀ k, missing sk #[] k ≤ k := missing_le
      have := hmn nA
      have e : l.length - missing (f :: sk) #[] nA = l.length - missing sk #[] nA + (0 + 1) := by omega
      rw [← e]
      refine hk0.go a w ((St.le.wk (part_le (ℓ1 := fun j => !memN (f :: sk) j) (ℓ2 := fun j => L.getD j false) ok (fun _ _ h => h) fun j A hj hsk => ?_) fun _ _ h => h).go _ _ _ a w hsat) |> fun h => by rw [← hL] at h; exact h
      have hjl : j < adds.length := (List.getElem?_eq_some_iff.1 hj).1
      exact hall j (by omega) (by simpa using hsk)
    refine ⟨fun hnil => ?_, fun i hi => ?_⟩
    · exfalso
      obtain ⟨j, hj, hjs', hjf, hlo⟩ := missing_least (k := nA) (by omega : missing sk L nA ≠ 0)
      have hjl : j < l.length := by omega
      have hjs : j < L.size := by omega
      have : j ∈ Region.ready .any l.toArray L := by
        refine mem_ready.2 ⟨?_, l[j], by simp [hjl], fun e he hb => ?_⟩
        · simp [hjs] at hjf ⊢
          exact hjf
        · have h5 := hcl.less j l[j] (by simp [hjl]) hj hjs' e he hb
          exact hlo e.on h5.1 h5.2
      rw [hnil] at this; cases this
    · obtain ⟨⟨o, ho, hi0⟩, hdep⟩ := hfull L i hi hclosed
      have hil : i < l.length := by have := (Array.getElem?_eq_some_iff.1 ho).1; simpa using this
      have his : i < L.size := by omega
      have hif : L.getD i false = false := by simp [his] at hi0 ⊢; exact hi0
      have hnl : ¬ (nA ≤ i ∨ memN sk i = true) := fun h => by
        have h1 := missing_full (sk := f :: sk) (L := L) (k := nA) fun j hj hsk => by
          rw [memN_cons] at hsk
          simp only [Bool.or_eq_false_iff] at hsk
          exact hdep j (hcl.late i o ho h j hj hsk.2 fun e => by subst e; simp at hsk)
        refine h0 ⟨h1, ?_⟩
        cases hff : L.getD f false with
        | false => rfl
        | true =>
          have := missing_zero h1
          have h2 := missing_full (sk := sk) (L := L) (k := nA) fun j hj hsk => by
            by_cases e : j = f
            · subst e; exact hff
            · exact this j hj (by rw [memN_cons, hsk, beq_ne e]; rfl)
          omega
      have hiA : i < nA := by
        rcases Nat.lt_or_ge i nA with h | h
        · exact h
        · exact absurd (.inl h) hnl
      have hisk : memN sk i = false := by
        cases hsk : memN sk i with
        | false => rfl
        | true => exact absurd (.inr hsk) hnl
      have hot : (l.take nA)[i]? = some o := by rw [List.getElem?_take, if_pos hiA]; simpa using ho
      obtain ⟨A, hA, hg, hstp⟩ := hob i o hot (by simpa using hisk)
      simp only [List.length_nil, Nat.zero_add] at hA hstp
      have hle : ((S.clear ds nms).partR (memN (cls.getD i [])) (adds.take i).reverse).le ((S.clear ds nms).part (fun j => L.getD j false) adds) := partR_le ok (fun j B hj => by
          rw [List.reverse_reverse] at hj
          rw [List.getElem?_take] at hj; split at hj
          · exact hj
          · cases hj) fun j B _ hj => hdep j (memN_iff.1 hj)
      have hst := (hstp _ hle).go w0 ω0 a w Q hsat
      unfold wpOp
      simp only [ho]
      rw [if_pos (by simp [Region.wanted, hg])]
      refine .inl (Oper.wp_mono (fun a' w' hsat' => ?_) hst)
      have hsat2 := (wk_add ok hA hif fun j hj hm' => by have := hclosed j hj i hm'; rw [hif] at this; cases this).go _ _ _ a' w' hsat'
      have hnew : ∀ j, (L.setIfInBounds i true).getD j false = (Nat.beq j i || L.getD j false) := fun j => by
        by_cases e : j = i
        · subst e; simp [his]
        · rw [getD_set_ne false (fun e' => e e'.symm), beq_ne e, Bool.false_or]
      refine ih (L.setIfInBounds i true) a' w' ?_ (by simp [hs]) (fun j hj => ?_) (fun j hj k hk' => ?_) ?_
      · have := missing_set his hif hisk nA hiA; omega
      · rw [hnew] at hj
        by_cases e : j = i
        · rw [e]; exact ⟨hiA, hisk⟩
        · rw [beq_ne e, Bool.false_or] at hj; exact hsub j hj
      · rw [hnew] at hj ⊢
        by_cases e : j = i
        · subst e; rw [hdep k hk']; simp
        · rw [beq_ne e, Bool.false_or] at hj; rw [hclosed j hj k hk']; simp
      · have : (fun j => (L.setIfInBounds i true).getD j false) = fun j => (Nat.beq j i || L.getD j false) := funext hnew
        rw [this]; exact hsat2

theorem goes_drawF {id : Nat} {l : List Oper} (nA : Nat) (sk : List Nat) (f : Nat) (cls : List (List Nat)) (ds nms : List Nat) {done : List Add} (hm : P.follows .mixedOrders = true) (hcl : clsFB l.toArray nA sk f cls = true) (hf' : (Nat.blt f nA && !memN sk f) = true) (hdr : Draw P nt (S.clear ds nms) cls sk (l.take nA) [] done) (ok : addsB done.reverse cls ds nms = true)
    (hk : Rest P w0 ω0 nt l.toArray Q (l.length - missing sk #[] nA) (doneL nA sk l.length) ((S.clear ds nms).partR (fun j => !memN sk j) done))
    (hk0 : Rest P w0 ω0 nt l.toArray Q (l.length - missing (f :: sk) #[] nA) (doneL nA (f :: sk) l.length) ((S.clear ds nms).partR (fun j => !memN (f :: sk) j) done)) : Goes P w0 ω0 nt S (.region id l.toArray true) Q := by
  have hc := clsFB_spec hcl
  have hsz : nA ≤ l.length := by have := hc.size; simpa using this
  have hk' : Rest P w0 ω0 nt l.toArray Q (l.length - missing sk #[] nA) (doneL nA sk l.length) ((S.clear ds nms).part (fun j => !memN sk j) done.reverse) :=
    ⟨fun a w hs => hk.go a w ((St.le.wk (partR_le (addsB_spec ok) (fun _ _ h => h) fun _ _ _ h => h) fun _ _ h => h).go _ _ _ a w hs)⟩
  have hk0' : Rest P w0 ω0 nt l.toArray Q (l.length - missing (f :: sk) #[] nA) (doneL nA (f :: sk) l.length) ((S.clear ds nms).part (fun j => !memN (f :: sk) j) done.reverse) :=
    ⟨fun a w hs => hk0.go a w ((St.le.wk (partR_le (addsB_spec ok) (fun _ _ h => h) fun _ _ _ h => h) fun _ _ h => h).go _ _ _ a w hs)⟩
  have hfA : f < nA := by simp only [Bool.and_eq_true] at hf'; simpa using hf'.1
  have hfs : memN sk f = false := by simp only [Bool.and_eq_true] at hf'; simpa using hf'.2
  have hle : ∀ k, missing sk #[] k ≤ k := fun k => by
    induction k with
    | zero => exact Nat.le_refl _
    | succ k ih => simp only [missing]; split <;> omega
  refine ⟨fun a w hs => wp_region_any hm ?_⟩
  have hfin := draw_mainF hfA hfs hc hdr rfl (addsB_spec ok) hk' hk0' (missing sk #[] nA) (Array.replicate l.length false) a { w with drawn := w.drawn + 1 } ?_ (by simp) (fun j hj => ?_) (fun i hi => ?_) ?_
  · have := hle nA
    rw [show l.length - missing sk #[] nA + missing sk #[] nA = l.length by omega] at hfin
    simpa using hfin
  · have : ∀ k, k ≤ l.length → missing sk (Array.replicate l.length false) k = missing sk #[] k := fun k => by
      induction k with
      | zero => intro _; rfl
      | succ k ih =>
        intro hk
        simp only [missing]
        rw [ih (by omega)]
        have : (Array.replicate l.length false).getD k false = false := by simp [show k < l.length by omega]
        rw [this]; rfl
    exact this nA hsz
  · exfalso
    by_cases h : j < l.length
    · simp [h] at hj
    · simp [h] at hj
  · exfalso
    by_cases h : i < l.length
    · simp [h] at hi
    · simp [h] at hi
  · have h1 := (wk_clear S ds nms).go _ _ _ a _ (sat_drew hs)
    have hf : ∀ j, (Array.replicate l.length false).getD j false = false := fun j => by
      by_cases h : j < l.length <;> simp [h]
    refine (Wk.less (S := S.clear ds nms) (S' := (S.clear ds nms).part (fun j => (Array.replicate l.length false).getD j false) done.reverse) (fun t av h => ?_) (fun x c h => ?_) fun _ _ h => h).go _ _ _ a _ h1
    · have h : (match lkT (fun j => (Array.replicate l.length false).getD j false) 0 done.reverse t with | some av => some av | none => (S.clear ds nms).sl t) = some av := h
      split at h
      · rename_i av' h2
        obtain ⟨j, A, _, h3, _⟩ := lkT_some h2
        rw [hf] at h3; cases h3
      · exact h
    · have h : (match lkN (fun j => (Array.replicate l.length false).getD j false) 0 done.reverse x with | some c => some c | none => (S.clear ds nms).ch x) = some c := h
      split at h
      · rename_i av' h2
        obtain ⟨j, A, _, h3, _⟩ := lkN_some h2
        rw [hf] at h3; cases h3
      · exact h


end
end Go.Proofs.YtljimlejcecleaaGreatDoor

/- A memory of names: guards, picks, nil slices inside of aggregates. No program in sight. -/
namespace Go.Proofs.YtljimlejcecleaaGreatDoor
open Go.RowKit

section
variable {P : Program} {nt : Nat} {S S1 S' : St} {w0 w : World} {ω0 : Beg} {ω : Own?} {η : Env} {a : Act} {Q : Exit → Act → World → Prop} {ops : Array Oper} {rest : List Oper} {o : Oper}
variable {t : Nat} {ty : TypeId} {ps : String} {af : Array Edge} {gd : Option (Nat × Bool)} {x y z : Operand} {av : AV}

/-- a truth value in a slot is one or the other -/
theorem run_bool (d : Nat) {b : Bool} (hb : S.sl d = some (vv (.bool b))) (h1 : b = true → Run P w0 ω0 nt ops Q (S.put d (vv (.bool true))) rest) (h2 : b = false → Run P w0 ω0 nt ops Q (S.put d (vv (.bool false))) rest) : Run P w0 ω0 nt ops Q S rest := by
  have wk : ∀ c, b = c → Wk S (S.put d (vv (.bool c))) := fun c e => by
    refine ⟨fun w0 ω0 nt a w ⟨η, ω, hs⟩ => ⟨η, ω, { hs with slots := fun t' av ht' => ?_ }⟩⟩
    rw [sl_put] at ht'
    by_cases e' : t' = d
    · subst e'
      rw [if_pos rfl] at ht'
      obtain rfl := Option.some.inj ht'
      exact hs.slots t' _ (by rw [← e]; exact hb)
    · rw [if_neg e'] at ht'; exact hs.slots t' av ht'
  cases b with
  | true => exact ⟨fun a w hs => (h1 rfl).go a w ((wk true rfl).go _ _ _ a w hs)⟩
  | false => exact ⟨fun a w hs => (h2 rfl).go a w ((wk false rfl).go _ _ _ a w hs)⟩
theorem run_gYes {j d : Nat} {want : Bool} (hg : o.guard = some (j, want)) (hj : (ops[j]?).bind (·.dst) = some d) (hb : S.sl d = some (vv (.bool want))) (h : Stp P nt o S S1) (k : Run P w0 ω0 nt ops Q S1 rest) : Run P w0 ω0 nt ops Q S (o :: rest) :=
  run_guard hg hj hb (fun _ => ⟨S1, h, k⟩) fun e => absurd rfl e
theorem run_gNo {j d t : Nat} {want : Bool} (hg : o.guard = some (j, want)) (hj : (ops[j]?).bind (·.dst) = some d) (hb : S.sl d = some (vv (.bool (!want)))) (ht : o.dst = some t) (hn : Nat.blt t nt = true) (k : Run P w0 ω0 nt ops Q (S.put t (vv undef)) rest) : Run P w0 ω0 nt ops Q S (o :: rest) :=
  run_guard hg hj hb (fun e => by cases want <;> cases e) fun _ => ⟨t, ht, hn, k⟩
theorem stp_pickT (ht : Nat.blt t nt = true) (hx : S.op x = some (vv (.bool true))) (hy : S.op y = some av) : Stp P nt ⟨some t, .pick x y z, ty, ps, af, gd⟩ S (S.put t av) :=
  Stp.of _ fun w0 ω0 η ω a w hs => by
    have h0 := hs.opV hx
    exact ⟨a.eval y, w, by simp [execOp, h0, asBool], η, ω, hs.putV (by simpa using ht) (hs.opv hy)⟩
theorem stp_pickF (ht : Nat.blt t nt = true) (hx : S.op x = some (vv (.bool false))) (hz : S.op z = some av) : Stp P nt ⟨some t, .pick x y z, ty, ps, af, gd⟩ S (S.put t av) :=
  Stp.of _ fun w0 ω0 η ω a w hs => by
    have h0 := hs.opV hx
    exact ⟨a.eval z, w, by simp [execOp, h0, asBool], η, ω, hs.putV (by simpa using ht) (hs.opv hz)⟩

theorem goes_cut {c : Code} (S' : St) (h : Goes P w0 ω0 nt S c (fun e a w => e = .normal ∧ Sat w0 ω0 nt S' a w)) (k : Fin w0 ω0 nt S' .normal Q) : Goes P w0 ω0 nt S c Q :=
  ⟨fun a w hs => Code.wp_mono (fun e a w he => by obtain ⟨rfl, h2⟩ := he; exact k.go a w h2) (h.go a w hs)⟩
end
end Go.Proofs.YtljimlejcecleaaGreatDoor

/- A memory of names: make of integers; small steps. No program in sight. -/
namespace Go.Proofs.YtljimlejcecleaaGreatDoor
open Go.RowKit

section
variable {P : Program} {nt : Nat} {S S1 : St} {w0 w : World} {ω0 : Beg} {ω : Own?} {η : Env} {a : Act} {Q : Exit → Act → World → Prop}
variable {t : Nat} {ty : TypeId} {ps : String} {af : Array Edge} {gd : Option (Nat × Bool)} {x y : Operand} {av : AV}
end
end Go.Proofs.YtljimlejcecleaaGreatDoor

/- Walks in names: shifts, bits, conversions between integers, three results. -/
namespace Go.Proofs.YtljimlejcecleaaGreatDoor
open Go.RowKit

theorem bits_and_i64 (a b : Nat) (ha : a < 1000000) (hb : b < 1000000) : bits .and .i64 (a : Int) (b : Int) = ((a &&& b : Nat) : Int) := by
  have hx : a &&& b < 2 ^ 20 := Nat.and_lt_two_pow _ (by omega)
  have h1 : (BitVec.ofInt 64 (a : Int)).toNat = a := by
    rw [BitVec.ofInt_natCast, BitVec.toNat_ofNat]; exact Nat.mod_eq_of_lt (by omega)
  have h2 : (BitVec.ofInt 64 (b : Int)).toNat = b := by
    rw [BitVec.ofInt_natCast, BitVec.toNat_ofNat]; exact Nat.mod_eq_of_lt (by omega)
  show IntKind.i64.wrap ((BitVec.ofInt 64 (a : Int) &&& BitVec.ofInt 64 (b : Int)).toNat : Int) = _
  rw [BitVec.toNat_and, h1, h2, IntKind.wrap_i64]
  omega
section
variable {P : Program} {nt : Nat} {S : St} {t : Nat} {ty : TypeId} {ps : String} {af : Array Edge} {gd : Option (Nat × Bool)} {x y : Operand}
theorem stp_andN {xt yt : TypeId} {a b : Nat} (ht : Nat.blt t nt = true) (hx : S.op x = some (vv (I6 (a : Int)))) (hy : S.op y = some (vv (I6 (b : Int)))) (ha : a < 1000000) (hb : b < 1000000) :
    Stp P nt ⟨some t, .binOp .and xt x y yt, ty, ps, af, gd⟩ S (S.put t (vv (I6 ((a &&& b : Nat) : Int)))) :=
  Stp.pure rfl ht fun _ _ η _ s w hs => by
    refine ⟨I6 ((a &&& b : Nat) : Int), ?_, rfl⟩
    have hb' := bits_and_i64 a b ha hb
    have e : Op.intBits .and .i64 (a : Int) (b : Int) = pure (I6 ((a &&& b : Nat) : Int)) := by rw [← hb']; rfl
    simp [execOp, hs.opV hx, hs.opV hy, eqGuard, binOp, e]
theorem stp_shrN {xt yt : TypeId} {kk : IntKind} {a g : Nat} (ht : Nat.blt t nt = true) (hx : S.op x = some (vv (I6 (a : Int)))) (hy : S.op y = some (vv (.int kk (g : Int)))) (hg : g ≤ 64) :
    Stp P nt ⟨some t, .binOp .shr xt x y yt, ty, ps, af, gd⟩ S (S.put t (vv (I6 ((a / 2 ^ g : Nat) : Int)))) :=
  Stp.pure rfl ht fun _ _ η _ s w hs => by
    refine ⟨I6 ((a / 2 ^ g : Nat) : Int), ?_, rfl⟩
    have e : Op.shift .shr .i64 (a : Int) kk (g : Int) = pure (I6 ((a / 2 ^ g : Nat) : Int)) := by
      rw [shift_shr_i64 (x := (a : Int)) (y := (g : Int)) (yk := kk) (Int.natCast_nonneg g) (by omega), Int.toNat_natCast]
      simp
    simp [execOp, hs.opV hx, hs.opV hy, eqGuard, binOp, e]
theorem stp_shl1 {xt yt : TypeId} {kk : IntKind} {g : Nat} (ht : Nat.blt t nt = true) (hx : S.op x = some (vv (I6 1))) (hy : S.op y = some (vv (.int kk (g : Int)))) (hg : g ≤ 5) :
    Stp P nt ⟨some t, .binOp .shl xt x y yt, ty, ps, af, gd⟩ S (S.put t (vv (I6 ((2 ^ g : Nat) : Int)))) :=
  Stp.pure rfl ht fun _ _ η _ s w hs => by
    refine ⟨I6 ((2 ^ g : Nat) : Int), ?_, rfl⟩
    have e : ∀ g : Nat, g ≤ 5 → Op.shift .shl .i64 1 kk (g : Int) = pure (I6 ((2 ^ g : Nat) : Int)) := fun g hg => by
      rw [shift_shl_i64 (x := 1) (y := (g : Int)) (yk := kk) (Int.natCast_nonneg g) (by omega), Int.toNat_natCast]
      match g, hg with
      | 0, _ => rfl
      | 1, _ => rfl
      | 2, _ => rfl
      | 3, _ => rfl
      | 4, _ => rfl
      | 5, _ => rfl
    have e := e g hg
    have hw : IntKind.i64.wrap (2 ^ g) = 2 ^ g := by
      match g, hg with
      | 0, _ => rfl
      | 1, _ => rfl
      | 2, _ => rfl
      | 3, _ => rfl
      | 4, _ => rfl
      | 5, _ => rfl
    simp [execOp, hs.opV hx, hs.opV hy, eqGuard, binOp, e, hw]
end
section
variable {P : Program} {w0 : World} {ω0 : Beg} {nt : Nat} {S : St}
end
end Go.Proofs.YtljimlejcecleaaGreatDoor

/- Walks in names: bits of masks. No program in sight. -/
namespace Go.Proofs.YtljimlejcecleaaGreatDoor
open Go.RowKit

theorem stp_bit {P : Program} {nt : Nat} {S : St} {t : Nat} {ty : TypeId} {ps : String} {af : Array Edge} {gd : Option (Nat × Bool)} {x : Operand} {xt yt : TypeId} {mask g : Nat} (ht : Nat.blt t nt = true) (hx : S.op x = some (vv (I6 ((mask / 2 ^ g : Nat) : Int)))) (hm : mask < 1000000) :
    Stp P nt ⟨some t, .binOp .and xt x (.const (I6 1)) yt, ty, ps, af, gd⟩ S (S.put t (vv (I6 (((mask / 2 ^ g) &&& 1 : Nat) : Int)))) :=
  stp_andN ht hx rfl (Nat.lt_of_le_of_lt (Nat.div_le_self _ _) hm) (by decide)
theorem stp_eqBit0 {P : Program} {nt : Nat} {S : St} {t : Nat} {ty : TypeId} {ps : String} {af : Array Edge} {gd : Option (Nat × Bool)} {x : Operand} {xt yt : TypeId} {mask g : Nat} (ht : Nat.blt t nt = true) (hx : S.op x = some (vv (I6 (((mask / 2 ^ g) &&& 1 : Nat) : Int)))) :
    Stp P nt ⟨some t, .binOp .eql xt x (.const (I6 0)) yt, ty, ps, af, gd⟩ S (S.put t (vv (.bool (!mBit mask g)))) := by
  have h : (!mBit mask g) = ((((mask / 2 ^ g) &&& 1 : Nat) : Int) == 0) := by
    unfold mBit
    rw [Nat.and_one_is_mod]
    rcases Nat.mod_two_eq_zero_or_one (mask / 2 ^ g) with h | h <;> rw [h] <;> rfl
  rw [h]
  exact stp_bin ht hx rfl rfl
theorem bits_or_i64 (a b : Nat) (ha : a < 1000000) (hb : b < 1000000) : bits .or .i64 (a : Int) (b : Int) = ((a ||| b : Nat) : Int) := by
  have hx : a ||| b < 2 ^ 20 := Nat.or_lt_two_pow (by omega) (by omega)
  have h1 : (BitVec.ofInt 64 (a : Int)).toNat = a := by
    rw [BitVec.ofInt_natCast, BitVec.toNat_ofNat]; exact Nat.mod_eq_of_lt (by omega)
  have h2 : (BitVec.ofInt 64 (b : Int)).toNat = b := by
    rw [BitVec.ofInt_natCast, BitVec.toNat_ofNat]; exact Nat.mod_eq_of_lt (by omega)
  show IntKind.i64.wrap ((BitVec.ofInt 64 (a : Int) ||| BitVec.ofInt 64 (b : Int)).toNat : Int) = _
  rw [BitVec.toNat_or, h1, h2, IntKind.wrap_i64]
  omega
section
variable {P : Program} {nt : Nat} {S S' S2 : St} {t : Nat} {ty : TypeId} {ps : String} {af : Array Edge} {gd : Option (Nat × Bool)} {x y : Operand} {o : Oper}
theorem stp_orN {xt yt : TypeId} {a b : Nat} (ht : Nat.blt t nt = true) (hx : S.op x = some (vv (I6 (a : Int)))) (hy : S.op y = some (vv (I6 (b : Int)))) (ha : a < 1000000) (hb : b < 1000000) :
    Stp P nt ⟨some t, .binOp .or xt x y yt, ty, ps, af, gd⟩ S (S.put t (vv (I6 ((a ||| b : Nat) : Int)))) :=
  Stp.pure rfl ht fun _ _ η _ s w hs => by
    refine ⟨I6 ((a ||| b : Nat) : Int), ?_, rfl⟩
    have hb' := bits_or_i64 a b ha hb
    have e : Op.intBits .or .i64 (a : Int) (b : Int) = pure (I6 ((a ||| b : Nat) : Int)) := by rw [← hb']; rfl
    simp [execOp, hs.opV hx, hs.opV hy, eqGuard, binOp, e]
theorem stp_shl2 {xt yt : TypeId} {kk : IntKind} {g : Nat} (ht : Nat.blt t nt = true) (hx : S.op x = some (vv (I6 2))) (hy : S.op y = some (vv (.int kk (g : Int)))) (hg : g ≤ 5) :
    Stp P nt ⟨some t, .binOp .shl xt x y yt, ty, ps, af, gd⟩ S (S.put t (vv (I6 ((2 ^ (g + 1) : Nat) : Int)))) :=
  Stp.pure rfl ht fun _ _ η _ s w hs => by
    refine ⟨I6 ((2 ^ (g + 1) : Nat) : Int), ?_, rfl⟩
    have e : ∀ g : Nat, g ≤ 5 → Op.shift .shl .i64 2 kk (g : Int) = pure (I6 ((2 ^ (g + 1) : Nat) : Int)) := fun g hg => by
      rw [shift_shl_i64 (x := 2) (y := (g : Int)) (yk := kk) (Int.natCast_nonneg g) (by omega), Int.toNat_natCast]
      match g, hg with
      | 0, _ => rfl
      | 1, _ => rfl
      | 2, _ => rfl
      | 3, _ => rfl
      | 4, _ => rfl
      | 5, _ => rfl
    have e := e g hg
    have hw : IntKind.i64.wrap (2 * 2 ^ g) = 2 ^ (g + 1) := by
      match g, hg with
      | 0, _ => rfl
      | 1, _ => rfl
      | 2, _ => rfl
      | 3, _ => rfl
      | 4, _ => rfl
      | 5, _ => rfl
    simp [execOp, hs.opV hx, hs.opV hy, eqGuard, binOp, e, hw]
/-- a step behind a loss of knowledge -/
theorem Stp.pre (h : Wk S S') (k : Stp P nt o S' S2) : Stp P nt o S S2 :=
  ⟨fun w0 ω0 a w Q hs => k.go w0 ω0 a w Q (h.go _ _ _ _ _ hs)⟩
end
end Go.Proofs.YtljimlejcecleaaGreatDoor

/- A memory of names: a region that draws, with several operations free to come at any time. No program in sight. -/
namespace Go.Proofs.YtljimlejcecleaaGreatDoor
open Go.RowKit

section
variable {P : Program} {nt : Nat} {S S1 : St} {w0 w : World} {ω0 : Beg} {ω : Own?} {η : Env} {a : Act} {Q : Exit → Act → World → Prop}

def AllSubs : List Nat → (List Nat → Prop) → Prop
  | [], p => p []
  | f :: r, p => AllSubs r p ∧ AllSubs r (fun ks => p (f :: ks))
theorem AllSubs.filter {q : Nat → Bool} : ∀ {fs : List Nat} {p : List Nat → Prop}, AllSubs fs p → p (fs.filter q)
  | [], p, h => h
  | f :: r, p, h => by
    rw [List.filter_cons]
    split
    · exact AllSubs.filter (p := fun ks => p (f :: ks)) h.2
    · exact AllSubs.filter (p := p) h.1
theorem AllSubs.map {p p' : List Nat → Prop} (h : ∀ ks, p ks → p' ks) : ∀ {fs : List Nat}, AllSubs fs p → AllSubs fs p'
  | [], k => h _ k
  | _ :: _, k => ⟨AllSubs.map h k.1, AllSubs.map (fun ks => h _) k.2⟩
structure ClsLOK (ops : Array Oper) (nA : Nat) (sk : List Nat) (fs : List Nat) (cls : List (List Nat)) : Prop where
  size : nA ≤ ops.size
  less : ∀ i o, ops[i]? = some o → i < nA → memN sk i = false → ∀ e ∈ o.after, Region.binds .any e = true → e.on < i ∧ memN sk e.on = false
  dep : ∀ i o, ops[i]? = some o → ∀ j ∈ cls.getD i [], ∃ e ∈ o.after, Region.binds .any e = true ∧ (j = e.on ∨ j ∈ cls.getD e.on [])
  late : ∀ i o, ops[i]? = some o → (nA ≤ i ∨ memN sk i = true) → ∀ j, j < nA → memN sk j = false → memN fs j = false → j ∈ cls.getD i []
  lt : ∀ i o, ops[i]? = some o → i < nA → ∀ j ∈ cls.getD i [], j < i
end
end Go.Proofs.YtljimlejcecleaaGreatDoor

/- From contracts in names to contracts in words (RdS, OwSS, ..), and back. No program in sight. -/
namespace Go.Proofs.YtljimlejcecleaaGreatDoor
open Go.RowKit

/-- nobody's blocks -/
def noOwn : Own? := fun _ => none
/-- a chunk that is only read lies at the head h, its rows at the heads r -/
def Hv (w : World) (x : Nm) (c : Ch) (h : Hd) (r : Nat → Hd) : Prop := ∀ η : Env, (∀ i, η.r x i = r i) → ChIs η noOwn w x h c
abbrev Lay := List (Nm × (Ch × Hd × (Nat → Hd)))
def envOf (l : Lay) : Env := { h := fun x => (lk x l).map fun q => q.2.1, r := fun x i => match lk x l with | some q => q.2.2 i | none => ⟨none, 0, 1⟩ }
theorem lk_map {α β : Type} (f : α → β) : ∀ (l : List (Nat × α)) (x : Nat), lk x (l.map fun p => (p.1, f p.2)) = (lk x l).map f
  | [], x => rfl
  | p :: r, x => by
    simp only [List.map_cons, lk]
    rw [lk_map f r x]
    cases Nat.beq x p.1 <;> rfl
theorem mem_of {w : World} {l : Lay} (h : ∀ p ∈ l, Hv w p.1 p.2.1 p.2.2.1 p.2.2.2) : Mem (envOf l) noOwn w (fun x => lk x (l.map fun p => (p.1, p.2.1))) := by
  have hl : ∀ x, lk x (l.map fun p => (p.1, p.2.1)) = (lk x l).map fun q => q.1 := fun x => lk_map (fun q => q.1) l x
  refine ⟨fun x c hx => ?_, fun x hx => ?_⟩
  · replace hx := (hl x).symm.trans hx
    obtain ⟨q, hq, rfl⟩ := Option.map_eq_some_iff.1 hx
    refine ⟨q.2.1, by simp [envOf, hq], h (x, q) (lk_mem hq) _ fun i => by simp [envOf, hq]⟩
  · replace hx := (hl x).symm.trans hx
    have : lk x l = none := by simpa using hx
    simp [envOf, this]
theorem den_sl {l : Lay} {x : Nm} {q : Ch × Hd × (Nat → Hd)} {n : Nat} (h : lk x l = some q) : Den1 (envOf l) (.sl x 0 n) (.slice q.2.1.ao n q.2.1.c) :=
  ⟨⟨_, _, rfl⟩, fun h' hh => by
    have hh : (lk x l).map (fun q => q.2.1) = some h' := hh
    rw [h] at hh; simp at hh; subst hh
    exact ⟨_, rfl, fun _ => rfl, fun h0 => absurd h0 (by omega)⟩⟩

theorem ofS {E : Nat} {w : World} {v : Value} {zs : List Int} (x E' : Nat) (h : OwS E w v zs) : ∃ hd r, v = .slice hd.ao zs.length hd.c ∧ Hv w x ⟨false, E', 1, .vals (ivals zs)⟩ hd r := by
  obtain ⟨ao, n, c, rfl, ho⟩ := h
  have hl := ho.len
  simp at hl
  subst hl
  refine ⟨⟨ao, c, 1⟩, fun _ => ⟨none, 0, 1⟩, rfl, fun η _ => ⟨rfl, ?_, fun j hj => ?_⟩⟩
  · show (ivals zs).length ≤ c * 1
    rw [ivals_len, Nat.mul_one]
    rcases Nat.eq_zero_or_pos zs.length with h0 | h0
    · omega
    · obtain ⟨g, _, _, _, h1, _⟩ := ho.form h0; exact h1
  · have hj : j < zs.length := by have : j < (ivals zs).length := hj; rwa [ivals_len] at this
    obtain ⟨g, rfl, _, hlt, _, hc, _⟩ := ho.form (by omega)
    refine ⟨g, 0, I6 (iget zs j), rfl, rfl, hlt, ?_, ivals_get hj⟩
    rw [Nat.zero_add, hc j hj]
    exact ivals_get hj
/-- what a contract in names says of a call whose arguments are only read -/
theorem FC.call {P : Program} {f : FuncId} {ins outs : List (Nm × Ch)} {args : List AV} {res : AV} {back : List (Nat × AV)} (h : FC P f ins args outs res back) {w : World} {l : Lay} {us : List Value} (hl : ∀ p ∈ l, Hv w p.1 p.2.1 p.2.2.1 p.2.2.2) (hi : (l.map fun p => (p.1, p.2.1)) = ins)
    (hd : DenL (envOf l) args us) : Calls P f us.toArray w fun e w' => ∃ v η ω, e = .returned v ∧ Den η res v ∧ Mem η ω w' (fun x => lk x outs) ∧ Below w.heap.size w w' ∧ ∀ b, b < w.heap.size → ω b = none := by
  subst hi
  refine (h w (envOf l) noOwn us (mem_of hl) hd).mono ?_
  rintro e w' ⟨v, η, ω, he, h1, h2, h3, _⟩
  exact ⟨v, η, ω, he, h1, h2, ⟨h3.os, h3.tape, h3.output, h3.size, fun b hb => (h3.block b hb rfl).1⟩, fun b hb => (h3.block b hb rfl).2⟩

section
variable {η : Env} {ω : Own?} {w' : World} {lo : Nat} {outs : List (Nm × Ch)}
/-- a vector of the call's own is a row of the words -/
theorem VecO.own {ow : Nm × Option Nat} {h : Hd} {E : Nat} {xs : List Value} {len : Nat} {cell : Nat → Value → Prop} (hk : h.k = 1) (hv : VecO ω w' ow h E len cell) (hlo : ∀ b, b < lo → ω b = none) (hn : len ≤ 4398046511104) (hx : xs.length = len)
    (hc : ∀ j u, j < len → (∃ b o, h.ao = some ⟨b, o, none⟩ ∧ w'.cell? ⟨b, o + j, none⟩ = some u) → xs[j]? = some u) :
    Own w' lo E h.ao len h.c xs ∧ ∀ g, bk h.ao = some g → g < w'.heap.size ∧ ω g = some ow := by
  rcases hv with ⟨h1, h2, h3⟩ | ⟨b, o, cs, h1, h2, h3, ⟨h4, h4'⟩, h5, h6, h7⟩
  · subst h3
    refine ⟨⟨⟨by simpa using hx, .inl ⟨by rw [h1, h2], rfl⟩⟩, hn⟩, fun g hg => by rw [h1] at hg; cases hg⟩
  · subst h4
    rw [hk, Nat.mul_one] at h4' h5
    have hb : lo ≤ b := by
      rcases Nat.lt_or_ge b lo with h8 | h8
      · rw [hlo b h8] at h2; cases h2
      · exact h8
    refine ⟨⟨⟨by simpa using hx, .inr ⟨b, h.c, cs, by rw [h1], hb, h3, h5, h6, by rw [h4', Nat.mul_one], ?_⟩⟩, hn⟩, fun g hg => ?_⟩
    · apply List.ext_getElem?
      intro j
      rw [Nat.mul_one, List.getElem?_take]
      by_cases hj : j < len
      · obtain ⟨u, hu, _⟩ := h7 j hj
        rw [Nat.zero_add] at hu
        rw [if_pos hj, hc j u hj ⟨b, 0, h1, by rw [Nat.zero_add, cell_of_row w' b j cs E (0, 0) h3]; exact hu⟩]
        simpa using hu
      · rw [if_neg hj, List.getElem?_eq_none (by omega)]
    · rw [h1] at hg
      simp [bk] at hg
      subst hg
      exact ⟨lt_of_heap h3, h2⟩
end

/-- a contract in words of a function that reads, as a contract in names -/
theorem fc_of_calls {P : Program} {f : FuncId} {ins : List (Nm × Ch)} {args : List AV} {r : Value} (h : ∀ w η ω us, Mem η ω w (fun x => lk x ins) → DenL η args us → Calls P f us.toArray w fun e w' => e = .returned r ∧ Below w.heap.size w w') : FC P f ins args [] (vv r) [] := by
  intro w η ω us hm hd
  refine (h w η ω us hm hd).mono ?_
  rintro e w' ⟨rfl, hb⟩
  exact ⟨r, { h := fun _ => none, r := η.r }, ω, rfl, rfl, ⟨fun x c hx => (nomatch hx), fun x _ => rfl⟩, ⟨hb.os, hb.tape, hb.output, hb.size, fun b hlt hn => ⟨hb.block b hlt, hn⟩⟩, fun t av ht => (nomatch ht)⟩
section
variable {η : Env} {ω : Own?} {w : World} {ins : List (Nm × Ch)}
theorem rdS {x : Nat} {own : Bool} {E : Nat} {zs : List Int} {v : Value} (hm : Mem η ω w (fun x => lk x ins)) (hx : lk x ins = some ⟨own, E, 1, .vals (ivals zs)⟩) (hv : Den1 η (.sl x 0 zs.length) v) (hn : zs.length ≤ 17592186044416) : ∃ ao c, v = .slice ao zs.length c ∧ Ints w ao zs.length zs := by
  obtain ⟨h, h1, h2, h3⟩ := hm.1 x _ hx
  obtain ⟨ao, rfl, h4, _⟩ := hv.2 h h1
  have h3 : Vec own ω w (x, none) h E (ivals zs).length (cellsOK η ω w own x (.vals (ivals zs))) := h3
  rw [h4 rfl]
  refine ⟨_, _, rfl, rfl, hn, fun h0 => ?_⟩
  obtain ⟨b, o, u, f1, _, _⟩ := h3.get (j := 0) (by rw [ivals_len]; exact h0)
  refine ⟨b, o, f1, fun j hj => ?_⟩
  obtain ⟨b', o', u', g1, g2, g3⟩ := h3.get (j := j) (by rw [ivals_len]; exact hj)
  rw [f1] at g1; injection g1 with g1; injection g1 with g1 g1'; subst g1 g1'
  have g3 : (ivals zs)[j]? = some u' := g3
  rw [ivals_get hj] at g3
  rw [g2, ← g3]
end
end Go.Proofs.YtljimlejcecleaaGreatDoor

/- A memory of names: calls that make one vector; rows taken out and laid back; slices of rows; literals of rows and of arrays. No program in sight. -/
namespace Go.Proofs.YtljimlejcecleaaGreatDoor
open Go.RowKit

section
variable {P : Program} {nt : Nat} {S S1 S2 : St} {w0 w : World} {ω0 : Beg} {ω : Own?} {η : Env} {a : Act} {Q : Exit → Act → World → Prop} {ops : Array Oper} {rest : List Oper}
variable {t : Nat} {ty : TypeId} {ps : String} {af : Array Edge} {gd : Option (Nat × Bool)} {x y : Operand} {av : AV} {o : Oper}

theorem nbeq_comm (x y : Nat) : Nat.beq x y = Nat.beq y x := by
  cases h : Nat.beq x y with
  | true => rw [beq_true h]; simp
  | false =>
    cases h2 : Nat.beq y x with
    | false => rfl
    | true => rw [beq_true h2] at h; simp at h
theorem inL_one (x y : Nm) (c : Ch) : inL [(x, c)] y = Nat.beq x y := by
  unfold inL; simp only [lk]
  rw [nbeq_comm x y]
  cases Nat.beq y x <;> rfl
theorem bad_one (x : Nm) (c : Ch) (a : A1) : a.bad (inL [(x, c)]) (memB []) = a.has x := by
  cases a with
  | val v => rfl
  | any => rfl
  | sl y _ _ => exact inL_one x y c
  | ptr y _ => show (inL [(x, c)] y && !memB [] y) = _; rw [inL_one]; simp [memB, A1.has]
  | esl y _ _ _ => exact inL_one x y c
  | eptr y _ _ => exact inL_one x y c
  | clo f xs => show xs.any (fun p => inL [(x, c)] p.1 && !memB [] p.1) = xs.any fun p => Nat.beq x p.1; congr 1; funext p; rw [inL_one]; simp [memB]
theorem bad_one2 (x : Nm) (c : Ch) (a : A2) : a.bad (inL [(x, c)]) (memB []) = a.has x := by
  cases a with
  | one a => exact bad_one x c a
  | agg l => show l.any _ = l.any _; congr 1; funext a; exact bad_one x c a
theorem bad_one3 (x : Nm) (c : Ch) (a : AV) : a.bad (inL [(x, c)]) (memB []) = a.has x := by
  cases a with
  | s a => exact bad_one2 x c a
  | tup l => show l.any _ = l.any _; congr 1; funext a; exact bad_one2 x c a
theorem clean_one (x : Nm) (c d : Ch) : d.clean (inL [(x, c)]) (memB []) = d.forget x := by
  obtain ⟨ow, E, k, d⟩ := d
  unfold Ch.clean Ch.forget Dat.clean Dat.forget
  cases d with
  | flat l =>
    have : (l.map fun a => bif a.bad (inL [(x, c)]) (memB []) then A1.any else a) = l.map (A1.forget x) := List.map_congr_left fun a _ => by rw [bad_one]; rfl
    simp only [this]
  | vals vs => rfl
  | rows F vss hs => rfl
  | mix cs => rfl
/-- a call that reads and makes one chunk -/
theorem wk_after1 {ins : List (Nm × Ch)} {t : Nat} {res : AV} {x : Nm} {c : Ch} (hro : (ins.all fun p => !p.2.own) = true) : Wk ((S.after ins [(x, c)] []).putO (some t) res) ((S.new x c).put t res) := by
  have hc : ∀ x, consB ins x = false := fun x => by
    unfold consB
    cases h : lk x ins with
    | none => rfl
    | some c => have := List.all_eq_true.1 hro _ (lk_mem h); simpa using this
  refine Wk.less (fun t' av h => ?_) (fun y d h => ?_) fun t' av h => ?_
  · rw [sl_put] at h
    show ((S.after ins [(x, c)] []).put t res).sl t' = some av
    rw [sl_put]
    by_cases e : t' = t
    · rw [if_pos e] at h ⊢; exact h
    · rw [if_neg e] at h ⊢
      obtain ⟨h1, h2⟩ := sl_new h
      show ((S.sl t').bind fun av => bif av.bad (inL [(x, c)]) (memB []) then none else some av) = some av
      rw [h1, Option.bind_some, bad_one3, h2]; rfl
  · have h' : (S.new x c).ch y = some d := h
    clear h
    rw [ch_new] at h'
    show (match lk y [(x, c)] with | some c => some c | none => bif consB ins y then none else (S.ch y).map (Ch.clean (inL [(x, c)]) (memB []))) = some d
    simp only [lk]
    by_cases e : y = x
    · rw [if_pos e] at h'; subst e; simpa using h'
    · rw [if_neg e] at h'
      rw [beq_ne e, cond_false, hc, cond_false]
      have : Ch.clean (inL [(x, c)]) (memB []) = Ch.forget x := funext fun d => clean_one x c d
      rw [this]; exact h'
  · have h : (S.new x c).ph t' = some av := h
    obtain ⟨h1, h2⟩ := ph_new h
    show ((S.ph t').bind fun av => bif av.bad (inL [(x, c)]) (memB []) then none else some av) = some av
    rw [h1, Option.bind_some, bad_one3, h2]; rfl
theorem stp_callN {f : FuncId} {xs : Array Operand} {ts : Array TypeId} {ins : List (Nm × Ch)} {args args' : List AV} {res : AV} {back : List (Nat × AV)} {x : Nm} {c : Ch}
    (hfc : FC P f ins args [(x, c)] res back) (hf : goFnB P f = true) (ht : Nat.blt t nt = true) (hx' : opL S xs.toList = some args') (hto : allTo args' args) (hin : allIn S ins) (hro : (ins.all fun p => !p.2.own) = true) (hnr : (res.names.all (inL [(x, c)])) = true) (hno : ([(x, c)].all fun p => p.2.own && p.2.names.all (inL [(x, c)])) = true) :
    Stp P nt ⟨some t, .call { callee := .value (.func f), args := xs, argTypes := ts }, ty, ps, af, gd⟩ S ((S.new x c).put t res) :=
  (stp_call (kp := []) hfc hf (by simp [ht]) hx' hto hin trivial hnr hno).wk (wk_after1 hro)

/-- a contract in words of a function that hands back integers of its own, as a contract in names -/
theorem vecO_of {x : Nm × Option Nat} {w' : World} {lo E n c : Nat} {ao : Option Addr} {xs : List Value} (h : Own w' lo E ao n c xs) {ω' : Own?} (ho : ∀ g, bk ao = some g → ω' g = some x) : VecO ω' w' x ⟨ao, c, 1⟩ E xs.length fun j u => xs[j]? = some u := by
  have hl := h.len
  rcases h.1.2 with ⟨h2, h3⟩ | ⟨g, cap, cur, hv, hg, hh, h4, h5, h6, h7⟩
  · injection h2 with e1 e2 e3
    subst e1 e3
    exact .inl ⟨rfl, rfl, by omega⟩
  · injection hv with e1 e2 e3
    subst e1 e3
    refine .inr ⟨g, 0, cur, rfl, ho g rfl, hh, ⟨rfl, h6⟩, by show xs.length ≤ c * 1; omega, h5, fun j hj => ?_⟩
    have h8 : xs[j]? = some xs[j] := List.getElem?_eq_getElem hj
    refine ⟨xs[j], ?_, h8⟩
    have h9 : (cur.toList.take (n * 1))[j]? = some xs[j] := by rw [h7]; exact h8
    rw [List.getElem?_take] at h9
    split at h9
    · rw [Nat.zero_add]; simpa using h9
    · cases h9
theorem fc_of_own {f : FuncId} {ins : List (Nm × Ch)} {args : List AV} {x E : Nat} {zs : List Int} (h : ∀ w η ω us, Mem η ω w (fun x => lk x ins) → DenL η args us → Calls P f us.toArray w fun e w' => ∃ ao c, e = .returned (.slice ao zs.length c) ∧ Own w' w.heap.size E ao zs.length c (ivals zs) ∧ Below w.heap.size w w') :
    FC P f ins args [(x, ⟨true, E, 1, .vals (ivals zs)⟩)] (o1 (.sl x 0 zs.length)) [] := by
  intro w η ω us hm hd
  refine (h w η ω us hm hd).mono ?_
  rintro e w' ⟨ao, c, rfl, ho, hb⟩
  refine ⟨_, { h := fun y => if y = x then some ⟨ao, c, 1⟩ else none, r := η.r }, fun b => if bk ao = some b then some (x, none) else ω b, rfl, ⟨⟨_, _, rfl⟩, fun hd' he => ?_⟩, ⟨fun y d hy => ?_, fun y hy => ?_⟩, ⟨hb.os, hb.tape, hb.output, hb.size, fun b hlt hn => ⟨hb.block b hlt, ?_⟩⟩, fun t av ht => (nomatch ht)⟩
  · simp only [if_true, Option.some.injEq] at he
    subst he
    exact ⟨_, rfl, fun _ => rfl, fun h0 => absurd h0 (by omega)⟩
  · have hy : lk y [(x, (⟨true, E, 1, .vals (ivals zs)⟩ : Ch))] = some d := hy
    simp only [lk] at hy
    cases hb' : Nat.beq y x with
    | false => rw [hb'] at hy; simp at hy
    | true =>
      rw [hb'] at hy; simp at hy; subst hy
      obtain rfl := beq_true hb'
      exact ⟨⟨ao, c, 1⟩, if_pos rfl, rfl, vecO_of ho fun g hg => if_pos hg⟩
  · have hy : lk y [(x, (⟨true, E, 1, .vals (ivals zs)⟩ : Ch))] = none := hy
    have : y ≠ x := fun e => by subst e; simp [lk] at hy
    exact if_neg this
  · show (if bk ao = some b then some (x, none) else ω b) = none
    rw [if_neg fun e => by have := (ho.lt b e).1; omega]; exact hn

end
end Go.Proofs.YtljimlejcecleaaGreatDoor

/- A memory of names: a call that turns one vector of the caller's in place; quotients and remainders. No program in sight. -/
namespace Go.Proofs.YtljimlejcecleaaGreatDoor
open Go.RowKit

section
variable {P : Program} {nt : Nat} {S S' S2 : St} {t : Nat} {ty : TypeId} {ps : String} {af : Array Edge} {gd : Option (Nat × Bool)} {x y : Operand} {o : Oper}
theorem stp_turn {f : FuncId} {ts : Array TypeId} {n : Nm} {E len : Nat} {zs zs' : List Int} (ht : Nat.blt t nt = true) (hf : goFnB P f = true) (hx : S.op x = some (o1 (.sl n 0 len))) (hc : S.ch n = some ⟨true, E, 1, .vals (ivals zs)⟩) (hl : zs.length = len) (hl' : zs'.length = len) (hlen : len ≤ 4398046511104)
    (h : ∀ ao c (w : World), Own w 0 E ao len c (ivals zs) → Calls P f #[.slice ao len c] w fun e w' => e = .returned (.tuple #[]) ∧ Own w' 0 E ao len c (ivals zs') ∧ w.grownBy w' (bk ao)) :
    Stp P nt ⟨some t, .call { callee := .value (.func f), args := #[x], argTypes := ts }, ty, ps, af, gd⟩ S ((S.set n ⟨true, E, 1, .vals (ivals zs')⟩).put t (.tup [])) := by
  refine ⟨fun w0 ω0 a w Q ⟨η, ω, hs⟩ => ?_⟩
  obtain ⟨hd, e1, e2, e3⟩ := hs.chunk hc
  have e2 : hd.k = 1 := e2
  have e3 : VecO ω w (n, none) hd E (ivals zs).length (cellsOK η ω w true n (.vals (ivals zs))) := e3
  have hu : Den1 η (.sl n 0 len) (a.eval x) := hs.opv hx
  obtain ⟨ao, hev, q1, _⟩ := hu.2 hd e1
  have q1 := q1 rfl
  subst q1
  rw [Nat.sub_zero] at hev
  have hown := VecO.own (lo := 0) (xs := ivals zs) e2 e3 (fun b hb => absurd hb (by omega)) (by rw [ivals_len]; omega) rfl (fun j u hj ⟨b, o, f1, f2⟩ => by
    obtain ⟨b', o', u', g1, g2, g3⟩ := Vec.get (own := true) e3 hj
    rw [f1] at g1; injection g1 with g1; injection g1 with g1 g1'; subst g1 g1'
    rw [f2] at g2
    obtain rfl := Option.some.inj g2
    exact g3)
  rw [ivals_len, hl] at hown
  have hrun : (execOp a.eval ⟨some t, .call { callee := .value (.func f), args := #[x], argTypes := ts }, ty, ps, af, gd⟩).run P w = .ok (.enter f #[.slice hd.ao len hd.c]) w := by
    simp only [execOp]
    have hfe : a.eval (.func f) = .func (Fn.func f) #[] #[] := rfl
    simp [execOp, resolve, hfe, hev, Deferred.ofValue, invoke, goFnB_run hf]
  unfold Oper.wp
  rw [hrun, Oper.upon_enter]
  refine (h _ _ _ hown.1).mono ?_
  rintro e w' ⟨rfl, ho, hg⟩
  have hsz := hg.size
  have hw := hs.write (x := n) (c' := ⟨true, E, 1, .vals (ivals zs')⟩) (ω' := ω) (w' := w') e1 ⟨hg.os, hg.tape, hg.output, hsz, fun b hb hlv => ⟨hg.block b hb fun e => ?_, rfl⟩⟩ ⟨e2, ?_⟩
  · exact ⟨η, ω, hw.putV (by simpa using ht) ⟨#[], rfl, rfl, fun j b hj => by simp at hj⟩⟩
  · have h1 := (hown.2 b e.symm).2
    rcases hlv with h0 | ⟨y, i, c, h0, h2⟩
    · rw [h1] at h0; cases h0
    · rw [h1] at h0; simp at h0; rw [← h0.1, ch_rm, if_pos rfl] at h2; cases h2
  · have hv := vecO_of (ω' := ω) ho (x := (n, none)) fun g hg' => (hown.2 g hg').2
    have : hd = ⟨hd.ao, hd.c, 1⟩ := by rw [← e2]
    rw [this]
    exact hv
/-- a slice held against nil -/
theorem stp_nilYes {xt yt : TypeId} {op : BinOp} {b : Bool} (ht : Nat.blt t nt = true) (hT : sliceB P xt = true) (hx : S.op x = some (vv (.slice none 0 0))) (hop : (op = .eql ∧ b = true) ∨ (op = .neq ∧ b = false)) :
    Stp P nt ⟨some t, .binOp op xt x (.const (.slice none 0 0)) yt, ty, ps, af, gd⟩ S (S.put t (vv (.bool b))) :=
  Stp.pure rfl ht fun _ _ η _ s w hs => by
    obtain ⟨e, he⟩ := sliceB_spec hT
    have hc : s.eval (.const (.slice none 0 0)) = .slice none 0 0 := rfl
    refine ⟨.bool b, ?_, rfl⟩
    rcases hop with ⟨rfl, rfl⟩ | ⟨rfl, rfl⟩
    · simp [execOp, hs.opV hx, hc, eqGuard, Lib.run_eql_slice_nil w xt e none 0 0 0 0 he]
    · simp [execOp, hs.opV hx, hc, eqGuard, Go.run_neq_slice_nil w xt e none 0 0 he]
theorem stp_nilNo {xt yt : TypeId} {op : BinOp} {b : Bool} {n : Nm} {len : Nat} {c : Ch} (ht : Nat.blt t nt = true) (hT : sliceB P xt = true) (hx : S.op x = some (o1 (.sl n 0 len))) (hc : S.ch n = some c) (hl : 0 < c.d.len) (hop : (op = .eql ∧ b = false) ∨ (op = .neq ∧ b = true)) :
    Stp P nt ⟨some t, .binOp op xt x (.const (.slice none 0 0)) yt, ty, ps, af, gd⟩ S (S.put t (vv (.bool b))) :=
  Stp.pure rfl ht fun _ _ η _ s w hs => by
    obtain ⟨e, he⟩ := sliceB_spec hT
    have hcc : s.eval (.const (.slice none 0 0)) = .slice none 0 0 := rfl
    obtain ⟨hd, h1, h2, h3⟩ := hs.chunk hc
    have hd1 : Den1 η (.sl n 0 len) (s.eval x) := hs.opv hx
    obtain ⟨ao, e1, e2, _⟩ := hd1.2 hd h1
    obtain ⟨b', o', u, f1, _, _⟩ := h3.get hl
    have hao : ao = some ⟨b', o', none⟩ := by rw [e2 rfl, f1]
    subst hao
    refine ⟨.bool b, ?_, rfl⟩
    rcases hop with ⟨rfl, rfl⟩ | ⟨rfl, rfl⟩
    · simp [execOp, e1, hcc, eqGuard, Lib.run_eql_slice_nil w xt e _ _ _ 0 0 he]
    · simp [execOp, e1, hcc, eqGuard, Go.run_neq_slice_nil w xt e _ _ _ he]
end
end Go.Proofs.YtljimlejcecleaaGreatDoor

/- A memory of names: mixed vectors: structs with slices in them, and rows of structs. No program in sight. -/
namespace Go.Proofs.YtljimlejcecleaaGreatDoor
open Go.RowKit

section
variable {P : Program} {nt : Nat} {S S1 S2 : St} {w0 w : World} {ω0 : Beg} {ω : Own?} {η : Env} {a : Act} {Q : Exit → Act → World → Prop} {ops : Array Oper} {rest : List Oper}
variable {t : Nat} {ty : TypeId} {ps : String} {af : Array Edge} {gd : Option (Nat × Bool)} {x y : Operand} {av : AV} {o : Oper}

theorem stp_loadM {T : TypeId} {n : Nm} {i : Nat} {c : Ch} {cs : List Cel} {v : Value} (ht : Nat.blt t nt = true) (hT : oneB P T = true) (hx : S.op x = some (o1 (.ptr n i))) (hc : S.ch n = some c) (hd : c.d = .mix cs) (hv : cs[i]? = some (.v v)) :
    Stp P nt ⟨some t, .load T x, ty, ps, af, gd⟩ S (S.put t (vv v)) := stp_load ht hT hx hc (by rw [hd]; simp only [Dat.at_, hv])
theorem stp_loadMR {T : TypeId} {n : Nm} {i F k m : Nat} {c : Ch} {cs : List Cel} {vs : List Value} (ht : Nat.blt t nt = true) (hT : oneB P T = true) (hx : S.op x = some (o1 (.ptr n i))) (hc : S.ch n = some c) (hd : c.d = .mix cs) (hv : cs[i]? = some (.r F k m vs)) :
    Stp P nt ⟨some t, .load T x, ty, ps, af, gd⟩ S (S.put t (o1 (.esl n i 0 m))) := stp_load ht hT hx hc (by rw [hd]; simp only [Dat.at_, hv])
/-- what cells of a chunk read xs0, one after the other -/
theorem stp_loadAggD {T : TypeId} {n : Nm} {i k : Nat} {c : Ch} {l : List A1} (ht : Nat.blt t nt = true) (hx : S.op x = some (o1 (.ptr n i))) (hc : S.ch n = some c) (hl : l.length = k) (hk0 : Nat.blt 0 k = true) (hT : aggB P T k = true)
    (ha : ∀ (j : Nat) (b : A1), l[j]? = some b → c.d.at_ n (i + j) = some b) : Stp P nt ⟨some t, .load T x, ty, ps, af, gd⟩ S (S.put t (.s (.agg l))) :=
  Stp.pure rfl ht fun _ _ η ω a w hs => by
    obtain ⟨h, e1, e2, e3⟩ := hs.chunk hc
    have hp : Den1 η (.ptr n i) (a.eval x) := hs.opv hx
    obtain ⟨b, o, g1, g2⟩ := hp.2 h e1
    have key : ∀ j (hj : j < k), ∃ u, w.cell? ⟨b, o + i + j, none⟩ = some u ∧ ∀ b1, l[j]? = some b1 → Den1 η b1 u := fun j hj => by
      have hlj : l[j]? = some l[j] := List.getElem?_eq_getElem (by omega)
      obtain ⟨b', o', u, f1, f2, f3⟩ := e3.get (j := i + j) (Dat.at_lt (ha j _ hlj))
      rw [g1] at f1; injection f1 with f1; injection f1 with f1 f1'; subst f1 f1'
      exact ⟨u, by rw [Nat.add_assoc]; exact f2, fun b1 hb1 => den_at f3 (ha j b1 hb1)⟩
    refine ⟨.agg ((List.range k).map fun j => (w.cell? ⟨b, o + i + j, none⟩).getD undef).toArray, ?_, ⟨_, rfl, by simp; omega, fun j b1 hb1 => ?_⟩⟩
    · have := run_loadAgg (P := P) (w := w) hT (b := b) (o := o + i) (us := (List.range k).map fun j => (w.cell? ⟨b, o + i + j, none⟩).getD undef) (by simp) fun j u hu => by
        rw [List.getElem?_map, Option.map_eq_some_iff] at hu
        obtain ⟨j', hj', rfl⟩ := hu
        have hjk : j < k := by have := (List.getElem?_eq_some_iff.1 hj').1; simpa using this
        rw [List.getElem?_range hjk] at hj'
        obtain rfl := Option.some.inj hj'
        obtain ⟨u, hu, _⟩ := key j hjk
        rw [hu]; rfl
      simp [execOp, g2, Instr.loadAt, Instr.sureAddr, this]
    · have hjk : j < k := by rw [← hl]; exact (List.getElem?_eq_some_iff.1 hb1).1
      obtain ⟨u, hu, hdu⟩ := key j hjk
      exact ⟨u, by simp [hjk, hu], hdu b1 hb1⟩

theorem stp_storeM {T : TypeId} {n : Nm} {i : Nat} {c : Ch} {cs : List Cel} {v v0 : Value} (hx : S.op x = some (o1 (.ptr n i))) (hy : S.op y = some (vv v)) (hc : S.ch n = some c) (hown : c.own = true) (hd : c.d = .mix cs) (hi : cs[i]? = some (.v v0)) (hT : sizeB P T 1 = true) (h1 : v.oneCell' = true) :
    Stp P nt ⟨none, .store T x y, ty, ps, af, gd⟩ S (S.set n { c with d := .mix (cs.set i (.v v)) }) :=
  have hil : i < cs.length := (List.getElem?_eq_some_iff.1 hi).1
  Stp.unit rfl fun w0 ω0 η ω a w hs => by
    have hb : a.eval y = v := hs.opV hy
    obtain ⟨w', k1, k2⟩ := hs.store1 (P := P) (T := T) (v := v) (d' := .mix (cs.set i (.v v))) (hs.opv hx) hc hown (by rw [hd]; exact hil) hT h1 (by rw [hd]; simp [Dat.len])
      (fun w' j u hj hk => by rw [hd] at hk; exact ⟨hk.1, fun c hc' => by rw [List.getElem?_set_ne (fun e => hj e.symm)] at hc'; exact hk.2 c hc'⟩)
      (fun w' => ⟨h1, fun c hc' => by rw [List.getElem?_set_self hil] at hc'; obtain rfl := Option.some.inj hc'; exact rfl⟩)
    exact ⟨w', by simp [execOp, hb, k1], _, _, k2⟩

/-- plain cells, of which a nil slice may be taken for an empty row -/
def celNew : Cel → Value → Prop
  | .v y, u => u = y
  | .r _ _ m vs, u => m = 0 ∧ vs = [] ∧ u = .slice none 0 0
  | .any, _ => True
def celK : Cel → Nat
  | .r _ k _ _ => k
  | _ => 1
theorem celNew.ok {own : Bool} {n : Nm} {j : Nat} {c : Cel} {u : Value} (hr : η.r n j = ⟨none, 0, celK c⟩) (h : celNew c u) : celOK η ω w true n j c u := by
  cases c with
  | v y => exact h
  | any => trivial
  | r F k m vs =>
    obtain ⟨rfl, rfl, rfl⟩ := h
    refine ⟨by simp, by rw [hr], by rw [hr]; rfl, ?_⟩
    rw [hr]
    exact .inl ⟨rfl, rfl, rfl⟩
/-- append of plain cells to a mixed vector -/
theorem stp_appendMx {T E k n len m : Nat} {cs cn : List Cel} {news : List Value} {b : A1} (ht : Nat.blt t nt = true) (hT : elZ P T E k = true) (hk0 : Nat.blt 0 k = true) (hx : S.op x = some (o1 (.sl n 0 len))) (hc : S.ch n = some ⟨true, E, k, .mix cs⟩) (hl : cs.length = len * k)
    (hy : S.op y = some (o1 b)) (hr : Reads S b m k news) (hm : 0 < m) (h1 : ∀ v ∈ news, v.oneCell' = true) (hcn : cn.length = news.length) (hcel : ∀ (j : Nat) c u, cn[j]? = some c → news[j]? = some u → celNew c u) (hb : len + m ≤ 2199023255552) :
    Stp P nt ⟨some t, .call { callee := .builtin .append, args := #[x, y], argTypes := #[T, T] }, ty, ps, af, gd⟩ S ((S.new n ⟨true, E, k, .mix (cs ++ cn)⟩).put t (o1 (.sl n 0 (len + m)))) :=
  Stp.of _ fun w0 ω0 η ω a w hs => by
    have hk0' : 0 < k := by simpa using hk0
    obtain ⟨hd, e1, e2, e3⟩ := hs.chunk hc
    have e3 : VecO ω w (n, none) hd E cs.length (cellsOK η ω w true n (.mix cs)) := e3
    have hu : Den1 η (.sl n 0 len) (a.eval x) := hs.opv hx
    obtain ⟨ad, cp, r1, r2⟩ := hr.go hs (hs.opv hy)
    have hnl := hr.len
    have hn0 : 0 < news.length := by rw [hnl]; exact Nat.mul_pos hm hk0'
    obtain ⟨bb, o, r3, _⟩ := r2 0 _ (List.getElem?_eq_getElem hn0)
    subst r3
    obtain ⟨h', w', k1, k2⟩ := run_appendO (P := P) (ty := ty) (c := cp) hT hk0' e2 e3 (hu.2 hd e1) rfl (by rw [Nat.zero_add]; exact hl.symm) hm hnl (a := ⟨bb, o, none⟩) (fun j v hj => by
      obtain ⟨b2, o2, h2, h3⟩ := r2 j v hj
      simp only [Option.some.injEq, Addr.mk.injEq, and_true] at h2
      obtain ⟨rfl, rfl⟩ := h2
      rw [Addr.add_lit]; exact h3) h1 hb
    refine ⟨.slice h'.ao (len + m) h'.c, w', by simp [execOp, resolve, invoke, builtin, r1, k1], ?_⟩
    have hlen : (cs ++ cn).length = len * k + news.length := by rw [List.length_append, hl, hcn]
    let r' : Nat → Hd := fun j => if j < cs.length then η.r n j else ⟨none, 0, celK (cn.getD (j - cs.length) .any)⟩
    have hS : (S.rm n).ch n = none := by simp [ch_rm]
    have := hs.renew (n := n) (c := ⟨true, E, k, .mix (cs ++ cn)⟩) (hd := h') (r := r') (calm_grown hS k2) ⟨k2.k_, by
      obtain ⟨b', o', cs', v1, v2, v3, v4, v5, v6, v7, v8⟩ := k2.vec
      refine .inr ⟨b', o', cs', v1, v2, v3, by rw [k2.k_]; exact v4, by rw [k2.k_]; show (cs ++ cn).length ≤ _; rw [hlen]; exact v5, v6, fun j hj => ?_⟩
      have hj : j < (cs ++ cn).length := hj
      rw [hlen] at hj
      by_cases hlt : j < len * k
      · obtain ⟨u, q1, q2⟩ := v7 j hlt
        rw [Nat.zero_mul, Nat.zero_add] at q2
        refine ⟨u, q1, q2.1, fun c hc => ?_⟩
        rw [List.getElem?_append_left (by omega)] at hc
        have hv : ∀ (F : TypeId) (vs : List Value), VecO ω w (n, some j) (η.r n j) F vs.length (fun i u => vs[i]? = some u) → VecO (Own?.new ω w.heap.size (n, none)) w' (n, some j) (η.r n j) F vs.length (fun i u => vs[i]? = some u) := fun F vs f3 =>
          VecO.same (fun b hb ho => ⟨k2.other b hb (by rw [ho]; simp), by simp [Own?.new, Nat.ne_of_lt hb, ho]⟩) (fun _ _ h => h) f3
        exact celOK.move (own := true) (own' := true) (by simp [Env.new, r', hl, hlt]) (fun F k m vs _ f3 => hv F vs f3) (q2.2 c hc)
      · have hj2 : j - len * k < news.length := by omega
        have hnj : news[j - len * k]? = some news[j - len * k] := List.getElem?_eq_getElem hj2
        refine ⟨news[j - len * k], ?_, h1 _ (List.getElem_mem hj2), fun c hc => ?_⟩
        · have := v8 (j - len * k) _ hnj
          rw [show o' + len * k + (j - len * k) = o' + j by omega] at this; exact this
        · rw [List.getElem?_append_right (by omega), hl] at hc
          refine celNew.ok (own := true) ?_ (hcel _ _ _ hc hnj)
          simp only [Env.new, if_true, r', hl, if_neg hlt, List.getD, hc, Option.getD_some]⟩
    exact ⟨_, _, this.putV (by simpa using ht) den_new⟩

/-- a row is taken out of a mixed vector: it is a vector of its own, and nothing is known of its cell -/
theorem wk_takeMx {n i z k kk m : Nat} {E F s : Nat} {cs : List Cel} {vs : List Value} (hc : S.ch n = some ⟨true, E, kk, .mix cs⟩) (hs0 : S.sl s = some (o1 (.esl n i 0 m))) (hi : cs[i]? = some (.r F k m vs)) (hzn : Nat.beq z n = false) :
    Wk S ((((S.cutE n).set n ⟨true, E, kk, .mix (cs.set i .any)⟩).new z ⟨true, F, k, .vals vs⟩).put s (o1 (.sl z 0 m))) := by
  have hne : z ≠ n := fun e => by rw [e] at hzn; simp at hzn
  refine ⟨fun w0 ω0 nt a w ⟨η, ω, h⟩ => ?_⟩
  obtain ⟨u, hu, hdu⟩ := h.slots s _ hs0
  have hdu : Den1 η (.esl n i 0 m) u := hdu
  obtain ⟨hd, e1, e2, e3⟩ := h.chunk hc
  have e3 : VecO ω w (n, none) hd E cs.length (cellsOK η ω w true n (.mix cs)) := e3
  obtain ⟨ao, rfl, q1, _⟩ := hdu.2 hd e1
  have hil : i < cs.length := (List.getElem?_eq_some_iff.1 hi).1
  obtain ⟨b0, o0, u0, _, _, g3⟩ := Vec.get (own := true) e3 hil
  obtain ⟨r0, r1, r2, r3⟩ := g3.2 _ hi
  have r3 : VecO ω w (n, some i) (η.r n i) F vs.length fun j u => vs[j]? = some u := r3
  let ω' : Own? := fun b => if ω b = some (n, some i) then some (z, none) else ω b
  have calm : Calm (S.rm n) ω w ω' w := ⟨rfl, rfl, rfl, Nat.le_refl _, fun b _ hl => ⟨rfl, by
    have h1 : ω b ≠ some (n, some i) := by
      rcases hl with h0 | ⟨y, j, c, h0, h1⟩
      · rw [h0]; simp
      · rw [h0]; intro e; simp at e; rw [e.1, ch_rm, if_pos rfl] at h1; cases h1
    exact if_neg h1⟩⟩
  have key : ChIs { η with r := fun y j => if y = n then η.r n j else η.r y j } ω' w n hd ⟨true, E, kk, .mix (cs.set i .any)⟩ := by
    refine ⟨e2, ?_⟩
    rcases e3 with h0 | ⟨b, o, xs0, f1, f2, f3, f4, f5, f6, f7⟩
    · exact .inl (by simpa [Dat.len] using h0)
    · refine .inr ⟨b, o, xs0, f1, (if_neg (by rw [f2]; simp)).trans f2, f3, f4, by simpa [Dat.len] using f5, f6, fun j hj => ?_⟩
      have hj : j < cs.length := by simpa [Dat.len] using hj
      obtain ⟨u', hu', hk⟩ := f7 j hj
      refine ⟨u', hu', hk.1, fun c hc' => ?_⟩
      by_cases e : j = i
      · subst e; rw [List.getElem?_set_self hil] at hc'; obtain rfl := Option.some.inj hc'; trivial
      · rw [List.getElem?_set_ne (fun e' => e e'.symm)] at hc'
        have hv : ∀ (F : TypeId) (vs : List Value), VecO ω w (n, some j) (η.r n j) F vs.length (fun i u => vs[i]? = some u) → VecO ω' w (n, some j) (η.r n j) F vs.length (fun i u => vs[i]? = some u) := fun F vs f3 =>
          VecO.same (fun b2 _ ho => ⟨rfl, by show (if ω b2 = some (n, some i) then some (z, none) else ω b2) = _; rw [if_neg (by rw [ho]; simpa using e)]; exact ho⟩) (fun _ _ h => h) f3
        exact celOK.move (own := true) (own' := true) (if_pos rfl) (fun F k m vs _ f3 => hv F vs f3) (hk.2 c hc')
  have h1 := h.rewrite (n := n) (r := η.r n) e1 calm key
  have h2 := h1.lay (x := z) (c := ⟨true, F, k, .vals vs⟩) (hd := η.r n i) (r := fun _ => ⟨none, 0, 1⟩) (Calm.refl _ _ _) ⟨r2, by
    show VecO ω' w (z, none) (η.r n i) F vs.length _
    rcases r3 with h0 | ⟨b, o, xs0, f1, f2, f3, f4, f5, f6, f7⟩
    · exact .inl h0
    · exact .inr ⟨b, o, xs0, f1, if_pos f2, f3, f4, f5, f6, f7⟩⟩
  refine ⟨_, ω', { h2 with slots := fun t' av ht' => ?_ }⟩
  rw [sl_put] at ht'
  by_cases e : t' = s
  · subst e
    rw [if_pos rfl] at ht'
    obtain rfl := Option.some.inj ht'
    refine ⟨_, hu, ⟨_, _, rfl⟩, fun hd' he => ?_⟩
    simp [Env.new] at he
    subst he
    exact ⟨_, rfl, fun _ => q1 rfl, fun h0 => absurd h0 (by omega)⟩
  · rw [if_neg e] at ht'
    exact h2.slots t' av ht'

/-- a vector of the call's own is laid into cell i of a mixed vector -/
theorem stp_storeMx {T E F n i z k kk m : Nat} {cs : List Cel} {vs : List Value} (hx : S.op x = some (o1 (.ptr n i))) (hc : S.ch n = some ⟨true, E, kk, .mix cs⟩) (hy : S.op y = some (o1 (.sl z 0 m))) (hz : S.ch z = some ⟨true, F, k, .vals vs⟩)
    (hm : vs.length = m * k) (hzn : Nat.beq z n = false) (hi : i < cs.length) (hT : sizeB P T 1 = true) : Stp P nt ⟨none, .store T x y, ty, ps, af, gd⟩ S (((S.rm z).cutE n).set n ⟨true, E, kk, .mix (cs.set i (.r F k m vs))⟩) :=
  Stp.unit rfl fun w0 ω0 η ω a w hs => by
    have hne : z ≠ n := fun e => by rw [e] at hzn; simp at hzn
    have hp : Den1 η (.ptr n i) (a.eval x) := hs.opv hx
    have hv : Den1 η (.sl z 0 m) (a.eval y) := hs.opv hy
    obtain ⟨h, e1, e2, e3⟩ := hs.chunk hc
    obtain ⟨hz', z1, z2, z3⟩ := hs.chunk hz
    have z2 : hz'.k = k := z2
    have z3 : VecO ω w (z, none) hz' F vs.length (cellsOK η ω w true z (.vals vs)) := z3
    obtain ⟨az, hav, q1, _⟩ := hv.2 hz' z1
    obtain ⟨b, o, g1, g2⟩ := hp.2 h e1
    have e3 : VecO ω w (n, none) h E cs.length (cellsOK η ω w true n (.mix cs)) := e3
    rcases e3 with ⟨_, _, h0⟩ | ⟨b', o', xs0, f1, f2, f3, f4, f5, f6, f7⟩
    · omega
    rw [g1] at f1; injection f1 with f1; injection f1 with f1 f1'; subst f1 f1'
    obtain ⟨u, hu, _⟩ := f7 i hi
    have hcell : w.cell? ⟨b, o + i, none⟩ = some u := by rw [cell_of_row w b (o + i) xs0 E (0, 0) f3]; exact hu
    have hsz : o + i < xs0.size := by
      rcases Nat.lt_or_ge (o + i) xs0.size with hlt | hge
      · exact hlt
      · rw [Array.getElem?_eq_none hge] at hu; cases hu
    have hS : ((S.rm z).rm n).ch n = none := by simp [ch_rm]
    have hSz : ((S.rm z).rm n).ch z = none := by simp [ch_rm, hne]
    have hsame := same_setCell (w := w) f2 ⟨b, o + i, none⟩ rfl (.slice az m (hz'.c - 0))
    have calm : Calm ((S.rm z).rm n) ω w (Own?.give ω z n i) (w.setCell ⟨b, o + i, none⟩ (.slice az m (hz'.c - 0))) := ⟨rfl, rfl, rfl, hsame.1, fun b2 hb2 hl => by
      have h1 : ω b2 ≠ some (n, none) ∧ ω b2 ≠ some (z, none) := by
        rcases hl with h0 | ⟨y, j, c, h0, h1⟩
        · rw [h0]; simp
        · rw [h0]
          refine ⟨fun e => ?_, fun e => ?_⟩
          · simp at e; rw [e.1, hS] at h1; cases h1
          · simp at e; rw [e.1, hSz] at h1; cases h1
      exact ⟨(hsame.2 b2 hb2 h1.1).1, if_neg h1.2⟩⟩
    have key : ChIs { η.drop z with r := fun y j => if y = n then (if j = i then hz' else η.r n j) else η.r y j } (Own?.give ω z n i) (w.setCell ⟨b, o + i, none⟩ (.slice az m (hz'.c - 0))) n h ⟨true, E, kk, .mix (cs.set i (.r F k m vs))⟩ := by
      refine ⟨e2, ?_⟩
      have hbz : ω b ≠ some (z, none) := by rw [f2]; simp; exact fun e => hne e.symm
      refine .inr ⟨b, o, _, g1, (if_neg hbz).trans f2, heap_set f3 _, by simpa using f4, by show (cs.set i _).length ≤ _; rw [List.length_set]; exact f5, f6, fun j hj => ?_⟩
      have hj : j < cs.length := by simpa [Dat.len] using hj
      by_cases e : j = i
      · subst e
        refine ⟨.slice az m (hz'.c - 0), by simp [hsz], rfl, fun c hc' => ?_⟩
        rw [List.getElem?_set_self hi] at hc'
        obtain rfl := Option.some.inj hc'
        unfold celOK
        simp only [if_true]
        refine ⟨hm, by rw [q1 rfl]; rfl, z2, VecO.give z3 fun b2 hb2 ho => ⟨(hsame.2 b2 hb2 (by rw [ho]; simp; exact fun e => absurd e hne)).1, if_pos ho⟩⟩
      · obtain ⟨u', hu', hk⟩ := f7 j hj
        refine ⟨u', by rw [Array.getElem?_setIfInBounds_ne (by omega)]; exact hu', hk.1, fun c hc' => ?_⟩
        rw [List.getElem?_set_ne (fun e' => e e'.symm)] at hc'
        have hv : ∀ (F : TypeId) (vs : List Value), VecO ω w (n, some j) (η.r n j) F vs.length (fun i u => vs[i]? = some u) → VecO (Own?.give ω z n i) (w.setCell ⟨b, o + i, none⟩ (.slice az m (hz'.c - 0))) (n, some j) (η.r n j) F vs.length (fun i u => vs[i]? = some u) := fun F vs r3 =>
          VecO.same (fun b2 hb2 ho => ⟨(hsame.2 b2 hb2 (by rw [ho]; simp)).1, by unfold Own?.give; rw [if_neg (by rw [ho]; simp)]; exact ho⟩) (fun _ _ h => h) r3
        exact celOK.move (own := true) (own' := true) (by simp only [if_true, if_neg e]) (fun F k m vs _ f3 => hv F vs f3) (hk.2 c hc')
    have hfin := (hs.drop z).rewrite (n := n) (r := fun j => if j = i then hz' else η.r n j) (hd := h) (by show (if n = z then none else η.h n) = some h; rw [if_neg (fun e => hne e.symm)]; exact e1) calm key
    have hst := run_store1 (P := P) hT hcell (frozen_of f3) (v := .slice az m (hz'.c - 0)) rfl
    simp only [Nat.sub_zero] at hst hfin
    refine ⟨_, by simp [execOp, hav, g2, hst], _, _, hfin⟩

/-- an index into a row of a mixed vector -/
theorem stp_ixM {T : TypeId} {n : Nm} {i0 len j k m : Nat} {c : Ch} {F : TypeId} {cs : List Cel} {vs : List Value} {ki : IntKind} {i : Int} (ht : Nat.blt t nt = true) (hx : S.op x = some (o1 (.esl n i0 0 len))) (hy : S.op y = some (vv (.int ki i))) (hc : S.ch n = some c) (hd : c.d = .mix cs) (hT : elemB P T k = true)
    (hi0 : cs[i0]? = some (.r F k m vs)) (hk0 : 0 < k) (hi : i = (j : Int)) (hj : j < len) (hl : len ≤ m) : Stp P nt ⟨some t, .indexAddr T x y, ty, ps, af, gd⟩ S (S.put t (o1 (.eptr n i0 (j * k)))) :=
  Stp.pure rfl ht fun _ _ η ω a w hs => by
    obtain ⟨hd', h1, h2, h3⟩ := hs.chunk hc
    have hd1 : Den1 η (.esl n i0 0 len) (a.eval x) := hs.opv hx
    obtain ⟨ao, e1, e2, e3⟩ := hd1.2 hd' h1
    rw [hd] at h3
    obtain ⟨_, _, _, _, _, k3⟩ := h3.get (j := i0) (List.getElem?_eq_some_iff.1 hi0).1
    obtain ⟨q0, _, q2, q3⟩ := k3.2 _ hi0
    have hm0 : 0 < vs.length := by rw [q0]; exact Nat.mul_pos (by omega) hk0
    obtain ⟨b', o', u, f1, f2, f3⟩ := q3.get hm0
    have hao : ao = some ⟨b', o', none⟩ := by rw [e2 rfl, f1]
    subst hao
    refine ⟨.pointer (some ⟨b', o' + j * k, none⟩), by simp only [execOp, e1, hs.opV hy]; simp [run_indexAddr hT hj hi], ⟨_, rfl⟩, fun hd' he => ?_⟩
    rw [h1] at he; obtain rfl := Option.some.inj he
    exact ⟨b', o', f1, rfl⟩
/-- cells of a row of a mixed vector -/
theorem stp_loadEM {T : TypeId} {n : Nm} {i j k m : Nat} {c : Ch} {F : TypeId} {cs : List Cel} {vs : List Value} {v : Value} (ht : Nat.blt t nt = true) (hT : oneB P T = true) (hx : S.op x = some (o1 (.eptr n i j))) (hc : S.ch n = some c)
    (hd : c.d = .mix cs) (hi : cs[i]? = some (.r F k m vs)) (hj : vs[j]? = some v) : Stp P nt ⟨some t, .load T x, ty, ps, af, gd⟩ S (S.put t (vv v)) :=
  Stp.pure rfl ht fun _ _ η ω a w hs => by
    obtain ⟨hq, h1, _, h3⟩ := hs.chunk hc
    have hd1 : Den1 η (.eptr n i j) (a.eval x) := hs.opv hx
    obtain ⟨bb, o, e1, e2⟩ := hd1.2 hq h1
    rw [hd] at h3
    obtain ⟨_, _, _, _, _, f3⟩ := h3.get (j := i) (List.getElem?_eq_some_iff.1 hi).1
    obtain ⟨_, _, _, g3⟩ := f3.2 _ hi
    obtain ⟨b'', o'', u', k1, k2, k3⟩ := g3.get (j := j) (List.getElem?_eq_some_iff.1 hj).1
    rw [e1] at k1; injection k1 with k1; injection k1 with k1 k1'; subst k1 k1'
    rw [hj] at k3
    obtain rfl := Option.some.inj k3
    exact ⟨v, by simp [execOp, e2, run_load1 hT k2], rfl⟩
/-- an index into a vector of elements of k cells -/
theorem stp_ixT {T : TypeId} {n : Nm} {len j k K : Nat} {c : Ch} {ki : IntKind} {i : Int} (ht : Nat.blt t nt = true) (hx : S.op x = some (o1 (.sl n 0 len))) (hy : S.op y = some (vv (.int ki i))) (hc : S.ch n = some c) (hk : c.k = k) (hT : elemB P T k = true)
    (hi : i = (j : Int)) (hj : j < len) (hl : len * k ≤ c.d.len) (hk0 : 0 < k) (hK : j * k = K) : Stp P nt ⟨some t, .indexAddr T x y, ty, ps, af, gd⟩ S (S.put t (o1 (.ptr n K))) := by
  have := stp_indexAddr (P := P) (nt := nt) (t := t) (ty := ty) (ps := ps) (af := af) (gd := gd) ht hx hy hc hk hT hi hj (by rw [Nat.zero_add]; exact hl) hk0
  rwa [Nat.zero_add, hK] at this
/-- a struct of which one plain field is told -/
theorem stp_build1V {T : TypeId} {x0 : Operand} {v0 : Value} {vs : List Value} (ht : Nat.blt t nt = true) (hx0 : S.op x0 = some (vv v0)) (hb : P.built T [(0, v0)] = some vs.toArray) :
    Stp P nt ⟨some t, .build T #[(0, x0)], ty, ps, af, gd⟩ S (S.put t (.s (.agg (vs.map .val)))) :=
  Stp.of _ fun w0 ω0 η ω a w hs => by
    refine ⟨.agg vs.toArray, w, ?_, η, ω, hs.putV (by simpa using ht) (⟨_, rfl, by simp, fun j b hb => ?_⟩ : Den2 η (.agg (vs.map .val)) _)⟩
    · simp only [execOp]
      simp [hs.opV hx0, run_build w T #[(0, v0)] _ hb]
    · rw [List.getElem?_map, Option.map_eq_some_iff] at hb
      obtain ⟨v, hv, rfl⟩ := hb
      exact ⟨v, by simpa using hv, rfl⟩
/-- a literal of one struct of two plain cells -/
theorem stp_lit2V {T E : Nat} {x0 : Operand} {v0 v1 : Value} (ht : Nat.blt t nt = true) (hT : elZ P T E 2 = true) (hx : S.op x0 = some (.s (.agg [.val v0, .val v1]))) :
    Stp P nt ⟨some t, .buildSlice T 1 #[(0, x0)], ty, ps, af, gd⟩ S ((S.new t ⟨true, E, 2, .vals [v0, v1]⟩).put t (o1 (.sl t 0 1))) :=
  Stp.of _ fun w0 ω0 η ω a w hs => by
    obtain ⟨i, z, k1, k2, k3, k4, k5, k6⟩ := elZ_spec hT
    obtain ⟨us, hu, hul, hua⟩ : Den2 η (.agg [.val v0, .val v1]) (a.eval x0) := hs.opv hx
    obtain ⟨u0, g0, d0⟩ := hua 0 _ rfl
    obtain ⟨u1, g1, d1⟩ := hua 1 _ rfl
    have d0 : u0 = v0 := d0
    have d1 : u1 = v1 := d1
    subst d0 d1
    obtain rfl : us = #[u0, u1] := by
      have : us.size = 2 := hul
      match us with
      | ⟨[p, q]⟩ => simp at g0 g1; rw [g0, g1]
    refine ⟨.slice (some ⟨w.heap.size, 0, none⟩) 1 1, w.alloc (.cells #[u0, u1] E), ?_, ?_⟩
    · have hc : (Value.agg #[u0, u1]).cells = #[u0, u1] := rfl
      simp [execOp, Instr.buildSlice, run_underlying k1, sizeOf, typeInfo, k2, k3, zeroValue, k5, Instr.fill, newRow, hu, hc, range2]
    · have hal := hs.alloc (x := t) (c := ⟨true, E, 2, .vals [u0, u1]⟩) (cs := #[u0, u1]) (r := fun _ => ⟨none, 0, 1⟩) (n := 1) rfl (by simp) (by simp [Dat.len]) (by simp [maxLen]) fun j hj => by
        have hj : j < 2 := hj
        match j, hj with
        | 0, _ => exact ⟨_, by simp, rfl⟩
        | 1, _ => exact ⟨_, by simp, rfl⟩
      exact ⟨_, _, hal.putV (by simpa using ht) den_newsl⟩
theorem range3 (f : Nat → Value) : Array.map f (Array.range 3) = #[f 0, f 1, f 2] := by apply Array.ext'; simp [Array.toList_range, List.range_succ]
theorem range4 (f : Nat → Value) : Array.map f (Array.range 4) = #[f 0, f 1, f 2, f 3] := by apply Array.ext'; simp [Array.toList_range, List.range_succ]
theorem stp_lit3I {T E : Nat} {x0 x1 x2 : Operand} {z0 z1 z2 : Int} (ht : Nat.blt t nt = true) (hT : elZ P T E 1 = true) (hx0 : S.op x0 = some (vv (I6 z0))) (hx1 : S.op x1 = some (vv (I6 z1))) (hx2 : S.op x2 = some (vv (I6 z2))) :
    Stp P nt ⟨some t, .buildSlice T 3 #[(0, x0), (1, x1), (2, x2)], ty, ps, af, gd⟩ S ((S.new t ⟨true, E, 1, .vals (ivals [z0, z1, z2])⟩).put t (o1 (.sl t 0 3))) :=
  Stp.of _ fun w0 ω0 η ω a w hs => by
    obtain ⟨i, z, k1, k2, k3, k4, k5, k6⟩ := elZ_spec hT
    have h0 := hs.opV hx0
    have h1 := hs.opV hx1
    have h2 := hs.opV hx2
    refine ⟨.slice (some ⟨w.heap.size, 0, none⟩) 3 3, w.alloc (.cells #[I6 z0, I6 z1, I6 z2] E), ?_, ?_⟩
    · simp [execOp, Instr.buildSlice, run_underlying k1, sizeOf, typeInfo, k2, k3, zeroValue, k5, Instr.fill, newRow, h0, h1, h2, Value.cells, range3]
    · have hal := hs.alloc (x := t) (c := ⟨true, E, 1, .vals (ivals [z0, z1, z2])⟩) (cs := #[I6 z0, I6 z1, I6 z2]) (r := fun _ => ⟨none, 0, 1⟩) (n := 3) rfl (by simp) (by simp [Dat.len, ivals]) (by simp [maxLen]) fun j hj => by
        match j, hj with
        | 0, _ => exact ⟨I6 z0, by simp, rfl⟩
        | 1, _ => exact ⟨I6 z1, by simp, rfl⟩
        | 2, _ => exact ⟨I6 z2, by simp, rfl⟩
        | j + 3, hj => exact absurd hj (by simp [Dat.len, ivals])
      exact ⟨_, _, hal.putV (by simpa using ht) den_newsl⟩
theorem stp_lit4I {T E : Nat} {x0 x1 x2 x3 : Operand} {z0 z1 z2 z3 : Int} (ht : Nat.blt t nt = true) (hT : elZ P T E 1 = true) (hx0 : S.op x0 = some (vv (I6 z0))) (hx1 : S.op x1 = some (vv (I6 z1))) (hx2 : S.op x2 = some (vv (I6 z2))) (hx3 : S.op x3 = some (vv (I6 z3))) :
    Stp P nt ⟨some t, .buildSlice T 4 #[(0, x0), (1, x1), (2, x2), (3, x3)], ty, ps, af, gd⟩ S ((S.new t ⟨true, E, 1, .vals (ivals [z0, z1, z2, z3])⟩).put t (o1 (.sl t 0 4))) :=
  Stp.of _ fun w0 ω0 η ω a w hs => by
    obtain ⟨i, z, k1, k2, k3, k4, k5, k6⟩ := elZ_spec hT
    have h0 := hs.opV hx0
    have h1 := hs.opV hx1
    have h2 := hs.opV hx2
    have h3 := hs.opV hx3
    refine ⟨.slice (some ⟨w.heap.size, 0, none⟩) 4 4, w.alloc (.cells #[I6 z0, I6 z1, I6 z2, I6 z3] E), ?_, ?_⟩
    · simp [execOp, Instr.buildSlice, run_underlying k1, sizeOf, typeInfo, k2, k3, zeroValue, k5, Instr.fill, newRow, h0, h1, h2, h3, Value.cells, range4]
    · have hal := hs.alloc (x := t) (c := ⟨true, E, 1, .vals (ivals [z0, z1, z2, z3])⟩) (cs := #[I6 z0, I6 z1, I6 z2, I6 z3]) (r := fun _ => ⟨none, 0, 1⟩) (n := 4) rfl (by simp) (by simp [Dat.len, ivals]) (by simp [maxLen]) fun j hj => by
        match j, hj with
        | 0, _ => exact ⟨I6 z0, by simp, rfl⟩
        | 1, _ => exact ⟨I6 z1, by simp, rfl⟩
        | 2, _ => exact ⟨I6 z2, by simp, rfl⟩
        | 3, _ => exact ⟨I6 z3, by simp, rfl⟩
        | j + 4, hj => exact absurd hj (by simp [Dat.len, ivals])
      exact ⟨_, _, hal.putV (by simpa using ht) den_newsl⟩
end
end Go.Proofs.YtljimlejcecleaaGreatDoor

/- A memory of names: a region that draws its order and holds guards, walked once. No program in sight. -/
namespace Go.Proofs.YtljimlejcecleaaGreatDoor
open Go.RowKit

section
variable {P : Program} {nt : Nat} {w0 w : World} {ω0 : Beg} {S S1 : St} {Q : Exit → Act → World → Prop} {a : Act}
/-- an operation, run or passed over, as its guard says -/
inductive GSt (P : Program) (nt : Nat) (ops : Array Oper) (o : Oper) (S1 : St) (A : Add) : Prop where
  | run (hg : o.guard = none) (h : Stp P nt o S1 (S1.add A))
  | yes {j d : Nat} {want : Bool} (hg : o.guard = some (j, want)) (hj : (ops[j]?).bind (·.dst) = some d) (hb : S1.sl d = some (vv (.bool want))) (h : Stp P nt o S1 (S1.add A))
  | no {j d : Nat} {want : Bool} (hg : o.guard = some (j, want)) (hj : (ops[j]?).bind (·.dst) = some d) (hb : S1.sl d = some (vv (.bool (!want)))) (ht : o.dst = some A.t) (hn : Nat.blt A.t nt = true) (ha : A.av = vv undef) (hx : A.news = none)
/-- the operations, one behind the other in the text's order: each may look at what it depends on alone -/
inductive DrawG (P : Program) (nt : Nat) (ops0 : Array Oper) (S : St) (cls : List (List Nat)) (sk : List Nat) : List Oper → List Add → List Add → Prop where
  | nil {done : List Add} : DrawG P nt ops0 S cls sk [] done done
  | skip {o : Oper} {rest : List Oper} {done all : List Add} (A : Add) (hs : memN sk done.length = true) (k : DrawG P nt ops0 S cls sk rest (A :: done) all) : DrawG P nt ops0 S cls sk (o :: rest) done all
  | cons {o : Oper} {rest : List Oper} {done all : List Add} (A : Add)
      (h : ∀ S1, (S.partR (memN (cls.getD done.length [])) done).le S1 → GSt P nt ops0 o S1 A) (k : DrawG P nt ops0 S cls sk rest (A :: done) all) : DrawG P nt ops0 S cls sk (o :: rest) done all
theorem DrawG.spec {ops0 : Array Oper} {cls : List (List Nat)} {sk : List Nat} {ops : List Oper} {done all : List Add} (h : DrawG P nt ops0 S cls sk ops done all) : (∃ r, all.reverse = done.reverse ++ r ∧ r.length = ops.length) ∧ ∀ (i : Nat) (o : Oper), ops[i]? = some o → memN sk (done.length + i) = false →
    ∃ A, all.reverse[done.length + i]? = some A ∧ ∀ S1, (S.partR (memN (cls.getD (done.length + i) [])) (all.reverse.take (done.length + i)).reverse).le S1 → GSt P nt ops0 o S1 A := by
  induction h with
  | nil => exact ⟨⟨[], by simp⟩, fun i o h => by simp at h⟩
  | @skip o rest done all A hs k ih =>
    obtain ⟨⟨r, hr, hl⟩, h2⟩ := ih
    refine ⟨⟨A :: r, by rw [hr]; simp, by simp [hl]⟩, fun i o' hi hsk => ?_⟩
    cases i with
    | zero => rw [Nat.add_zero, hs] at hsk; cases hsk
    | succ i =>
      have e : (A :: done).length + i = done.length + (i + 1) := by simp; omega
      rw [← e] at hsk ⊢
      exact h2 i o' (by simpa using hi) hsk
  | @cons o rest done all A h k ih =>
    obtain ⟨⟨r, hr, hl⟩, h2⟩ := ih
    refine ⟨⟨A :: r, by rw [hr]; simp, by simp [hl]⟩, fun i o' hi hsk => ?_⟩
    cases i with
    | zero =>
      simp at hi; subst hi
      refine ⟨A, by rw [hr]; simp, fun S1 hS => h S1 ?_⟩
      have : (all.reverse.take (done.length + 0)).reverse = done := by rw [hr]; simp
      rw [this] at hS
      exact hS
    | succ i =>
      have e : (A :: done).length + i = done.length + (i + 1) := by simp; omega
      rw [← e] at hsk ⊢
      exact h2 i o' (by simpa using hi) hsk

end
section
variable {P : Program} {nt : Nat} {S : St} {cls : List (List Nat)} {sk : List Nat} {o : Oper} {rest : List Oper} {done all : List Add} {ops0 : Array Oper} {t : Nat} {ty : TypeId} {ps : String} {af : Array Edge} {gd : Option (Nat × Bool)} {x y : Operand}
end
end Go.Proofs.YtljimlejcecleaaGreatDoor

/- Chunks of the everyday kinds. -/
namespace Go.Proofs.YtljimlejcecleaaGreatDoor
open Go.RowKit

abbrev leOw (less : List Int) : Ch := ⟨true, 2, 1, .vals (ivals less)⟩
abbrev wRo (W : List Int) : Ch := ⟨false, 2, 1, .vals (ivals W)⟩
section
variable {P : Program} {nt : Nat} {S : St} {t : Nat} {ty : TypeId} {ps : String} {af : Array Edge} {gd : Option (Nat × Bool)} {x y : Operand}
end
end Go.Proofs.YtljimlejcecleaaGreatDoor

/- A memory of names: rows as words; vectors cut short. No program in sight. -/
namespace Go.Proofs.YtljimlejcecleaaGreatDoor
open Go.RowKit

section
variable {η : Env} {ω : Own?} {w : World} {ins : List (Nm × Ch)}
/-- the labels of a component: a row of a mixed vector -/
theorem rdRowM {x i m : Nat} {own : Bool} {E kk F : Nat} {cs : List Cel} {zs : List Int} {v : Value} (hm : Mem η ω w (fun x => lk x ins)) (hx : lk x ins = some ⟨own, E, kk, .mix cs⟩) (hi : cs[i]? = some (.r F 1 m (ivals zs))) (hv : Den1 η (.esl x i 0 m) v) (hn : zs.length ≤ 17592186044416) :
    ∃ ao c, v = .slice ao zs.length c ∧ Ints w ao zs.length zs := by
  obtain ⟨h, h1, h2, h3⟩ := hm.1 x _ hx
  obtain ⟨ao, rfl, h4, _⟩ := hv.2 h h1
  have h3 : Vec own ω w (x, none) h E cs.length (cellsOK η ω w own x (.mix cs)) := h3
  obtain ⟨b', o', u', g1, g2, g3, g4⟩ := h3.get (j := i) (List.getElem?_eq_some_iff.1 hi).1
  obtain ⟨k0, k1, k2, k3⟩ := g4 _ hi
  have hm' : m = zs.length := by rw [ivals_len, Nat.mul_one] at k0; exact k0.symm
  subst hm'
  rw [h4 rfl]
  refine ⟨_, _, rfl, rfl, hn, fun h0 => ?_⟩
  obtain ⟨b2, o2, u2, m1, _, _⟩ := k3.get (j := 0) (by rw [ivals_len]; exact h0)
  refine ⟨b2, o2, m1, fun j hj => ?_⟩
  obtain ⟨b3, o3, u3, n1, n2, n3⟩ := k3.get (j := j) (by rw [ivals_len]; exact hj)
  rw [m1] at n1; injection n1 with n1; injection n1 with n1 n1'; subst n1 n1'
  rw [ivals_get hj] at n3
  rw [n2, ← n3]
end
section
variable {P : Program} {nt : Nat} {S : St} {t : Nat} {ty : TypeId} {ps : String} {af : Array Edge} {gd : Option (Nat × Bool)} {x y : Operand}
theorem stp_maxN {ts : Array TypeId} {m n : Nat} (ht : Nat.blt t nt = true) (hx : S.op x = some (vv (I6 (m : Int)))) (hy : S.op y = some (vv (I6 (n : Int)))) :
    Stp P nt ⟨some t, .call { callee := .builtin .max, args := #[x, y], argTypes := ts }, ty, ps, af, gd⟩ S (S.put t (vv (I6 ((max m n : Nat) : Int)))) := by
  have := stp_max (P := P) (nt := nt) (ty := ty) (ps := ps) (af := af) (gd := gd) (ts := ts) ht hx hy
  rwa [show (if (n : Int) > m then (n : Int) else m) = ((max m n : Nat) : Int) by split <;> omega] at this
end
end Go.Proofs.YtljimlejcecleaaGreatDoor

/- ReverseDiagram: the reference's l12Turned, slices.Clone and slices.Reverse at []int64. -/
namespace Go.Proofs.YtljimlejcecleaaGreatDoor
open Go.RowKit

/-- a list the other way round; closed to simp -/
def turned (zs : List Int) : List Int := zs.reverse
set_option maxHeartbeats 400000 in
theorem clone_any (ao : Option Addr) (n c : Nat) (zs : List Int) (w : World) (h : Ints w ao n zs) (hn : n ≤ 1048576) :
    Calls Tryz.prog 21 #[.slice ao n c] w fun e w' => ∃ ao' c', e = .returned (.slice ao' n c') ∧ Own w' w.heap.size 2 ao' n c' (zs.map (Value.int .i64)) ∧ Below w.heap.size w w' := by
  have he := fun (w : World) => Lib.run_eql_slice_nil (P := Tryz.prog) w 24 2 ao n c 0 0 Tryz.underlying24
  cases ao with
  | none =>
    obtain ⟨rfl, rfl⟩ := h.of_none
    go_enter Tryz.func21, Tryz.ntmps21
    go_wp2
    go_ret
    exact ⟨_, _, rfl, Own.nil_ _ _ _, Below.refl _ _⟩
  | some ad =>
    have h2 : Ints (w.alloc (.cells #[] 2)) (some ad) n zs := h.below ((Below.refl _ _).alloc (Nat.le_refl _) _)
    have H2 := Lib.hid h2
    clear h2
    go_enter Tryz.func21, Tryz.ntmps21
    go_wp2_with (at_builtin; refine wpList_apN etI _ rfl _ _ rfl w.heap.size _ 0 0 [] rfl (Own.empty_ w _ (Nat.le_refl _)) (some ad) n c zs rfl H2.out (by omega) (by simp) ?_; intro ao2 c2 w2 ho2 hg2 hblk)
    go_ret
    refine ⟨_, _, rfl, by simpa using ho2, ((Below.refl _ _).alloc (Nat.le_refl _) _).grown hg2 (by simp) (fun g hg => ?_)⟩
    simp [bk] at hg; omega
end Go.Proofs.YtljimlejcecleaaGreatDoor

/- slices.Reverse at []int64: it turns a row of the call's own round, in place. -/
namespace Go.Proofs.YtljimlejcecleaaGreatDoor
open Go.RowKit

theorem own_iget {w : World} {base E : Nat} {g n c : Nat} {zs : List Int} (h : Own w base E (some ⟨g, 0, none⟩) n c (zs.map (Value.int .i64))) {k : Nat} (hk : k < n) : w.cell? ⟨g, k, none⟩ = some (.int .i64 (iget zs k)) := by
  obtain ⟨g', hg, _, _, _, hc, _⟩ := h.form (by omega)
  obtain rfl : g = g' := by injection hg with hg; injection hg
  have hl : zs.length = n := by have := h.len; simpa using this
  rw [hc k hk, List.getElem?_map, List.getElem?_eq_getElem (by omega), iget_lt (by omega)]; rfl
theorem iget_set_eq {zs : List Int} {k : Nat} (h : k < zs.length) (x : Int) : iget (zs.set k x) k = x := by rw [iget_lt (by simpa using h)]; simp
theorem iget_set_ne {zs : List Int} {k j : Nat} (h : k ≠ j) (x : Int) : iget (zs.set k x) j = iget zs j := by simp [iget, h]

set_option maxHeartbeats 800000 in
theorem reverse_any (ao : Option Addr) (n c : Nat) (zs : List Int) (w : World) (base : Nat) (h : Own w base 2 ao n c (zs.map (Value.int .i64))) :
    Calls Tryz.prog 22 #[.slice ao n c] w fun e w' => e = .returned (.tuple #[]) ∧ Own w' base 2 ao n c ((turned zs).map (Value.int .i64)) ∧ w.grownBy w' (bk ao) := by
  have hn := h.2
  have hl : zs.length = n := by have := h.len; simpa using this
  have HL := Lib.hid hl
  clear hl
  go_enter Tryz.func22, Tryz.ntmps22
  go_wp2
  go_loopw [2, 3] (fun i j wr => ∃ (k : Nat) (cur : List Int), k ≤ n ∧ i = .int .i64 k ∧ j = .int .i64 ((n : Int) - 1 - k) ∧ cur.length = n ∧ (∀ x, x < n → iget cur x = if x < k ∨ n < x + 1 + k then iget zs (n - 1 - x) else iget zs x) ∧ Own wr base 2 ao n c (cur.map (Value.int .i64)) ∧ w.grownBy wr (bk ao)) (fun i _ _ => n - (intOf i).toNat)
  case atStart => exact ⟨0, zs, by omega, rfl, by simp, HL.out, fun x hx => by rw [if_neg (by omega)], h, World.grownBy.refl _ _⟩
  case round =>
    obtain ⟨k, cur, hk, rfl, rfl, hcl, hcur, ho, hg⟩ := hrel
    have HC := Lib.hid hcl
    have HU := Lib.hid hcur
    clear hcl hcur
    by_cases hlt : k + k + 1 < n
    · obtain ⟨j, hj⟩ : ∃ j : Nat, j + k + 1 = n := ⟨n - 1 - k, by omega⟩
      have HJ := Lib.hid hj
      have ej : (n : Int) - 1 - k = j := by omega
      have hjn : j < n := by omega
      have hkn : k < n := by omega
      have hkj : k < j := by omega
      rw [ej]
      clear hj ej
      obtain ⟨g, rfl, -, hgl, -, -, -⟩ := ho.form (by omega)
      have hc1 := own_iget ho hjn
      have hc2 := own_iget ho hkn
      have hf1 := ho.1.frozenAt j
      have hf2 := ho.1.frozenAt k
      have ho1 : Own wr.drew base 2 (some ⟨g, 0, none⟩) n c (cur.map (Value.int .i64)) := ho
      obtain ⟨s1, t1⟩ := ho1.stored k (.int .i64 (iget cur j))
      obtain ⟨s2, t2⟩ := s1.stored j (.int .i64 (iget cur k))
      have S2 := Lib.hid s2
      have T1 := Lib.hid t1
      have T2 := Lib.hid t2
      clear s1 t1 s2 t2 ho1 ho
      go_wp2
      go_region
      go_wp2
      go_roundw
      case rel =>
        refine ⟨k + 1, (cur.set k (iget cur j)).set j (iget cur k), by omega, by go_num, ?_, by simp [HC.out], ?_, by rw [List.map_set, List.map_set]; exact S2.out, grown_tr hg (grown_tr (⟨rfl, rfl, rfl, Nat.le_refl _, fun _ _ _ => rfl⟩ : wr.grownBy wr.drew _) (grown_tr T1.out T2.out))⟩
        · congr 1; have := HJ.out; omega
        · intro x hx
          have hcl := HC.out
          have hjn' := HJ.out
          by_cases h1 : x = j
          · subst h1
            rw [iget_set_eq (by simp; omega), if_pos (by omega), HU.out k (by omega), if_neg (by omega)]
            congr 1; omega
          · rw [iget_set_ne (fun e => h1 e.symm)]
            by_cases h2 : x = k
            · subst h2
              rw [iget_set_eq (by omega), if_pos (by omega), HU.out j (by omega), if_neg (by omega)]
              congr 1; omega
            · rw [iget_set_ne (fun e => h2 e.symm), HU.out x hx]
              by_cases h3 : x < k ∨ n < x + 1 + k
              · rw [if_pos h3, if_pos (by omega)]
              · rw [if_neg h3, if_neg (by omega)]
      case measure => simp [intOf]; omega
    · have hle : (n : Int) - 1 - k ≤ k := by omega
      go_wp2
      go_end0
      refine ⟨rfl, ?_, hg⟩
      have hcl := HC.out
      have hzl := HL.out
      have e : cur = turned zs := by
        apply iget_ext (by unfold turned; simp; omega)
        intro x hx
        have hr : iget (turned zs) x = iget zs (n - 1 - x) := by
          rw [iget_lt (by unfold turned; simp; omega), iget_lt (by omega)]
          unfold turned
          rw [List.getElem_reverse]
          congr 1; omega
        rw [hr, HU.out x (by omega)]
        by_cases h3 : x < k ∨ n < x + 1 + k
        · rw [if_pos h3]
        · rw [if_neg h3]; congr 1; omega
      rw [← e]; exact ho
end Go.Proofs.YtljimlejcecleaaGreatDoor

/- Comparisons of lists, the greatest one of an ascending list, the greatest common divisor. -/
namespace Go.Proofs.YtljimlejcecleaaGreatDoor
open Go.RowKit

set_option maxHeartbeats 400000 in
theorem equal_any (a b : Option Addr) (na nb ca cb : Nat) (za zb : List Int) (w : World) (ha : Ints w a na za) (hb : Ints w b nb zb) :
    Calls Tryz.prog 46 #[.slice a na ca, .slice b nb cb] w fun e w' => e = .returned (.bool (decide (za = zb))) ∧ ∃ m, w' = w.drewN m := by
  have hla := ha.2.1
  have hlb := hb.2.1
  by_cases hl : na = nb
  · subst hl
    have hl' : ((na : Int) != (na:Int)) = false := by simp
    go_enter Tryz.func46, Tryz.ntmps46
    go_wp2
    go_loopw [13] (fun i wr => ∃ k : Nat, k ≤ na ∧ i = .int .i64 k ∧ za.take k = zb.take k ∧ ∃ m, wr = w.drewN m) (fun i _ => na - (intOf i).toNat)
    case atStart => exact ⟨0, Nat.zero_le _, rfl, rfl, 0, rfl⟩
    case round =>
      obtain ⟨k, hk, rfl, hpre, m, rfl⟩ := hrel
      have HP := Lib.hid hpre
      clear hpre
      by_cases hlt : k < na
      · obtain ⟨ba, oa, rfl, hca⟩ := ha.at_ hlt
        obtain ⟨bb, ob, rfl, hcb⟩ := hb.at_ hlt
        have h1 := ha.1
        have h2 := hb.1
        have H1 := Lib.hid h1
        have H2 := Lib.hid h2
        clear h1 h2
        by_cases he : iget za k = iget zb k
        · have he' : (iget za k != iget zb k) = false := by simp [he]
          have HE := Lib.hid he
          clear he
          go_wp2_with fail
          go_quiet (fail)
          go_wp2
          go_roundw
          case rel => exact ⟨k + 1, by omega, by go_num, by rw [take_iget (by rw [H1.out]; omega), take_iget (by rw [H2.out]; omega), HP.out, HE.out], _, rfl⟩
          case measure => simp [intOf]; omega
        · have he' : (iget za k != iget zb k) = true := by simp [he]
          have HE := Lib.hid he
          clear he
          go_wp2_with fail
          go_quiet (fail)
          go_wp2
          go_ret
          exact ⟨ret_bool (by symm; rw [decide_eq_false_iff_not]; intro e; exact HE.out (by rw [e])), _, World.drewN_drewN _ _ _⟩
      · obtain rfl : k = na := by omega
        have h1 := ha.1
        have h2 := hb.1
        have hab : za = zb := by have := HP.out; rwa [List.take_of_length_le (by omega), List.take_of_length_le (by omega)] at this
        have HA := Lib.hid hab
        clear h1 h2 hab
        go_wp2
        go_ret
        exact ⟨ret_bool (by symm; simpa using HA.out), _, rfl⟩
  · have hl' : ((na : Int) != (nb:Int)) = true := by simp; omega
    go_enter Tryz.func46, Tryz.ntmps46
    go_wp2
    go_ret
    refine ⟨ret_bool ?_, 0, rfl⟩
    symm
    rw [decide_eq_false_iff_not]
    intro e
    exact hl (by rw [← ha.1, ← hb.1, e])


theorem us_two {us : List Value} {u0 u1 : Value} (hl : us.length = 2) (g0 : us[0]? = some u0) (g1 : us[1]? = some u1) : us = [u0, u1] := by
  match us, hl with
  | [p, q], _ => simp at g0 g1; rw [g0, g1]
theorem us_one {us : List Value} {u0 : Value} (hl : us.length = 1) (g0 : us[0]? = some u0) : us = [u0] := by
  match us, hl with
  | [p], _ => simp at g0; rw [g0]
theorem eqB (a b : List Int) : decide (a = b) = (a == b) := by
  by_cases h : a = b
  · subst h; simp
  · rw [decide_eq_false h]; symm; simpa using h
/-- slices.Equal of the labels of a component and of a list -/
theorem equalM_fc (cs : List Cel) (i m n E kk : Nat) (labs list : List Int) (hi : cs[i]? = some (.r 2 1 m (ivals labs))) (hm : labs.length = m) (hn : list.length = n) (hm4 : m ≤ 1000000) (hn4 : n ≤ 1000000) :
    FC Tryz.prog 46 [(1000, ⟨false, E, kk, .mix cs⟩), (1001, wRo list)] [o1 (.esl 1000 i 0 m), o1 (.sl 1001 0 n)] [] (vv (.bool (labs == list))) [] :=
  fc_of_calls fun w η ω us hme ⟨hl, ha⟩ => by
    subst hm hn
    obtain ⟨u0, g0, d0⟩ := ha 0 _ rfl
    obtain ⟨u1, g1, d1⟩ := ha 1 _ rfl
    obtain ⟨ao, c, rfl, h0⟩ := rdRowM (x := 1000) hme rfl hi d0 (by omega)
    obtain ⟨ao', c', rfl, h1⟩ := rdS (x := 1001) hme rfl d1 (by omega)
    rw [us_two hl g0 g1]
    refine (equal_any ao ao' _ _ c c' labs list w h0 h1).mono ?_
    rintro e w' ⟨rfl, hq⟩
    exact ⟨ret_bool (eqB _ _), below_of_quiet hq⟩
/-- slices.Clone of a list -/
theorem cloneS_fc (x y n : Nat) (zs : List Int) (hn : zs.length = n) (hl : n ≤ 1000000) :
    FC Tryz.prog 21 [(x, wRo zs)] [o1 (.sl x 0 n)] [(y, leOw zs)] (o1 (.sl y 0 n)) [] := by
  subst hn
  exact fc_of_own fun w η ω us hm ⟨hl', ha⟩ => by
    obtain ⟨u0, g0, d0⟩ := ha 0 _ rfl
    obtain ⟨ao, c, rfl, hr⟩ := rdS (x := x) (own := false) (E := 2) hm (by simp [lk]) d0 (by omega)
    rw [us_one hl' g0]
    refine (clone_any ao _ c _ w hr (by omega)).mono ?_
    rintro e w' ⟨ao', c', rfl, ho, hb⟩
    exact ⟨ao', c', rfl, ho, hb⟩
end Go.Proofs.YtljimlejcecleaaGreatDoor

/- The kind of a diagram, on lists; isDiagram, allNodes and their like in names. -/
namespace Go.Proofs.YtljimlejcecleaaGreatDoor
open Go.RowKit

def kStep (k : Nat) (labs : List Int) : Nat := if (degs labs).length = 0 then (if affB labs = true ∧ k ≠ 2 then 1 else 2) else k
def kindN (ps : Cmps) (j : Nat) : Nat := (ps.take j).foldl (fun k p => kStep k p.2) 0
theorem kindN_succ {ps : Cmps} {j : Nat} (h : j < ps.length) : kindN ps (j + 1) = kStep (kindN ps j) (cget ps j).2 := by
  unfold kindN
  rw [List.take_add_one, List.getElem?_eq_getElem h, List.foldl_append, cget_lt h]
  rfl
theorem kindN_le (ps : Cmps) : ∀ j, kindN ps j ≤ 2 := by
  intro j
  induction j with
  | zero => exact Nat.zero_le _
  | succ j ih =>
    by_cases h : j < ps.length
    · rw [kindN_succ h]; unfold kStep; split
      · split
        · decide
        · exact Nat.le_refl _
      · exact ih
    · have : kindN ps (j + 1) = kindN ps j := by unfold kindN; rw [List.take_of_length_le (by omega), List.take_of_length_le (by omega)]
      rw [this]; exact ih
/-- the mask of all nodes -/
def allN (zs : List Int) : Nat := 2 ^ (zs.length + 1) - 1
theorem allN_lt {zs : List Int} (h : zs.length ≤ 4) : allN zs < 1000 := by
  have : 2 ^ (zs.length + 1) ≤ 2 ^ 5 := Nat.pow_le_pow_right (by decide) (by omega)
  unfold allN; omega
theorem isDiag_len {zs : List Int} (h : isDiag zs = true) : zs.length ≤ 4 := by unfold isDiag at h; simp at h; omega
theorem isDiag_mem {zs : List Int} (h : isDiag zs = true) : ∀ z ∈ zs, z = 0 ∨ (2 ≤ z ∧ z ≤ 32) := by
  intro z hz
  unfold isDiag at h
  simp at h
  have := h.1 z hz
  unfold isLabel inB at this
  simp at this
  omega
theorem labs_of {zs : List Int} {mask : Nat} (h : isDiag zs = true) {k : Nat} (hk : k < (comps zs mask).length) : Labs (cget (comps zs mask) k).2 := by
  have hl := isDiag_len h
  have hp := comps_ok zs mask
  have hm := cget_mem hk
  refine ⟨?_, fun z hz => ?_⟩
  · have h1 := csum_le hm
    have h2 := hp.sum
    omega
  · have h1 := hp.lab _ hm z hz
    have h2 := isDiag_mem h z h1.1
    have h3 := h1.2
    omega
theorem diagI_fc (zs : List Int) (L : Nat) (hL : zs.length = L) (hn : L ≤ 4398046511104) : FC Tryz.prog 16 [(1003, wRo zs)] [o1 (.sl 1003 0 L)] [] (vv (.bool (isDiag zs))) [] :=
  fc_of_calls fun w η ω us hm ⟨hl, ha⟩ => by
    subst hL
    obtain ⟨u0, g0, d0⟩ := ha 0 _ rfl
    obtain ⟨ao, c, rfl, hI⟩ := rdS (x := 1003) hm rfl d0 (by omega)
    rw [us_one hl g0]
    exact isDiagramImpl_any ao _ c _ w hI
theorem allN_pos (L : Nat) : 1 ≤ 2 ^ L := Nat.one_le_two_pow
theorem allI_fc (zs : List Int) (L : Nat) (hL : zs.length = L) (h4 : L ≤ 4) : FC Tryz.prog 24 [(1003, wRo zs)] [o1 (.sl 1003 0 L)] [] (vv (I6 (allN zs))) [] := by
  have h5 : L ≤ 5 := by omega
  have hp : 2 ^ (L + 1) ≤ 2 ^ 5 := Nat.pow_le_pow_right (by decide) (by omega)
  have h1 := allN_pos (L + 1)
  have hw : IntKind.i64.wrap (((2 ^ (L + 1) : Nat) : Int) - 1) = ((allN zs : Nat) : Int) := by
    rw [IntWalk.i64_in _ (by omega)]
    unfold allN; rw [hL]; omega
  refine fc_enter (nt := 7) Tryz.func24 rfl rfl (by simp) fun w0 ω0 => ?_
  (refine goes_seq ?_; refine goes_region ?_; apply run_step rfl; (exact stp_assign rfl rfl); refine run_nil ?_; refine fin_seq ?_; refine goes_seq ?_; refine goes_region ?_; apply run_step rfl; (exact stp_move rfl rfl); apply run_step rfl; (exact stp_len rfl rfl rfl (by as_aux_lemma => kernel_rfl)); apply run_step rfl; (first | exact stp_shl2 (g := L) rfl rfl rfl h5 | exact stp_sub rfl rfl rfl hw); apply run_step rfl; (first | exact stp_shl2 (g := L) rfl rfl rfl h5 | exact stp_sub rfl rfl rfl hw); apply run_step rfl; (exact stp_assign rfl rfl); refine run_nil ?_; refine fin_seq ?_; refine goes_ret ?_)
  exact fin_ret1 (.inl rfl) rfl (.tmp rfl) trivial trivial
def kindR (zs : List Int) : Int := if isDiag zs = true then ((kindN (comps zs (allN zs)) (comps zs (allN zs)).length : Nat) : Int) else 0
def kindC (zs : List Int) : Int := if isDiag zs = true then 0 else 1
end Go.Proofs.YtljimlejcecleaaGreatDoor

/- The kind of a diagram turned round. No program in sight. -/
namespace Go.Proofs.YtljimlejcecleaaGreatDoor
open Go.RowKit

theorem eith_rev (labs list : List Int) : eith labs.reverse list = eith labs list := by
  unfold eith
  have e1 : (labs.reverse == list) = (labs == list.reverse) := by
    rw [Bool.eq_iff_iff, beq_iff_eq, beq_iff_eq]
    constructor
    · rintro rfl; simp
    · rintro rfl; simp
  have e2 : (labs.reverse == list.reverse) = (labs == list) := by
    rw [Bool.eq_iff_iff, beq_iff_eq, beq_iff_eq]
    constructor
    · intro h; exact List.reverse_inj.1 h
    · rintro rfl; rfl
  rw [e1, e2, Bool.or_comm]
theorem affB_rev (labs : List Int) : affB labs.reverse = affB labs := by
  unfold affB
  simp only [eith_rev]
theorem degs_rev (labs : List Int) : degs labs.reverse = degs labs := by
  have h1 : labs.length = 1 → iget labs.reverse 0 = iget labs 0 := fun h => by
    match labs, h with
    | [a], _ => rfl
  have h2 : (labs.reverse = List.replicate labs.length 3) = (labs = List.replicate labs.length 3) := by
    apply propext
    constructor
    · intro h
      have := congrArg List.reverse h
      rwa [List.reverse_reverse, List.reverse_replicate] at this
    · intro h
      have := congrArg List.reverse h
      rwa [List.reverse_replicate] at this
  unfold degs
  simp only [List.length_reverse, eith_rev, h2]
  by_cases h : labs.length = 1
  · rw [h1 h]
  · simp [h]
/-- how bad a component is -/
def kOf (l : List Int) : Nat := if (degs l).length = 0 then (if affB l = true then 1 else 2) else 0
theorem kOf_rev (l : List Int) : kOf l.reverse = kOf l := by unfold kOf; rw [degs_rev, affB_rev]
theorem kStep_max (k : Nat) (l : List Int) (hk : k ≤ 2) : kStep k l = max k (kOf l) := by
  unfold kStep kOf
  by_cases h1 : (degs l).length = 0
  · rw [if_pos h1, if_pos h1]
    by_cases h2 : affB l = true
    · rw [if_pos h2]
      by_cases h3 : k ≠ 2
      · rw [if_pos ⟨h2, h3⟩]; omega
      · rw [if_neg (fun h => h3 h.2)]; omega
    · rw [if_neg h2, if_neg (fun h => h2 h.1)]; omega
  · rw [if_neg h1, if_neg h1]; omega
theorem fold_le (n : Nat) : ∀ (ps : Cmps) (k : Nat), k ≤ 2 → (ps.foldl (fun k p => kStep k p.2) k ≤ n ↔ k ≤ n ∧ ∀ p ∈ ps, kOf p.2 ≤ n)
  | [], k, _ => by simp
  | p :: r, k, hk => by
    have h2 : kOf p.2 ≤ 2 := by unfold kOf; split; split <;> omega; omega
    rw [List.foldl_cons, fold_le n r _ (by rw [kStep_max k p.2 hk]; omega), kStep_max k p.2 hk]
    simp only [List.mem_cons, forall_eq_or_imp]
    constructor
    · rintro ⟨h1, h3⟩; exact ⟨by omega, by omega, h3⟩
    · rintro ⟨h1, h3, h4⟩; exact ⟨by omega, h4⟩
theorem kindN_le_iff (ps : Cmps) (n : Nat) : kindN ps ps.length ≤ n ↔ ∀ p ∈ ps, kOf p.2 ≤ n := by
  unfold kindN
  rw [List.take_length, fold_le n ps 0 (by omega)]
  simp
/-- the components' labels turned round -/
def turnedC (ps qs : Cmps) : Prop := ∀ p ∈ ps, ∃ q ∈ qs, q.2 = p.2.reverse
theorem kind_turned {ps qs : Cmps} (h : turnedC ps qs) (h' : turnedC qs ps) : kindN ps ps.length = kindN qs qs.length := by
  have one : ∀ {ps qs : Cmps}, turnedC ps qs → kindN ps ps.length ≤ kindN qs qs.length := fun {ps qs} h => by
    rw [kindN_le_iff]
    intro p hp
    obtain ⟨q, hq, e⟩ := h p hp
    have := (kindN_le_iff qs _).1 (Nat.le_refl _) q hq
    rw [e, kOf_rev] at this
    exact this
  exact Nat.le_antisymm (one h) (one h')
set_option maxHeartbeats 2000000 in
theorem comps_turned : ∀ (zs : List Int), zs.length ≤ 4 → turnedC (comps zs (allN zs)) (comps zs.reverse (allN zs.reverse))
  | [], _ => by intro p hp; exact ⟨p, by simpa using hp, by simp [comps, pTo, pStep, allN, mBit, jn, List.range, List.range.loop] at hp; subst hp; rfl⟩
  | [a], _ => by
    by_cases ha : a = 2 <;> simp [turnedC, comps, pTo, pStep, allN, mBit, jn, List.range, List.range.loop, iget, pLast, cget, ha]
  | [a, b], _ => by
    by_cases ha : a = 2 <;> by_cases hb : b = 2 <;> simp [turnedC, comps, pTo, pStep, allN, mBit, jn, List.range, List.range.loop, iget, pLast, cget, ha, hb]
  | [a, b, c], _ => by
    by_cases ha : a = 2 <;> by_cases hb : b = 2 <;> by_cases hc : c = 2 <;> simp [turnedC, comps, pTo, pStep, allN, mBit, jn, List.range, List.range.loop, iget, pLast, cget, ha, hb, hc]
  | [a, b, c, d], _ => by
    by_cases ha : a = 2 <;> by_cases hb : b = 2 <;> by_cases hc : c = 2 <;> by_cases hd : d = 2 <;> simp [turnedC, comps, pTo, pStep, allN, mBit, jn, List.range, List.range.loop, iget, pLast, cget, ha, hb, hc, hd]
  | a :: b :: c :: d :: e :: r, h => by simp at h
theorem isDiag_rev (zs : List Int) : isDiag zs.reverse = isDiag zs := by unfold isDiag; rw [List.all_reverse, List.length_reverse]
theorem kindR_rev (zs : List Int) : kindR zs.reverse = kindR zs := by
  unfold kindR
  rw [isDiag_rev]
  by_cases h : isDiag zs = true
  · rw [if_pos h, if_pos h]
    have hl := isDiag_len h
    have h2 := comps_turned zs.reverse (by simpa using hl)
    rw [List.reverse_reverse] at h2
    rw [kind_turned (comps_turned zs hl) h2]
  · rw [if_neg h, if_neg h]
theorem kindC_rev (zs : List Int) : kindC zs.reverse = kindC zs := by unfold kindC; rw [isDiag_rev]
end Go.Proofs.YtljimlejcecleaaGreatDoor

/- The degrees of a component, the reference's: l12Either, l12Degrees, l12Affine. guards: -/
namespace Go.Proofs.YtljimlejcecleaaGreatDoor
open Go.RowKit

end Go.Proofs.YtljimlejcecleaaGreatDoor

/- The components of a diagram, the reference's: l12Parts. guards: -/
namespace Go.Proofs.YtljimlejcecleaaGreatDoor
open Go.RowKit

end Go.Proofs.YtljimlejcecleaaGreatDoor

/- KindOfDiagram, the reference's. guards: -/
namespace Go.Proofs.YtljimlejcecleaaGreatDoor
open Go.RowKit

end Go.Proofs.YtljimlejcecleaaGreatDoor
