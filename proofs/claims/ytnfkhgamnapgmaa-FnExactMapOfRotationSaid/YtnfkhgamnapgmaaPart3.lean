/- A memory of names: the steps of a region that draws its order. No program in sight. -/
import Derived.Test.YtnfkhgamnapgmaaPart2
import Derived.Test.YtnfkhgamnapgmaaPart1
import Derived.Test.YtnfkhgamnapgmaaProg
namespace Go.Proofs.Ytnfkhgamnapgmaa
open Go.RowKit

section
variable {P : Program} {nt : Nat} {w0 w : World} {ω0 : Beg} {S S1 : St} {Q : Exit → Act → World → Prop} {cls : List (List Nat)} {sk : List Nat} {o : Oper} {rest : List Oper} {done all : List Add}
theorem Stp.wk {S2 S3 : St} (h : Stp P nt o S S2) (k : Wk S2 S3) : Stp P nt o S S3 :=
  ⟨fun w0 ω0 a w Q hs => Oper.wp_mono (fun a' w' h' => k.go _ _ _ a' w' h') (h.go w0 ω0 a w Q hs)⟩
theorem draw_put {t : Nat} {av : AV} (hg : o.guard = none) (h : ∀ S1, (S.partR (memN (cls.getD done.length [])) done).le S1 → Stp P nt o S1 (S1.put t av)) (k : Draw P nt S cls sk rest (⟨t, av, none⟩ :: done) all) : Draw P nt S cls sk (o :: rest) done all := .cons ⟨t, av, none⟩ hg h k
theorem draw_new {t : Nat} {av : AV} {x : Nm} {c : Ch} (hg : o.guard = none) (h : ∀ S1, (S.partR (memN (cls.getD done.length [])) done).le S1 → Stp P nt o S1 ((S1.new x c).put t av)) (k : Draw P nt S cls sk rest (⟨t, av, some (x, c)⟩ :: done) all) : Draw P nt S cls sk (o :: rest) done all := .cons ⟨t, av, some (x, c)⟩ hg h k
theorem draw_skip (hs : memN sk done.length = true) (k : Draw P nt S cls sk rest (⟨1000000 + done.length, .tup [], none⟩ :: done) all) : Draw P nt S cls sk (o :: rest) done all := .skip _ hs k
theorem bad_nil {k : Nm → Bool} (a : A1) : a.bad (inL []) k = false := by
  cases a <;> first | rfl | skip
  rename_i f xs
  show xs.any (fun p => inL [] p.1 && !k p.1) = false
  induction xs with
  | nil => rfl
  | cons p r ih => simp [inL, lk] at ih ⊢
theorem bad_nil3 {k : Nm → Bool} (a : AV) : a.bad (inL []) k = false := by
  have h2 : ∀ b : A2, b.bad (inL []) k = false := fun b => by
    cases b with
    | one b => exact bad_nil b
    | agg l => exact List.any_eq_false.2 fun b _ => by rw [bad_nil b]; simp
  cases a with
  | s b => exact h2 b
  | tup l => exact List.any_eq_false.2 fun b _ => by rw [h2 b]; simp
theorem clean_nil {k : Nm → Bool} (c : Ch) : c.clean (inL []) k = c := by
  obtain ⟨ow, E, kk, d⟩ := c
  unfold Ch.clean Dat.clean
  cases d with
  | flat l =>
    have : (l.map fun a => bif a.bad (inL []) k then A1.any else a) = l := by
      conv => rhs; rw [← List.map_id l]
      exact List.map_congr_left fun a _ => by rw [bad_nil a]; rfl
    simp only [this]
  | vals vs => rfl
  | rows F vss hs => rfl
  | mix cs => rfl
/-- a call that takes nothing and makes nothing leaves the state as it is -/
theorem wk_after0 {ins : List (Nm × Ch)} {t : Nat} {res : AV} (hro : (ins.all fun p => !p.2.own) = true) : Wk ((S.after ins [] []).putO (some t) res) (S.put t res) := by
  have hc : ∀ x, consB ins x = false := fun x => by
    unfold consB
    cases h : lk x ins with
    | none => rfl
    | some c => have := List.all_eq_true.1 hro _ (lk_mem h); simpa using this
  refine Wk.less (fun t' av h => ?_) (fun x c h => ?_) fun t' av h => ?_
  · rw [sl_put] at h
    show ((S.after ins [] []).put t res).sl t' = some av
    rw [sl_put]
    by_cases e : t' = t
    · rw [if_pos e] at h ⊢; exact h
    · rw [if_neg e] at h ⊢
      show ((S.sl t').bind fun av => bif av.bad (inL []) (memB []) then none else some av) = some av
      rw [h, Option.bind_some, bad_nil3]; rfl
  · show (match lk x [] with | some c => some c | none => bif consB ins x then none else (S.ch x).map (Ch.clean (inL []) (memB []))) = some c
    have h : S.ch x = some c := h
    simp only [lk, hc, cond_false, h, Option.map_some, clean_nil]
  · have h : S.ph t' = some av := h
    show ((S.ph t').bind fun av => bif av.bad (inL []) (memB []) then none else some av) = some av
    rw [h, Option.bind_some, bad_nil3]; rfl
theorem allIn_le (h : S.le S1) : ∀ {l : List (Nm × Ch)}, allIn S l → allIn S1 l
  | [], _ => trivial
  | (x, c) :: r, hl => ⟨have ⟨c', h1, h2⟩ := hl.1; ⟨c', h.ch _ _ h1, h2⟩, allIn_le h hl.2⟩
theorem opL_le (h : S.le S1) : ∀ {l : List Operand} {m : List AV}, opL S l = some m → opL S1 l = some m
  | [], _, hl => hl
  | x :: r, m, hl => by
    simp only [opL, Option.bind_eq_some_iff, Option.map_eq_some_iff] at hl ⊢
    obtain ⟨av, hx, l, hl, rfl⟩ := hl
    exact ⟨av, h.op hx, l, opL_le h hl, rfl⟩
/-- an arm for a call of f alone -/
theorem call_gate {S2 : St} (f : FuncId) {d : Option Nat} {xs : Array Operand} {ts : Array TypeId} {ty : TypeId} {ps : String} {af : Array Edge} {gd : Option (Nat × Bool)} (h : Stp P nt ⟨d, .call { callee := .value (.func f), args := xs, argTypes := ts }, ty, ps, af, gd⟩ S S2) :
    Stp P nt ⟨d, .call { callee := .value (.func f), args := xs, argTypes := ts }, ty, ps, af, gd⟩ S S2 := h
/-- a call that only reads -/
theorem stp_callR {f : FuncId} {xs : Array Operand} {ts : Array TypeId} {t : Nat} {ty : TypeId} {ps : String} {af : Array Edge} {gd : Option (Nat × Bool)} {ins : List (Nm × Ch)} {args args' : List AV} {res : AV} {back : List (Nat × AV)}
    (hfc : FC P f ins args [] res back) (hf : goFnB P f = true) (ht : Nat.blt t nt = true) (hx' : opL S xs.toList = some args') (hto : allTo args' args) (hin : allIn S ins) (hro : (ins.all fun p => !p.2.own) = true) (hnr : (res.names.all (inL [])) = true) :
    Stp P nt ⟨some t, .call { callee := .value (.func f), args := xs, argTypes := ts }, ty, ps, af, gd⟩ S (S.put t res) :=
  (stp_call (kp := []) hfc hf (by simp [ht]) hx' hto hin trivial hnr rfl).wk (wk_after0 hro)
end
end Go.Proofs.Ytnfkhgamnapgmaa

/- A memory of names: everyday forms of alloc and append. No program in sight. -/
namespace Go.Proofs.Ytnfkhgamnapgmaa
open Go.RowKit


section
variable {P : Program} {nt : Nat} {S S' : St} {w0 w : World} {ω0 : Beg} {ω : Own?} {η : Env} {a : Act}
variable {t : Nat} {ty : TypeId} {ps : String} {af : Array Edge} {gd : Option (Nat × Bool)} {x y : Operand} {av : AV}
theorem stp_allocZ {T : TypeId} (zs : List Value) (ht : Nat.blt t nt = true) (hz : ((P.info? T).bind (·.zero)).map (fun v => v.cells.toList) = some zs) :
    Stp P nt ⟨some t, .alloc T, ty, ps, af, gd⟩ S ((S.new t ⟨true, T, zs.length, .flat (zs.map .val)⟩).put t (o1 (.ptr t 0))) := by

  simp only [Option.map_eq_some_iff, Option.bind_eq_some_iff] at hz
  obtain ⟨z, ⟨i, hi, hz⟩, rfl⟩ := hz
  have := stp_alloc (P := P) (nt := nt) (S := S) (t := t) (ty := ty) (ps := ps) (af := af) (gd := gd) ht hi hz
  simpa using this
theorem stp_lit0R {T E F : Nat} (ht : Nat.blt t nt = true) (hT : elZ P T E 1 = true) :
    Stp P nt ⟨some t, .buildSlice T 0 #[], ty, ps, af, gd⟩ S ((S.new t ⟨true, E, 1, .rows F (irows []) []⟩).put t (o1 (.sl t 0 0))) :=
  Stp.of _ fun w0 ω0 η ω a w hs => by
    obtain ⟨i, z, h1, h2, h3, h4, h5, h6⟩ := elZ_spec hT
    refine ⟨.slice (some ⟨w.heap.size, 0, none⟩) 0 0, w.alloc (.cells #[] E), by simp [execOp, Instr.buildSlice, run_underlying h1, sizeOf, typeInfo, h2, Instr.fill, newRow, range0], ?_⟩
    have hal := hs.alloc (x := t) (c := ⟨true, E, 1, .rows F (irows []) []⟩) (cs := #[]) (r := fun _ => ⟨none, 0, 1⟩) (n := 0) rfl (by simp) (by simp [Dat.len, irows]) (by simp [maxLen]) fun j hj => absurd hj (by simp [Dat.len, irows])
    exact ⟨_, _, hal.putV (by simpa using ht) den_newsl⟩
theorem stp_lit1I {T E : Nat} {x0 : Operand} {z0 : Int} (ht : Nat.blt t nt = true) (hT : elZ P T E 1 = true) (hx : S.op x0 = some (vv (I6 z0))) :
    Stp P nt ⟨some t, .buildSlice T 1 #[(0, x0)], ty, ps, af, gd⟩ S ((S.new t ⟨true, E, 1, .vals (ivals [z0])⟩).put t (o1 (.sl t 0 1))) :=
  Stp.of _ fun w0 ω0 η ω a w hs => by
    obtain ⟨i, z, k1, k2, k3, k4, k5, k6⟩ := elZ_spec hT
    have h0 := hs.opV hx
    refine ⟨.slice (some ⟨w.heap.size, 0, none⟩) 1 1, w.alloc (.cells #[I6 z0] E), ?_, ?_⟩
    · simp [execOp, Instr.buildSlice, run_underlying k1, sizeOf, typeInfo, k2, k3, zeroValue, k5, Instr.fill, newRow, h0, Value.cells, range1]
    · have hal := hs.alloc (x := t) (c := ⟨true, E, 1, .vals (ivals [z0])⟩) (cs := #[I6 z0]) (r := fun _ => ⟨none, 0, 1⟩) (n := 1) rfl (by simp) (by simp [Dat.len, ivals]) (by simp [maxLen]) fun j hj => by
        have hj0 : j = 0 := by simp [Dat.len, ivals] at hj; omega
        subst hj0
        exact ⟨I6 z0, by simp, rfl⟩
      exact ⟨_, _, hal.putV (by simpa using ht) den_newsl⟩
theorem stp_lit2I {T E : Nat} {x0 x1 : Operand} {z0 z1 : Int} (ht : Nat.blt t nt = true) (hT : elZ P T E 1 = true) (hx0 : S.op x0 = some (vv (I6 z0))) (hx1 : S.op x1 = some (vv (I6 z1))) :
    Stp P nt ⟨some t, .buildSlice T 2 #[(0, x0), (1, x1)], ty, ps, af, gd⟩ S ((S.new t ⟨true, E, 1, .vals (ivals [z0, z1])⟩).put t (o1 (.sl t 0 2))) :=
  Stp.of _ fun w0 ω0 η ω a w hs => by
    obtain ⟨i, z, k1, k2, k3, k4, k5, k6⟩ := elZ_spec hT
    have h0 := hs.opV hx0
    have h1 := hs.opV hx1
    refine ⟨.slice (some ⟨w.heap.size, 0, none⟩) 2 2, w.alloc (.cells #[I6 z0, I6 z1] E), ?_, ?_⟩
    · simp [execOp, Instr.buildSlice, run_underlying k1, sizeOf, typeInfo, k2, k3, zeroValue, k5, Instr.fill, newRow, h0, h1, Value.cells, range2]
    · have hal := hs.alloc (x := t) (c := ⟨true, E, 1, .vals (ivals [z0, z1])⟩) (cs := #[I6 z0, I6 z1]) (r := fun _ => ⟨none, 0, 1⟩) (n := 2) rfl (by simp) (by simp [Dat.len, ivals]) (by simp [maxLen]) fun j hj => by
        match j, hj with
        | 0, _ => exact ⟨I6 z0, by simp, rfl⟩
        | 1, _ => exact ⟨I6 z1, by simp, rfl⟩
        | j + 2, hj => exact absurd hj (by simp [Dat.len, ivals])
      exact ⟨_, _, hal.putV (by simpa using ht) den_newsl⟩
/-- append of one integer -/
theorem stp_appI {T E n q len : Nat} {c : Ch} {zs : List Int} {z : Int} (ht : Nat.blt t nt = true) (hT : elZ P T E 1 = true) (hx : S.op x = some (o1 (.sl n 0 len))) (hc : S.ch n = some c) (hce : c = ⟨true, E, 1, .vals (ivals zs)⟩) (hl : zs.length = len)
    (hy : S.op y = some (o1 (.sl q 0 1))) (hq : S.ch q = some ⟨true, E, 1, .vals (ivals [z])⟩) (hb : len + 1 ≤ 2199023255552) :
    Stp P nt ⟨some t, .call { callee := .builtin .append, args := #[x, y], argTypes := #[T, T] }, ty, ps, af, gd⟩ S ((S.new n ⟨true, E, 1, .vals (ivals (zs ++ [z]))⟩).put t (o1 (.sl n 0 (len + 1)))) := by
  have := stp_append (P := P) (nt := nt) (ty := ty) (ps := ps) (af := af) (gd := gd) (vs := ivals zs) (news := ivals [z]) (m := 1) (k := 1) ht hT rfl hx hc hce rfl (by rw [ivals_len]; omega) hy (reads_all hq rfl rfl rfl) (by omega) (by intro v hv; simp [ivals] at hv; subst hv; rfl) hb
  rw [Nat.zero_mul, List.drop_zero, show ivals zs ++ ivals [z] = ivals (zs ++ [z]) from ivals_app zs z] at this
  exact this
/-- append of a row of integers -/
theorem stp_appR {T E F n z q len m : Nat} {zss : List (List Int)} {zs : List Int} (ht : Nat.blt t nt = true) (hT : elZ P T E 1 = true) (hx : S.op x = some (o1 (.sl n 0 len))) (hc : S.ch n = some ⟨true, E, 1, .rows F (irows zss) []⟩) (hl : zss.length = len)
    (hy : S.op y = some (o1 (.sl q 0 1))) (hq : S.ch q = some ⟨true, E, 1, .flat [.sl z 0 m]⟩) (hz : S.ch z = some ⟨true, F, 1, .vals (ivals zs)⟩) (hm : zs.length = m) (hzn : Nat.beq z n = false) (hb : len + 1 ≤ 2199023255552) :
    Stp P nt ⟨some t, .call { callee := .builtin .append, args := #[x, y], argTypes := #[T, T] }, ty, ps, af, gd⟩ S (((S.rm z).new n ⟨true, E, 1, .rows F (irows (zss ++ [zs])) []⟩).put t (o1 (.sl n 0 (len + 1)))) := by
  have := stp_appendRow (P := P) (nt := nt) (ty := ty) (ps := ps) (af := af) (gd := gd) ht hT hx hc (by rw [irows_len]; exact hl) hy hq hz (by rw [ivals_len]; exact hm) hzn hb
  rwa [irows_app] at this
theorem stp_stI {T : TypeId} {n : Nm} {i : Nat} {c : Ch} {zs : List Int} {z : Int} (hx : S.op x = some (o1 (.ptr n i))) (hy : S.op y = some (vv (I6 z))) (hc : S.ch n = some c) (hown : c.own = true) (hd : c.d = .vals (ivals zs)) (hi : i < zs.length) (hT : sizeB P T 1 = true) :
    Stp P nt ⟨none, .store T x y, ty, ps, af, gd⟩ S (S.set n { c with d := .vals (ivals (zs.set i z)) }) := by
  have := stp_storeV (P := P) (nt := nt) (ty := ty) (ps := ps) (af := af) (gd := gd) hx hy hc hown hd (by rw [ivals_len]; exact hi) hT rfl
  rwa [ivals_set] at this
/-- element j of row i -/
def rset (zss : List (List Int)) (i j : Nat) (z : Int) : List (List Int) := zss.set i ((lget zss i).set j z)
theorem stp_stE {T : TypeId} {n : Nm} {i j : Nat} {c : Ch} {E : TypeId} {zss : List (List Int)} {z : Int} (hx : S.op x = some (o1 (.eptr n i j))) (hy : S.op y = some (vv (I6 z))) (hc : S.ch n = some c) (hown : c.own = true)
    (hd : c.d = .rows E (irows zss) []) (hi : i < zss.length) (hj : j < (lget zss i).length) (hT : sizeB P T 1 = true) : Stp P nt ⟨none, .store T x y, ty, ps, af, gd⟩ S (S.set n { c with d := .rows E (irows (rset zss i j z)) [] }) := by
  have := stp_storeE (P := P) (nt := nt) (ty := ty) (ps := ps) (af := af) (gd := gd) hx hy hc hown hd (by simp) (irows_get hi) (by rw [ivals_len]; exact hj) hT rfl
  rwa [ivals_set, irows_set] at this
end
section
variable {P : Program} {nt : Nat} {w0 : World} {ω0 : Beg} {S S1 S' : St} {Q : Exit → Act → World → Prop}
/-- the ways of a test meet again -/
theorem goes_join (S' : St) {c : Operand} {x y : Code} {b : Bool} (hc : S.op c = some (vv (.bool b))) (ht : b = true → Goes P w0 ω0 nt S x (fun e a w => e = .normal ∧ Sat w0 ω0 nt S' a w)) (hf : b = false → Goes P w0 ω0 nt S y (fun e a w => e = .normal ∧ Sat w0 ω0 nt S' a w)) (k : Fin w0 ω0 nt S' .normal Q) :
    Goes P w0 ω0 nt S (.cond c x y) Q := goes_cond hc (fun h => ⟨fun a w hs => Code.wp_mono (fun e a w he => by obtain ⟨rfl, h2⟩ := he; exact k.go a w h2) ((ht h).go a w hs)⟩) (fun h => ⟨fun a w hs => Code.wp_mono (fun e a w he => by obtain ⟨rfl, h2⟩ := he; exact k.go a w h2) ((hf h).go a w hs)⟩)
end
end Go.Proofs.Ytnfkhgamnapgmaa

/- A memory of names: a region that draws its order, in which one operation of the first ones is free to come at any time. No program in sight. -/
namespace Go.Proofs.Ytnfkhgamnapgmaa
open Go.RowKit

section
variable {P : Program} {nt : Nat} {w0 w : World} {ω0 : Beg} {S S1 : St} {Q : Exit → Act → World → Prop} {a : Act}

theorem memN_cons {f : Nat} {sk : List Nat} {j : Nat} : memN (f :: sk) j = (Nat.beq j f || memN sk j) := by
  unfold memN
  rw [List.any_cons]
theorem missing_le {sk : List Nat} {L : Array Bool} : ∀ k, missing sk L k ≤ k := fun k => by
  induction k with
  | zero => exact Nat.le_refl _
  | succ k ih => simp only [missing]; split <;> omega
theorem missing_cons_lo {sk : List Nat} {L : Array Bool} (f : Nat) : ∀ k, k ≤ f → missing (f :: sk) L k = missing sk L k
  | 0, _ => rfl
  | k + 1, h => by
    simp only [missing]
    rw [missing_cons_lo f k (by omega), memN_cons, beq_ne (by omega : k ≠ f), Bool.false_or]
theorem missing_le_cons {sk : List Nat} {L : Array Bool} (f : Nat) (hL : L.getD f false = false) (hs : memN sk f = false) : ∀ k, f < k → missing sk L k = missing (f :: sk) L k + 1
  | 0, h => by omega
  | k + 1, h => by
    simp only [missing]
    rw [memN_cons]
    by_cases e : k = f
    · subst e
      rw [missing_cons_lo k k (Nat.le_refl _), hL, hs]
      simp
    · rw [missing_le_cons f hL hs k (by omega), beq_ne e, Bool.false_or]; omega
theorem missing_cons {sk : List Nat} {f nA : Nat} (hf : f < nA) (hs : memN sk f = false) : missing (f :: sk) #[] nA = missing sk #[] nA - 1 ∧ 0 < missing sk #[] nA := by
  have := missing_le_cons (sk := sk) (L := #[]) f (by simp) hs nA hf
  omega

/-- what the first nA operations depend on; all others wait for them, but perhaps not for f -/
def clsFB (ops : Array Oper) (nA : Nat) (sk : List Nat) (f : Nat) (cls : List (List Nat)) : Bool :=
  Nat.ble nA ops.size && (List.range ops.size).all fun i => match ops[i]? with
    | some o => (Nat.ble nA i || memN sk i || o.after.all fun e => !Region.binds .any e || (Nat.blt e.on i && !memN sk e.on)) && ((cls.getD i []).all fun j => o.after.any fun e => Region.binds .any e && (Nat.beq j e.on || memN (cls.getD e.on []) j)) &&
        ((Nat.blt i nA && !memN sk i) || (List.range nA).all fun j => Nat.beq j f || memN sk j || memN (cls.getD i []) j) && (Nat.ble nA i || (cls.getD i []).all fun j => Nat.blt j i)
    | none => true
structure ClsFOK (ops : Array Oper) (nA : Nat) (sk : List Nat) (f : Nat) (cls : List (List Nat)) : Prop where
  size : nA ≤ ops.size
  less : ∀ i o, ops[i]? = some o → i < nA → memN sk i = false → ∀ e ∈ o.after, Region.binds .any e = true → e.on < i ∧ memN sk e.on = false
  dep : ∀ i o, ops[i]? = some o → ∀ j ∈ cls.getD i [], ∃ e ∈ o.after, Region.binds .any e = true ∧ (j = e.on ∨ j ∈ cls.getD e.on [])
  late : ∀ i o, ops[i]? = some o → (nA ≤ i ∨ memN sk i = true) → ∀ j, j < nA → memN sk j = false → j ≠ f → j ∈ cls.getD i []
  lt : ∀ i o, ops[i]? = some o → i < nA → ∀ j ∈ cls.getD i [], j < i
theorem clsFB_spec {ops : Array Oper} {nA : Nat} {sk : List Nat} {f : Nat} {cls : List (List Nat)} (h : clsFB ops nA sk f cls = true) : ClsFOK ops nA sk f cls := by
  unfold clsFB at h
  simp only [Bool.and_eq_true, Nat.ble_eq] at h
  obtain ⟨h0, h⟩ := h
  have key : ∀ i o, ops[i]? = some o → _ := fun i o ho => by
    have hi : i < ops.size := (Array.getElem?_eq_some_iff.1 ho).1
    have h1 := List.all_eq_true.1 h i (List.mem_range.2 hi)
    simp only [ho, Bool.and_eq_true, Bool.or_eq_true] at h1
    exact h1
  refine ⟨h0, fun i o ho hi hsk e he hb => ?_, fun i o ho j hj => ?_, fun i o ho hi j hj hsk hf => ?_, fun i o ho hi j hj => ?_⟩
  · rcases (key i o ho).1.1.1 with (h1 | h1) | h1
    · have := Nat.le_of_ble_eq_true h1; omega
    · rw [hsk] at h1; cases h1
    · have := Array.all_eq_true_iff_forall_mem.1 h1 e he
      simp [hb] at this; exact this
  · have := List.all_eq_true.1 (key i o ho).1.1.2 j hj
    obtain ⟨e, he, h2⟩ := Array.any_eq_true'.1 this
    simp only [Bool.and_eq_true, Bool.or_eq_true] at h2
    exact ⟨e, he, h2.1, h2.2.imp (fun h => beq_true h) (fun h => memN_iff.1 h)⟩
  · rcases (key i o ho).1.2 with h1 | h1
    · exfalso
      have h2 : i < nA := by simpa using h1.1
      have h3 : memN sk i = false := by simpa using h1.2
      rcases hi with h4 | h4
      · omega
      · rw [h3] at h4; cases h4
    · have h2 := List.all_eq_true.1 h1 j (List.mem_range.2 hj)
      simp only [Bool.or_eq_true, hsk, beq_ne hf, Bool.false_eq_true, false_or] at h2
      exact memN_iff.1 h2
  · rcases (key i o ho).2 with h1 | h1
    · have := Nat.le_of_ble_eq_true h1; omega
    · exact (by have := List.all_eq_true.1 h1 j hj; simpa using this)

theorem draw_mainF {l : List Oper} {nA : Nat} {sk : List Nat} {cls : List (List Nat)} {ds nms : List Nat} {adds done : List Add} {f : Nat} (hfA : f < nA) (hfs : memN sk f = false) (hcl : ClsFOK l.toArray nA sk f cls) (hdr : Draw P nt (S.clear ds nms) cls sk (l.take nA) [] done) (hdn : done.reverse = adds) (ok : AddsOK adds cls ds nms)
    (hk : Rest P w0 ω0 nt l.toArray Q (l.length - missing sk #[] nA) (doneL nA sk l.length) ((S.clear ds nms).part (fun j => !memN sk j) adds))
    (hk0 : Rest P w0 ω0 nt l.toArray Q (l.length - missing (f :: sk) #[] nA) (doneL nA (f :: sk) l.length) ((S.clear ds nms).part (fun j => !memN (f :: sk) j) adds)) :
    ∀ (d : Nat) (L : Array Bool) (a : Act) (w : World), missing sk L nA = d → L.size = l.length → (∀ j, L.getD j false = true → j < nA ∧ memN sk j = false) → (∀ i, L.getD i false = true → ∀ j ∈ cls.getD i [], L.getD j false = true) →
      Sat w0 ω0 nt ((S.clear ds nms).part (fun j => L.getD j false) adds) a w → wpAny P .any l.toArray Q (l.length - missing sk #[] nA + d) L a w := by
  have hsz : nA ≤ l.length := by have := hcl.size; simpa using this
  obtain ⟨⟨r, hr, hrl⟩, hob⟩ := hdr.spec
  rw [hdn] at hr hob
  have hal : adds.length = nA := by rw [hr]; simp [hrl]; omega
  have hfull : ∀ (L : Array Bool) (i : Nat), i ∈ Region.ready .any l.toArray L → (∀ i, L.getD i false = true → ∀ j ∈ cls.getD i [], L.getD j false = true) → (∃ o, l.toArray[i]? = some o ∧ L.getD i true = false) ∧ ∀ j ∈ cls.getD i [], L.getD j false = true := by
    intro L i hi hclosed
    obtain ⟨h0, o, ho, he⟩ := mem_ready.1 hi
    refine ⟨⟨o, ho, h0⟩, fun j hj => ?_⟩
    obtain ⟨e, hem, hb, hje⟩ := hcl.dep i o ho j hj
    have h1 := he e hem hb
    rcases hje with rfl | hje
    · exact h1
    · exact hclosed e.on h1 j hje
  intro d
  induction d with
  | zero =>
    intro L a w hm hs hsub hclosed hsat
    have hall := missing_zero hm
    have hL : L = doneL nA sk l.length := by
      apply Array.ext
      · simp [hs, doneL]
      · intro j h1 h2
        have h3 : L[j]? = some L[j] := Array.getElem?_eq_getElem h1
        have h4 := doneL_at (nA := nA) (sk := sk) (n := l.length) (j := j) (by omega)
        rw [Array.getElem?_eq_getElem h2] at h4
        rw [Option.some.inj h4]
        cases hb : L[j] with
        | true =>
          have := hsub j (by simp [h1, hb])
          simp [this.1, this.2]
        | false =>
          by_cases hj : j < nA
          · cases hsk : memN sk j with
            | true => simp
            | false =>
              have := hall j hj hsk
              simp [h1, hb] at this
          · simp [hj]
    refine hk.go a w ((St.le.wk (part_le (ℓ1 := fun j => !memN sk j) (ℓ2 := fun j => L.getD j false) ok (fun _ _ h => h) fun j A hj hsk => ?_) fun _ _ h => h).go _ _ _ a w hsat) |> fun h => by rw [← hL] at h; exact h
    have hjl : j < adds.length := (List.getElem?_eq_some_iff.1 hj).1
    exact hall j (by omega) (by simpa using hsk)
  | succ d ih =>
    intro L a w hm hs hsub hclosed hsat
    by_cases h0 : missing (f :: sk) L nA = 0 ∧ L.getD f false = false
    · obtain ⟨h0, hff⟩ := h0
      have hall := missing_zero h0
      have hL : L = doneL nA (f :: sk) l.length := by
        apply Array.ext
        · simp [hs, doneL]
        · intro j h1 h2
          have h3 : L[j]? = some L[j] := Array.getElem?_eq_getElem h1
          have h4 := doneL_at (nA := nA) (sk := f :: sk) (n := l.length) (j := j) (by omega)
          rw [Array.getElem?_eq_getElem h2] at h4
          rw [Option.some.inj h4]
          cases hb : L[j] with
          | true =>
            have := hsub j (by simp [h1, hb])
            have hjf : j ≠ f := fun e => by subst e; simp [h1, hb] at hff
            rw [memN_cons, this.2, beq_ne hjf]; simp [this.1]
          | false =>
            by_cases hj : j < nA
            · cases hsk : memN (f :: sk) j with
              | true => simp
              | false =>
                have := hall j hj hsk
                simp [h1, hb] at this
            · simp [hj]
      have hd : missing (f :: sk) #[] nA = missing sk #[] nA - 1 ∧ 0 < missing sk #[] nA := missing_cons hfA hfs
      have hd1 : d = 0 := by
        have := missing_le_cons (sk := sk) (L := L) f hff hfs nA hfA
        omega
      subst hd1
      have hmn : ∀ k, missing sk #[] k ≤ k := missing_le
      have := hmn nA
      have e : l.length - missing (f :: sk) #[] nA = l.length - missing sk #[] nA + (0 + 1) := by omega
      rw [← e]
      refine hk0.go a w ((St.le.wk (part_le (ℓ1 := fun j => !memN (f :: sk) j) (ℓ2 := fun j => L.getD j false) ok (fun _ _ h => h) fun j A hj hsk => ?_) fun _ _ h => h).go _ _ _ a w hsat) |> fun h => by rw [← hL] at h; exact h
      have hjl : j < adds.length := (List.getElem?_eq_some_iff.1 hj).1
      exact hall j (by omega) (by simpa using hsk)
    refine ⟨fun hnil => ?_, fun i hi => ?_⟩
    · exfalso
      obtain ⟨j, hj, hjs', hjf, hlo⟩ := missing_least (k := nA) (by omega : missing sk L nA ≠ 0)
      have hjl : j < l.length := by omega
      have hjs : j < L.size := by omega
      have : j ∈ Region.ready .any l.toArray L := by
        refine mem_ready.2 ⟨?_, l[j], by simp [hjl], fun e he hb => ?_⟩
        · simp [hjs] at hjf ⊢
          exact hjf
        · have h5 := hcl.less j l[j] (by simp [hjl]) hj hjs' e he hb
          exact hlo e.on h5.1 h5.2
      rw [hnil] at this; cases this
    · obtain ⟨⟨o, ho, hi0⟩, hdep⟩ := hfull L i hi hclosed
      have hil : i < l.length := by have := (Array.getElem?_eq_some_iff.1 ho).1; simpa using this
      have his : i < L.size := by omega
      have hif : L.getD i false = false := by simp [his] at hi0 ⊢; exact hi0
      have hnl : ¬ (nA ≤ i ∨ memN sk i = true) := fun h => by
        have h1 := missing_full (sk := f :: sk) (L := L) (k := nA) fun j hj hsk => by
          rw [memN_cons] at hsk
          simp only [Bool.or_eq_false_iff] at hsk
          exact hdep j (hcl.late i o ho h j hj hsk.2 fun e => by subst e; simp at hsk)
        refine h0 ⟨h1, ?_⟩
        cases hff : L.getD f false with
        | false => rfl
        | true =>
          have := missing_zero h1
          have h2 := missing_full (sk := sk) (L := L) (k := nA) fun j hj hsk => by
            by_cases e : j = f
            · subst e; exact hff
            · exact this j hj (by rw [memN_cons, hsk, beq_ne e]; rfl)
          omega
      have hiA : i < nA := by
        rcases Nat.lt_or_ge i nA with h | h
        · exact h
        · exact absurd (.inl h) hnl
      have hisk : memN sk i = false := by
        cases hsk : memN sk i with
        | false => rfl
        | true => exact absurd (.inr hsk) hnl
      have hot : (l.take nA)[i]? = some o := by rw [List.getElem?_take, if_pos hiA]; simpa using ho
      obtain ⟨A, hA, hg, hstp⟩ := hob i o hot (by simpa using hisk)
      simp only [List.length_nil, Nat.zero_add] at hA hstp
      have hle : ((S.clear ds nms).partR (memN (cls.getD i [])) (adds.take i).reverse).le ((S.clear ds nms).part (fun j => L.getD j false) adds) := partR_le ok (fun j B hj => by
          rw [List.reverse_reverse] at hj
          rw [List.getElem?_take] at hj; split at hj
          · exact hj
          · cases hj) fun j B _ hj => hdep j (memN_iff.1 hj)
      have hst := (hstp _ hle).go w0 ω0 a w Q hsat
      unfold wpOp
      simp only [ho]
      rw [if_pos (by simp [Region.wanted, hg])]
      refine .inl (Oper.wp_mono (fun a' w' hsat' => ?_) hst)
      have hsat2 := (wk_add ok hA hif fun j hj hm' => by have := hclosed j hj i hm'; rw [hif] at this; cases this).go _ _ _ a' w' hsat'
      have hnew : ∀ j, (L.setIfInBounds i true).getD j false = (Nat.beq j i || L.getD j false) := fun j => by
        by_cases e : j = i
        · subst e; simp [his]
        · rw [getD_set_ne false (fun e' => e e'.symm), beq_ne e, Bool.false_or]
      refine ih (L.setIfInBounds i true) a' w' ?_ (by simp [hs]) (fun j hj => ?_) (fun j hj k hk' => ?_) ?_
      · have := missing_set his hif hisk nA hiA; omega
      · rw [hnew] at hj
        by_cases e : j = i
        · rw [e]; exact ⟨hiA, hisk⟩
        · rw [beq_ne e, Bool.false_or] at hj; exact hsub j hj
      · rw [hnew] at hj ⊢
        by_cases e : j = i
        · subst e; rw [hdep k hk']; simp
        · rw [beq_ne e, Bool.false_or] at hj; rw [hclosed j hj k hk']; simp
      · have : (fun j => (L.setIfInBounds i true).getD j false) = fun j => (Nat.beq j i || L.getD j false) := funext hnew
        rw [this]; exact hsat2

theorem goes_drawF {id : Nat} {l : List Oper} (nA : Nat) (sk : List Nat) (f : Nat) (cls : List (List Nat)) (ds nms : List Nat) {done : List Add} (hm : P.follows .mixedOrders = true) (hcl : clsFB l.toArray nA sk f cls = true) (hf' : (Nat.blt f nA && !memN sk f) = true) (hdr : Draw P nt (S.clear ds nms) cls sk (l.take nA) [] done) (ok : addsB done.reverse cls ds nms = true)
    (hk : Rest P w0 ω0 nt l.toArray Q (l.length - missing sk #[] nA) (doneL nA sk l.length) ((S.clear ds nms).partR (fun j => !memN sk j) done))
    (hk0 : Rest P w0 ω0 nt l.toArray Q (l.length - missing (f :: sk) #[] nA) (doneL nA (f :: sk) l.length) ((S.clear ds nms).partR (fun j => !memN (f :: sk) j) done)) : Goes P w0 ω0 nt S (.region id l.toArray true) Q := by
  have hc := clsFB_spec hcl
  have hsz : nA ≤ l.length := by have := hc.size; simpa using this
  have hk' : Rest P w0 ω0 nt l.toArray Q (l.length - missing sk #[] nA) (doneL nA sk l.length) ((S.clear ds nms).part (fun j => !memN sk j) done.reverse) :=
    ⟨fun a w hs => hk.go a w ((St.le.wk (partR_le (addsB_spec ok) (fun _ _ h => h) fun _ _ _ h => h) fun _ _ h => h).go _ _ _ a w hs)⟩
  have hk0' : Rest P w0 ω0 nt l.toArray Q (l.length - missing (f :: sk) #[] nA) (doneL nA (f :: sk) l.length) ((S.clear ds nms).part (fun j => !memN (f :: sk) j) done.reverse) :=
    ⟨fun a w hs => hk0.go a w ((St.le.wk (partR_le (addsB_spec ok) (fun _ _ h => h) fun _ _ _ h => h) fun _ _ h => h).go _ _ _ a w hs)⟩
  have hfA : f < nA := by simp only [Bool.and_eq_true] at hf'; simpa using hf'.1
  have hfs : memN sk f = false := by simp only [Bool.and_eq_true] at hf'; simpa using hf'.2
  have hle : ∀ k, missing sk #[] k ≤ k := fun k => by
    induction k with
    | zero => exact Nat.le_refl _
    | succ k ih => simp only [missing]; split <;> omega
  refine ⟨fun a w hs => wp_region_any hm ?_⟩
  have hfin := draw_mainF hfA hfs hc hdr rfl (addsB_spec ok) hk' hk0' (missing sk #[] nA) (Array.replicate l.length false) a { w with drawn := w.drawn + 1 } ?_ (by simp) (fun j hj => ?_) (fun i hi => ?_) ?_
  · have := hle nA
    rw [show l.length - missing sk #[] nA + missing sk #[] nA = l.length by omega] at hfin
    simpa using hfin
  · have : ∀ k, k ≤ l.length → missing sk (Array.replicate l.length false) k = missing sk #[] k := fun k => by
      induction k with
      | zero => intro _; rfl
      | succ k ih =>
        intro hk
        simp only [missing]
        rw [ih (by omega)]
        have : (Array.replicate l.length false).getD k false = false := by simp [show k < l.length by omega]
        rw [this]; rfl
    exact this nA hsz
  · exfalso
    by_cases h : j < l.length
    · simp [h] at hj
    · simp [h] at hj
  · exfalso
    by_cases h : i < l.length
    · simp [h] at hi
    · simp [h] at hi
  · have h1 := (wk_clear S ds nms).go _ _ _ a _ (sat_drew hs)
    have hf : ∀ j, (Array.replicate l.length false).getD j false = false := fun j => by
      by_cases h : j < l.length <;> simp [h]
    refine (Wk.less (S := S.clear ds nms) (S' := (S.clear ds nms).part (fun j => (Array.replicate l.length false).getD j false) done.reverse) (fun t av h => ?_) (fun x c h => ?_) fun _ _ h => h).go _ _ _ a _ h1
    · have h : (match lkT (fun j => (Array.replicate l.length false).getD j false) 0 done.reverse t with | some av => some av | none => (S.clear ds nms).sl t) = some av := h
      split at h
      · rename_i av' h2
        obtain ⟨j, A, _, h3, _⟩ := lkT_some h2
        rw [hf] at h3; cases h3
      · exact h
    · have h : (match lkN (fun j => (Array.replicate l.length false).getD j false) 0 done.reverse x with | some c => some c | none => (S.clear ds nms).ch x) = some c := h
      split at h
      · rename_i av' h2
        obtain ⟨j, A, _, h3, _⟩ := lkN_some h2
        rw [hf] at h3; cases h3
      · exact h


theorem rest_three {N : Nat} (i j k : Nat) {ops : Array Oper} {L : Array Bool} {o o' o'' : Oper} {S2 S3 : St} (hN : Nat.blt 0 N = true) (hr : Region.ready .any ops L = [i, j, k]) (ho : ops[i]? = some o) (ho' : ops[j]? = some o') (ho'' : ops[k]? = some o'') (hg : o.guard = none) (hg' : o'.guard = none) (hg'' : o''.guard = none)
    (h : Stp P nt o S S1) (h' : Stp P nt o' S S2) (h'' : Stp P nt o'' S S3)
    (k1 : Rest P w0 ω0 nt ops Q (N - 1) (L.setIfInBounds i true) S1) (k2 : Rest P w0 ω0 nt ops Q (N - 1) (L.setIfInBounds j true) S2) (k3 : Rest P w0 ω0 nt ops Q (N - 1) (L.setIfInBounds k true) S3) : Rest P w0 ω0 nt ops Q N L S := by
  have hN' : 0 < N := by simpa using hN
  obtain ⟨n, rfl⟩ : ∃ n, N = n + 1 := ⟨N - 1, by omega⟩
  exact ⟨fun a w hs => wpAny_all hr (by simp) fun i' hi' => by
    simp at hi'
    rcases hi' with rfl | rfl | rfl
    · unfold wpOp
      simp only [ho]
      rw [if_pos (by simp [Region.wanted, hg])]
      exact .inl (Oper.wp_mono (fun a' w' h' => k1.go a' w' h') (h.go w0 ω0 a w Q hs))
    · unfold wpOp
      simp only [ho']
      rw [if_pos (by simp [Region.wanted, hg'])]
      exact .inl (Oper.wp_mono (fun a' w' h' => k2.go a' w' h') (h'.go w0 ω0 a w Q hs))
    · unfold wpOp
      simp only [ho'']
      rw [if_pos (by simp [Region.wanted, hg''])]
      exact .inl (Oper.wp_mono (fun a' w' h' => k3.go a' w' h') (h''.go w0 ω0 a w Q hs))⟩
end
end Go.Proofs.Ytnfkhgamnapgmaa

/- A memory of names: guards, picks, nil slices inside of aggregates. No program in sight. -/
namespace Go.Proofs.Ytnfkhgamnapgmaa
open Go.RowKit

section
variable {P : Program} {nt : Nat} {S S1 S' : St} {w0 w : World} {ω0 : Beg} {ω : Own?} {η : Env} {a : Act} {Q : Exit → Act → World → Prop} {ops : Array Oper} {rest : List Oper} {o : Oper}
variable {t : Nat} {ty : TypeId} {ps : String} {af : Array Edge} {gd : Option (Nat × Bool)} {x y z : Operand} {av : AV}

/-- a truth value in a slot is one or the other -/
theorem run_bool (d : Nat) {b : Bool} (hb : S.sl d = some (vv (.bool b))) (h1 : b = true → Run P w0 ω0 nt ops Q (S.put d (vv (.bool true))) rest) (h2 : b = false → Run P w0 ω0 nt ops Q (S.put d (vv (.bool false))) rest) : Run P w0 ω0 nt ops Q S rest := by
  have wk : ∀ c, b = c → Wk S (S.put d (vv (.bool c))) := fun c e => by
    refine ⟨fun w0 ω0 nt a w ⟨η, ω, hs⟩ => ⟨η, ω, { hs with slots := fun t' av ht' => ?_ }⟩⟩
    rw [sl_put] at ht'
    by_cases e' : t' = d
    · subst e'
      rw [if_pos rfl] at ht'
      obtain rfl := Option.some.inj ht'
      exact hs.slots t' _ (by rw [← e]; exact hb)
    · rw [if_neg e'] at ht'; exact hs.slots t' av ht'
  cases b with
  | true => exact ⟨fun a w hs => (h1 rfl).go a w ((wk true rfl).go _ _ _ a w hs)⟩
  | false => exact ⟨fun a w hs => (h2 rfl).go a w ((wk false rfl).go _ _ _ a w hs)⟩
theorem run_gYes {j d : Nat} {want : Bool} (hg : o.guard = some (j, want)) (hj : (ops[j]?).bind (·.dst) = some d) (hb : S.sl d = some (vv (.bool want))) (h : Stp P nt o S S1) (k : Run P w0 ω0 nt ops Q S1 rest) : Run P w0 ω0 nt ops Q S (o :: rest) :=
  run_guard hg hj hb (fun _ => ⟨S1, h, k⟩) fun e => absurd rfl e
theorem run_gNo {j d t : Nat} {want : Bool} (hg : o.guard = some (j, want)) (hj : (ops[j]?).bind (·.dst) = some d) (hb : S.sl d = some (vv (.bool (!want)))) (ht : o.dst = some t) (hn : Nat.blt t nt = true) (k : Run P w0 ω0 nt ops Q (S.put t (vv undef)) rest) : Run P w0 ω0 nt ops Q S (o :: rest) :=
  run_guard hg hj hb (fun e => by cases want <;> cases e) fun _ => ⟨t, ht, hn, k⟩
theorem stp_pickT (ht : Nat.blt t nt = true) (hx : S.op x = some (vv (.bool true))) (hy : S.op y = some av) : Stp P nt ⟨some t, .pick x y z, ty, ps, af, gd⟩ S (S.put t av) :=
  Stp.of _ fun w0 ω0 η ω a w hs => by
    have h0 := hs.opV hx
    exact ⟨a.eval y, w, by simp [execOp, h0, asBool], η, ω, hs.putV (by simpa using ht) (hs.opv hy)⟩
theorem stp_pickF (ht : Nat.blt t nt = true) (hx : S.op x = some (vv (.bool false))) (hz : S.op z = some av) : Stp P nt ⟨some t, .pick x y z, ty, ps, af, gd⟩ S (S.put t av) :=
  Stp.of _ fun w0 ω0 η ω a w hs => by
    have h0 := hs.opV hx
    exact ⟨a.eval z, w, by simp [execOp, h0, asBool], η, ω, hs.putV (by simpa using ht) (hs.opv hz)⟩

theorem stp_buildZ {T : TypeId} (zs : List Value) (ht : Nat.blt t nt = true) (hb : (P.built T []).map Array.toList = some zs) : Stp P nt ⟨some t, .build T #[], ty, ps, af, gd⟩ S (S.put t (.s (.agg (zs.map .val)))) :=
  Stp.of _ fun w0 ω0 η ω a w hs => by
    simp only [Option.map_eq_some_iff] at hb
    obtain ⟨cs, hc, rfl⟩ := hb
    refine ⟨.agg cs, w, by simp [execOp, run_build w T #[] cs hc], η, ω, hs.putV (by simpa using ht) ?_⟩
    exact (⟨cs, rfl, by simp, fun j b hb => by
      simp only [List.getElem?_map, Option.map_eq_some_iff] at hb
      obtain ⟨v, hv, rfl⟩ := hb
      exact ⟨v, by simpa using hv, rfl⟩⟩ : Den2 η (.agg (cs.toList.map .val)) (.agg cs))

theorem goes_cut {c : Code} (S' : St) (h : Goes P w0 ω0 nt S c (fun e a w => e = .normal ∧ Sat w0 ω0 nt S' a w)) (k : Fin w0 ω0 nt S' .normal Q) : Goes P w0 ω0 nt S c Q :=
  ⟨fun a w hs => Code.wp_mono (fun e a w he => by obtain ⟨rfl, h2⟩ := he; exact k.go a w h2) (h.go a w hs)⟩
theorem run_wk (h : Wk S S') (k : Run P w0 ω0 nt ops Q S' rest) : Run P w0 ω0 nt ops Q S rest := ⟨fun a w hs => k.go a w (h.go _ _ _ a w hs)⟩

/-- a nil slice inside of an aggregate in a slot is taken for an empty vector of the call's own -/
theorem wk_nilA {n k : Nat} {E : TypeId} {d : Dat} {l : List A1} (i : Nat) (hs : S.sl t = some (.s (.agg l))) (hi : l[i]? = some (.val (.slice none 0 0))) (hn : l.any (A1.has n) = false) (hd : d.len = 0) : Wk S ((S.new n ⟨true, E, k, d⟩).put t (.s (.agg (l.set i (.sl n 0 0))))) := by
  refine ⟨fun w0 ω0 nt a w ⟨η, ω, h⟩ => ?_⟩
  obtain ⟨u, h1, h2⟩ := h.slots t _ hs
  obtain ⟨us, rfl, h3, h4⟩ := (h2 : Den2 η (.agg l) u)
  have hl := h.lay (x := n) (c := ⟨true, E, k, d⟩) (hd := ⟨none, 0, k⟩) (r := fun _ => ⟨none, 0, 1⟩) (Calm.refl S ω w) ⟨rfl, .inl ⟨rfl, rfl, hd⟩⟩
  refine ⟨_, ω, { hl with slots := fun t' av ht' => ?_ }⟩
  rw [sl_put] at ht'
  by_cases e : t' = t
  · subst e
    rw [if_pos rfl] at ht'
    obtain rfl := Option.some.inj ht'
    refine ⟨_, h1, us, rfl, by simpa using h3, fun j b hb => ?_⟩
    by_cases ej : j = i
    · subst ej
      obtain ⟨u', h5, h6⟩ := h4 j _ hi
      have h6 : u' = .slice none 0 0 := h6
      subst h6
      have hlt : j < l.length := (List.getElem?_eq_some_iff.1 hi).1
      rw [List.getElem?_set_self hlt] at hb
      obtain rfl := Option.some.inj hb
      exact ⟨_, h5, den_new (hd := ⟨none, 0, k⟩) (m := 0)⟩
    · rw [List.getElem?_set_ne (fun e => ej e.symm)] at hb
      obtain ⟨u', h5, h6⟩ := h4 j b hb
      refine ⟨u', h5, h6.mono fun y hy => Env.new_ne η _ _ y fun e => ?_⟩
      subst e
      have := List.any_eq_false.1 hn b (List.mem_of_getElem? hb)
      rw [hy] at this; exact this rfl
  · rw [if_neg e] at ht'
    exact hl.slots t' av ht'
end
end Go.Proofs.Ytnfkhgamnapgmaa

/- A memory of names: make of integers; small steps. No program in sight. -/
namespace Go.Proofs.Ytnfkhgamnapgmaa
open Go.RowKit

section
variable {P : Program} {nt : Nat} {S S1 : St} {w0 w : World} {ω0 : Beg} {ω : Own?} {η : Env} {a : Act} {Q : Exit → Act → World → Prop}
variable {t : Nat} {ty : TypeId} {ps : String} {af : Array Edge} {gd : Option (Nat × Bool)} {x y : Operand} {av : AV}
theorem ivals_rep (n : Nat) (z : Int) : ivals (List.replicate n z) = List.replicate n (I6 z) := by simp [ivals]
theorem irows_rep (n : Nat) : irows (List.replicate n []) = List.replicate n [] := by simp [irows, ivals]
/-- make of integers -/
theorem stp_makeI {T E n : Nat} {l c : Operand} {kl kc : IntKind} {L C : Int} (ht : Nat.blt t nt = true) (hT : elZ P T E 1 = true) (hz : (P.info? E).bind (·.zero) = some (I6 0)) (hl : S.op l = some (vv (.int kl L))) (hc : S.op c = some (vv (.int kc C)))
    (hL : L = (n : Int)) (hC : C = (n : Int)) (hn : n ≤ 2199023255552) : Stp P nt ⟨some t, .makeSlice T l c, ty, ps, af, gd⟩ S ((S.new t ⟨true, E, 1, .vals (ivals (List.replicate n 0))⟩).put t (o1 (.sl t 0 n))) := by
  rw [ivals_rep]
  exact stp_make (ts := #[]) ht hT hz hl hc hL hC hn rfl
/-- make of nil slices -/
theorem stp_makeR {T E F n : Nat} {l c : Operand} {kl kc : IntKind} {L C : Int} (ht : Nat.blt t nt = true) (hT : elZ P T E 1 = true) (hz : (P.info? E).bind (·.zero) = some (.slice none 0 0)) (hF : P.underlying E = some (.slice F)) (hl : S.op l = some (vv (.int kl L))) (hc : S.op c = some (vv (.int kc C)))
    (hL : L = (n : Int)) (hC : C = (n : Int)) (hn : n ≤ 2199023255552) : Stp P nt ⟨some t, .makeSlice T l c, ty, ps, af, gd⟩ S ((S.new t ⟨true, E, 1, .rows F (irows (List.replicate n [])) []⟩).put t (o1 (.sl t 0 n))) := by
  rw [irows_rep]
  exact stp_makeRows (ts := #[]) ht hT hz hF hl hc hL hC hn
end
end Go.Proofs.Ytnfkhgamnapgmaa

/- A memory of names: a region that draws, with several operations free to come at any time. No program in sight. -/
namespace Go.Proofs.Ytnfkhgamnapgmaa
open Go.RowKit

section
variable {P : Program} {nt : Nat} {S S1 : St} {w0 w : World} {ω0 : Beg} {ω : Own?} {η : Env} {a : Act} {Q : Exit → Act → World → Prop}

def AllSubs : List Nat → (List Nat → Prop) → Prop
  | [], p => p []
  | f :: r, p => AllSubs r p ∧ AllSubs r (fun ks => p (f :: ks))
theorem AllSubs.filter {q : Nat → Bool} : ∀ {fs : List Nat} {p : List Nat → Prop}, AllSubs fs p → p (fs.filter q)
  | [], p, h => h
  | f :: r, p, h => by
    rw [List.filter_cons]
    split
    · exact AllSubs.filter (p := fun ks => p (f :: ks)) h.2
    · exact AllSubs.filter (p := p) h.1
theorem AllSubs.map {p p' : List Nat → Prop} (h : ∀ ks, p ks → p' ks) : ∀ {fs : List Nat}, AllSubs fs p → AllSubs fs p'
  | [], k => h _ k
  | _ :: _, k => ⟨AllSubs.map h k.1, AllSubs.map (fun ks => h _) k.2⟩
theorem missing_apps {sk : List Nat} {L : Array Bool} {nA : Nat} : ∀ {ks : List Nat}, ks.Nodup → (∀ f ∈ ks, f < nA ∧ memN sk f = false ∧ L.getD f false = false) → missing sk L nA = missing (ks ++ sk) L nA + ks.length
  | [], _, _ => rfl
  | f :: r, hn, h => by
    have h1 := missing_apps (sk := sk) (L := L) (nA := nA) (ks := r) (List.nodup_cons.1 hn).2 fun g hg => h g (by simp [hg])
    have h2 := h f (by simp)
    have h3 : memN (r ++ sk) f = false := by
      cases hb : memN (r ++ sk) f with
      | false => rfl
      | true =>
        exfalso
        rcases List.mem_append.1 (memN_iff.1 hb) with h4 | h4
        · exact (List.nodup_cons.1 hn).1 h4
        · rw [memN_iff.2 h4] at h2; exact absurd h2.2.1 (by simp)
    have := missing_le_cons (sk := r ++ sk) (L := L) f h2.2.2 h3 nA h2.1
    rw [h1, this, List.cons_append, List.length_cons]; omega

def clsLB (ops : Array Oper) (nA : Nat) (sk : List Nat) (fs : List Nat) (cls : List (List Nat)) : Bool :=
  Nat.ble nA ops.size && (List.range ops.size).all fun i => match ops[i]? with
    | some o => (Nat.ble nA i || memN sk i || o.after.all fun e => !Region.binds .any e || (Nat.blt e.on i && !memN sk e.on)) && ((cls.getD i []).all fun j => o.after.any fun e => Region.binds .any e && (Nat.beq j e.on || memN (cls.getD e.on []) j)) &&
        ((Nat.blt i nA && !memN sk i) || (List.range nA).all fun j => memN fs j || memN sk j || memN (cls.getD i []) j) && (Nat.ble nA i || (cls.getD i []).all fun j => Nat.blt j i)
    | none => true
structure ClsLOK (ops : Array Oper) (nA : Nat) (sk : List Nat) (fs : List Nat) (cls : List (List Nat)) : Prop where
  size : nA ≤ ops.size
  less : ∀ i o, ops[i]? = some o → i < nA → memN sk i = false → ∀ e ∈ o.after, Region.binds .any e = true → e.on < i ∧ memN sk e.on = false
  dep : ∀ i o, ops[i]? = some o → ∀ j ∈ cls.getD i [], ∃ e ∈ o.after, Region.binds .any e = true ∧ (j = e.on ∨ j ∈ cls.getD e.on [])
  late : ∀ i o, ops[i]? = some o → (nA ≤ i ∨ memN sk i = true) → ∀ j, j < nA → memN sk j = false → memN fs j = false → j ∈ cls.getD i []
  lt : ∀ i o, ops[i]? = some o → i < nA → ∀ j ∈ cls.getD i [], j < i
theorem clsLB_spec {ops : Array Oper} {nA : Nat} {sk : List Nat} {fs : List Nat} {cls : List (List Nat)} (h : clsLB ops nA sk fs cls = true) : ClsLOK ops nA sk fs cls := by
  unfold clsLB at h
  simp only [Bool.and_eq_true, Nat.ble_eq] at h
  obtain ⟨h0, h⟩ := h
  have key : ∀ i o, ops[i]? = some o → _ := fun i o ho => by
    have hi : i < ops.size := (Array.getElem?_eq_some_iff.1 ho).1
    have h1 := List.all_eq_true.1 h i (List.mem_range.2 hi)
    simp only [ho, Bool.and_eq_true, Bool.or_eq_true] at h1
    exact h1
  refine ⟨h0, fun i o ho hi hsk e he hb => ?_, fun i o ho j hj => ?_, fun i o ho hi j hj hsk hf => ?_, fun i o ho hi j hj => ?_⟩
  · rcases (key i o ho).1.1.1 with (h1 | h1) | h1
    · have := Nat.le_of_ble_eq_true h1; omega
    · rw [hsk] at h1; cases h1
    · have := Array.all_eq_true_iff_forall_mem.1 h1 e he
      simp [hb] at this; exact this
  · have := List.all_eq_true.1 (key i o ho).1.1.2 j hj
    obtain ⟨e, he, h2⟩ := Array.any_eq_true'.1 this
    simp only [Bool.and_eq_true, Bool.or_eq_true] at h2
    exact ⟨e, he, h2.1, h2.2.imp (fun h => beq_true h) (fun h => memN_iff.1 h)⟩
  · rcases (key i o ho).1.2 with h1 | h1
    · exfalso
      have h2 : i < nA := by simpa using h1.1
      have h3 : memN sk i = false := by simpa using h1.2
      rcases hi with h4 | h4
      · omega
      · rw [h3] at h4; cases h4
    · have h2 := List.all_eq_true.1 h1 j (List.mem_range.2 hj)
      simp only [Bool.or_eq_true, hsk, hf, Bool.false_eq_true, false_or] at h2
      exact memN_iff.1 h2
  · rcases (key i o ho).2 with h1 | h1
    · have := Nat.le_of_ble_eq_true h1; omega
    · exact (by have := List.all_eq_true.1 h1 j hj; simpa using this)

theorem draw_mainL {l : List Oper} {nA : Nat} {sk : List Nat} {cls : List (List Nat)} {ds nms : List Nat} {adds done : List Add} {fs : List Nat} (hfn : fs.Nodup) (hfs : ∀ f ∈ fs, f < nA ∧ memN sk f = false) (hcl : ClsLOK l.toArray nA sk fs cls) (hdr : Draw P nt (S.clear ds nms) cls sk (l.take nA) [] done) (hdn : done.reverse = adds) (ok : AddsOK adds cls ds nms)
    (hk : AllSubs fs fun ks => Rest P w0 ω0 nt l.toArray Q (l.length - missing (ks ++ sk) #[] nA) (doneL nA (ks ++ sk) l.length) ((S.clear ds nms).part (fun j => !memN (ks ++ sk) j) adds)) :
    ∀ (d : Nat) (L : Array Bool) (a : Act) (w : World), missing sk L nA = d → L.size = l.length → (∀ j, L.getD j false = true → j < nA ∧ memN sk j = false) → (∀ i, L.getD i false = true → ∀ j ∈ cls.getD i [], L.getD j false = true) →
      Sat w0 ω0 nt ((S.clear ds nms).part (fun j => L.getD j false) adds) a w → wpAny P .any l.toArray Q (l.length - missing sk #[] nA + d) L a w := by
  have hsz : nA ≤ l.length := by have := hcl.size; simpa using this
  obtain ⟨⟨r, hr, hrl⟩, hob⟩ := hdr.spec
  rw [hdn] at hr hob
  have hal : adds.length = nA := by rw [hr]; simp [hrl]; omega
  have hfull : ∀ (L : Array Bool) (i : Nat), i ∈ Region.ready .any l.toArray L → (∀ i, L.getD i false = true → ∀ j ∈ cls.getD i [], L.getD j false = true) → (∃ o, l.toArray[i]? = some o ∧ L.getD i true = false) ∧ ∀ j ∈ cls.getD i [], L.getD j false = true := by
    intro L i hi hclosed
    obtain ⟨h0, o, ho, he⟩ := mem_ready.1 hi
    refine ⟨⟨o, ho, h0⟩, fun j hj => ?_⟩
    obtain ⟨e, hem, hb, hje⟩ := hcl.dep i o ho j hj
    have h1 := he e hem hb
    rcases hje with rfl | hje
    · exact h1
    · exact hclosed e.on h1 j hje
  have stop : ∀ (L : Array Bool) (a : Act) (w : World), L.size = l.length → (∀ j, L.getD j false = true → j < nA ∧ memN sk j = false) → missing (fs ++ sk) L nA = 0 → Sat w0 ω0 nt ((S.clear ds nms).part (fun j => L.getD j false) adds) a w → wpAny P .any l.toArray Q (l.length - missing sk #[] nA + missing sk L nA) L a w := by
    intro L a w hs hsub h0 hsat
    have hall := missing_zero h0
    obtain ⟨ks, hks⟩ : ∃ ks, fs.filter (fun f => !L.getD f false) = ks := ⟨_, rfl⟩
    have hkn : ks.Nodup := by rw [← hks]; exact hfn.filter _
    have hkm : ∀ f, f ∈ ks ↔ f ∈ fs ∧ L.getD f false = false := fun f => by rw [← hks]; simp
    have hk1 : ∀ f ∈ ks, f < nA ∧ memN sk f = false ∧ L.getD f false = false := fun f hf => ⟨(hfs f ((hkm f).1 hf).1).1, (hfs f ((hkm f).1 hf).1).2, ((hkm f).1 hf).2⟩
    have hdone : ∀ j, j < nA → memN (ks ++ sk) j = false → L.getD j false = true := fun j hj hsk => by
      cases hb : L.getD j false with
      | true => rfl
      | false =>
        exfalso
        have h1 : memN (fs ++ sk) j = true := by
          cases h2 : memN (fs ++ sk) j with
          | true => rfl
          | false => rw [hall j hj h2] at hb; cases hb
        rcases List.mem_append.1 (memN_iff.1 h1) with h3 | h3
        · have : j ∈ ks ++ sk := List.mem_append.2 (.inl ((hkm j).2 ⟨h3, hb⟩))
          rw [memN_iff.2 this] at hsk; cases hsk
        · have : j ∈ ks ++ sk := List.mem_append.2 (.inr h3)
          rw [memN_iff.2 this] at hsk; cases hsk
    have hL : L = doneL nA (ks ++ sk) l.length := by
      apply Array.ext
      · simp [hs, doneL]
      · intro j h1 h2
        have h3 : L[j]? = some L[j] := Array.getElem?_eq_getElem h1
        have h4 := doneL_at (nA := nA) (sk := ks ++ sk) (n := l.length) (j := j) (by omega)
        rw [Array.getElem?_eq_getElem h2] at h4
        rw [Option.some.inj h4]
        cases hb : L[j] with
        | true =>
          have hb' : L.getD j false = true := by simp [h1, hb]
          have := hsub j hb'
          have hnk : memN (ks ++ sk) j = false := by
            cases h5 : memN (ks ++ sk) j with
            | false => rfl
            | true =>
              exfalso
              rcases List.mem_append.1 (memN_iff.1 h5) with h6 | h6
              · rw [((hkm j).1 h6).2] at hb'; cases hb'
              · rw [memN_iff.2 h6] at this; exact absurd this.2 (by simp)
          simp [this.1, hnk]
        | false =>
          by_cases hj : j < nA
          · cases hsk : memN (ks ++ sk) j with
            | true => simp
            | false =>
              have := hdone j hj hsk
              simp [h1, hb] at this
          · simp [hj]
    have hm1 := missing_apps (L := L) hkn hk1
    have hm2 := missing_apps (sk := sk) (L := #[]) (nA := nA) hkn fun f hf => ⟨(hk1 f hf).1, (hk1 f hf).2.1, rfl⟩
    have hm0 : missing (ks ++ sk) L nA = 0 := missing_full hdone
    have hmn := missing_le (sk := sk) (L := #[]) nA
    have e : l.length - missing (ks ++ sk) #[] nA = l.length - missing sk #[] nA + missing sk L nA := by omega
    rw [← e]
    have hkk := AllSubs.filter (q := fun f => !L.getD f false) hk
    rw [hks] at hkk
    refine hkk.go a w ((St.le.wk (part_le (ℓ1 := fun j => !memN (ks ++ sk) j) (ℓ2 := fun j => L.getD j false) ok (fun _ _ h => h) fun j A hj hsk => ?_) fun _ _ h => h).go _ _ _ a w hsat) |> fun h => by rw [← hL] at h; exact h
    have hjl : j < adds.length := (List.getElem?_eq_some_iff.1 hj).1
    exact hdone j (by omega) (by simpa using hsk)
  intro d
  induction d with
  | zero =>
    intro L a w hm hs hsub hclosed hsat
    have h0 : missing (fs ++ sk) L nA = 0 := missing_full fun j hj hsk => missing_zero hm j hj (by
      cases h5 : memN sk j with
      | false => rfl
      | true => rw [memN_iff.2 (List.mem_append.2 (.inr (memN_iff.1 h5)))] at hsk; cases hsk)
    have := stop L a w hs hsub h0 hsat
    rw [hm] at this; exact this
  | succ d ih =>
    intro L a w hm hs hsub hclosed hsat
    by_cases h0 : missing (fs ++ sk) L nA = 0
    · have := stop L a w hs hsub h0 hsat
      rw [hm] at this; exact this
    refine ⟨fun hnil => ?_, fun i hi => ?_⟩
    · exfalso
      obtain ⟨j, hj, hjs', hjf, hlo⟩ := missing_least (k := nA) (by omega : missing sk L nA ≠ 0)
      have hjl : j < l.length := by omega
      have hjs : j < L.size := by omega
      have : j ∈ Region.ready .any l.toArray L := by
        refine mem_ready.2 ⟨?_, l[j], by simp [hjl], fun e he hb => ?_⟩
        · simp [hjs] at hjf ⊢
          exact hjf
        · have h5 := hcl.less j l[j] (by simp [hjl]) hj hjs' e he hb
          exact hlo e.on h5.1 h5.2
      rw [hnil] at this; cases this
    · obtain ⟨⟨o, ho, hi0⟩, hdep⟩ := hfull L i hi hclosed
      have hil : i < l.length := by have := (Array.getElem?_eq_some_iff.1 ho).1; simpa using this
      have his : i < L.size := by omega
      have hif : L.getD i false = false := by simp [his] at hi0 ⊢; exact hi0
      have hnl : ¬ (nA ≤ i ∨ memN sk i = true) := fun h => by
        refine h0 (missing_full (sk := fs ++ sk) (L := L) (k := nA) fun j hj hsk => ?_)
        have h5 : memN fs j = false ∧ memN sk j = false := by
          constructor
          · cases h6 : memN fs j with
            | false => rfl
            | true => rw [memN_iff.2 (List.mem_append.2 (.inl (memN_iff.1 h6)))] at hsk; cases hsk
          · cases h6 : memN sk j with
            | false => rfl
            | true => rw [memN_iff.2 (List.mem_append.2 (.inr (memN_iff.1 h6)))] at hsk; cases hsk
        exact hdep j (hcl.late i o ho h j hj h5.2 h5.1)
      have hiA : i < nA := by
        rcases Nat.lt_or_ge i nA with h | h
        · exact h
        · exact absurd (.inl h) hnl
      have hisk : memN sk i = false := by
        cases hsk : memN sk i with
        | false => rfl
        | true => exact absurd (.inr hsk) hnl
      have hot : (l.take nA)[i]? = some o := by rw [List.getElem?_take, if_pos hiA]; simpa using ho
      obtain ⟨A, hA, hg, hstp⟩ := hob i o hot (by simpa using hisk)
      simp only [List.length_nil, Nat.zero_add] at hA hstp
      have hle : ((S.clear ds nms).partR (memN (cls.getD i [])) (adds.take i).reverse).le ((S.clear ds nms).part (fun j => L.getD j false) adds) := partR_le ok (fun j B hj => by
          rw [List.reverse_reverse] at hj
          rw [List.getElem?_take] at hj; split at hj
          · exact hj
          · cases hj) fun j B _ hj => hdep j (memN_iff.1 hj)
      have hst := (hstp _ hle).go w0 ω0 a w Q hsat
      unfold wpOp
      simp only [ho]
      rw [if_pos (by simp [Region.wanted, hg])]
      refine .inl (Oper.wp_mono (fun a' w' hsat' => ?_) hst)
      have hsat2 := (wk_add ok hA hif fun j hj hm' => by have := hclosed j hj i hm'; rw [hif] at this; cases this).go _ _ _ a' w' hsat'
      have hnew : ∀ j, (L.setIfInBounds i true).getD j false = (Nat.beq j i || L.getD j false) := fun j => by
        by_cases e : j = i
        · subst e; simp [his]
        · rw [getD_set_ne false (fun e' => e e'.symm), beq_ne e, Bool.false_or]
      refine ih (L.setIfInBounds i true) a' w' ?_ (by simp [hs]) (fun j hj => ?_) (fun j hj k hk' => ?_) ?_
      · have := missing_set his hif hisk nA hiA; omega
      · rw [hnew] at hj
        by_cases e : j = i
        · rw [e]; exact ⟨hiA, hisk⟩
        · rw [beq_ne e, Bool.false_or] at hj; exact hsub j hj
      · rw [hnew] at hj ⊢
        by_cases e : j = i
        · subst e; rw [hdep k hk']; simp
        · rw [beq_ne e, Bool.false_or] at hj; rw [hclosed j hj k hk']; simp
      · have : (fun j => (L.setIfInBounds i true).getD j false) = fun j => (Nat.beq j i || L.getD j false) := funext hnew
        rw [this]; exact hsat2

theorem goes_drawL {id : Nat} {l : List Oper} (nA : Nat) (sk : List Nat) (fs : List Nat) (cls : List (List Nat)) (ds nms : List Nat) {done : List Add} (hm : P.follows .mixedOrders = true) (hcl : clsLB l.toArray nA sk fs cls = true) (hf' : (nodupB fs && fs.all fun f => Nat.blt f nA && !memN sk f) = true) (hdr : Draw P nt (S.clear ds nms) cls sk (l.take nA) [] done) (ok : addsB done.reverse cls ds nms = true)
    (hk : AllSubs fs fun ks => Rest P w0 ω0 nt l.toArray Q (l.length - missing (ks ++ sk) #[] nA) (doneL nA (ks ++ sk) l.length) ((S.clear ds nms).partR (fun j => !memN (ks ++ sk) j) done)) : Goes P w0 ω0 nt S (.region id l.toArray true) Q := by
  have hc := clsLB_spec hcl
  have hsz : nA ≤ l.length := by have := hc.size; simpa using this
  have hk' := AllSubs.map (p' := fun ks => Rest P w0 ω0 nt l.toArray Q (l.length - missing (ks ++ sk) #[] nA) (doneL nA (ks ++ sk) l.length) ((S.clear ds nms).part (fun j => !memN (ks ++ sk) j) done.reverse)) (fun ks hk =>
    ⟨fun a w hs => hk.go a w ((St.le.wk (partR_le (addsB_spec ok) (fun _ _ h => h) fun _ _ _ h => h) fun _ _ h => h).go _ _ _ a w hs)⟩) hk
  have hfn : fs.Nodup := by simp only [Bool.and_eq_true] at hf'; exact nodupB_spec hf'.1
  have hfs : ∀ f ∈ fs, f < nA ∧ memN sk f = false := fun f hf => by
    simp only [Bool.and_eq_true] at hf'
    have := List.all_eq_true.1 hf'.2 f hf
    simpa using this
  have hle : ∀ k, missing sk #[] k ≤ k := fun k => by
    induction k with
    | zero => exact Nat.le_refl _
    | succ k ih => simp only [missing]; split <;> omega
  refine ⟨fun a w hs => wp_region_any hm ?_⟩
  have hfin := draw_mainL hfn hfs hc hdr rfl (addsB_spec ok) hk' (missing sk #[] nA) (Array.replicate l.length false) a { w with drawn := w.drawn + 1 } ?_ (by simp) (fun j hj => ?_) (fun i hi => ?_) ?_
  · have := hle nA
    rw [show l.length - missing sk #[] nA + missing sk #[] nA = l.length by omega] at hfin
    simpa using hfin
  · have : ∀ k, k ≤ l.length → missing sk (Array.replicate l.length false) k = missing sk #[] k := fun k => by
      induction k with
      | zero => intro _; rfl
      | succ k ih =>
        intro hk
        simp only [missing]
        rw [ih (by omega)]
        have : (Array.replicate l.length false).getD k false = false := by simp [show k < l.length by omega]
        rw [this]; rfl
    exact this nA hsz
  · exfalso
    by_cases h : j < l.length
    · simp [h] at hj
    · simp [h] at hj
  · exfalso
    by_cases h : i < l.length
    · simp [h] at hi
    · simp [h] at hi
  · have h1 := (wk_clear S ds nms).go _ _ _ a _ (sat_drew hs)
    have hf : ∀ j, (Array.replicate l.length false).getD j false = false := fun j => by
      by_cases h : j < l.length <;> simp [h]
    refine (Wk.less (S := S.clear ds nms) (S' := (S.clear ds nms).part (fun j => (Array.replicate l.length false).getD j false) done.reverse) (fun t av h => ?_) (fun x c h => ?_) fun _ _ h => h).go _ _ _ a _ h1
    · have h : (match lkT (fun j => (Array.replicate l.length false).getD j false) 0 done.reverse t with | some av => some av | none => (S.clear ds nms).sl t) = some av := h
      split at h
      · rename_i av' h2
        obtain ⟨j, A, _, h3, _⟩ := lkT_some h2
        rw [hf] at h3; cases h3
      · exact h
    · have h : (match lkN (fun j => (Array.replicate l.length false).getD j false) 0 done.reverse x with | some c => some c | none => (S.clear ds nms).ch x) = some c := h
      split at h
      · rename_i av' h2
        obtain ⟨j, A, _, h3, _⟩ := lkN_some h2
        rw [hf] at h3; cases h3
      · exact h


end
end Go.Proofs.Ytnfkhgamnapgmaa

/- From contracts in names to contracts in words (RdS, OwSS, ..), and back. No program in sight. -/
namespace Go.Proofs.Ytnfkhgamnapgmaa
open Go.RowKit

/-- nobody's blocks -/
def noOwn : Own? := fun _ => none
/-- a chunk that is only read lies at the head h, its rows at the heads r -/
def Hv (w : World) (x : Nm) (c : Ch) (h : Hd) (r : Nat → Hd) : Prop := ∀ η : Env, (∀ i, η.r x i = r i) → ChIs η noOwn w x h c
abbrev Lay := List (Nm × (Ch × Hd × (Nat → Hd)))
def envOf (l : Lay) : Env := { h := fun x => (lk x l).map fun q => q.2.1, r := fun x i => match lk x l with | some q => q.2.2 i | none => ⟨none, 0, 1⟩ }
theorem lk_map {α β : Type} (f : α → β) : ∀ (l : List (Nat × α)) (x : Nat), lk x (l.map fun p => (p.1, f p.2)) = (lk x l).map f
  | [], x => rfl
  | p :: r, x => by
    simp only [List.map_cons, lk]
    rw [lk_map f r x]
    cases Nat.beq x p.1 <;> rfl
theorem mem_of {w : World} {l : Lay} (h : ∀ p ∈ l, Hv w p.1 p.2.1 p.2.2.1 p.2.2.2) : Mem (envOf l) noOwn w (fun x => lk x (l.map fun p => (p.1, p.2.1))) := by
  have hl : ∀ x, lk x (l.map fun p => (p.1, p.2.1)) = (lk x l).map fun q => q.1 := fun x => lk_map (fun q => q.1) l x
  refine ⟨fun x c hx => ?_, fun x hx => ?_⟩
  · replace hx := (hl x).symm.trans hx
    obtain ⟨q, hq, rfl⟩ := Option.map_eq_some_iff.1 hx
    refine ⟨q.2.1, by simp [envOf, hq], h (x, q) (lk_mem hq) _ fun i => by simp [envOf, hq]⟩
  · replace hx := (hl x).symm.trans hx
    have : lk x l = none := by simpa using hx
    simp [envOf, this]
theorem den_sl {l : Lay} {x : Nm} {q : Ch × Hd × (Nat → Hd)} {n : Nat} (h : lk x l = some q) : Den1 (envOf l) (.sl x 0 n) (.slice q.2.1.ao n q.2.1.c) :=
  ⟨⟨_, _, rfl⟩, fun h' hh => by
    have hh : (lk x l).map (fun q => q.2.1) = some h' := hh
    rw [h] at hh; simp at hh; subst hh
    exact ⟨_, rfl, fun _ => rfl, fun h0 => absurd h0 (by omega)⟩⟩

theorem ofS {E : Nat} {w : World} {v : Value} {zs : List Int} (x E' : Nat) (h : OwS E w v zs) : ∃ hd r, v = .slice hd.ao zs.length hd.c ∧ Hv w x ⟨false, E', 1, .vals (ivals zs)⟩ hd r := by
  obtain ⟨ao, n, c, rfl, ho⟩ := h
  have hl := ho.len
  simp at hl
  subst hl
  refine ⟨⟨ao, c, 1⟩, fun _ => ⟨none, 0, 1⟩, rfl, fun η _ => ⟨rfl, ?_, fun j hj => ?_⟩⟩
  · show (ivals zs).length ≤ c * 1
    rw [ivals_len, Nat.mul_one]
    rcases Nat.eq_zero_or_pos zs.length with h0 | h0
    · omega
    · obtain ⟨g, _, _, _, h1, _⟩ := ho.form h0; exact h1
  · have hj : j < zs.length := by have : j < (ivals zs).length := hj; rwa [ivals_len] at this
    obtain ⟨g, rfl, _, hlt, _, hc, _⟩ := ho.form (by omega)
    refine ⟨g, 0, I6 (iget zs j), rfl, rfl, hlt, ?_, ivals_get hj⟩
    rw [Nat.zero_add, hc j hj]
    exact ivals_get hj
theorem ofSS {E1 E : Nat} {w : World} {lo hi : Nat} {v : Value} {zss : List (List Int)} (x E' E1' : Nat) (h : OwSS E1 E w lo hi v zss) : ∃ hd r, v = .slice hd.ao zss.length hd.c ∧ Hv w x ⟨false, E', 1, .rows E1' (irows zss) []⟩ hd r := by
  obtain ⟨ao, n, c, us, rfl, ho⟩ := h
  have hl := ho.len
  subst hl
  have hr : ∀ j, ∃ q : Hd, q.k = 1 ∧ ∀ u d, us[j]? = some u → zss[j]? = some d → u = Value.slice q.ao d.length q.c ∧ ∀ (η : Env), VecR noOwn w q (ivals d).length fun i u => (ivals d)[i]? = some u := fun j => by
    by_cases hj : j < zss.length
    · obtain ⟨u, d, hu, hd, ⟨a', n', c', rfl, h1⟩, _⟩ := ho.get hj
      have hl := h1.len
      simp at hl
      subst hl
      refine ⟨⟨a', c', 1⟩, rfl, fun u2 d2 hu2 hd2 => ?_⟩
      rw [hu] at hu2; rw [hd] at hd2
      obtain rfl := Option.some.inj hu2
      obtain rfl := Option.some.inj hd2
      obtain ⟨hd', r', e1, e2⟩ := ofS x E' (⟨a', _, c', rfl, h1⟩ : OwS E1 w _ d)
      injection e1 with f1 f2 f3
      refine ⟨rfl, fun η => ?_⟩
      have e3 := e2 { h := fun _ => none, r := fun _ => r' } (fun _ => rfl)
      obtain ⟨e4, e5⟩ := e3
      have e5 : VecR noOwn w hd' (ivals d).length _ := e5
      have : hd' = ⟨a', c', 1⟩ := by
        cases hd'; simp at f1 f3 e4; simp [f1, f3, e4]
      subst this
      exact e5
    · refine ⟨⟨none, 0, 1⟩, rfl, fun u d _ hd => ?_⟩
      rw [List.getElem?_eq_none (by omega)] at hd; cases hd
  refine ⟨⟨ao, c, 1⟩, fun j => Classical.choose (hr j), rfl, fun η he => ⟨rfl, ?_, fun j hj => ?_⟩⟩
  · show (irows zss).length ≤ c * 1
    rw [irows_len, Nat.mul_one]
    rcases Nat.eq_zero_or_pos zss.length with h0 | h0
    · omega
    · obtain ⟨g, _, _, _, h1, _⟩ := ho.own.form h0; exact h1
  · have hj : j < zss.length := by have : j < (irows zss).length := hj; rwa [irows_len] at this
    obtain ⟨g, rfl, _, hlt, _, hc, _⟩ := ho.own.form (by omega)
    obtain ⟨u, d, hu, hd, h1, _⟩ := ho.get hj
    have hs := Classical.choose_spec (hr j)
    obtain ⟨k1, k2⟩ := hs.2 u d hu hd
    refine ⟨g, 0, u, rfl, rfl, hlt, by rw [Nat.zero_add, hc j hj, hu], by rw [k1]; rfl, fun _ vs hvs => ?_⟩
    have hvd : vs = ivals d := by
      have : (irows zss)[j]? = some (ivals d) := by simp [irows, hd]
      rw [this] at hvs; exact (Option.some.inj hvs).symm
    subst hvd
    rw [he j]
    exact ⟨by rw [k1, ivals_len], hs.1, k2 η⟩

/-- what a contract in names says of a call whose arguments are only read -/
theorem FC.call {P : Program} {f : FuncId} {ins outs : List (Nm × Ch)} {args : List AV} {res : AV} {back : List (Nat × AV)} (h : FC P f ins args outs res back) {w : World} {l : Lay} {us : List Value} (hl : ∀ p ∈ l, Hv w p.1 p.2.1 p.2.2.1 p.2.2.2) (hi : (l.map fun p => (p.1, p.2.1)) = ins)
    (hd : DenL (envOf l) args us) : Calls P f us.toArray w fun e w' => ∃ v η ω, e = .returned v ∧ Den η res v ∧ Mem η ω w' (fun x => lk x outs) ∧ Below w.heap.size w w' ∧ ∀ b, b < w.heap.size → ω b = none := by
  subst hi
  refine (h w (envOf l) noOwn us (mem_of hl) hd).mono ?_
  rintro e w' ⟨v, η, ω, he, h1, h2, h3, _⟩
  exact ⟨v, η, ω, he, h1, h2, ⟨h3.os, h3.tape, h3.output, h3.size, fun b hb => (h3.block b hb rfl).1⟩, fun b hb => (h3.block b hb rfl).2⟩

section
variable {η : Env} {ω : Own?} {w' : World} {lo : Nat} {outs : List (Nm × Ch)}
/-- a vector of the call's own is a row of the words -/
theorem VecO.own {ow : Nm × Option Nat} {h : Hd} {E : Nat} {xs : List Value} {len : Nat} {cell : Nat → Value → Prop} (hk : h.k = 1) (hv : VecO ω w' ow h E len cell) (hlo : ∀ b, b < lo → ω b = none) (hn : len ≤ 4398046511104) (hx : xs.length = len)
    (hc : ∀ j u, j < len → (∃ b o, h.ao = some ⟨b, o, none⟩ ∧ w'.cell? ⟨b, o + j, none⟩ = some u) → xs[j]? = some u) :
    Own w' lo E h.ao len h.c xs ∧ ∀ g, bk h.ao = some g → g < w'.heap.size ∧ ω g = some ow := by
  rcases hv with ⟨h1, h2, h3⟩ | ⟨b, o, cs, h1, h2, h3, ⟨h4, h4'⟩, h5, h6, h7⟩
  · subst h3
    refine ⟨⟨⟨by simpa using hx, .inl ⟨by rw [h1, h2], rfl⟩⟩, hn⟩, fun g hg => by rw [h1] at hg; cases hg⟩
  · subst h4
    rw [hk, Nat.mul_one] at h4' h5
    have hb : lo ≤ b := by
      rcases Nat.lt_or_ge b lo with h8 | h8
      · rw [hlo b h8] at h2; cases h2
      · exact h8
    refine ⟨⟨⟨by simpa using hx, .inr ⟨b, h.c, cs, by rw [h1], hb, h3, h5, h6, by rw [h4', Nat.mul_one], ?_⟩⟩, hn⟩, fun g hg => ?_⟩
    · apply List.ext_getElem?
      intro j
      rw [Nat.mul_one, List.getElem?_take]
      by_cases hj : j < len
      · obtain ⟨u, hu, _⟩ := h7 j hj
        rw [Nat.zero_add] at hu
        rw [if_pos hj, hc j u hj ⟨b, 0, h1, by rw [Nat.zero_add, cell_of_row w' b j cs E (0, 0) h3]; exact hu⟩]
        simpa using hu
      · rw [if_neg hj, List.getElem?_eq_none (by omega)]
    · rw [h1] at hg
      simp [bk] at hg
      subst hg
      exact ⟨lt_of_heap h3, h2⟩
theorem toS {x E : Nat} {zs : List Int} {v : Value} (hm : Mem η ω w' (fun x => lk x outs)) (hlo : ∀ b, b < lo → ω b = none) (hx : lk x outs = some ⟨true, E, 1, .vals (ivals zs)⟩) (hv : Den1 η (.sl x 0 zs.length) v) (hn : zs.length ≤ 4398046511104) : OwnS E w' lo w'.heap.size v zs := by
  obtain ⟨h, h1, h2, h3⟩ := hm.1 x _ hx
  obtain ⟨ao, rfl, h4, _⟩ := hv.2 h h1
  have h3 : VecO ω w' (x, none) h E (ivals zs).length (cellsOK η ω w' true x (.vals (ivals zs))) := h3
  rw [h4 rfl, Nat.sub_zero]
  obtain ⟨k1, k2⟩ := VecO.own (xs := ivals zs) h2 h3 hlo (by rw [ivals_len]; exact hn) rfl fun j u hj ⟨b, o, e1, e2⟩ => by
    obtain ⟨b', o', u', f1, f2, f3⟩ := Vec.get (own := true) h3 hj
    rw [e1] at f1; injection f1 with f1; injection f1 with f1 f1'; subst f1 f1'
    rw [e2] at f2
    obtain rfl := Option.some.inj f2
    exact f3
  rw [ivals_len] at k1
  exact ⟨⟨_, _, _, rfl, k1.mono (Nat.zero_le _)⟩, fun g hg => by
    rw [ownBlock_slice] at hg
    exact ⟨(k1.lt g hg).1, (k2 g hg).1⟩⟩
theorem toSS {x E F : Nat} {zss : List (List Int)} {v : Value} (hm : Mem η ω w' (fun x => lk x outs)) (hlo : ∀ b, b < lo → ω b = none) (hx : lk x outs = some ⟨true, E, 1, .rows F (irows zss) []⟩) (hv : Den1 η (.sl x 0 zss.length) v) (hn : zss.length ≤ 4398046511104) (hr : ∀ zs ∈ zss, zs.length ≤ 4398046511104) :
    OwSS F E w' lo w'.heap.size v zss := by
  obtain ⟨h, h1, h2, h3⟩ := hm.1 x _ hx
  obtain ⟨ao, rfl, h4, _⟩ := hv.2 h h1
  have h3 : VecO ω w' (x, none) h E (irows zss).length (cellsOK η ω w' true x (.rows F (irows zss) [])) := h3
  rw [h4 rfl, Nat.sub_zero]
  have hlen : (irows zss).length = zss.length := irows_len zss
  obtain ⟨us, hus, hul⟩ : ∃ us : List Value, (∀ j, j < zss.length → us[j]? = some (.slice (η.r x j).ao (lget zss j).length (η.r x j).c)) ∧ us.length = zss.length :=
    ⟨(List.range zss.length).map fun j => .slice (η.r x j).ao (lget zss j).length (η.r x j).c, fun j hj => by simp [hj], by simp⟩
  have cell : ∀ j, j < zss.length → ∃ b o, h.ao = some ⟨b, o, none⟩ ∧ w'.cell? ⟨b, o + j, none⟩ = some (.slice (η.r x j).ao (lget zss j).length (η.r x j).c) ∧ (η.r x j).k = 1 ∧ VecO ω w' (x, some j) (η.r x j) F (ivals (lget zss j)).length fun i u => (ivals (lget zss j))[i]? = some u := fun j hj => by
    obtain ⟨b', o', u', f1, f2, f3, f4⟩ := Vec.get (own := true) h3 (j := j) (by rw [hlen]; exact hj)
    obtain ⟨g1, g2, g3⟩ := f4 (by simp) (ivals (lget zss j)) (irows_get hj)
    rw [ivals_len] at g1
    exact ⟨b', o', f1, by rw [f2, g1], g2, g3⟩
  obtain ⟨k1, k2⟩ := VecO.own (xs := us) h2 h3 hlo (by rw [hlen]; exact hn) (by rw [hul, hlen]) fun j u hj ⟨b, o, e1, e2⟩ => by
    rw [hlen] at hj
    obtain ⟨b', o', f1, f2, _⟩ := cell j hj
    rw [e1] at f1; injection f1 with f1; injection f1 with f1 f1'; subst f1 f1'
    rw [e2] at f2
    rw [hus j hj, Option.some.inj f2]
  rw [hlen] at k1
  have row : ∀ j, j < zss.length → Own w' lo F (η.r x j).ao (lget zss j).length (η.r x j).c (ivals (lget zss j)) ∧ ∀ g, bk (η.r x j).ao = some g → g < w'.heap.size ∧ ω g = some (x, some j) := fun j hj => by
    obtain ⟨_, _, _, _, g2, g3⟩ := cell j hj
    have hb : (lget zss j).length ≤ 4398046511104 := hr _ (lget_mem hj)
    have := VecO.own (lo := lo) (xs := ivals (lget zss j)) g2 g3 hlo (by rw [ivals_len]; exact hb) rfl fun i u hi ⟨b, o, e1, e2⟩ => by
      obtain ⟨b', o', u', f1, f2, f3⟩ := Vec.get (own := true) g3 hi
      rw [e1] at f1; injection f1 with f1; injection f1 with f1 f1'; subst f1 f1'
      rw [e2] at f2
      obtain rfl := Option.some.inj f2
      exact f3
    rw [ivals_len] at this
    exact this
  have hlt : ∀ {j : Nat} {u : Value}, us[j]? = some u → j < zss.length ∧ u = .slice (η.r x j).ao (lget zss j).length (η.r x j).c := fun {j u} hu => by
    have hj : j < zss.length := by have := (List.getElem?_eq_some_iff.1 hu).1; omega
    rw [hus j hj] at hu
    exact ⟨hj, (Option.some.inj hu).symm⟩
  refine ⟨_, _, _, us, rfl, { own := k1, top := fun g hg => (k2 g hg).1, len := rfl, el := fun j u d hu hd => ?_, rng := fun j u hu g hg => ?_, out := fun j u g hu hg => ?_, apart := fun i j u u' g hij hu hu' hg => ?_ }⟩
  · obtain ⟨hj, rfl⟩ := hlt hu
    have : d = lget zss j := (lget_get? hd).symm
    subst this
    exact ⟨_, _, _, rfl, (row j hj).1.mono (Nat.zero_le _)⟩
  · obtain ⟨hj, rfl⟩ := hlt hu
    rw [ownBlock_slice] at hg
    exact ⟨((row j hj).1.lt g hg).1, ((row j hj).2 g hg).1⟩
  · obtain ⟨hj, rfl⟩ := hlt hu
    rw [ownBlock_slice] at hg
    intro e
    have h8 := ((row j hj).2 g hg).2
    rw [(k2 g e).2] at h8
    simp at h8
  · obtain ⟨hi, rfl⟩ := hlt hu
    obtain ⟨hj, rfl⟩ := hlt hu'
    rw [ownBlock_slice] at hg ⊢
    intro e
    have h8 := ((row i hi).2 g hg).2
    rw [((row j hj).2 g e).2] at h8
    simp at h8
    omega
end

theorem owSS_nil {E1 E : Nat} {w : World} {lo hi : Nat} : OwSS E1 E w lo hi (.slice none 0 0) [] :=
  ⟨none, 0, 0, [], rfl, OwR.empty_ (Own.nil_ _ _ _) (fun g hg => nomatch hg)⟩
theorem ownS_nil {E : Nat} {w : World} {lo hi : Nat} : OwnS E w lo hi (.slice none 0 0) [] := ⟨⟨none, 0, 0, rfl, Own.nil_ _ _ _⟩, in_nil _ _ _ _⟩

/-- a contract in words of a function that reads, as a contract in names -/
theorem fc_of_calls {P : Program} {f : FuncId} {ins : List (Nm × Ch)} {args : List AV} {r : Value} (h : ∀ w η ω us, Mem η ω w (fun x => lk x ins) → DenL η args us → Calls P f us.toArray w fun e w' => e = .returned r ∧ Below w.heap.size w w') : FC P f ins args [] (vv r) [] := by
  intro w η ω us hm hd
  refine (h w η ω us hm hd).mono ?_
  rintro e w' ⟨rfl, hb⟩
  exact ⟨r, { h := fun _ => none, r := η.r }, ω, rfl, rfl, ⟨fun x c hx => (nomatch hx), fun x _ => rfl⟩, ⟨hb.os, hb.tape, hb.output, hb.size, fun b hlt hn => ⟨hb.block b hlt, hn⟩⟩, fun t av ht => (nomatch ht)⟩
section
variable {η : Env} {ω : Own?} {w : World} {ins : List (Nm × Ch)}
theorem rdS {x : Nat} {own : Bool} {E : Nat} {zs : List Int} {v : Value} (hm : Mem η ω w (fun x => lk x ins)) (hx : lk x ins = some ⟨own, E, 1, .vals (ivals zs)⟩) (hv : Den1 η (.sl x 0 zs.length) v) (hn : zs.length ≤ 17592186044416) : ∃ ao c, v = .slice ao zs.length c ∧ Ints w ao zs.length zs := by
  obtain ⟨h, h1, h2, h3⟩ := hm.1 x _ hx
  obtain ⟨ao, rfl, h4, _⟩ := hv.2 h h1
  have h3 : Vec own ω w (x, none) h E (ivals zs).length (cellsOK η ω w own x (.vals (ivals zs))) := h3
  rw [h4 rfl]
  refine ⟨_, _, rfl, rfl, hn, fun h0 => ?_⟩
  obtain ⟨b, o, u, f1, _, _⟩ := h3.get (j := 0) (by rw [ivals_len]; exact h0)
  refine ⟨b, o, f1, fun j hj => ?_⟩
  obtain ⟨b', o', u', g1, g2, g3⟩ := h3.get (j := j) (by rw [ivals_len]; exact hj)
  rw [f1] at g1; injection g1 with g1; injection g1 with g1 g1'; subst g1 g1'
  have g3 : (ivals zs)[j]? = some u' := g3
  rw [ivals_get hj] at g3
  rw [g2, ← g3]
theorem rdSS {x : Nat} {own : Bool} {E F : Nat} {zss : List (List Int)} {v : Value} (hm : Mem η ω w (fun x => lk x ins)) (hx : lk x ins = some ⟨own, E, 1, .rows F (irows zss) []⟩) (hv : Den1 η (.sl x 0 zss.length) v) (hn : zss.length ≤ 17592186044416) (hr : ∀ zs ∈ zss, zs.length ≤ 17592186044416) : ∃ ao c, v = .slice ao zss.length c ∧ Intss w ao zss.length zss := by
  obtain ⟨h, h1, h2, h3⟩ := hm.1 x _ hx
  obtain ⟨ao, rfl, h4, _⟩ := hv.2 h h1
  have h3 : Vec own ω w (x, none) h E (irows zss).length (cellsOK η ω w own x (.rows F (irows zss) [])) := h3
  rw [h4 rfl]
  refine ⟨_, _, rfl, rfl, hn, fun h0 => ?_⟩
  obtain ⟨b, o, u, f1, _, _⟩ := h3.get (j := 0) (by rw [irows_len]; exact h0)
  refine ⟨b, o, f1, fun j hj => ?_⟩
  obtain ⟨b', o', u', g1, g2, g3, g4⟩ := h3.get (j := j) (by rw [irows_len]; exact hj)
  rw [f1] at g1; injection g1 with g1; injection g1 with g1 g1'; subst g1 g1'
  obtain ⟨k1, k2, k3⟩ := g4 (by simp) (ivals (lget zss j)) (irows_get hj)
  rw [ivals_len] at k1
  refine ⟨u', g2, _, _, _, k1, rfl, hr _ (lget_mem hj), fun h0 => ?_⟩
  obtain ⟨b2, o2, u2, m1, _, _⟩ := k3.get (j := 0) (by rw [ivals_len]; exact h0)
  refine ⟨b2, o2, m1, fun i hi => ?_⟩
  obtain ⟨b3, o3, u3, n1, n2, n3⟩ := k3.get (j := i) (by rw [ivals_len]; exact hi)
  rw [m1] at n1; injection n1 with n1; injection n1 with n1 n1'; subst n1 n1'
  rw [ivals_get hi] at n3
  rw [n2, ← n3]
end
end Go.Proofs.Ytnfkhgamnapgmaa

/- A memory of names: calls that make one vector; rows taken out and laid back; slices of rows; literals of rows and of arrays. No program in sight. -/
namespace Go.Proofs.Ytnfkhgamnapgmaa
open Go.RowKit

section
variable {P : Program} {nt : Nat} {S S1 S2 : St} {w0 w : World} {ω0 : Beg} {ω : Own?} {η : Env} {a : Act} {Q : Exit → Act → World → Prop} {ops : Array Oper} {rest : List Oper}
variable {t : Nat} {ty : TypeId} {ps : String} {af : Array Edge} {gd : Option (Nat × Bool)} {x y : Operand} {av : AV} {o : Oper}

theorem nbeq_comm (x y : Nat) : Nat.beq x y = Nat.beq y x := by
  cases h : Nat.beq x y with
  | true => rw [beq_true h]; simp
  | false =>
    cases h2 : Nat.beq y x with
    | false => rfl
    | true => rw [beq_true h2] at h; simp at h
theorem inL_one (x y : Nm) (c : Ch) : inL [(x, c)] y = Nat.beq x y := by
  unfold inL; simp only [lk]
  rw [nbeq_comm x y]
  cases Nat.beq y x <;> rfl
theorem bad_one (x : Nm) (c : Ch) (a : A1) : a.bad (inL [(x, c)]) (memB []) = a.has x := by
  cases a with
  | val v => rfl
  | any => rfl
  | sl y _ _ => exact inL_one x y c
  | ptr y _ => show (inL [(x, c)] y && !memB [] y) = _; rw [inL_one]; simp [memB, A1.has]
  | esl y _ _ _ => exact inL_one x y c
  | eptr y _ _ => exact inL_one x y c
  | clo f xs => show xs.any (fun p => inL [(x, c)] p.1 && !memB [] p.1) = xs.any fun p => Nat.beq x p.1; congr 1; funext p; rw [inL_one]; simp [memB]
theorem bad_one2 (x : Nm) (c : Ch) (a : A2) : a.bad (inL [(x, c)]) (memB []) = a.has x := by
  cases a with
  | one a => exact bad_one x c a
  | agg l => show l.any _ = l.any _; congr 1; funext a; exact bad_one x c a
theorem bad_one3 (x : Nm) (c : Ch) (a : AV) : a.bad (inL [(x, c)]) (memB []) = a.has x := by
  cases a with
  | s a => exact bad_one2 x c a
  | tup l => show l.any _ = l.any _; congr 1; funext a; exact bad_one2 x c a
theorem clean_one (x : Nm) (c d : Ch) : d.clean (inL [(x, c)]) (memB []) = d.forget x := by
  obtain ⟨ow, E, k, d⟩ := d
  unfold Ch.clean Ch.forget Dat.clean Dat.forget
  cases d with
  | flat l =>
    have : (l.map fun a => bif a.bad (inL [(x, c)]) (memB []) then A1.any else a) = l.map (A1.forget x) := List.map_congr_left fun a _ => by rw [bad_one]; rfl
    simp only [this]
  | vals vs => rfl
  | rows F vss hs => rfl
  | mix cs => rfl
/-- a call that reads and makes one chunk -/
theorem wk_after1 {ins : List (Nm × Ch)} {t : Nat} {res : AV} {x : Nm} {c : Ch} (hro : (ins.all fun p => !p.2.own) = true) : Wk ((S.after ins [(x, c)] []).putO (some t) res) ((S.new x c).put t res) := by
  have hc : ∀ x, consB ins x = false := fun x => by
    unfold consB
    cases h : lk x ins with
    | none => rfl
    | some c => have := List.all_eq_true.1 hro _ (lk_mem h); simpa using this
  refine Wk.less (fun t' av h => ?_) (fun y d h => ?_) fun t' av h => ?_
  · rw [sl_put] at h
    show ((S.after ins [(x, c)] []).put t res).sl t' = some av
    rw [sl_put]
    by_cases e : t' = t
    · rw [if_pos e] at h ⊢; exact h
    · rw [if_neg e] at h ⊢
      obtain ⟨h1, h2⟩ := sl_new h
      show ((S.sl t').bind fun av => bif av.bad (inL [(x, c)]) (memB []) then none else some av) = some av
      rw [h1, Option.bind_some, bad_one3, h2]; rfl
  · have h' : (S.new x c).ch y = some d := h
    clear h
    rw [ch_new] at h'
    show (match lk y [(x, c)] with | some c => some c | none => bif consB ins y then none else (S.ch y).map (Ch.clean (inL [(x, c)]) (memB []))) = some d
    simp only [lk]
    by_cases e : y = x
    · rw [if_pos e] at h'; subst e; simpa using h'
    · rw [if_neg e] at h'
      rw [beq_ne e, cond_false, hc, cond_false]
      have : Ch.clean (inL [(x, c)]) (memB []) = Ch.forget x := funext fun d => clean_one x c d
      rw [this]; exact h'
  · have h : (S.new x c).ph t' = some av := h
    obtain ⟨h1, h2⟩ := ph_new h
    show ((S.ph t').bind fun av => bif av.bad (inL [(x, c)]) (memB []) then none else some av) = some av
    rw [h1, Option.bind_some, bad_one3, h2]; rfl
theorem stp_callN {f : FuncId} {xs : Array Operand} {ts : Array TypeId} {ins : List (Nm × Ch)} {args args' : List AV} {res : AV} {back : List (Nat × AV)} {x : Nm} {c : Ch}
    (hfc : FC P f ins args [(x, c)] res back) (hf : goFnB P f = true) (ht : Nat.blt t nt = true) (hx' : opL S xs.toList = some args') (hto : allTo args' args) (hin : allIn S ins) (hro : (ins.all fun p => !p.2.own) = true) (hnr : (res.names.all (inL [(x, c)])) = true) (hno : ([(x, c)].all fun p => p.2.own && p.2.names.all (inL [(x, c)])) = true) :
    Stp P nt ⟨some t, .call { callee := .value (.func f), args := xs, argTypes := ts }, ty, ps, af, gd⟩ S ((S.new x c).put t res) :=
  (stp_call (kp := []) hfc hf (by simp [ht]) hx' hto hin trivial hnr hno).wk (wk_after1 hro)

/-- a contract in words of a function that hands back integers of its own, as a contract in names -/
theorem vecO_of {x : Nm × Option Nat} {w' : World} {lo E n c : Nat} {ao : Option Addr} {xs : List Value} (h : Own w' lo E ao n c xs) {ω' : Own?} (ho : ∀ g, bk ao = some g → ω' g = some x) : VecO ω' w' x ⟨ao, c, 1⟩ E xs.length fun j u => xs[j]? = some u := by
  have hl := h.len
  rcases h.1.2 with ⟨h2, h3⟩ | ⟨g, cap, cur, hv, hg, hh, h4, h5, h6, h7⟩
  · injection h2 with e1 e2 e3
    subst e1 e3
    exact .inl ⟨rfl, rfl, by omega⟩
  · injection hv with e1 e2 e3
    subst e1 e3
    refine .inr ⟨g, 0, cur, rfl, ho g rfl, hh, ⟨rfl, h6⟩, by show xs.length ≤ c * 1; omega, h5, fun j hj => ?_⟩
    have h8 : xs[j]? = some xs[j] := List.getElem?_eq_getElem hj
    refine ⟨xs[j], ?_, h8⟩
    have h9 : (cur.toList.take (n * 1))[j]? = some xs[j] := by rw [h7]; exact h8
    rw [List.getElem?_take] at h9
    split at h9
    · rw [Nat.zero_add]; simpa using h9
    · cases h9
theorem fc_of_own {f : FuncId} {ins : List (Nm × Ch)} {args : List AV} {x E : Nat} {zs : List Int} (h : ∀ w η ω us, Mem η ω w (fun x => lk x ins) → DenL η args us → Calls P f us.toArray w fun e w' => ∃ ao c, e = .returned (.slice ao zs.length c) ∧ Own w' w.heap.size E ao zs.length c (ivals zs) ∧ Below w.heap.size w w') :
    FC P f ins args [(x, ⟨true, E, 1, .vals (ivals zs)⟩)] (o1 (.sl x 0 zs.length)) [] := by
  intro w η ω us hm hd
  refine (h w η ω us hm hd).mono ?_
  rintro e w' ⟨ao, c, rfl, ho, hb⟩
  refine ⟨_, { h := fun y => if y = x then some ⟨ao, c, 1⟩ else none, r := η.r }, fun b => if bk ao = some b then some (x, none) else ω b, rfl, ⟨⟨_, _, rfl⟩, fun hd' he => ?_⟩, ⟨fun y d hy => ?_, fun y hy => ?_⟩, ⟨hb.os, hb.tape, hb.output, hb.size, fun b hlt hn => ⟨hb.block b hlt, ?_⟩⟩, fun t av ht => (nomatch ht)⟩
  · simp only [if_true, Option.some.injEq] at he
    subst he
    exact ⟨_, rfl, fun _ => rfl, fun h0 => absurd h0 (by omega)⟩
  · have hy : lk y [(x, (⟨true, E, 1, .vals (ivals zs)⟩ : Ch))] = some d := hy
    simp only [lk] at hy
    cases hb' : Nat.beq y x with
    | false => rw [hb'] at hy; simp at hy
    | true =>
      rw [hb'] at hy; simp at hy; subst hy
      obtain rfl := beq_true hb'
      exact ⟨⟨ao, c, 1⟩, if_pos rfl, rfl, vecO_of ho fun g hg => if_pos hg⟩
  · have hy : lk y [(x, (⟨true, E, 1, .vals (ivals zs)⟩ : Ch))] = none := hy
    have : y ≠ x := fun e => by subst e; simp [lk] at hy
    exact if_neg this
  · show (if bk ao = some b then some (x, none) else ω b) = none
    rw [if_neg fun e => by have := (ho.lt b e).1; omega]; exact hn

/-- a literal of one row of the call's own -/
theorem stp_lit1R {T E F z m : Nat} {x0 : Operand} {vs : List Value} (ht : Nat.blt t nt = true) (hT : elZ P T E 1 = true) (hx : S.op x0 = some (o1 (.sl z 0 m))) (hz : S.ch z = some ⟨true, F, 1, .vals vs⟩) (hm : vs.length = m) (hzt : Nat.beq z t = false) :
    Stp P nt ⟨some t, .buildSlice T 1 #[(0, x0)], ty, ps, af, gd⟩ S (((S.rm z).new t ⟨true, E, 1, .rows F [vs] []⟩).put t (o1 (.sl t 0 1))) :=
  Stp.of _ fun w0 ω0 η ω a w hs => by
    have hne : z ≠ t := fun e => by rw [e] at hzt; simp at hzt
    subst hm
    obtain ⟨i, zz, k1, k2, k3, k4, k5, k6⟩ := elZ_spec hT
    have hd0 : Den1 η (.sl z 0 vs.length) (a.eval x0) := hs.opv hx
    have ho : (a.eval x0).oneCell' = true := hd0.one fun v hv => by cases hv
    obtain ⟨hz', z1, z2, z3⟩ := hs.chunk hz
    have z2 : hz'.k = 1 := z2
    have z3 : VecO ω w (z, none) hz' F vs.length (cellsOK η ω w true z (.vals vs)) := z3
    obtain ⟨az, hav, q1, _⟩ := hd0.2 hz' z1
    refine ⟨.slice (some ⟨w.heap.size, 0, none⟩) 1 1, w.alloc (.cells #[a.eval x0] E), ?_, ?_⟩
    · simp [execOp, Instr.buildSlice, run_underlying k1, sizeOf, typeInfo, k2, k3, zeroValue, k5, Instr.fill, newRow, cells_one ho, range1]
    · have hSz : (S.rm z).ch z = none := by simp [ch_rm]
      have calm : Calm (S.rm z) ω w (Own?.give (Own?.new ω w.heap.size (t, none)) z t 0) (w.alloc (.cells #[a.eval x0] E)) := ⟨rfl, rfl, rfl, by simp, fun b hb hl => by
        have hnew : Own?.new ω w.heap.size (t, none) b = ω b := by simp [Own?.new, Nat.ne_of_lt hb]
        refine ⟨Below.heap_alloc w _ b hb, ?_⟩
        have h1 : ω b ≠ some (z, none) := by
          rcases hl with h0 | ⟨y, j, c, h0, h1⟩
          · rw [h0]; simp
          · rw [h0]
            intro e
            simp at e; rw [e.1, hSz] at h1; cases h1
        simp only [Own?.give, hnew, if_neg h1]⟩
      have key : ChIs ((η.drop z).new t ⟨some ⟨w.heap.size, 0, none⟩, 1, 1⟩ fun _ => hz') (Own?.give (Own?.new ω w.heap.size (t, none)) z t 0) (w.alloc (.cells #[a.eval x0] E)) t ⟨some ⟨w.heap.size, 0, none⟩, 1, 1⟩ ⟨true, E, 1, .rows F [vs] []⟩ := by
        have hself : Own?.new ω w.heap.size (t, none) w.heap.size = some (t, none) := by simp [Own?.new]
        refine ⟨rfl, .inr ⟨w.heap.size, 0, _, rfl, ?_, heap_alloc_new w _, ⟨rfl, rfl⟩, Nat.le_refl _, by simp [maxLen], fun j hj => ?_⟩⟩
        · unfold Own?.give
          rw [hself, if_neg (by simp; exact fun e => hne e.symm)]
        · have hj0 : j = 0 := by simp [Dat.len] at hj; omega
          subst hj0
          refine ⟨a.eval x0, by simp, ho, fun _ vs' hvs' => ?_⟩
          simp at hvs'; subst hvs'
          have hr : ((η.drop z).new t ⟨some ⟨w.heap.size, 0, none⟩, 1, 1⟩ fun _ => hz').r t 0 = hz' := by simp [Env.new]
          rw [hr]
          refine ⟨by rw [hav, q1 rfl, Nat.sub_zero], z2, VecO.give z3 fun b hb hob => ⟨Below.heap_alloc w _ b hb, ?_⟩⟩
          have hnew : Own?.new ω w.heap.size (t, none) b = ω b := by simp [Own?.new, Nat.ne_of_lt hb]
          simp only [Own?.give, hnew, hob, if_true]
      exact ⟨_, _, ((hs.drop z).lay calm key).putV (by simpa using ht) den_newsl⟩

/-- a row is taken out of the rows: it is a vector of its own, and its place is a hole -/
theorem wk_takeRow {n i z m : Nat} {E F s : Nat} {vss : List (List Value)} {vs : List Value} (hc : S.ch n = some ⟨true, E, 1, .rows F vss []⟩) (hs0 : S.sl s = some (o1 (.esl n i 0 m))) (hi : vss[i]? = some vs) (hm : vs.length = m) (hzn : Nat.beq z n = false) :
    Wk S ((((S.cutE n).set n ⟨true, E, 1, .rows F vss [i]⟩).new z ⟨true, F, 1, .vals vs⟩).put s (o1 (.sl z 0 m))) := by
  have hne : z ≠ n := fun e => by rw [e] at hzn; simp at hzn
  subst hm
  refine ⟨fun w0 ω0 nt a w ⟨η, ω, h⟩ => ?_⟩
  obtain ⟨u, hu, hdu⟩ := h.slots s _ hs0
  have hdu : Den1 η (.esl n i 0 vs.length) u := hdu
  obtain ⟨hd, e1, e2, e3⟩ := h.chunk hc
  have e3 : VecO ω w (n, none) hd E vss.length (cellsOK η ω w true n (.rows F vss [])) := e3
  obtain ⟨ao, rfl, q1, _⟩ := hdu.2 hd e1
  have hil : i < vss.length := (List.getElem?_eq_some_iff.1 hi).1
  obtain ⟨b0, o0, u0, _, _, g3⟩ := Vec.get (own := true) e3 hil
  obtain ⟨r1, r2, r3⟩ := g3.2 (by simp) vs hi
  have r3 : VecO ω w (n, some i) (η.r n i) F vs.length fun j u => vs[j]? = some u := r3
  let ω' : Own? := fun b => if ω b = some (n, some i) then some (z, none) else ω b
  have calm : Calm (S.rm n) ω w ω' w := ⟨rfl, rfl, rfl, Nat.le_refl _, fun b _ hl => ⟨rfl, by
    have h1 : ω b ≠ some (n, some i) := by
      rcases hl with h0 | ⟨y, j, c, h0, h1⟩
      · rw [h0]; simp
      · rw [h0]; intro e; simp at e; rw [e.1, ch_rm, if_pos rfl] at h1; cases h1
    exact if_neg h1⟩⟩
  have key : ChIs { η with r := fun y j => if y = n then η.r n j else η.r y j } ω' w n hd ⟨true, E, 1, .rows F vss [i]⟩ := by
    refine ⟨e2, ?_⟩
    rcases e3 with h0 | ⟨b, o, cs, f1, f2, f3, f4, f5, f6, f7⟩
    · exact .inl h0
    · refine .inr ⟨b, o, cs, f1, (if_neg (by rw [f2]; simp)).trans f2, f3, f4, f5, f6, fun j hj => ?_⟩
      obtain ⟨u', hu', hk⟩ := f7 j hj
      refine ⟨u', hu', hk.1, fun hj' vs' hvs' => ?_⟩
      obtain ⟨m1, m2, m3⟩ := hk.2 (by simp) vs' hvs'
      simp only [if_true]
      refine ⟨m1, m2, VecO.same (fun b2 _ ho => ⟨rfl, ?_⟩) (fun _ _ h => h) m3⟩
      show (if ω b2 = some (n, some i) then some (z, none) else ω b2) = _
      rw [if_neg (by rw [ho]; simp; simpa using hj')]; exact ho
  have h1 := h.rewrite (n := n) (r := η.r n) e1 calm key
  have h2 := h1.lay (x := z) (c := ⟨true, F, 1, .vals vs⟩) (hd := η.r n i) (r := fun _ => ⟨none, 0, 1⟩) (Calm.refl _ _ _) ⟨r2, by
    show VecO ω' w (z, none) (η.r n i) F vs.length _
    rcases r3 with h0 | ⟨b, o, cs, f1, f2, f3, f4, f5, f6, f7⟩
    · exact .inl h0
    · exact .inr ⟨b, o, cs, f1, if_pos f2, f3, f4, f5, f6, f7⟩⟩
  refine ⟨_, ω', { h2 with slots := fun t' av ht' => ?_ }⟩
  rw [sl_put] at ht'
  by_cases e : t' = s
  · subst e
    rw [if_pos rfl] at ht'
    obtain rfl := Option.some.inj ht'
    refine ⟨_, hu, ⟨_, _, rfl⟩, fun hd' he => ?_⟩
    simp [Env.new] at he
    subst he
    exact ⟨_, rfl, fun _ => q1 rfl, fun h0 => absurd h0 (by omega)⟩
  · rw [if_neg e] at ht'
    exact h2.slots t' av ht'

/-- a part of a row -/
theorem stp_sliceE {T : TypeId} {n i len l : Nat} {c : Ch} {F : TypeId} {vss : List (List Value)} {vs : List Value} {hi : Operand} {ki : IntKind} {z : Int} (ht : Nat.blt t nt = true) (hx : S.op x = some (o1 (.esl n i 0 len))) (hc : S.ch n = some c) (hd0 : c.d = .rows F vss []) (hr : vss[i]? = some vs) (hT : elemB P T 1 = true)
    (hhi : S.op hi = some (vv (.int ki z))) (hz : z = (l : Int)) (hlh : l ≤ len) (hl : len ≤ vs.length) : Stp P nt ⟨some t, .slice T x none (some hi) none, ty, ps, af, gd⟩ S (S.put t (o1 (.esl n i 0 l))) :=
  Stp.pure rfl ht fun _ _ η ω a w hs => by
    obtain ⟨hd, h1, h2, h3⟩ := hs.chunk hc
    have hd1 : Den1 η (.esl n i 0 len) (a.eval x) := hs.opv hx
    obtain ⟨ao, e1, e2, e3⟩ := hd1.2 hd h1
    obtain ⟨e, inf, g1, g2, g3⟩ := elemB_spec hT
    rw [hd0] at h3
    have hil : i < vss.length := (List.getElem?_eq_some_iff.1 hr).1
    obtain ⟨b0, o0, u0, _, _, k3⟩ := h3.get (j := i) hil
    obtain ⟨r1, r2, r3⟩ := k3.2 (by simp) vs hr
    have hcap := r3.cap
    rw [r2, Nat.mul_one] at hcap
    rw [Nat.sub_zero] at e1
    have hrun := run_sliceT (P := P) (lo := none) (hi := some hi) (l := 0) (h := l) (len := len) (m := (η.r n i).c) (ao := ao) g1 g2 hs rfl ⟨ki, z, hhi, hz⟩ (Nat.zero_le _) (by omega)
    refine ⟨.slice (if (η.r n i).c = 0 then ao else ao.map (·.add (0 * inf.size))) (l - 0) ((η.r n i).c - 0), by simp only [execOp, e1]; simp only [Option.map_none, Option.map_some] at hrun ⊢; simp [hrun], ⟨_, _, rfl⟩, fun hd' he => ?_⟩
    rw [h1] at he; obtain rfl := Option.some.inj he
    refine ⟨_, rfl, fun h0 => ?_, fun h0 hlt => absurd h0 (by omega)⟩
    rw [e2 rfl]
    split
    · rfl
    · cases (η.r n i).ao <;> simp [Addr.add]
end
end Go.Proofs.Ytnfkhgamnapgmaa

/- A memory of names: mixed vectors: structs with slices in them, and rows of structs. No program in sight. -/
namespace Go.Proofs.Ytnfkhgamnapgmaa
open Go.RowKit

section
variable {P : Program} {nt : Nat} {S S1 S2 : St} {w0 w : World} {ω0 : Beg} {ω : Own?} {η : Env} {a : Act} {Q : Exit → Act → World → Prop} {ops : Array Oper} {rest : List Oper}
variable {t : Nat} {ty : TypeId} {ps : String} {af : Array Edge} {gd : Option (Nat × Bool)} {x y : Operand} {av : AV} {o : Oper}

theorem stp_loadM {T : TypeId} {n : Nm} {i : Nat} {c : Ch} {cs : List Cel} {v : Value} (ht : Nat.blt t nt = true) (hT : oneB P T = true) (hx : S.op x = some (o1 (.ptr n i))) (hc : S.ch n = some c) (hd : c.d = .mix cs) (hv : cs[i]? = some (.v v)) :
    Stp P nt ⟨some t, .load T x, ty, ps, af, gd⟩ S (S.put t (vv v)) := stp_load ht hT hx hc (by rw [hd]; simp only [Dat.at_, hv])
theorem stp_loadMR {T : TypeId} {n : Nm} {i F k m : Nat} {c : Ch} {cs : List Cel} {vs : List Value} (ht : Nat.blt t nt = true) (hT : oneB P T = true) (hx : S.op x = some (o1 (.ptr n i))) (hc : S.ch n = some c) (hd : c.d = .mix cs) (hv : cs[i]? = some (.r F k m vs)) :
    Stp P nt ⟨some t, .load T x, ty, ps, af, gd⟩ S (S.put t (o1 (.esl n i 0 m))) := stp_load ht hT hx hc (by rw [hd]; simp only [Dat.at_, hv])
/-- what cells of a chunk read xs0, one after the other -/
theorem stp_loadAggD {T : TypeId} {n : Nm} {i k : Nat} {c : Ch} {l : List A1} (ht : Nat.blt t nt = true) (hx : S.op x = some (o1 (.ptr n i))) (hc : S.ch n = some c) (hl : l.length = k) (hk0 : Nat.blt 0 k = true) (hT : aggB P T k = true)
    (ha : ∀ (j : Nat) (b : A1), l[j]? = some b → c.d.at_ n (i + j) = some b) : Stp P nt ⟨some t, .load T x, ty, ps, af, gd⟩ S (S.put t (.s (.agg l))) :=
  Stp.pure rfl ht fun _ _ η ω a w hs => by
    obtain ⟨h, e1, e2, e3⟩ := hs.chunk hc
    have hp : Den1 η (.ptr n i) (a.eval x) := hs.opv hx
    obtain ⟨b, o, g1, g2⟩ := hp.2 h e1
    have key : ∀ j (hj : j < k), ∃ u, w.cell? ⟨b, o + i + j, none⟩ = some u ∧ ∀ b1, l[j]? = some b1 → Den1 η b1 u := fun j hj => by
      have hlj : l[j]? = some l[j] := List.getElem?_eq_getElem (by omega)
      obtain ⟨b', o', u, f1, f2, f3⟩ := e3.get (j := i + j) (Dat.at_lt (ha j _ hlj))
      rw [g1] at f1; injection f1 with f1; injection f1 with f1 f1'; subst f1 f1'
      exact ⟨u, by rw [Nat.add_assoc]; exact f2, fun b1 hb1 => den_at f3 (ha j b1 hb1)⟩
    refine ⟨.agg ((List.range k).map fun j => (w.cell? ⟨b, o + i + j, none⟩).getD undef).toArray, ?_, ⟨_, rfl, by simp; omega, fun j b1 hb1 => ?_⟩⟩
    · have := run_loadAgg (P := P) (w := w) hT (b := b) (o := o + i) (us := (List.range k).map fun j => (w.cell? ⟨b, o + i + j, none⟩).getD undef) (by simp) fun j u hu => by
        rw [List.getElem?_map, Option.map_eq_some_iff] at hu
        obtain ⟨j', hj', rfl⟩ := hu
        have hjk : j < k := by have := (List.getElem?_eq_some_iff.1 hj').1; simpa using this
        rw [List.getElem?_range hjk] at hj'
        obtain rfl := Option.some.inj hj'
        obtain ⟨u, hu, _⟩ := key j hjk
        rw [hu]; rfl
      simp [execOp, g2, Instr.loadAt, Instr.sureAddr, this]
    · have hjk : j < k := by rw [← hl]; exact (List.getElem?_eq_some_iff.1 hb1).1
      obtain ⟨u, hu, hdu⟩ := key j hjk
      exact ⟨u, by simp [hjk, hu], hdu b1 hb1⟩

theorem stp_storeM {T : TypeId} {n : Nm} {i : Nat} {c : Ch} {cs : List Cel} {v v0 : Value} (hx : S.op x = some (o1 (.ptr n i))) (hy : S.op y = some (vv v)) (hc : S.ch n = some c) (hown : c.own = true) (hd : c.d = .mix cs) (hi : cs[i]? = some (.v v0)) (hT : sizeB P T 1 = true) (h1 : v.oneCell' = true) :
    Stp P nt ⟨none, .store T x y, ty, ps, af, gd⟩ S (S.set n { c with d := .mix (cs.set i (.v v)) }) :=
  have hil : i < cs.length := (List.getElem?_eq_some_iff.1 hi).1
  Stp.unit rfl fun w0 ω0 η ω a w hs => by
    have hb : a.eval y = v := hs.opV hy
    obtain ⟨w', k1, k2⟩ := hs.store1 (P := P) (T := T) (v := v) (d' := .mix (cs.set i (.v v))) (hs.opv hx) hc hown (by rw [hd]; exact hil) hT h1 (by rw [hd]; simp [Dat.len])
      (fun w' j u hj hk => by rw [hd] at hk; exact ⟨hk.1, fun c hc' => by rw [List.getElem?_set_ne (fun e => hj e.symm)] at hc'; exact hk.2 c hc'⟩)
      (fun w' => ⟨h1, fun c hc' => by rw [List.getElem?_set_self hil] at hc'; obtain rfl := Option.some.inj hc'; exact rfl⟩)
    exact ⟨w', by simp [execOp, hb, k1], _, _, k2⟩

/-- plain cells, of which a nil slice may be taken for an empty row -/
def celNew : Cel → Value → Prop
  | .v y, u => u = y
  | .r _ _ m vs, u => m = 0 ∧ vs = [] ∧ u = .slice none 0 0
  | .any, _ => True
def celK : Cel → Nat
  | .r _ k _ _ => k
  | _ => 1
theorem celNew.ok {own : Bool} {n : Nm} {j : Nat} {c : Cel} {u : Value} (hr : η.r n j = ⟨none, 0, celK c⟩) (h : celNew c u) : celOK η ω w true n j c u := by
  cases c with
  | v y => exact h
  | any => trivial
  | r F k m vs =>
    obtain ⟨rfl, rfl, rfl⟩ := h
    refine ⟨by simp, by rw [hr], by rw [hr]; rfl, ?_⟩
    rw [hr]
    exact .inl ⟨rfl, rfl, rfl⟩
/-- append of plain cells to a mixed vector -/
theorem stp_appendMx {T E k n len m : Nat} {cs cn : List Cel} {news : List Value} {b : A1} (ht : Nat.blt t nt = true) (hT : elZ P T E k = true) (hk0 : Nat.blt 0 k = true) (hx : S.op x = some (o1 (.sl n 0 len))) (hc : S.ch n = some ⟨true, E, k, .mix cs⟩) (hl : cs.length = len * k)
    (hy : S.op y = some (o1 b)) (hr : Reads S b m k news) (hm : 0 < m) (h1 : ∀ v ∈ news, v.oneCell' = true) (hcn : cn.length = news.length) (hcel : ∀ (j : Nat) c u, cn[j]? = some c → news[j]? = some u → celNew c u) (hb : len + m ≤ 2199023255552) :
    Stp P nt ⟨some t, .call { callee := .builtin .append, args := #[x, y], argTypes := #[T, T] }, ty, ps, af, gd⟩ S ((S.new n ⟨true, E, k, .mix (cs ++ cn)⟩).put t (o1 (.sl n 0 (len + m)))) :=
  Stp.of _ fun w0 ω0 η ω a w hs => by
    have hk0' : 0 < k := by simpa using hk0
    obtain ⟨hd, e1, e2, e3⟩ := hs.chunk hc
    have e3 : VecO ω w (n, none) hd E cs.length (cellsOK η ω w true n (.mix cs)) := e3
    have hu : Den1 η (.sl n 0 len) (a.eval x) := hs.opv hx
    obtain ⟨ad, cp, r1, r2⟩ := hr.go hs (hs.opv hy)
    have hnl := hr.len
    have hn0 : 0 < news.length := by rw [hnl]; exact Nat.mul_pos hm hk0'
    obtain ⟨bb, o, r3, _⟩ := r2 0 _ (List.getElem?_eq_getElem hn0)
    subst r3
    obtain ⟨h', w', k1, k2⟩ := run_appendO (P := P) (ty := ty) (c := cp) hT hk0' e2 e3 (hu.2 hd e1) rfl (by rw [Nat.zero_add]; exact hl.symm) hm hnl (a := ⟨bb, o, none⟩) (fun j v hj => by
      obtain ⟨b2, o2, h2, h3⟩ := r2 j v hj
      simp only [Option.some.injEq, Addr.mk.injEq, and_true] at h2
      obtain ⟨rfl, rfl⟩ := h2
      rw [Addr.add_lit]; exact h3) h1 hb
    refine ⟨.slice h'.ao (len + m) h'.c, w', by simp [execOp, resolve, invoke, builtin, r1, k1], ?_⟩
    have hlen : (cs ++ cn).length = len * k + news.length := by rw [List.length_append, hl, hcn]
    let r' : Nat → Hd := fun j => if j < cs.length then η.r n j else ⟨none, 0, celK (cn.getD (j - cs.length) .any)⟩
    have hS : (S.rm n).ch n = none := by simp [ch_rm]
    have := hs.renew (n := n) (c := ⟨true, E, k, .mix (cs ++ cn)⟩) (hd := h') (r := r') (calm_grown hS k2) ⟨k2.k_, by
      obtain ⟨b', o', cs', v1, v2, v3, v4, v5, v6, v7, v8⟩ := k2.vec
      refine .inr ⟨b', o', cs', v1, v2, v3, by rw [k2.k_]; exact v4, by rw [k2.k_]; show (cs ++ cn).length ≤ _; rw [hlen]; exact v5, v6, fun j hj => ?_⟩
      have hj : j < (cs ++ cn).length := hj
      rw [hlen] at hj
      by_cases hlt : j < len * k
      · obtain ⟨u, q1, q2⟩ := v7 j hlt
        rw [Nat.zero_mul, Nat.zero_add] at q2
        refine ⟨u, q1, q2.1, fun c hc => ?_⟩
        rw [List.getElem?_append_left (by omega)] at hc
        have hv : ∀ (F : TypeId) (vs : List Value), VecO ω w (n, some j) (η.r n j) F vs.length (fun i u => vs[i]? = some u) → VecO (Own?.new ω w.heap.size (n, none)) w' (n, some j) (η.r n j) F vs.length (fun i u => vs[i]? = some u) := fun F vs f3 =>
          VecO.same (fun b hb ho => ⟨k2.other b hb (by rw [ho]; simp), by simp [Own?.new, Nat.ne_of_lt hb, ho]⟩) (fun _ _ h => h) f3
        exact celOK.move (own := true) (own' := true) (by simp [Env.new, r', hl, hlt]) (fun F k m vs _ f3 => hv F vs f3) (q2.2 c hc)
      · have hj2 : j - len * k < news.length := by omega
        have hnj : news[j - len * k]? = some news[j - len * k] := List.getElem?_eq_getElem hj2
        refine ⟨news[j - len * k], ?_, h1 _ (List.getElem_mem hj2), fun c hc => ?_⟩
        · have := v8 (j - len * k) _ hnj
          rw [show o' + len * k + (j - len * k) = o' + j by omega] at this; exact this
        · rw [List.getElem?_append_right (by omega), hl] at hc
          refine celNew.ok (own := true) ?_ (hcel _ _ _ hc hnj)
          simp only [Env.new, if_true, r', hl, if_neg hlt, List.getD, hc, Option.getD_some]⟩
    exact ⟨_, _, this.putV (by simpa using ht) den_new⟩

/-- a row is taken out of a mixed vector: it is a vector of its own, and nothing is known of its cell -/
theorem wk_takeMx {n i z k kk m : Nat} {E F s : Nat} {cs : List Cel} {vs : List Value} (hc : S.ch n = some ⟨true, E, kk, .mix cs⟩) (hs0 : S.sl s = some (o1 (.esl n i 0 m))) (hi : cs[i]? = some (.r F k m vs)) (hzn : Nat.beq z n = false) :
    Wk S ((((S.cutE n).set n ⟨true, E, kk, .mix (cs.set i .any)⟩).new z ⟨true, F, k, .vals vs⟩).put s (o1 (.sl z 0 m))) := by
  have hne : z ≠ n := fun e => by rw [e] at hzn; simp at hzn
  refine ⟨fun w0 ω0 nt a w ⟨η, ω, h⟩ => ?_⟩
  obtain ⟨u, hu, hdu⟩ := h.slots s _ hs0
  have hdu : Den1 η (.esl n i 0 m) u := hdu
  obtain ⟨hd, e1, e2, e3⟩ := h.chunk hc
  have e3 : VecO ω w (n, none) hd E cs.length (cellsOK η ω w true n (.mix cs)) := e3
  obtain ⟨ao, rfl, q1, _⟩ := hdu.2 hd e1
  have hil : i < cs.length := (List.getElem?_eq_some_iff.1 hi).1
  obtain ⟨b0, o0, u0, _, _, g3⟩ := Vec.get (own := true) e3 hil
  obtain ⟨r0, r1, r2, r3⟩ := g3.2 _ hi
  have r3 : VecO ω w (n, some i) (η.r n i) F vs.length fun j u => vs[j]? = some u := r3
  let ω' : Own? := fun b => if ω b = some (n, some i) then some (z, none) else ω b
  have calm : Calm (S.rm n) ω w ω' w := ⟨rfl, rfl, rfl, Nat.le_refl _, fun b _ hl => ⟨rfl, by
    have h1 : ω b ≠ some (n, some i) := by
      rcases hl with h0 | ⟨y, j, c, h0, h1⟩
      · rw [h0]; simp
      · rw [h0]; intro e; simp at e; rw [e.1, ch_rm, if_pos rfl] at h1; cases h1
    exact if_neg h1⟩⟩
  have key : ChIs { η with r := fun y j => if y = n then η.r n j else η.r y j } ω' w n hd ⟨true, E, kk, .mix (cs.set i .any)⟩ := by
    refine ⟨e2, ?_⟩
    rcases e3 with h0 | ⟨b, o, xs0, f1, f2, f3, f4, f5, f6, f7⟩
    · exact .inl (by simpa [Dat.len] using h0)
    · refine .inr ⟨b, o, xs0, f1, (if_neg (by rw [f2]; simp)).trans f2, f3, f4, by simpa [Dat.len] using f5, f6, fun j hj => ?_⟩
      have hj : j < cs.length := by simpa [Dat.len] using hj
      obtain ⟨u', hu', hk⟩ := f7 j hj
      refine ⟨u', hu', hk.1, fun c hc' => ?_⟩
      by_cases e : j = i
      · subst e; rw [List.getElem?_set_self hil] at hc'; obtain rfl := Option.some.inj hc'; trivial
      · rw [List.getElem?_set_ne (fun e' => e e'.symm)] at hc'
        have hv : ∀ (F : TypeId) (vs : List Value), VecO ω w (n, some j) (η.r n j) F vs.length (fun i u => vs[i]? = some u) → VecO ω' w (n, some j) (η.r n j) F vs.length (fun i u => vs[i]? = some u) := fun F vs f3 =>
          VecO.same (fun b2 _ ho => ⟨rfl, by show (if ω b2 = some (n, some i) then some (z, none) else ω b2) = _; rw [if_neg (by rw [ho]; simpa using e)]; exact ho⟩) (fun _ _ h => h) f3
        exact celOK.move (own := true) (own' := true) (if_pos rfl) (fun F k m vs _ f3 => hv F vs f3) (hk.2 c hc')
  have h1 := h.rewrite (n := n) (r := η.r n) e1 calm key
  have h2 := h1.lay (x := z) (c := ⟨true, F, k, .vals vs⟩) (hd := η.r n i) (r := fun _ => ⟨none, 0, 1⟩) (Calm.refl _ _ _) ⟨r2, by
    show VecO ω' w (z, none) (η.r n i) F vs.length _
    rcases r3 with h0 | ⟨b, o, xs0, f1, f2, f3, f4, f5, f6, f7⟩
    · exact .inl h0
    · exact .inr ⟨b, o, xs0, f1, if_pos f2, f3, f4, f5, f6, f7⟩⟩
  refine ⟨_, ω', { h2 with slots := fun t' av ht' => ?_ }⟩
  rw [sl_put] at ht'
  by_cases e : t' = s
  · subst e
    rw [if_pos rfl] at ht'
    obtain rfl := Option.some.inj ht'
    refine ⟨_, hu, ⟨_, _, rfl⟩, fun hd' he => ?_⟩
    simp [Env.new] at he
    subst he
    exact ⟨_, rfl, fun _ => q1 rfl, fun h0 => absurd h0 (by omega)⟩
  · rw [if_neg e] at ht'
    exact h2.slots t' av ht'

/-- a vector of the call's own is laid into cell i of a mixed vector -/
theorem stp_storeMx {T E F n i z k kk m : Nat} {cs : List Cel} {vs : List Value} (hx : S.op x = some (o1 (.ptr n i))) (hc : S.ch n = some ⟨true, E, kk, .mix cs⟩) (hy : S.op y = some (o1 (.sl z 0 m))) (hz : S.ch z = some ⟨true, F, k, .vals vs⟩)
    (hm : vs.length = m * k) (hzn : Nat.beq z n = false) (hi : i < cs.length) (hT : sizeB P T 1 = true) : Stp P nt ⟨none, .store T x y, ty, ps, af, gd⟩ S (((S.rm z).cutE n).set n ⟨true, E, kk, .mix (cs.set i (.r F k m vs))⟩) :=
  Stp.unit rfl fun w0 ω0 η ω a w hs => by
    have hne : z ≠ n := fun e => by rw [e] at hzn; simp at hzn
    have hp : Den1 η (.ptr n i) (a.eval x) := hs.opv hx
    have hv : Den1 η (.sl z 0 m) (a.eval y) := hs.opv hy
    obtain ⟨h, e1, e2, e3⟩ := hs.chunk hc
    obtain ⟨hz', z1, z2, z3⟩ := hs.chunk hz
    have z2 : hz'.k = k := z2
    have z3 : VecO ω w (z, none) hz' F vs.length (cellsOK η ω w true z (.vals vs)) := z3
    obtain ⟨az, hav, q1, _⟩ := hv.2 hz' z1
    obtain ⟨b, o, g1, g2⟩ := hp.2 h e1
    have e3 : VecO ω w (n, none) h E cs.length (cellsOK η ω w true n (.mix cs)) := e3
    rcases e3 with ⟨_, _, h0⟩ | ⟨b', o', xs0, f1, f2, f3, f4, f5, f6, f7⟩
    · omega
    rw [g1] at f1; injection f1 with f1; injection f1 with f1 f1'; subst f1 f1'
    obtain ⟨u, hu, _⟩ := f7 i hi
    have hcell : w.cell? ⟨b, o + i, none⟩ = some u := by rw [cell_of_row w b (o + i) xs0 E (0, 0) f3]; exact hu
    have hsz : o + i < xs0.size := by
      rcases Nat.lt_or_ge (o + i) xs0.size with hlt | hge
      · exact hlt
      · rw [Array.getElem?_eq_none hge] at hu; cases hu
    have hS : ((S.rm z).rm n).ch n = none := by simp [ch_rm]
    have hSz : ((S.rm z).rm n).ch z = none := by simp [ch_rm, hne]
    have hsame := same_setCell (w := w) f2 ⟨b, o + i, none⟩ rfl (.slice az m (hz'.c - 0))
    have calm : Calm ((S.rm z).rm n) ω w (Own?.give ω z n i) (w.setCell ⟨b, o + i, none⟩ (.slice az m (hz'.c - 0))) := ⟨rfl, rfl, rfl, hsame.1, fun b2 hb2 hl => by
      have h1 : ω b2 ≠ some (n, none) ∧ ω b2 ≠ some (z, none) := by
        rcases hl with h0 | ⟨y, j, c, h0, h1⟩
        · rw [h0]; simp
        · rw [h0]
          refine ⟨fun e => ?_, fun e => ?_⟩
          · simp at e; rw [e.1, hS] at h1; cases h1
          · simp at e; rw [e.1, hSz] at h1; cases h1
      exact ⟨(hsame.2 b2 hb2 h1.1).1, if_neg h1.2⟩⟩
    have key : ChIs { η.drop z with r := fun y j => if y = n then (if j = i then hz' else η.r n j) else η.r y j } (Own?.give ω z n i) (w.setCell ⟨b, o + i, none⟩ (.slice az m (hz'.c - 0))) n h ⟨true, E, kk, .mix (cs.set i (.r F k m vs))⟩ := by
      refine ⟨e2, ?_⟩
      have hbz : ω b ≠ some (z, none) := by rw [f2]; simp; exact fun e => hne e.symm
      refine .inr ⟨b, o, _, g1, (if_neg hbz).trans f2, heap_set f3 _, by simpa using f4, by show (cs.set i _).length ≤ _; rw [List.length_set]; exact f5, f6, fun j hj => ?_⟩
      have hj : j < cs.length := by simpa [Dat.len] using hj
      by_cases e : j = i
      · subst e
        refine ⟨.slice az m (hz'.c - 0), by simp [hsz], rfl, fun c hc' => ?_⟩
        rw [List.getElem?_set_self hi] at hc'
        obtain rfl := Option.some.inj hc'
        unfold celOK
        simp only [if_true]
        refine ⟨hm, by rw [q1 rfl]; rfl, z2, VecO.give z3 fun b2 hb2 ho => ⟨(hsame.2 b2 hb2 (by rw [ho]; simp; exact fun e => absurd e hne)).1, if_pos ho⟩⟩
      · obtain ⟨u', hu', hk⟩ := f7 j hj
        refine ⟨u', by rw [Array.getElem?_setIfInBounds_ne (by omega)]; exact hu', hk.1, fun c hc' => ?_⟩
        rw [List.getElem?_set_ne (fun e' => e e'.symm)] at hc'
        have hv : ∀ (F : TypeId) (vs : List Value), VecO ω w (n, some j) (η.r n j) F vs.length (fun i u => vs[i]? = some u) → VecO (Own?.give ω z n i) (w.setCell ⟨b, o + i, none⟩ (.slice az m (hz'.c - 0))) (n, some j) (η.r n j) F vs.length (fun i u => vs[i]? = some u) := fun F vs r3 =>
          VecO.same (fun b2 hb2 ho => ⟨(hsame.2 b2 hb2 (by rw [ho]; simp)).1, by unfold Own?.give; rw [if_neg (by rw [ho]; simp)]; exact ho⟩) (fun _ _ h => h) r3
        exact celOK.move (own := true) (own' := true) (by simp only [if_true, if_neg e]) (fun F k m vs _ f3 => hv F vs f3) (hk.2 c hc')
    have hfin := (hs.drop z).rewrite (n := n) (r := fun j => if j = i then hz' else η.r n j) (hd := h) (by show (if n = z then none else η.h n) = some h; rw [if_neg (fun e => hne e.symm)]; exact e1) calm key
    have hst := run_store1 (P := P) hT hcell (frozen_of f3) (v := .slice az m (hz'.c - 0)) rfl
    simp only [Nat.sub_zero] at hst hfin
    refine ⟨_, by simp [execOp, hav, g2, hst], _, _, hfin⟩

/-- a row of a mixed vector, xs0 a slice that is read -/
theorem reads_rowM {n : Nm} {i k m : Nat} {c : Ch} {cs : List Cel} {F : TypeId} {vs : List Value} (hc : S.ch n = some c) (hd : c.d = .mix cs) (hi : cs[i]? = some (.r F k m vs)) (hl : vs.length = m * k) : Reads S (.esl n i 0 m) m k vs :=
  ⟨hl, fun {w0 ω0 nt η ω a w u} hs hu => by
    obtain ⟨hd', e1, e2, e3⟩ := hs.chunk hc
    obtain ⟨ao, rfl, f1, f2⟩ := hu.2 hd' e1
    rw [hd] at e3
    obtain ⟨_, _, _, _, _, k3⟩ := e3.get (j := i) (List.getElem?_eq_some_iff.1 hi).1
    obtain ⟨_, _, q2, q3⟩ := k3.2 _ hi
    refine ⟨ao, _, rfl, fun j v hj => ?_⟩
    obtain ⟨b', o', v', g1, g2, g3⟩ := q3.get (j := j) (List.getElem?_eq_some_iff.1 hj).1
    rw [hj] at g3; obtain rfl := Option.some.inj g3
    exact ⟨b', o', by rw [f1 rfl, g1], g2⟩⟩
/-- an index into a row of a mixed vector -/
theorem stp_ixM {T : TypeId} {n : Nm} {i0 len j k m : Nat} {c : Ch} {F : TypeId} {cs : List Cel} {vs : List Value} {ki : IntKind} {i : Int} (ht : Nat.blt t nt = true) (hx : S.op x = some (o1 (.esl n i0 0 len))) (hy : S.op y = some (vv (.int ki i))) (hc : S.ch n = some c) (hd : c.d = .mix cs) (hT : elemB P T k = true)
    (hi0 : cs[i0]? = some (.r F k m vs)) (hk0 : 0 < k) (hi : i = (j : Int)) (hj : j < len) (hl : len ≤ m) : Stp P nt ⟨some t, .indexAddr T x y, ty, ps, af, gd⟩ S (S.put t (o1 (.eptr n i0 (j * k)))) :=
  Stp.pure rfl ht fun _ _ η ω a w hs => by
    obtain ⟨hd', h1, h2, h3⟩ := hs.chunk hc
    have hd1 : Den1 η (.esl n i0 0 len) (a.eval x) := hs.opv hx
    obtain ⟨ao, e1, e2, e3⟩ := hd1.2 hd' h1
    rw [hd] at h3
    obtain ⟨_, _, _, _, _, k3⟩ := h3.get (j := i0) (List.getElem?_eq_some_iff.1 hi0).1
    obtain ⟨q0, _, q2, q3⟩ := k3.2 _ hi0
    have hm0 : 0 < vs.length := by rw [q0]; exact Nat.mul_pos (by omega) hk0
    obtain ⟨b', o', u, f1, f2, f3⟩ := q3.get hm0
    have hao : ao = some ⟨b', o', none⟩ := by rw [e2 rfl, f1]
    subst hao
    refine ⟨.pointer (some ⟨b', o' + j * k, none⟩), by simp only [execOp, e1, hs.opV hy]; simp [run_indexAddr hT hj hi], ⟨_, rfl⟩, fun hd' he => ?_⟩
    rw [h1] at he; obtain rfl := Option.some.inj he
    exact ⟨b', o', f1, rfl⟩
/-- cells of a row of a mixed vector -/
theorem stp_loadEM {T : TypeId} {n : Nm} {i j k m : Nat} {c : Ch} {F : TypeId} {cs : List Cel} {vs : List Value} {v : Value} (ht : Nat.blt t nt = true) (hT : oneB P T = true) (hx : S.op x = some (o1 (.eptr n i j))) (hc : S.ch n = some c)
    (hd : c.d = .mix cs) (hi : cs[i]? = some (.r F k m vs)) (hj : vs[j]? = some v) : Stp P nt ⟨some t, .load T x, ty, ps, af, gd⟩ S (S.put t (vv v)) :=
  Stp.pure rfl ht fun _ _ η ω a w hs => by
    obtain ⟨hq, h1, _, h3⟩ := hs.chunk hc
    have hd1 : Den1 η (.eptr n i j) (a.eval x) := hs.opv hx
    obtain ⟨bb, o, e1, e2⟩ := hd1.2 hq h1
    rw [hd] at h3
    obtain ⟨_, _, _, _, _, f3⟩ := h3.get (j := i) (List.getElem?_eq_some_iff.1 hi).1
    obtain ⟨_, _, _, g3⟩ := f3.2 _ hi
    obtain ⟨b'', o'', u', k1, k2, k3⟩ := g3.get (j := j) (List.getElem?_eq_some_iff.1 hj).1
    rw [e1] at k1; injection k1 with k1; injection k1 with k1 k1'; subst k1 k1'
    rw [hj] at k3
    obtain rfl := Option.some.inj k3
    exact ⟨v, by simp [execOp, e2, run_load1 hT k2], rfl⟩
/-- an index into a vector of elements of k cells -/
theorem stp_ixT {T : TypeId} {n : Nm} {len j k K : Nat} {c : Ch} {ki : IntKind} {i : Int} (ht : Nat.blt t nt = true) (hx : S.op x = some (o1 (.sl n 0 len))) (hy : S.op y = some (vv (.int ki i))) (hc : S.ch n = some c) (hk : c.k = k) (hT : elemB P T k = true)
    (hi : i = (j : Int)) (hj : j < len) (hl : len * k ≤ c.d.len) (hk0 : 0 < k) (hK : j * k = K) : Stp P nt ⟨some t, .indexAddr T x y, ty, ps, af, gd⟩ S (S.put t (o1 (.ptr n K))) := by
  have := stp_indexAddr (P := P) (nt := nt) (t := t) (ty := ty) (ps := ps) (af := af) (gd := gd) ht hx hy hc hk hT hi hj (by rw [Nat.zero_add]; exact hl) hk0
  rwa [Nat.zero_add, hK] at this
/-- a struct of which one plain field is told -/
theorem stp_build1V {T : TypeId} {x0 : Operand} {v0 : Value} {vs : List Value} (ht : Nat.blt t nt = true) (hx0 : S.op x0 = some (vv v0)) (hb : P.built T [(0, v0)] = some vs.toArray) :
    Stp P nt ⟨some t, .build T #[(0, x0)], ty, ps, af, gd⟩ S (S.put t (.s (.agg (vs.map .val)))) :=
  Stp.of _ fun w0 ω0 η ω a w hs => by
    refine ⟨.agg vs.toArray, w, ?_, η, ω, hs.putV (by simpa using ht) (⟨_, rfl, by simp, fun j b hb => ?_⟩ : Den2 η (.agg (vs.map .val)) _)⟩
    · simp only [execOp]
      simp [hs.opV hx0, run_build w T #[(0, v0)] _ hb]
    · rw [List.getElem?_map, Option.map_eq_some_iff] at hb
      obtain ⟨v, hv, rfl⟩ := hb
      exact ⟨v, by simpa using hv, rfl⟩
/-- a literal of one struct of two plain cells -/
theorem stp_lit2V {T E : Nat} {x0 : Operand} {v0 v1 : Value} (ht : Nat.blt t nt = true) (hT : elZ P T E 2 = true) (hx : S.op x0 = some (.s (.agg [.val v0, .val v1]))) :
    Stp P nt ⟨some t, .buildSlice T 1 #[(0, x0)], ty, ps, af, gd⟩ S ((S.new t ⟨true, E, 2, .vals [v0, v1]⟩).put t (o1 (.sl t 0 1))) :=
  Stp.of _ fun w0 ω0 η ω a w hs => by
    obtain ⟨i, z, k1, k2, k3, k4, k5, k6⟩ := elZ_spec hT
    obtain ⟨us, hu, hul, hua⟩ : Den2 η (.agg [.val v0, .val v1]) (a.eval x0) := hs.opv hx
    obtain ⟨u0, g0, d0⟩ := hua 0 _ rfl
    obtain ⟨u1, g1, d1⟩ := hua 1 _ rfl
    have d0 : u0 = v0 := d0
    have d1 : u1 = v1 := d1
    subst d0 d1
    obtain rfl : us = #[u0, u1] := by
      have : us.size = 2 := hul
      match us with
      | ⟨[p, q]⟩ => simp at g0 g1; rw [g0, g1]
    refine ⟨.slice (some ⟨w.heap.size, 0, none⟩) 1 1, w.alloc (.cells #[u0, u1] E), ?_, ?_⟩
    · have hc : (Value.agg #[u0, u1]).cells = #[u0, u1] := rfl
      simp [execOp, Instr.buildSlice, run_underlying k1, sizeOf, typeInfo, k2, k3, zeroValue, k5, Instr.fill, newRow, hu, hc, range2]
    · have hal := hs.alloc (x := t) (c := ⟨true, E, 2, .vals [u0, u1]⟩) (cs := #[u0, u1]) (r := fun _ => ⟨none, 0, 1⟩) (n := 1) rfl (by simp) (by simp [Dat.len]) (by simp [maxLen]) fun j hj => by
        have hj : j < 2 := hj
        match j, hj with
        | 0, _ => exact ⟨_, by simp, rfl⟩
        | 1, _ => exact ⟨_, by simp, rfl⟩
      exact ⟨_, _, hal.putV (by simpa using ht) den_newsl⟩
theorem range3 (f : Nat → Value) : Array.map f (Array.range 3) = #[f 0, f 1, f 2] := by apply Array.ext'; simp [Array.toList_range, List.range_succ]
theorem range4 (f : Nat → Value) : Array.map f (Array.range 4) = #[f 0, f 1, f 2, f 3] := by apply Array.ext'; simp [Array.toList_range, List.range_succ]
theorem stp_lit3I {T E : Nat} {x0 x1 x2 : Operand} {z0 z1 z2 : Int} (ht : Nat.blt t nt = true) (hT : elZ P T E 1 = true) (hx0 : S.op x0 = some (vv (I6 z0))) (hx1 : S.op x1 = some (vv (I6 z1))) (hx2 : S.op x2 = some (vv (I6 z2))) :
    Stp P nt ⟨some t, .buildSlice T 3 #[(0, x0), (1, x1), (2, x2)], ty, ps, af, gd⟩ S ((S.new t ⟨true, E, 1, .vals (ivals [z0, z1, z2])⟩).put t (o1 (.sl t 0 3))) :=
  Stp.of _ fun w0 ω0 η ω a w hs => by
    obtain ⟨i, z, k1, k2, k3, k4, k5, k6⟩ := elZ_spec hT
    have h0 := hs.opV hx0
    have h1 := hs.opV hx1
    have h2 := hs.opV hx2
    refine ⟨.slice (some ⟨w.heap.size, 0, none⟩) 3 3, w.alloc (.cells #[I6 z0, I6 z1, I6 z2] E), ?_, ?_⟩
    · simp [execOp, Instr.buildSlice, run_underlying k1, sizeOf, typeInfo, k2, k3, zeroValue, k5, Instr.fill, newRow, h0, h1, h2, Value.cells, range3]
    · have hal := hs.alloc (x := t) (c := ⟨true, E, 1, .vals (ivals [z0, z1, z2])⟩) (cs := #[I6 z0, I6 z1, I6 z2]) (r := fun _ => ⟨none, 0, 1⟩) (n := 3) rfl (by simp) (by simp [Dat.len, ivals]) (by simp [maxLen]) fun j hj => by
        match j, hj with
        | 0, _ => exact ⟨I6 z0, by simp, rfl⟩
        | 1, _ => exact ⟨I6 z1, by simp, rfl⟩
        | 2, _ => exact ⟨I6 z2, by simp, rfl⟩
        | j + 3, hj => exact absurd hj (by simp [Dat.len, ivals])
      exact ⟨_, _, hal.putV (by simpa using ht) den_newsl⟩
theorem stp_lit4I {T E : Nat} {x0 x1 x2 x3 : Operand} {z0 z1 z2 z3 : Int} (ht : Nat.blt t nt = true) (hT : elZ P T E 1 = true) (hx0 : S.op x0 = some (vv (I6 z0))) (hx1 : S.op x1 = some (vv (I6 z1))) (hx2 : S.op x2 = some (vv (I6 z2))) (hx3 : S.op x3 = some (vv (I6 z3))) :
    Stp P nt ⟨some t, .buildSlice T 4 #[(0, x0), (1, x1), (2, x2), (3, x3)], ty, ps, af, gd⟩ S ((S.new t ⟨true, E, 1, .vals (ivals [z0, z1, z2, z3])⟩).put t (o1 (.sl t 0 4))) :=
  Stp.of _ fun w0 ω0 η ω a w hs => by
    obtain ⟨i, z, k1, k2, k3, k4, k5, k6⟩ := elZ_spec hT
    have h0 := hs.opV hx0
    have h1 := hs.opV hx1
    have h2 := hs.opV hx2
    have h3 := hs.opV hx3
    refine ⟨.slice (some ⟨w.heap.size, 0, none⟩) 4 4, w.alloc (.cells #[I6 z0, I6 z1, I6 z2, I6 z3] E), ?_, ?_⟩
    · simp [execOp, Instr.buildSlice, run_underlying k1, sizeOf, typeInfo, k2, k3, zeroValue, k5, Instr.fill, newRow, h0, h1, h2, h3, Value.cells, range4]
    · have hal := hs.alloc (x := t) (c := ⟨true, E, 1, .vals (ivals [z0, z1, z2, z3])⟩) (cs := #[I6 z0, I6 z1, I6 z2, I6 z3]) (r := fun _ => ⟨none, 0, 1⟩) (n := 4) rfl (by simp) (by simp [Dat.len, ivals]) (by simp [maxLen]) fun j hj => by
        match j, hj with
        | 0, _ => exact ⟨I6 z0, by simp, rfl⟩
        | 1, _ => exact ⟨I6 z1, by simp, rfl⟩
        | 2, _ => exact ⟨I6 z2, by simp, rfl⟩
        | 3, _ => exact ⟨I6 z3, by simp, rfl⟩
        | j + 4, hj => exact absurd hj (by simp [Dat.len, ivals])
      exact ⟨_, _, hal.putV (by simpa using ht) den_newsl⟩
end
end Go.Proofs.Ytnfkhgamnapgmaa

/- Walks in names: shifts, bits, conversions between integers, three results. -/
namespace Go.Proofs.Ytnfkhgamnapgmaa
open Go.RowKit

theorem bits_and_i64 (a b : Nat) (ha : a < 1000000) (hb : b < 1000000) : bits .and .i64 (a : Int) (b : Int) = ((a &&& b : Nat) : Int) := by
  have hx : a &&& b < 2 ^ 20 := Nat.and_lt_two_pow _ (by omega)
  have h1 : (BitVec.ofInt 64 (a : Int)).toNat = a := by
    rw [BitVec.ofInt_natCast, BitVec.toNat_ofNat]; exact Nat.mod_eq_of_lt (by omega)
  have h2 : (BitVec.ofInt 64 (b : Int)).toNat = b := by
    rw [BitVec.ofInt_natCast, BitVec.toNat_ofNat]; exact Nat.mod_eq_of_lt (by omega)
  show IntKind.i64.wrap ((BitVec.ofInt 64 (a : Int) &&& BitVec.ofInt 64 (b : Int)).toNat : Int) = _
  rw [BitVec.toNat_and, h1, h2, IntKind.wrap_i64]
  omega
section
variable {P : Program} {nt : Nat} {S : St} {t : Nat} {ty : TypeId} {ps : String} {af : Array Edge} {gd : Option (Nat × Bool)} {x y : Operand}
theorem stp_andN {xt yt : TypeId} {a b : Nat} (ht : Nat.blt t nt = true) (hx : S.op x = some (vv (I6 (a : Int)))) (hy : S.op y = some (vv (I6 (b : Int)))) (ha : a < 1000000) (hb : b < 1000000) :
    Stp P nt ⟨some t, .binOp .and xt x y yt, ty, ps, af, gd⟩ S (S.put t (vv (I6 ((a &&& b : Nat) : Int)))) :=
  Stp.pure rfl ht fun _ _ η _ s w hs => by
    refine ⟨I6 ((a &&& b : Nat) : Int), ?_, rfl⟩
    have hb' := bits_and_i64 a b ha hb
    have e : Op.intBits .and .i64 (a : Int) (b : Int) = pure (I6 ((a &&& b : Nat) : Int)) := by rw [← hb']; rfl
    simp [execOp, hs.opV hx, hs.opV hy, eqGuard, binOp, e]
theorem stp_shrN {xt yt : TypeId} {kk : IntKind} {a g : Nat} (ht : Nat.blt t nt = true) (hx : S.op x = some (vv (I6 (a : Int)))) (hy : S.op y = some (vv (.int kk (g : Int)))) (hg : g ≤ 64) :
    Stp P nt ⟨some t, .binOp .shr xt x y yt, ty, ps, af, gd⟩ S (S.put t (vv (I6 ((a / 2 ^ g : Nat) : Int)))) :=
  Stp.pure rfl ht fun _ _ η _ s w hs => by
    refine ⟨I6 ((a / 2 ^ g : Nat) : Int), ?_, rfl⟩
    have e : Op.shift .shr .i64 (a : Int) kk (g : Int) = pure (I6 ((a / 2 ^ g : Nat) : Int)) := by
      rw [shift_shr_i64 (x := (a : Int)) (y := (g : Int)) (yk := kk) (Int.natCast_nonneg g) (by omega), Int.toNat_natCast]
      simp
    simp [execOp, hs.opV hx, hs.opV hy, eqGuard, binOp, e]
theorem stp_shl1 {xt yt : TypeId} {kk : IntKind} {g : Nat} (ht : Nat.blt t nt = true) (hx : S.op x = some (vv (I6 1))) (hy : S.op y = some (vv (.int kk (g : Int)))) (hg : g ≤ 5) :
    Stp P nt ⟨some t, .binOp .shl xt x y yt, ty, ps, af, gd⟩ S (S.put t (vv (I6 ((2 ^ g : Nat) : Int)))) :=
  Stp.pure rfl ht fun _ _ η _ s w hs => by
    refine ⟨I6 ((2 ^ g : Nat) : Int), ?_, rfl⟩
    have e : ∀ g : Nat, g ≤ 5 → Op.shift .shl .i64 1 kk (g : Int) = pure (I6 ((2 ^ g : Nat) : Int)) := fun g hg => by
      rw [shift_shl_i64 (x := 1) (y := (g : Int)) (yk := kk) (Int.natCast_nonneg g) (by omega), Int.toNat_natCast]
      match g, hg with
      | 0, _ => rfl
      | 1, _ => rfl
      | 2, _ => rfl
      | 3, _ => rfl
      | 4, _ => rfl
      | 5, _ => rfl
    have e := e g hg
    have hw : IntKind.i64.wrap (2 ^ g) = 2 ^ g := by
      match g, hg with
      | 0, _ => rfl
      | 1, _ => rfl
      | 2, _ => rfl
      | 3, _ => rfl
      | 4, _ => rfl
      | 5, _ => rfl
    simp [execOp, hs.opV hx, hs.opV hy, eqGuard, binOp, e, hw]
theorem stp_convN {src dst : TypeId} {kk k2 : IntKind} {m : Int} (ht : Nat.blt t nt = true) (hx : S.op x = some (vv (.int kk m))) (hs1 : (P.underlying src).isSome = true) (hd : P.underlying dst = some (.int k2)) (hw : k2.wrap m = m) :
    Stp P nt ⟨some t, .convert src dst x, ty, ps, af, gd⟩ S (S.put t (vv (.int k2 m))) :=
  Stp.pure rfl ht fun _ _ η _ s w hs => by
    refine ⟨.int k2 m, ?_, rfl⟩
    obtain ⟨d, hd'⟩ := Option.isSome_iff_exists.mp hs1
    simp [execOp, hs.opV hx, convert, run_underlying hd', run_underlying hd, Conv.intToInt, hw]
end
section
variable {P : Program} {w0 : World} {ω0 : Beg} {nt : Nat} {S : St}
theorem run_results3 {w : World} {fn : Func} {tmps : Array Value} {r r' r'' : ResultVar} {v v' v'' : Value} (h : fn.results = #[r, r', r'']) (h1 : (resSem tmps r).run P w = .ok v w) (h2 : (resSem tmps r').run P w = .ok v' w) (h3 : (resSem tmps r'').run P w = .ok v'' w) : (results fn tmps).run P w = .ok (.tuple #[v, v', v'']) w := by
  rw [results_eq, h]; simp [h1, h2, h3]
theorem fin_ret3 {fn : Func} {e : Exit} {r r' r'' : ResultVar} {b b' b'' : A2} {outs : List (Nm × Ch)} {back : List (Nat × AV)} (he : e = .ret ∨ e = .normal) (hf : fn.results = #[r, r', r'']) (hr : ResB P S r b) (hr' : ResB P S r' b') (hr'' : ResB P S r'' b'') (hc : allCh S outs) (hb : allPh S back) :
    Fin w0 ω0 nt S e (bodyPost P fn (Left w0 ω0.own ω0.ph outs (.tup [b, b', b'']) back)) := by
  refine ⟨fun a w ⟨η, ω, hs⟩ => ?_⟩
  obtain ⟨u, h1, h2⟩ := hs.res hr
  obtain ⟨u', h1', h2'⟩ := hs.res hr'
  obtain ⟨u'', h1'', h2''⟩ := hs.res hr''
  have hd : Den η (.tup [b, b', b'']) (.tuple #[u, u', u'']) := ⟨_, rfl, rfl, fun j c hj => by
    match j, hj with
    | 0, hj => simp at hj; subst hj; exact ⟨u, by simp, h2⟩
    | 1, hj => simp at hj; subst hj; exact ⟨u', by simp, h2'⟩
    | 2, hj => simp at hj; subst hj; exact ⟨u'', by simp, h2''⟩⟩
  have : a.defers = [] ∧ ∃ v, (results fn a.tmps).run P w = .ok v w ∧ Left w0 ω0.own ω0.ph outs (.tup [b, b', b'']) back (.returned v) w := ⟨hs.dfr, _, run_results3 hf h1 h1' h1'', hs.left hc hb hd⟩
  rcases he with rfl | rfl <;> exact this
end
end Go.Proofs.Ytnfkhgamnapgmaa

/- A memory of names: a region that draws its order and holds guards, walked once. No program in sight. -/
namespace Go.Proofs.Ytnfkhgamnapgmaa
open Go.RowKit

section
variable {P : Program} {nt : Nat} {w0 w : World} {ω0 : Beg} {S S1 : St} {Q : Exit → Act → World → Prop} {a : Act}
/-- an operation, run or passed over, as its guard says -/
inductive GSt (P : Program) (nt : Nat) (ops : Array Oper) (o : Oper) (S1 : St) (A : Add) : Prop where
  | run (hg : o.guard = none) (h : Stp P nt o S1 (S1.add A))
  | yes {j d : Nat} {want : Bool} (hg : o.guard = some (j, want)) (hj : (ops[j]?).bind (·.dst) = some d) (hb : S1.sl d = some (vv (.bool want))) (h : Stp P nt o S1 (S1.add A))
  | no {j d : Nat} {want : Bool} (hg : o.guard = some (j, want)) (hj : (ops[j]?).bind (·.dst) = some d) (hb : S1.sl d = some (vv (.bool (!want)))) (ht : o.dst = some A.t) (hn : Nat.blt A.t nt = true) (ha : A.av = vv undef) (hx : A.news = none)
/-- the operations, one behind the other in the text's order: each may look at what it depends on alone -/
inductive DrawG (P : Program) (nt : Nat) (ops0 : Array Oper) (S : St) (cls : List (List Nat)) (sk : List Nat) : List Oper → List Add → List Add → Prop where
  | nil {done : List Add} : DrawG P nt ops0 S cls sk [] done done
  | skip {o : Oper} {rest : List Oper} {done all : List Add} (A : Add) (hs : memN sk done.length = true) (k : DrawG P nt ops0 S cls sk rest (A :: done) all) : DrawG P nt ops0 S cls sk (o :: rest) done all
  | cons {o : Oper} {rest : List Oper} {done all : List Add} (A : Add)
      (h : ∀ S1, (S.partR (memN (cls.getD done.length [])) done).le S1 → GSt P nt ops0 o S1 A) (k : DrawG P nt ops0 S cls sk rest (A :: done) all) : DrawG P nt ops0 S cls sk (o :: rest) done all
theorem DrawG.spec {ops0 : Array Oper} {cls : List (List Nat)} {sk : List Nat} {ops : List Oper} {done all : List Add} (h : DrawG P nt ops0 S cls sk ops done all) : (∃ r, all.reverse = done.reverse ++ r ∧ r.length = ops.length) ∧ ∀ (i : Nat) (o : Oper), ops[i]? = some o → memN sk (done.length + i) = false →
    ∃ A, all.reverse[done.length + i]? = some A ∧ ∀ S1, (S.partR (memN (cls.getD (done.length + i) [])) (all.reverse.take (done.length + i)).reverse).le S1 → GSt P nt ops0 o S1 A := by
  induction h with
  | nil => exact ⟨⟨[], by simp⟩, fun i o h => by simp at h⟩
  | @skip o rest done all A hs k ih =>
    obtain ⟨⟨r, hr, hl⟩, h2⟩ := ih
    refine ⟨⟨A :: r, by rw [hr]; simp, by simp [hl]⟩, fun i o' hi hsk => ?_⟩
    cases i with
    | zero => rw [Nat.add_zero, hs] at hsk; cases hsk
    | succ i =>
      have e : (A :: done).length + i = done.length + (i + 1) := by simp; omega
      rw [← e] at hsk ⊢
      exact h2 i o' (by simpa using hi) hsk
  | @cons o rest done all A h k ih =>
    obtain ⟨⟨r, hr, hl⟩, h2⟩ := ih
    refine ⟨⟨A :: r, by rw [hr]; simp, by simp [hl]⟩, fun i o' hi hsk => ?_⟩
    cases i with
    | zero =>
      simp at hi; subst hi
      refine ⟨A, by rw [hr]; simp, fun S1 hS => h S1 ?_⟩
      have : (all.reverse.take (done.length + 0)).reverse = done := by rw [hr]; simp
      rw [this] at hS
      exact hS
    | succ i =>
      have e : (A :: done).length + i = done.length + (i + 1) := by simp; omega
      rw [← e] at hsk ⊢
      exact h2 i o' (by simpa using hi) hsk

theorem drawG_main {l : List Oper} {nA : Nat} {sk : List Nat} {cls : List (List Nat)} {ds nms : List Nat} {adds done : List Add} (hcl : ClsOK l.toArray nA sk cls) (hdr : DrawG P nt l.toArray (S.clear ds nms) cls sk (l.take nA) [] done) (hdn : done.reverse = adds) (ok : AddsOK adds cls ds nms)
    (hk : Rest P w0 ω0 nt l.toArray Q (l.length - missing sk #[] nA) (doneL nA sk l.length) ((S.clear ds nms).part (fun j => !memN sk j) adds)) :
    ∀ (d : Nat) (L : Array Bool) (a : Act) (w : World), missing sk L nA = d → L.size = l.length → (∀ j, L.getD j false = true → j < nA ∧ memN sk j = false) → (∀ i, L.getD i false = true → ∀ j ∈ cls.getD i [], L.getD j false = true) →
      Sat w0 ω0 nt ((S.clear ds nms).part (fun j => L.getD j false) adds) a w → wpAny P .any l.toArray Q (l.length - missing sk #[] nA + d) L a w := by
  have hsz : nA ≤ l.length := by have := hcl.size; simpa using this
  obtain ⟨⟨r, hr, hrl⟩, hob⟩ := hdr.spec
  rw [hdn] at hr hob
  have hal : adds.length = nA := by rw [hr]; simp [hrl]; omega
  have hfull : ∀ (L : Array Bool) (i : Nat), i ∈ Region.ready .any l.toArray L → (∀ i, L.getD i false = true → ∀ j ∈ cls.getD i [], L.getD j false = true) → (∃ o, l.toArray[i]? = some o ∧ L.getD i true = false) ∧ ∀ j ∈ cls.getD i [], L.getD j false = true := by
    intro L i hi hclosed
    obtain ⟨h0, o, ho, he⟩ := mem_ready.1 hi
    refine ⟨⟨o, ho, h0⟩, fun j hj => ?_⟩
    obtain ⟨e, hem, hb, hje⟩ := hcl.dep i o ho j hj
    have h1 := he e hem hb
    rcases hje with rfl | hje
    · exact h1
    · exact hclosed e.on h1 j hje
  intro d
  induction d with
  | zero =>
    intro L a w hm hs hsub hclosed hsat
    have hall := missing_zero hm
    have hL : L = doneL nA sk l.length := by
      apply Array.ext
      · simp [hs, doneL]
      · intro j h1 h2
        have h3 : L[j]? = some L[j] := Array.getElem?_eq_getElem h1
        have h4 := doneL_at (nA := nA) (sk := sk) (n := l.length) (j := j) (by omega)
        rw [Array.getElem?_eq_getElem h2] at h4
        rw [Option.some.inj h4]
        cases hb : L[j] with
        | true =>
          have := hsub j (by simp [h1, hb])
          simp [this.1, this.2]
        | false =>
          by_cases hj : j < nA
          · cases hsk : memN sk j with
            | true => simp
            | false =>
              have := hall j hj hsk
              simp [h1, hb] at this
          · simp [hj]
    refine hk.go a w ((St.le.wk (part_le (ℓ1 := fun j => !memN sk j) (ℓ2 := fun j => L.getD j false) ok (fun _ _ h => h) fun j A hj hsk => ?_) fun _ _ h => h).go _ _ _ a w hsat) |> fun h => by rw [← hL] at h; exact h
    have hjl : j < adds.length := (List.getElem?_eq_some_iff.1 hj).1
    exact hall j (by omega) (by simpa using hsk)
  | succ d ih =>
    intro L a w hm hs hsub hclosed hsat
    refine ⟨fun hnil => ?_, fun i hi => ?_⟩
    · exfalso
      obtain ⟨j, hj, hjs', hjf, hlo⟩ := missing_least (k := nA) (by omega : missing sk L nA ≠ 0)
      have hjl : j < l.length := by omega
      have hjs : j < L.size := by omega
      have : j ∈ Region.ready .any l.toArray L := by
        refine mem_ready.2 ⟨?_, l[j], by simp [hjl], fun e he hb => ?_⟩
        · simp [hjs] at hjf ⊢
          exact hjf
        · have h5 := hcl.less j l[j] (by simp [hjl]) hj hjs' e he hb
          exact hlo e.on h5.1 h5.2
      rw [hnil] at this; cases this
    · obtain ⟨⟨o, ho, hi0⟩, hdep⟩ := hfull L i hi hclosed
      have hil : i < l.length := by have := (Array.getElem?_eq_some_iff.1 ho).1; simpa using this
      have his : i < L.size := by omega
      have hif : L.getD i false = false := by simp [his] at hi0 ⊢; exact hi0
      have hnl : ¬ (nA ≤ i ∨ memN sk i = true) := fun h => by
        have := missing_full (sk := sk) (L := L) (k := nA) fun j hj hsk => hdep j (hcl.late i o ho h j hj hsk)
        omega
      have hiA : i < nA := by
        rcases Nat.lt_or_ge i nA with h | h
        · exact h
        · exact absurd (.inl h) hnl
      have hisk : memN sk i = false := by
        cases hsk : memN sk i with
        | false => rfl
        | true => exact absurd (.inr hsk) hnl
      have hot : (l.take nA)[i]? = some o := by rw [List.getElem?_take, if_pos hiA]; simpa using ho
      obtain ⟨A, hA, hstp⟩ := hob i o hot (by simpa using hisk)
      simp only [List.length_nil, Nat.zero_add] at hA hstp
      have hle : ((S.clear ds nms).partR (memN (cls.getD i [])) (adds.take i).reverse).le ((S.clear ds nms).part (fun j => L.getD j false) adds) := partR_le ok (fun j B hj => by
          rw [List.reverse_reverse] at hj
          rw [List.getElem?_take] at hj; split at hj
          · exact hj
          · cases hj) fun j B _ hj => hdep j (memN_iff.1 hj)
      have cont : ∀ a' w', Sat w0 ω0 nt (((S.clear ds nms).part (fun j => L.getD j false) adds).add A) a' w' → wpAny P .any l.toArray Q (l.length - missing sk #[] nA + d) (L.setIfInBounds i true) a' w' := fun a' w' hsat' => by
        have hsat2 := (wk_add ok hA hif fun j hj hm' => by have := hclosed j hj i hm'; rw [hif] at this; cases this).go _ _ _ a' w' hsat'
        have hnew : ∀ j, (L.setIfInBounds i true).getD j false = (Nat.beq j i || L.getD j false) := fun j => by
          by_cases e : j = i
          · subst e; simp [his]
          · rw [getD_set_ne false (fun e' => e e'.symm), beq_ne e, Bool.false_or]
        refine ih (L.setIfInBounds i true) a' w' ?_ (by simp [hs]) (fun j hj => ?_) (fun j hj k hk' => ?_) ?_
        · have := missing_set his hif hisk nA hiA; omega
        · rw [hnew] at hj
          by_cases e : j = i
          · rw [e]; exact ⟨hiA, hisk⟩
          · rw [beq_ne e, Bool.false_or] at hj; exact hsub j hj
        · rw [hnew] at hj ⊢
          by_cases e : j = i
          · subst e; rw [hdep k hk']; simp
          · rw [beq_ne e, Bool.false_or] at hj; rw [hclosed j hj k hk']; simp
        · have : (fun j => (L.setIfInBounds i true).getD j false) = fun j => (Nat.beq j i || L.getD j false) := funext hnew
          rw [this]; exact hsat2
      have hy : ∀ {j dd : Nat} {b : Bool}, (l.toArray[j]?).bind (·.dst) = some dd → ((S.clear ds nms).part (fun j => L.getD j false) adds).sl dd = some (vv (.bool b)) → yielded l.toArray a.tmps j = some b := fun {j dd b} hj hb => by
        obtain ⟨η, ω, hs⟩ := hsat
        obtain ⟨u, k1, k2⟩ := hs.slots dd _ hb
        have k2 : u = .bool b := k2
        subst k2
        unfold yielded
        cases hoj : l.toArray[j]? with
        | none => rw [hoj] at hj; cases hj
        | some oj =>
          rw [hoj] at hj
          simp only [Option.bind_some] at hj
          simp [hj, k1]
      unfold wpOp
      simp only [ho]
      cases hstp _ hle with
      | run hg h =>
        rw [if_pos (by simp [Region.wanted, hg])]
        exact .inl (Oper.wp_mono (fun a' w' hsat' => cont a' w' hsat') (h.go w0 ω0 a w Q hsat))
      | yes hg hj hb h =>
        rw [if_pos (by simp [Region.wanted, hg, hy hj hb])]
        exact .inl (Oper.wp_mono (fun a' w' hsat' => cont a' w' hsat') (h.go w0 ω0 a w Q hsat))
      | @no j dd want hg hj hb ht hn ha hx =>
        rw [if_neg (by simp [Region.wanted, hg, hy hj hb])]
        refine cont _ _ ?_
        obtain ⟨η, ω, hs⟩ := hsat
        refine ⟨η, ω, ?_⟩
        have e : ((S.clear ds nms).part (fun j => L.getD j false) adds).add A = ((S.clear ds nms).part (fun j => L.getD j false) adds).put A.t (vv undef) := by unfold St.add; rw [hx, ha]; rfl
        rw [e, ht]
        exact hs.putV (by simpa using hn) rfl

theorem goes_drawG {id : Nat} {l : List Oper} (nA : Nat) (sk : List Nat) (cls : List (List Nat)) (ds nms : List Nat) {done : List Add} (hm : P.follows .mixedOrders = true) (hcl : clsB l.toArray nA sk cls = true) (hdr : DrawG P nt l.toArray (S.clear ds nms) cls sk (l.take nA) [] done) (ok : addsB done.reverse cls ds nms = true)
    (hk : Rest P w0 ω0 nt l.toArray Q (l.length - missing sk #[] nA) (doneL nA sk l.length) ((S.clear ds nms).partR (fun j => !memN sk j) done)) : Goes P w0 ω0 nt S (.region id l.toArray true) Q := by
  have hc := clsB_spec hcl
  have hsz : nA ≤ l.length := by have := hc.size; simpa using this
  have hk' : Rest P w0 ω0 nt l.toArray Q (l.length - missing sk #[] nA) (doneL nA sk l.length) ((S.clear ds nms).part (fun j => !memN sk j) done.reverse) :=
    ⟨fun a w hs => hk.go a w ((St.le.wk (partR_le (addsB_spec ok) (fun _ _ h => h) fun _ _ _ h => h) fun _ _ h => h).go _ _ _ a w hs)⟩
  have hle : ∀ k, missing sk #[] k ≤ k := fun k => by
    induction k with
    | zero => exact Nat.le_refl _
    | succ k ih => simp only [missing]; split <;> omega
  refine ⟨fun a w hs => wp_region_any hm ?_⟩
  have hfin := drawG_main hc hdr rfl (addsB_spec ok) hk' (missing sk #[] nA) (Array.replicate l.length false) a { w with drawn := w.drawn + 1 } ?_ (by simp) (fun j hj => ?_) (fun i hi => ?_) ?_
  · have := hle nA
    rw [show l.length - missing sk #[] nA + missing sk #[] nA = l.length by omega] at hfin
    simpa using hfin
  · have : ∀ k, k ≤ l.length → missing sk (Array.replicate l.length false) k = missing sk #[] k := fun k => by
      induction k with
      | zero => intro _; rfl
      | succ k ih =>
        intro hk
        simp only [missing]
        rw [ih (by omega)]
        have : (Array.replicate l.length false).getD k false = false := by simp [show k < l.length by omega]
        rw [this]; rfl
    exact this nA hsz
  · exfalso
    by_cases h : j < l.length
    · simp [h] at hj
    · simp [h] at hj
  · exfalso
    by_cases h : i < l.length
    · simp [h] at hi
    · simp [h] at hi
  · have h1 := (wk_clear S ds nms).go _ _ _ a _ (sat_drew hs)
    have hf : ∀ j, (Array.replicate l.length false).getD j false = false := fun j => by
      by_cases h : j < l.length <;> simp [h]
    refine (Wk.less (S := S.clear ds nms) (S' := (S.clear ds nms).part (fun j => (Array.replicate l.length false).getD j false) done.reverse) (fun t av h => ?_) (fun x c h => ?_) fun _ _ h => h).go _ _ _ a _ h1
    · have h : (match lkT (fun j => (Array.replicate l.length false).getD j false) 0 done.reverse t with | some av => some av | none => (S.clear ds nms).sl t) = some av := h
      split at h
      · rename_i av' h2
        obtain ⟨j, A, _, h3, _⟩ := lkT_some h2
        rw [hf] at h3; cases h3
      · exact h
    · have h : (match lkN (fun j => (Array.replicate l.length false).getD j false) 0 done.reverse x with | some c => some c | none => (S.clear ds nms).ch x) = some c := h
      split at h
      · rename_i av' h2
        obtain ⟨j, A, _, h3, _⟩ := lkN_some h2
        rw [hf] at h3; cases h3
      · exact h

end
section
variable {P : Program} {nt : Nat} {S : St} {cls : List (List Nat)} {sk : List Nat} {o : Oper} {rest : List Oper} {done all : List Add} {ops0 : Array Oper} {t : Nat} {ty : TypeId} {ps : String} {af : Array Edge} {gd : Option (Nat × Bool)} {x y : Operand}
theorem drawG_put {t : Nat} {av : AV} (hg : o.guard = none) (h : ∀ S1, (S.partR (memN (cls.getD done.length [])) done).le S1 → Stp P nt o S1 (S1.put t av)) (k : DrawG P nt ops0 S cls sk rest (⟨t, av, none⟩ :: done) all) : DrawG P nt ops0 S cls sk (o :: rest) done all := .cons ⟨t, av, none⟩ (fun S1 hS => .run hg (h S1 hS)) k
theorem drawG_yes {t j d : Nat} {want : Bool} {av : AV} (hg : o.guard = some (j, want)) (hj : (ops0[j]?).bind (·.dst) = some d) (hb : (S.partR (memN (cls.getD done.length [])) done).sl d = some (vv (.bool want))) (h : ∀ S1, (S.partR (memN (cls.getD done.length [])) done).le S1 → Stp P nt o S1 (S1.put t av)) (k : DrawG P nt ops0 S cls sk rest (⟨t, av, none⟩ :: done) all) : DrawG P nt ops0 S cls sk (o :: rest) done all := .cons ⟨t, av, none⟩ (fun S1 hS => .yes hg hj (hS.sl _ _ hb) (h S1 hS)) k
theorem drawG_no {t j d : Nat} {want : Bool} (hg : o.guard = some (j, want)) (hj : (ops0[j]?).bind (·.dst) = some d) (hb : (S.partR (memN (cls.getD done.length [])) done).sl d = some (vv (.bool (!want)))) (ht : o.dst = some t) (hn : Nat.blt t nt = true) (k : DrawG P nt ops0 S cls sk rest (⟨t, vv undef, none⟩ :: done) all) : DrawG P nt ops0 S cls sk (o :: rest) done all := .cons ⟨t, vv undef, none⟩ (fun S1 hS => .no hg hj (hS.sl _ _ hb) ht hn rfl rfl) k
/-- whether two truth values are different -/
theorem stp_neqB {xt yt : TypeId} {b b' : Bool} (hT : P.underlying xt = some .bool) (ht : Nat.blt t nt = true) (hx : S.op x = some (vv (.bool b))) (hy : S.op y = some (vv (.bool b'))) : Stp P nt ⟨some t, .binOp .neq xt x y yt, ty, ps, af, gd⟩ S (S.put t (vv (.bool (b != b')))) :=
  Stp.pure rfl ht fun _ _ η _ a w hs => by
    refine ⟨.bool (b != b'), ?_, rfl⟩
    have e : ∀ w : World, (Op.equal xt (.bool b) (.bool b')).run P w = .ok (b == b') w := fun w => run_equal_bool w xt b b' hT
    simp [execOp, hs.opV hx, hs.opV hy, eqGuard, binOp, e, bne]
end
end Go.Proofs.Ytnfkhgamnapgmaa

/- Lists of points and of marks; lists that lead points. No program in sight. -/
namespace Go.Proofs.Ytnfkhgamnapgmaa

theorem iget_app_lt {zs : List Int} {z : Int} {j : Nat} (h : j < zs.length) : iget (zs ++ [z]) j = iget zs j := by
  simp [iget, List.getElem?_append_left h]
theorem iget_app_eq {zs : List Int} {z : Int} : iget (zs ++ [z]) zs.length = z := by simp [iget]
theorem lget_app_lt {zss : List (List Int)} {z : List Int} {j : Nat} (h : j < zss.length) : lget (zss ++ [z]) j = lget zss j := by
  simp [lget, List.getElem?_append_left h]
theorem lget_app_eq {zss : List (List Int)} {z : List Int} : lget (zss ++ [z]) zss.length = z := by simp [lget]
theorem iget_rep {n j : Nat} {z : Int} (h : j < n) : iget (List.replicate n z) j = z := by simp [iget, h]

/-- where a word leads a point -/
def leadL (qs : List (List Int)) (c : Int) (w : List Int) : Int := w.foldl (fun c g => iget (lget qs g.toNat) c.toNat) c
theorem leadL_nil (qs : List (List Int)) (c : Int) : leadL qs c [] = c := rfl
theorem leadL_snoc (qs : List (List Int)) (c : Int) (w : List Int) (g : Int) : leadL qs c (w ++ [g]) = iget (lget qs g.toNat) (leadL qs c w).toNat := by simp [leadL, List.foldl_append]

/-- each list holds m points, each leads within them -/
structure Leads (qs : List (List Int)) (m : Nat) : Prop where
  len : ∀ k, k < qs.length → (lget qs k).length = m
  within : ∀ k, k < qs.length → ∀ x, x < m → 0 ≤ iget (lget qs k) x ∧ iget (lget qs k) x < m
theorem Leads.lead {qs : List (List Int)} {m : Nat} (h : Leads qs m) {c : Int} (hc : 0 ≤ c ∧ c < m) {w : List Int} (hw : ∀ z ∈ w, 0 ≤ z ∧ z < qs.length) : 0 ≤ leadL qs c w ∧ leadL qs c w < m := by
  induction w generalizing c with
  | nil => exact hc
  | cons g r ih =>
    have h1 := hw g (List.mem_cons_self ..)
    have h2 := h.within g.toNat (by omega) c.toNat (by omega)
    exact ih h2 fun z hz => hw z (List.mem_cons_of_mem _ hz)

def bat (bs : List Bool) (k : Nat) : Bool := bs.getD k false
theorem bat_set {bs : List Bool} {i j : Nat} {b : Bool} : bat (bs.set i b) j = if i = j ∧ i < bs.length then b else bat bs j := by
  simp only [bat, List.getD_eq_getElem?_getD, List.getElem?_set]
  by_cases h : i = j
  · subst h
    by_cases h2 : i < bs.length
    · simp [h2]
    · simp [h2]
  · simp [h]
def bcnt (bs : List Bool) : Nat := (bs.filter fun b => b).length
theorem bcnt_le (bs : List Bool) : bcnt bs ≤ bs.length := List.length_filter_le _ _
theorem bcnt_set : ∀ (l : List Bool) (d : Nat), d < l.length → bat l d = false → bcnt (l.set d true) = bcnt l + 1
  | [], d, h, _ => by simp at h
  | x :: r, 0, _, h => by
    have h : x = false := by simpa [bat] using h
    simp [bcnt, h]
  | x :: r, d + 1, hd, h => by
    have ih := bcnt_set r d (by simpa using hd) (by simpa [bat] using h)
    unfold bcnt at ih ⊢
    simp only [List.set_cons_succ, List.filter_cons]
    split
    · simp only [List.length_cons]; omega
    · exact ih
def bTo (T : List (List Int)) (c g : Nat) : Nat := (iget (lget T g) c).toNat
theorem bTo_lt {T : List (List Int)} {n : Nat} (hT : Leads T n) {c g : Nat} (hc : c < n) (hg : g < T.length) : bTo T c g < n ∧ iget (lget T g) c = (bTo T c g : Int) := by
  have := hT.within g hg c hc
  unfold bTo; omega
def bvals (bs : List Bool) : List Value := bs.map Value.bool
theorem bvals_len (bs : List Bool) : (bvals bs).length = bs.length := by simp [bvals]
theorem bvals_get {bs : List Bool} {k : Nat} (h : k < bs.length) : (bvals bs)[k]? = some (.bool (bat bs k)) := by simp [bvals, bat, h]
theorem bvals_set (bs : List Bool) (k : Nat) (b : Bool) : (bvals bs).set k (.bool b) = bvals (bs.set k b) := by simp [bvals, List.map_set]
theorem bvals_rep (n : Nat) : bvals (List.replicate n false) = List.replicate n (.bool false) := by simp [bvals]
end Go.Proofs.Ytnfkhgamnapgmaa

/- Chunks of the everyday kinds. -/
namespace Go.Proofs.Ytnfkhgamnapgmaa
open Go.RowKit

abbrev imRo (im : List (List Int)) : Ch := ⟨false, 22, 1, .rows 2 (irows im) []⟩
abbrev leRo (less : List Int) : Ch := ⟨false, 2, 1, .vals (ivals less)⟩
abbrev imOw (im : List (List Int)) : Ch := ⟨true, 22, 1, .rows 2 (irows im) []⟩
abbrev leOw (less : List Int) : Ch := ⟨true, 2, 1, .vals (ivals less)⟩
theorem toI {z : Int} (h : 0 ≤ z) : some (vv (I6 z)) = some (vv (I6 ((z.toNat : Nat) : Int))) := by rw [Int.toNat_of_nonneg h]
theorem toV {z : Int} (h : 0 ≤ z) : vv (I6 z) = vv (I6 ((z.toNat : Nat) : Int)) := by rw [Int.toNat_of_nonneg h]
abbrev rowsRo (wss : List (List Int)) : Ch := ⟨false, 22, 1, .rows 2 (irows wss) []⟩
abbrev boOw (bs : List Bool) : Ch := ⟨true, 4, 1, .vals (bvals bs)⟩
abbrev wRo (W : List Int) : Ch := ⟨false, 2, 1, .vals (ivals W)⟩
section
variable {P : Program} {nt : Nat} {S : St} {t : Nat} {ty : TypeId} {ps : String} {af : Array Edge} {gd : Option (Nat × Bool)} {x y : Operand}
theorem stp_makeB {T E n : Nat} {l c : Operand} {kl kc : IntKind} {L C : Int} (ht : Nat.blt t nt = true) (hT : elZ P T E 1 = true) (hz : (P.info? E).bind (·.zero) = some (.bool false)) (hl : S.op l = some (vv (.int kl L))) (hc : S.op c = some (vv (.int kc C)))
    (hL : L = (n : Int)) (hC : C = (n : Int)) (hn : n ≤ 2199023255552) : Stp P nt ⟨some t, .makeSlice T l c, ty, ps, af, gd⟩ S ((S.new t ⟨true, E, 1, .vals (bvals (List.replicate n false))⟩).put t (o1 (.sl t 0 n))) := by
  rw [bvals_rep]
  exact stp_make (ts := #[]) ht hT hz hl hc hL hC hn rfl
theorem stp_stB {T : TypeId} {n : Nm} {i : Nat} {c : Ch} {bs : List Bool} {b : Bool} (hx : S.op x = some (o1 (.ptr n i))) (hy : S.op y = some (vv (.bool b))) (hc : S.ch n = some c) (hown : c.own = true) (hd : c.d = .vals (bvals bs)) (hi : i < bs.length) (hT : sizeB P T 1 = true) :
    Stp P nt ⟨none, .store T x y, ty, ps, af, gd⟩ S (S.set n { c with d := .vals (bvals (bs.set i b)) }) := by
  have := stp_storeV (P := P) (nt := nt) (ty := ty) (ps := ps) (af := af) (gd := gd) hx hy hc hown hd (by rw [bvals_len]; exact hi) hT rfl
  rwa [bvals_set] at this
end
end Go.Proofs.Ytnfkhgamnapgmaa

/- A memory of names: rows as words; vectors cut short. No program in sight. -/
namespace Go.Proofs.Ytnfkhgamnapgmaa
open Go.RowKit

section
variable {η : Env} {ω : Own?} {w : World} {ins : List (Nm × Ch)}
theorem rdRow {x i : Nat} {own : Bool} {E F : Nat} {zss : List (List Int)} {v : Value} (hm : Mem η ω w (fun x => lk x ins)) (hx : lk x ins = some ⟨own, E, 1, .rows F (irows zss) []⟩) (hi : i < zss.length) (hv : Den1 η (.esl x i 0 (lget zss i).length) v) (hn : (lget zss i).length ≤ 17592186044416) :
    ∃ ao c, v = .slice ao (lget zss i).length c ∧ Ints w ao (lget zss i).length (lget zss i) := by
  obtain ⟨h, h1, h2, h3⟩ := hm.1 x _ hx
  obtain ⟨ao, rfl, h4, _⟩ := hv.2 h h1
  have h3 : Vec own ω w (x, none) h E (irows zss).length (cellsOK η ω w own x (.rows F (irows zss) [])) := h3
  obtain ⟨b', o', u', g1, g2, g3, g4⟩ := h3.get (j := i) (by rw [irows_len]; exact hi)
  obtain ⟨k1, k2, k3⟩ := g4 (by simp) (ivals (lget zss i)) (irows_get hi)
  rw [h4 rfl]
  refine ⟨_, _, rfl, rfl, hn, fun h0 => ?_⟩
  obtain ⟨b2, o2, u2, m1, _, _⟩ := k3.get (j := 0) (by rw [ivals_len]; exact h0)
  refine ⟨b2, o2, m1, fun j hj => ?_⟩
  obtain ⟨b3, o3, u3, n1, n2, n3⟩ := k3.get (j := j) (by rw [ivals_len]; exact hj)
  rw [m1] at n1; injection n1 with n1; injection n1 with n1 n1'; subst n1 n1'
  rw [ivals_get hj] at n3
  rw [n2, ← n3]
/-- the labels of a component: a row of a mixed vector -/
theorem rdRowM {x i m : Nat} {own : Bool} {E kk F : Nat} {cs : List Cel} {zs : List Int} {v : Value} (hm : Mem η ω w (fun x => lk x ins)) (hx : lk x ins = some ⟨own, E, kk, .mix cs⟩) (hi : cs[i]? = some (.r F 1 m (ivals zs))) (hv : Den1 η (.esl x i 0 m) v) (hn : zs.length ≤ 17592186044416) :
    ∃ ao c, v = .slice ao zs.length c ∧ Ints w ao zs.length zs := by
  obtain ⟨h, h1, h2, h3⟩ := hm.1 x _ hx
  obtain ⟨ao, rfl, h4, _⟩ := hv.2 h h1
  have h3 : Vec own ω w (x, none) h E cs.length (cellsOK η ω w own x (.mix cs)) := h3
  obtain ⟨b', o', u', g1, g2, g3, g4⟩ := h3.get (j := i) (List.getElem?_eq_some_iff.1 hi).1
  obtain ⟨k0, k1, k2, k3⟩ := g4 _ hi
  have hm' : m = zs.length := by rw [ivals_len, Nat.mul_one] at k0; exact k0.symm
  subst hm'
  rw [h4 rfl]
  refine ⟨_, _, rfl, rfl, hn, fun h0 => ?_⟩
  obtain ⟨b2, o2, u2, m1, _, _⟩ := k3.get (j := 0) (by rw [ivals_len]; exact h0)
  refine ⟨b2, o2, m1, fun j hj => ?_⟩
  obtain ⟨b3, o3, u3, n1, n2, n3⟩ := k3.get (j := j) (by rw [ivals_len]; exact hj)
  rw [m1] at n1; injection n1 with n1; injection n1 with n1 n1'; subst n1 n1'
  rw [ivals_get hj] at n3
  rw [n2, ← n3]
end
section
variable {P : Program} {nt : Nat} {S : St} {t : Nat} {ty : TypeId} {ps : String} {af : Array Edge} {gd : Option (Nat × Bool)} {x y : Operand}
/-- of a vector of the call's own only the front is remembered -/
theorem wk_cut {n : Nm} {E k m : Nat} {vs : List Value} (hc : S.ch n = some ⟨true, E, k, .vals vs⟩) (hm : m ≤ vs.length) : Wk S (S.set n ⟨true, E, k, .vals (vs.take m)⟩) := by
  refine ⟨fun w0 ω0 nt a w ⟨η, ω, h⟩ => ?_⟩
  obtain ⟨hd, e1, e2, e3⟩ := h.chunk hc
  have e3 : VecO ω w (n, none) hd E vs.length (cellsOK η ω w true n (.vals vs)) := e3
  refine ⟨η, ω, h.write e1 (Calm.refl _ _ _) ⟨e2, ?_⟩⟩
  show VecO ω w (n, none) hd E (vs.take m).length _
  have hl : (vs.take m).length = m := by rw [List.length_take]; omega
  rw [hl]
  rcases e3 with ⟨h1, h2, h3⟩ | ⟨b, o, cs, h1, h2, h3, h4, h5, h6, h7⟩
  · exact .inl ⟨h1, h2, by omega⟩
  · refine .inr ⟨b, o, cs, h1, h2, h3, h4, by omega, h6, fun j hj => ?_⟩
    obtain ⟨u, hu, hk⟩ := h7 j (by omega)
    refine ⟨u, hu, ?_⟩
    have hk : vs[j]? = some u := hk
    show (vs.take m)[j]? = some u
    rw [List.getElem?_take, if_pos hj]; exact hk
/-- an index into a part of a vector -/
theorem stp_ixO {T : TypeId} {n : Nm} {off len j : Nat} {c : Ch} {ki : IntKind} {i : Int} (ht : Nat.blt t nt = true) (hx : S.op x = some (o1 (.sl n off len))) (hy : S.op y = some (vv (.int ki i))) (hc : S.ch n = some c) (hk : c.k = 1) (hT : elemB P T 1 = true)
    (hi : i = (j : Int)) (hj : j < len) (hl : off + len ≤ c.d.len) : Stp P nt ⟨some t, .indexAddr T x y, ty, ps, af, gd⟩ S (S.put t (o1 (.ptr n (off + j)))) := by
  have := stp_indexAddr (P := P) (nt := nt) (t := t) (ty := ty) (ps := ps) (af := af) (gd := gd) (k := 1) ht hx hy hc hk hT hi hj (by rw [Nat.mul_one]; exact hl) (by omega)
  rwa [Nat.mul_one] at this
theorem stp_ixK {T : TypeId} {n : Nm} {off len j K : Nat} {c : Ch} {ki : IntKind} {i : Int} (ht : Nat.blt t nt = true) (hx : S.op x = some (o1 (.sl n off len))) (hy : S.op y = some (vv (.int ki i))) (hc : S.ch n = some c) (hk : c.k = 1) (hT : elemB P T 1 = true)
    (hi : i = (j : Int)) (hj : j < len) (hl : off + len ≤ c.d.len) (hK : off + j = K) : Stp P nt ⟨some t, .indexAddr T x y, ty, ps, af, gd⟩ S (S.put t (o1 (.ptr n K))) := by
  subst hK; exact stp_ixO ht hx hy hc hk hT hi hj hl
theorem stp_minN {ts : Array TypeId} {m n : Nat} (ht : Nat.blt t nt = true) (hx : S.op x = some (vv (I6 (m : Int)))) (hy : S.op y = some (vv (I6 (n : Int)))) :
    Stp P nt ⟨some t, .call { callee := .builtin .min, args := #[x, y], argTypes := ts }, ty, ps, af, gd⟩ S (S.put t (vv (I6 ((min m n : Nat) : Int)))) := by
  have := stp_min (P := P) (nt := nt) (ty := ty) (ps := ps) (af := af) (gd := gd) (ts := ts) ht hx hy
  rwa [show (if (n : Int) < m then (n : Int) else m) = ((min m n : Nat) : Int) by split <;> omega] at this
theorem stp_maxN {ts : Array TypeId} {m n : Nat} (ht : Nat.blt t nt = true) (hx : S.op x = some (vv (I6 (m : Int)))) (hy : S.op y = some (vv (I6 (n : Int)))) :
    Stp P nt ⟨some t, .call { callee := .builtin .max, args := #[x, y], argTypes := ts }, ty, ps, af, gd⟩ S (S.put t (vv (I6 ((max m n : Nat) : Int)))) := by
  have := stp_max (P := P) (nt := nt) (ty := ty) (ps := ps) (af := af) (gd := gd) (ts := ts) ht hx hy
  rwa [show (if (n : Int) > m then (n : Int) else m) = ((max m n : Nat) : Int) by split <;> omega] at this
end
end Go.Proofs.Ytnfkhgamnapgmaa

/- Cosets that some generators lead to, and the first fault of intersections, on lists. No program in sight. -/
namespace Go.Proofs.Ytnfkhgamnapgmaa

/-- whether a mask holds a generator -/
def mBit (mask g : Nat) : Bool := mask / 2 ^ g % 2 == 1
theorem mBit_and (a b g : Nat) : mBit (a &&& b) g = (mBit a g && mBit b g) := by
  have h : ∀ m : Nat, mBit m g = m.testBit g := fun m => by
    unfold mBit; rw [Nat.testBit_eq_decide_div_mod_eq]; rfl
  rw [h, h, h, Nat.testBit_and]
/-- which are met, the queue -/
abbrev MSt := List Bool × List Int
def mStep (T : List (List Int)) (mask c : Nat) (s : MSt) (g : Nat) : MSt := if mBit mask g = true ∧ bat s.1 (bTo T c g) = false then (s.1.set (bTo T c g) true, s.2 ++ [(bTo T c g : Int)]) else s
def mRow (T : List (List Int)) (mask ng c : Nat) (s : MSt) : MSt := (List.range ng).foldl (mStep T mask c) s
def mLoop (T : List (List Int)) (mask ng : Nat) : Nat → Nat → MSt → MSt
  | 0, _, s => s
  | f + 1, i, s => if i < s.2.length then mLoop T mask ng f (i + 1) (mRow T mask ng (iget s.2 i).toNat s) else s
def mStart (n : Nat) : MSt := ((List.replicate n false).set 0 true, [0])
def mem (T : List (List Int)) (ng n mask : Nat) : MSt := mLoop T mask ng (n + 1) 0 (mStart n)
structure MOK (n : Nat) (s : MSt) : Prop where
  l : s.1.length = n
  q : ∀ k, k < s.2.length → ∃ d : Nat, iget s.2 k = (d : Int) ∧ d < n ∧ bat s.1 d = true
  cnt : bcnt s.1 = s.2.length
  cov : ∀ d, d < n → bat s.1 d = true → ∃ k, k < s.2.length ∧ iget s.2 k = (d : Int)
theorem MOK.le {n : Nat} {s : MSt} (h : MOK n s) : s.2.length ≤ n := by
  have := bcnt_le s.1; rw [h.cnt, h.l] at this; exact this
structure MGrow (s s' : MSt) : Prop where
  len : s.2.length ≤ s'.2.length
  pre : ∀ k, k < s.2.length → iget s'.2 k = iget s.2 k
  met : ∀ d, bat s.1 d = true → bat s'.1 d = true
theorem MGrow.refl (s : MSt) : MGrow s s := ⟨Nat.le_refl _, fun _ _ => rfl, fun _ h => h⟩
theorem MGrow.trans {a b c : MSt} (h : MGrow a b) (k : MGrow b c) : MGrow a c :=
  ⟨Nat.le_trans h.len k.len, fun i hi => (k.pre i (Nat.lt_of_lt_of_le hi h.len)).trans (h.pre i hi), fun d hd => k.met d (h.met d hd)⟩
section
variable {T : List (List Int)} {ng n mask : Nat}
theorem mStep_grow (s : MSt) (c g : Nat) : MGrow s (mStep T mask c s g) := by
  unfold mStep
  split
  · refine ⟨by simp, fun k hk => iget_app_lt hk, fun d hd => ?_⟩
    dsimp only
    rw [bat_set]
    split
    · rfl
    · exact hd
  · exact MGrow.refl s
theorem mStep_ok {s : MSt} {c g : Nat} (h : MOK n s) (hd : bTo T c g < n) : MOK n (mStep T mask c s g) := by
  unfold mStep
  generalize bTo T c g = d at *
  split
  · rename_i hm
    have hm := hm.2
    refine ⟨by rw [List.length_set]; exact h.l, fun k hk => ?_, ?_, fun e he hb => ?_⟩
    · dsimp only at hk ⊢
      by_cases e : k < s.2.length
      · obtain ⟨d', h1, h2, h3⟩ := h.q k e
        refine ⟨d', by rw [iget_app_lt e]; exact h1, h2, ?_⟩
        rw [bat_set]; split
        · rfl
        · exact h3
      · obtain rfl : k = s.2.length := by simp at hk; omega
        exact ⟨d, iget_app_eq, hd, by rw [bat_set, if_pos ⟨rfl, by rw [h.l]; exact hd⟩]⟩
    · dsimp only; rw [bcnt_set _ _ (by rw [h.l]; exact hd) hm, h.cnt]; simp
    · dsimp only at hb ⊢
      by_cases e2 : d = e
      · subst e2; exact ⟨s.2.length, by simp, iget_app_eq⟩
      · rw [bat_set, if_neg (fun h => e2 h.1)] at hb
        obtain ⟨k, h1, h2⟩ := h.cov e he hb
        exact ⟨k, by rw [List.length_append]; omega, by rw [iget_app_lt h1]; exact h2⟩
  · exact h
theorem mStep_met {s : MSt} {c g : Nat} (h : MOK n s) (hd : bTo T c g < n) (hb : mBit mask g = true) : bat (mStep T mask c s g).1 (bTo T c g) = true := by
  unfold mStep
  cases hm : bat s.1 (bTo T c g) with
  | false => rw [if_pos ⟨hb, rfl⟩]; dsimp only; rw [bat_set, if_pos ⟨rfl, by rw [h.l]; exact hd⟩]
  | true => rw [if_neg (fun h => by cases h.2)]; exact hm
theorem mRow_ok (hT : Leads T n) (hng : T.length = ng) {c : Nat} (hc : c < n) {s : MSt} (h : MOK n s) : ∀ m, m ≤ ng → MOK n ((List.range m).foldl (mStep T mask c) s) ∧ MGrow s ((List.range m).foldl (mStep T mask c) s) ∧ ∀ g, g < m → mBit mask g = true → bat ((List.range m).foldl (mStep T mask c) s).1 (bTo T c g) = true
  | 0, _ => ⟨h, MGrow.refl s, fun g hg => by omega⟩
  | m + 1, hm => by
    obtain ⟨h1, h2, h3⟩ := mRow_ok hT hng hc h m (by omega)
    rw [List.range_succ, List.foldl_append]
    generalize (List.range m).foldl (mStep T mask c) s = t at *
    have hd := (bTo_lt hT hc (g := m) (by omega)).1
    refine ⟨mStep_ok h1 hd, h2.trans (mStep_grow t c m), fun g hg hb => ?_⟩
    show bat (mStep T mask c t m).1 (bTo T c g) = true
    by_cases e : g = m
    · subst e; exact mStep_met h1 hd hb
    · exact (mStep_grow t c m).met _ (h3 g (by omega) hb)
def MSeen (T : List (List Int)) (mask ng i : Nat) (s : MSt) : Prop := ∀ k, k < i → ∀ g, g < ng → mBit mask g = true → bat s.1 (bTo T (iget s.2 k).toNat g) = true
theorem mLoop_step {f i : Nat} {s : MSt} (h : i < s.2.length) : mLoop T mask ng (f + 1) i s = mLoop T mask ng f (i + 1) (mRow T mask ng (iget s.2 i).toNat s) := by rw [mLoop, if_pos h]
theorem mLoop_ok (hT : Leads T n) (hng : T.length = ng) : ∀ (f i : Nat) (s : MSt), MOK n s → MOK n (mLoop T mask ng f i s) ∧ MGrow s (mLoop T mask ng f i s)
  | 0, _, s, h => ⟨h, MGrow.refl s⟩
  | f + 1, i, s, h => by
    unfold mLoop
    split
    · rename_i hi
      obtain ⟨d, h1, h2, _⟩ := h.q i hi
      obtain ⟨k1, k2, _⟩ := mRow_ok (mask := mask) hT hng (c := (iget s.2 i).toNat) (by omega) h ng (Nat.le_refl _)
      obtain ⟨m1, m2⟩ := mLoop_ok hT hng f (i + 1) _ k1
      exact ⟨m1, k2.trans m2⟩
    · exact ⟨h, MGrow.refl s⟩
theorem mLoop_seen (hT : Leads T n) (hng : T.length = ng) : ∀ (f i : Nat) (s : MSt), MOK n s → MSeen T mask ng i s → i ≤ s.2.length → n + 1 ≤ f + i → MSeen T mask ng (mLoop T mask ng f i s).2.length (mLoop T mask ng f i s)
  | 0, i, s, h, hs, hi, hf => by have := h.le; omega
  | f + 1, i, s, h, hs, hi, hf => by
    unfold mLoop
    split
    · rename_i hlt
      obtain ⟨d, h1, h2, _⟩ := h.q i hlt
      obtain ⟨k1, k2, k3⟩ := mRow_ok (mask := mask) hT hng (c := (iget s.2 i).toNat) (by omega) h ng (Nat.le_refl _)
      refine mLoop_seen hT hng f (i + 1) _ k1 (fun k hk g hg hb => ?_) (Nat.le_trans hlt k2.len) (by omega)
      have e : iget (mRow T mask ng (iget s.2 i).toNat s).2 k = iget s.2 k := k2.pre k (by omega)
      rw [e]
      by_cases e2 : k = i
      · subst e2; exact k3 g hg hb
      · exact k2.met _ (hs k (by omega) g hg hb)
    · obtain rfl : i = s.2.length := by omega
      exact hs
theorem mStart_ok (hn : 0 < n) : MOK n (mStart n) := by
  refine ⟨by simp [mStart], fun k hk => ?_, ?_, fun d hd hb => ?_⟩
  · obtain rfl : k = 0 := by simp [mStart] at hk; omega
    exact ⟨0, rfl, hn, by show bat ((List.replicate n false).set 0 true) 0 = true; rw [bat_set, if_pos ⟨rfl, by simpa using hn⟩]⟩
  · show bcnt ((List.replicate n false).set 0 true) = 1
    rw [bcnt_set _ _ (by simpa using hn) (by unfold bat; cases n <;> rfl)]
    simp [bcnt]
  · have hb : bat ((List.replicate n false).set 0 true) d = true := hb
    rw [bat_set] at hb
    split at hb
    · rename_i e; exact ⟨0, by simp [mStart], by rw [← e.1]; rfl⟩
    · simp [bat, hd] at hb
theorem mem_ok (hT : Leads T n) (hng : T.length = ng) (hn : 0 < n) : MOK n (mem T ng n mask) := (mLoop_ok hT hng _ _ _ (mStart_ok hn)).1
/-- what is closed holds all that is met -/
theorem mLoop_in (hT : Leads T n) (hng : T.length = ng) {p : Nat → Prop} (hp : ∀ c, c < n → p c → ∀ g, g < ng → mBit mask g = true → p (bTo T c g)) : ∀ (f i : Nat) (s : MSt), MOK n s → (∀ d, d < n → bat s.1 d = true → p d) → ∀ d, d < n → bat (mLoop T mask ng f i s).1 d = true → p d
  | 0, _, s, _, hs => hs
  | f + 1, i, s, h, hs => by
    unfold mLoop
    split
    · rename_i hlt
      obtain ⟨c, h1, h2, h3⟩ := h.q i hlt
      have hpc := hs c h2 h3
      rw [h1, Int.toNat_natCast]
      obtain ⟨k1, _, _⟩ := mRow_ok (mask := mask) hT hng h2 h ng (Nat.le_refl _)
      refine mLoop_in hT hng hp f (i + 1) _ k1 ?_
      have key : ∀ m, m ≤ ng → ∀ d, d < n → bat ((List.range m).foldl (mStep T mask c) s).1 d = true → p d := by
        intro m
        induction m with
        | zero => intro _; exact hs
        | succ m ih =>
          intro hm d hd hb
          rw [List.range_succ, List.foldl_append] at hb
          have hb : bat (mStep T mask c ((List.range m).foldl (mStep T mask c) s) m).1 d = true := hb
          unfold mStep at hb
          split at hb
          · rename_i hc
            dsimp only at hb
            rw [bat_set] at hb
            split at hb
            · rename_i e; rw [← e.1]; exact hp c h2 hpc m (by omega) hc.1
            · exact ih (by omega) d hd hb
          · exact ih (by omega) d hd hb
      exact key ng (Nat.le_refl _)
    · exact hs
theorem mem_closed (hT : Leads T n) (hng : T.length = ng) (hn : 0 < n) {c g : Nat} (hc : c < n) (hm : bat (mem T ng n mask).1 c = true) (hg : g < ng) (hb : mBit mask g = true) : bat (mem T ng n mask).1 (bTo T c g) = true := by
  have hs := mLoop_seen (mask := mask) hT hng (n + 1) 0 _ (mStart_ok hn) (fun k hk => by omega) (Nat.zero_le _) (by omega)
  obtain ⟨k, k1, k2⟩ := (mem_ok (mask := mask) hT hng hn).cov c hc hm
  have := hs k k1 g hg hb
  have e : iget (mLoop T mask ng (n + 1) 0 (mStart n)).2 k = (c : Int) := k2
  rw [e, Int.toNat_natCast] at this
  exact this
theorem mem_zero (hT : Leads T n) (hng : T.length = ng) (hn : 0 < n) : bat (mem T ng n mask).1 0 = true :=
  (mLoop_ok hT hng _ _ _ (mStart_ok hn)).2.met 0 (by show bat ((List.replicate n false).set 0 true) 0 = true; rw [bat_set, if_pos ⟨rfl, by simpa using hn⟩])
theorem mem_mono (hT : Leads T n) (hng : T.length = ng) (hn : 0 < n) {mask' : Nat} (hmm : ∀ g, g < ng → mBit mask g = true → mBit mask' g = true) {d : Nat} (hd : d < n) (hm : bat (mem T ng n mask).1 d = true) : bat (mem T ng n mask').1 d = true :=
  mLoop_in (p := fun d => bat (mem T ng n mask').1 d = true) hT hng (fun c hc hpc g hg hb => mem_closed hT hng hn hc hpc hg (hmm g hg hb)) (n + 1) 0 (mStart n) (mStart_ok hn) (fun e he hb => by
    have hb : bat ((List.replicate n false).set 0 true) e = true := hb
    rw [bat_set] at hb
    split at hb
    · rename_i h; rw [← h.1]; exact mem_zero hT hng hn
    · simp [bat, he] at hb) d hd hm
end
/-- a fault of two masks at a coset, as the reference and as the program asks -/
def faultAt (T : List (List Int)) (ng n i k c : Nat) : Bool := bat (mem T ng n i).1 c && bat (mem T ng n k).1 c && !bat (mem T ng n (i &&& k)).1 c
def faultAt' (T : List (List Int)) (ng n i k c : Nat) : Bool := bat (mem T ng n (i &&& k)).1 c != (bat (mem T ng n i).1 c && bat (mem T ng n k).1 c)
theorem fault_same {T : List (List Int)} {ng n : Nat} (hT : Leads T n) (hng : T.length = ng) (hn : 0 < n) (i k : Nat) {c : Nat} (hc : c < n) : faultAt' T ng n i k c = faultAt T ng n i k c := by
  have h1 := mem_mono hT hng hn (mask := i &&& k) (mask' := i) (fun g _ hb => by rw [mBit_and] at hb; simp at hb; exact hb.1) hc
  have h2 := mem_mono hT hng hn (mask := i &&& k) (mask' := k) (fun g _ hb => by rw [mBit_and] at hb; simp at hb; exact hb.2) hc
  unfold faultAt faultAt'
  revert h1 h2
  cases bat (mem T ng n (i &&& k)).1 c <;> cases bat (mem T ng n i).1 c <;> cases bat (mem T ng n k).1 c <;> simp
def isFault (T : List (List Int)) (ng n i k : Nat) : Bool := (List.range n).any (faultAt T ng n i k)
theorem isFault_no {T : List (List Int)} {ng n i k : Nat} (h : ∀ c, c < n → faultAt T ng n i k c = false) : isFault T ng n i k = false := by
  unfold isFault
  rw [List.any_eq_false]
  intro c hc
  rw [h c (List.mem_range.1 hc)]; simp
theorem isFault_yes {T : List (List Int)} {ng n i k c : Nat} (hc : c < n) (h : faultAt T ng n i k c = true) : isFault T ng n i k = true := by
  unfold isFault
  rw [List.any_eq_true]
  exact ⟨c, List.mem_range.2 hc, h⟩
def inFault (T : List (List Int)) (ng n i : Nat) : Option Nat := (List.range (2 ^ ng)).find? fun k => decide (i < k) && isFault T ng n i k
def outFault (T : List (List Int)) (ng n : Nat) : Option Nat := (List.range (2 ^ ng)).find? fun i => (inFault T ng n i).isSome
def fltR (T : List (List Int)) (ng n : Nat) : Int × Int × Int := match outFault T ng n with
  | some i => ((i : Int), (((inFault T ng n i).getD 0 : Nat) : Int), 0)
  | none => (0, 0, 4)
theorem inFault_some {T : List (List Int)} {ng n i k : Nat} (hik : i < k) (hk : k < 2 ^ ng) (h : isFault T ng n i k = true) (hno : ∀ k', i < k' → k' < k → isFault T ng n i k' = false) : inFault T ng n i = some k := by
  unfold inFault
  rw [List.find?_range_eq_some]
  refine ⟨by simp [hik, h], List.mem_range.2 hk, fun j hj => ?_⟩
  by_cases e : i < j
  · simp [hno j e hj]
  · simp [e]
theorem inFault_none {T : List (List Int)} {ng n i : Nat} (hno : ∀ k, i < k → k < 2 ^ ng → isFault T ng n i k = false) : inFault T ng n i = none := by
  unfold inFault
  rw [List.find?_eq_none]
  intro k hk
  by_cases e : i < k
  · simp [hno k e (List.mem_range.1 hk)]
  · simp [e]
theorem fltR_some {T : List (List Int)} {ng n i k : Nat} (hik : i < k) (hk : k < 2 ^ ng) (h : isFault T ng n i k = true) (hno : ∀ k', i < k' → k' < k → isFault T ng n i k' = false) (hno2 : ∀ i', i' < i → ∀ k', i' < k' → k' < 2 ^ ng → isFault T ng n i' k' = false) : fltR T ng n = ((i : Int), (k : Int), 0) := by
  have h1 := inFault_some hik hk h hno
  have h2 : outFault T ng n = some i := by
    unfold outFault
    rw [List.find?_range_eq_some]
    exact ⟨by rw [h1]; rfl, List.mem_range.2 (by omega), fun j hj => by rw [inFault_none (hno2 j hj)]; rfl⟩
  unfold fltR
  rw [h2]
  dsimp only
  rw [h1]; rfl
theorem fltR_none {T : List (List Int)} {ng n : Nat} (hno : ∀ i, i < 2 ^ ng → ∀ k, i < k → k < 2 ^ ng → isFault T ng n i k = false) : fltR T ng n = (0, 0, 4) := by
  have h2 : outFault T ng n = none := by
    unfold outFault
    rw [List.find?_eq_none]
    intro i hi
    rw [inFault_none (hno i (List.mem_range.1 hi))]; simp
  unfold fltR
  rw [h2]
end Go.Proofs.Ytnfkhgamnapgmaa

/- Orbits and their numbers, on lists. No program in sight. -/
namespace Go.Proofs.Ytnfkhgamnapgmaa

theorem mBit_all {ng g : Nat} (h : g < ng) : mBit (2 ^ ng - 1) g = true := by
  have : mBit (2 ^ ng - 1) g = (2 ^ ng - 1).testBit g := by
    unfold mBit; rw [Nat.testBit_eq_decide_div_mod_eq]; rfl
  rw [this, Nat.testBit_two_pow_sub_one]; simpa using h
/-- a step of the search for an orbit -/
def oStep (T : List (List Int)) (c : Nat) (s : MSt) (g : Nat) : MSt := if bat s.1 (bTo T c g) = false then (s.1.set (bTo T c g) true, s.2 ++ [(bTo T c g : Int)]) else s
theorem oStep_eq {T : List (List Int)} {ng g : Nat} (h : g < ng) (c : Nat) (s : MSt) : mStep T (2 ^ ng - 1) c s g = oStep T c s g := by
  unfold mStep oStep
  simp only [mBit_all h, true_and]
def oStart (n c : Nat) : MSt := ((List.replicate n false).set c true, [(c : Int)])
/-- the points to which lists lead a point, as they are met -/
def orb (T : List (List Int)) (n c : Nat) : MSt := mLoop T (2 ^ T.length - 1) T.length (n + 1) 0 (oStart n c)
theorem oStart_bat {n c d : Nat} (hd : d < n) : bat (oStart n c).1 d = true ↔ d = c := by
  show bat ((List.replicate n false).set c true) d = true ↔ _
  rw [bat_set]
  constructor
  · intro h
    split at h
    · rename_i e; exact e.1.symm
    · simp [bat, hd] at h
  · rintro rfl; rw [if_pos ⟨rfl, by simpa using hd⟩]
theorem oStart_ok {n c : Nat} (hc : c < n) : MOK n (oStart n c) := by
  refine ⟨by simp [oStart], fun k hk => ?_, ?_, fun d hd hb => ?_⟩
  · obtain rfl : k = 0 := by simp [oStart] at hk; omega
    exact ⟨c, rfl, hc, (oStart_bat hc).2 rfl⟩
  · show bcnt ((List.replicate n false).set c true) = 1
    rw [bcnt_set _ _ (by simpa using hc) (by simp [bat, hc])]
    simp [bcnt]
  · rw [oStart_bat hd] at hb; subst hb; exact ⟨0, by simp [oStart], rfl⟩
section
variable {T : List (List Int)} {n : Nat}
theorem orb_ok (hT : Leads T n) {c : Nat} (hc : c < n) : MOK n (orb T n c) := (mLoop_ok hT rfl _ _ _ (oStart_ok hc)).1
/-- whether lists lead a point to another one -/
def rch (T : List (List Int)) (n c d : Nat) : Bool := bat (orb T n c).1 d
theorem rch_refl (hT : Leads T n) {c : Nat} (hc : c < n) : rch T n c c = true := (mLoop_ok hT rfl _ _ _ (oStart_ok hc)).2.met c ((oStart_bat hc).2 rfl)
theorem rch_on (hT : Leads T n) {c d g : Nat} (hc : c < n) (hd : d < n) (h : rch T n c d = true) (hg : g < T.length) : rch T n c (bTo T d g) = true := by
  have hs := mLoop_seen (mask := 2 ^ T.length - 1) hT rfl (n + 1) 0 _ (oStart_ok hc) (fun k hk => by omega) (Nat.zero_le _) (by omega)
  obtain ⟨k, k1, k2⟩ := (orb_ok hT hc).cov d hd h
  have := hs k k1 g hg (mBit_all hg)
  have e : iget (mLoop T (2 ^ T.length - 1) T.length (n + 1) 0 (oStart n c)).2 k = (d : Int) := k2
  rw [e, Int.toNat_natCast] at this
  exact this
theorem rch_in (hT : Leads T n) {c : Nat} (hc : c < n) {p : Nat → Prop} (h0 : p c) (hp : ∀ d, d < n → p d → ∀ g, g < T.length → p (bTo T d g)) : ∀ d, d < n → rch T n c d = true → p d :=
  mLoop_in (mask := 2 ^ T.length - 1) hT rfl (fun d hd hpd g hg _ => hp d hd hpd g hg) (n + 1) 0 (oStart n c) (oStart_ok hc) fun d hd hb => by rw [oStart_bat hd] at hb; subst hb; exact h0
theorem rch_trans (hT : Leads T n) {c d e : Nat} (hc : c < n) (hd : d < n) (he : e < n) (h1 : rch T n c d = true) (h2 : rch T n d e = true) : rch T n c e = true :=
  rch_in (p := fun e => rch T n c e = true) hT hd h1 (fun e he h g hg => rch_on hT hc he h hg) e he h2
/-- each list leads back what it leads -/
def Back2 (T : List (List Int)) (n : Nat) : Prop := ∀ g, g < T.length → ∀ c, c < n → bTo T (bTo T c g) g = c
theorem rch_symm (hT : Leads T n) (hb : Back2 T n) {c d : Nat} (hc : c < n) (hd : d < n) (h : rch T n c d = true) : rch T n d c = true :=
  rch_in (p := fun d => rch T n d c = true) hT hc (rch_refl hT hc) (fun e he h g hg => by
    have h1 := (bTo_lt hT he hg).1
    have h2 := rch_on hT h1 h1 (rch_refl hT h1) hg
    rw [hb g hg e he] at h2
    exact rch_trans hT h1 he hc h2 h) d hd h

theorem bcnt_full : ∀ {l : List Bool}, bcnt l = l.length → ∀ d, d < l.length → bat l d = true
  | [], _, d, hd => by simp at hd
  | b :: r, h, d, hd => by
    have hr := bcnt_le r
    have hb : b = true ∧ bcnt r = r.length := by
      unfold bcnt at h hr ⊢
      rw [List.filter_cons] at h
      split at h
      · rename_i hb; exact ⟨hb, by simpa using h⟩
      · simp at h; omega
    cases d with
    | zero => exact hb.1
    | succ d => exact bcnt_full hb.2 d (by simpa using hd)
theorem bcnt_all : ∀ {l : List Bool}, (∀ d, d < l.length → bat l d = true) → bcnt l = l.length
  | [], _ => rfl
  | b :: r, h => by
    have h0 : b = true := h 0 (by simp)
    have h1 := bcnt_all (l := r) fun d hd => h (d + 1) (by simpa using hd)
    unfold bcnt at h1 ⊢
    rw [List.filter_cons, if_pos h0]; simp [h1]
/-- the orbit is everything exactly if every point is met -/
theorem orb_full (hT : Leads T n) {c : Nat} (hc : c < n) : (orb T n c).2.length = n ↔ ∀ d, d < n → rch T n c d = true := by
  have h := orb_ok hT hc
  rw [← h.cnt]
  constructor
  · intro e d hd; exact bcnt_full (by rw [h.l]; exact e) d (by rw [h.l]; exact hd)
  · intro e; rw [bcnt_all (fun d hd => e d (by rw [h.l] at hd; exact hd)), h.l]

/-- the numbers of orbits, and how many there are -/
abbrev LSt := List Int × Nat
def labSet (T : List (List Int)) (n i : Nat) (s : LSt) : LSt := ((List.range n).map fun d => if rch T n i d then (s.2 : Int) else iget s.1 d, s.2 + 1)
def labStep (T : List (List Int)) (n : Nat) (s : LSt) (i : Nat) : LSt := if 0 ≤ iget s.1 i then s else labSet T n i s
def labStart (n : Nat) : LSt := (List.replicate n (-1), 0)
def labTo (T : List (List Int)) (n i : Nat) : LSt := (List.range i).foldl (labStep T n) (labStart n)
def labs (T : List (List Int)) (n : Nat) : LSt := labTo T n n
theorem labTo_succ (i : Nat) : labTo T n (i + 1) = labStep T n (labTo T n i) i := by unfold labTo; rw [List.range_succ, List.foldl_append]; rfl
theorem labSet_get {i d : Nat} {s : LSt} (hd : d < n) : iget (labSet T n i s).1 d = if rch T n i d then (s.2 : Int) else iget s.1 d := by simp [labSet, iget, hd]
theorem labSet_len {i : Nat} {s : LSt} : (labSet T n i s).1.length = n := by simp [labSet]
structure LOK (T : List (List Int)) (n i : Nat) (s : LSt) : Prop where
  len : s.1.length = n
  met : ∀ d, d < n → (0 ≤ iget s.1 d ↔ ∃ c, c < i ∧ rch T n c d = true)
  low : ∀ d, d < n → -1 ≤ iget s.1 d ∧ iget s.1 d < s.2
theorem labTo_ok (hT : Leads T n) (hb : Back2 T n) : ∀ i, i ≤ n → LOK T n i (labTo T n i)
  | 0, _ => ⟨by simp [labTo, labStart], fun d hd => ⟨fun h => by simp [labTo, labStart, iget, hd] at h, fun ⟨c, h, _⟩ => absurd h (by omega)⟩, fun d hd => by simp [labTo, labStart, iget, hd]⟩
  | i + 1, hi => by
    have h := labTo_ok hT hb i (by omega)
    rw [labTo_succ]
    generalize labTo T n i = s at *
    unfold labStep
    split
    · rename_i hl
      refine ⟨h.len, fun d hd => ?_, h.low⟩
      rw [h.met d hd]
      constructor
      · rintro ⟨c, h1, h2⟩; exact ⟨c, by omega, h2⟩
      · rintro ⟨c, h1, h2⟩
        by_cases e : c = i
        · subst e
          obtain ⟨c', h3, h4⟩ := (h.met c hi).1 hl
          exact ⟨c', h3, rch_trans hT (by omega) hi hd h4 h2⟩
        · exact ⟨c, by omega, h2⟩
    · rename_i hl
      refine ⟨labSet_len, fun d hd => ?_, fun d hd => ?_⟩
      · rw [labSet_get hd]
        split
        · rename_i hr; exact ⟨fun _ => ⟨i, by omega, hr⟩, fun _ => by omega⟩
        · rename_i hr
          rw [h.met d hd]
          constructor
          · rintro ⟨c, h1, h2⟩; exact ⟨c, by omega, h2⟩
          · rintro ⟨c, h1, h2⟩
            by_cases e : c = i
            · subst e; exact absurd h2 hr
            · exact ⟨c, by omega, h2⟩
      · rw [labSet_get hd]
        have := h.low d hd
        split
        · exact ⟨by omega, by show (s.2 : Int) < ((s.2 + 1 : Nat) : Int); omega⟩
        · exact ⟨this.1, by show _ < ((s.2 + 1 : Nat) : Int); omega⟩
/-- whoever is met from i for the first time was not met ahead of it -/
theorem lab_new (hT : Leads T n) (hb : Back2 T n) {i d : Nat} {s : LSt} (hi : i < n) (h : LOK T n i s) (hl : iget s.1 i < 0) (hd : d < n) (hr : rch T n i d = true) : iget s.1 d = -1 := by
  have := h.low d hd
  by_cases e : 0 ≤ iget s.1 d
  · obtain ⟨c, h1, h2⟩ := (h.met d hd).1 e
    have h3 := rch_trans hT (by omega) hd hi h2 (rch_symm hT hb hi hd hr)
    have := (h.met i hi).2 ⟨c, h1, h3⟩
    omega
  · omega
theorem labTo_mono : ∀ {i k : Nat}, i ≤ k → (labTo T n i).2 ≤ (labTo T n k).2 := by
  intro i k h
  induction k with
  | zero => obtain rfl : i = 0 := by omega
            exact Nat.le_refl _
  | succ k ih =>
    by_cases e : i = k + 1
    · subst e; exact Nat.le_refl _
    · refine Nat.le_trans (ih (by omega)) ?_
      rw [labTo_succ]; unfold labStep; split
      · exact Nat.le_refl _
      · simp [labSet]
theorem labTo_one (hT : Leads T n) (hb : Back2 T n) (hn : 0 < n) : (labTo T n 1).2 = 1 := by
  have h0 : iget (labTo T n 0).1 0 = -1 := by simp [labTo, labStart, iget, hn]
  rw [show 1 = 0 + 1 by rfl, labTo_succ]
  unfold labStep
  rw [if_neg (by rw [h0]; omega)]
  rfl
/-- there is one orbit exactly if that of 0 is everything -/
theorem labs_one (hT : Leads T n) (hb : Back2 T n) (hn : 0 < n) : (labs T n).2 = 1 ↔ (orb T n 0).2.length = n := by
  rw [orb_full hT hn]
  constructor
  · intro h d hd
    have key : ∀ i, 1 ≤ i → i ≤ n → labTo T n i = labTo T n 1 := by
      intro i h1 h2
      induction i with
      | zero => omega
      | succ i ih =>
        by_cases e : i = 0
        · subst e; rfl
        · have ih := ih (by omega) (by omega)
          have hm := labTo_mono (T := T) (n := n) h2
          have : (labTo T n n).2 = 1 := h
          rw [labTo_succ] at hm ⊢
          unfold labStep at hm ⊢
          split at hm
          · rename_i hl; rw [if_pos hl]; exact ih
          · rw [ih] at hm
            have := labTo_one hT hb hn
            simp only [labSet] at hm
            omega
    by_cases e : d = 0
    · subst e; exact rch_refl hT hn
    · have h1 : 0 ≤ iget (labTo T n d).1 d := by
        have hm := labTo_mono (T := T) (n := n) (show d + 1 ≤ n by omega)
        have : (labTo T n n).2 = 1 := h
        rw [labTo_succ] at hm
        unfold labStep at hm
        split at hm
        · rename_i hl; exact hl
        · rw [key d (by omega) (by omega)] at hm
          have := labTo_one hT hb hn
          simp only [labSet] at hm
          omega
      rw [key d (by omega) (by omega)] at h1
      obtain ⟨c, h2, h3⟩ := ((labTo_ok hT hb 1 hn).met d hd).1 h1
      obtain rfl : c = 0 := by omega
      exact h3
  · intro h
    have key : ∀ i, 1 ≤ i → i ≤ n → (labTo T n i).2 = 1 := by
      intro i h1 h2
      induction i with
      | zero => omega
      | succ i ih =>
        by_cases e : i = 0
        · subst e; exact labTo_one hT hb hn
        · rw [labTo_succ]
          unfold labStep
          rw [if_pos (((labTo_ok hT hb i (by omega)).met i (by omega)).2 ⟨0, by omega, h i (by omega)⟩)]
          exact ih (by omega) (by omega)
    exact key n hn (Nat.le_refl _)
end
end Go.Proofs.Ytnfkhgamnapgmaa

/- What a permutation's numbers are. No program in sight. -/
namespace Go.Proofs.Ytnfkhgamnapgmaa

theorem permGo_within {n : Nat} {zs : List Int} : ∀ {seen : List Bool}, permGo n seen zs = true → ∀ z ∈ zs, 0 ≤ z ∧ z < n := by
  induction zs with
  | nil => intro seen _ z hz; cases hz
  | cons a r ih =>
    intro seen h z hz
    simp only [permGo, Bool.and_eq_true] at h
    rcases List.mem_cons.1 hz with rfl | hz
    · have := inB_true.1 h.1.1; omega
    · exact ih h.2 z hz
theorem isPerm_within {zs : List Int} (h : isPerm zs = true) {k : Nat} (hk : k < zs.length) : 0 ≤ iget zs k ∧ iget zs k < zs.length := by
  unfold isPerm at h
  exact permGo_within ((Bool.and_eq_true _ _ ▸ h).2) _ (iget_mem hk)
theorem isPerm_few {zs : List Int} (h : isPerm zs = true) : zs.length ≤ 400 := by
  unfold isPerm at h
  rw [Bool.and_eq_true] at h; exact of_decide_eq_true h.1
end Go.Proofs.Ytnfkhgamnapgmaa
