/- A memory of names: calls that make one vector; rows taken out and laid back; slices of rows; literals of rows and of arrays. No program in sight. -/
import Derived.Test.YtpognnifgcacnaaPart4
import Derived.Test.YtpognnifgcacnaaProg
import Derived.Test.YtpognnifgcacnaaPart1
import Derived.Laws.CopyOwn
import Derived.Deep.RegionLaw
import Derived.RegionTactic
import Derived.Deep.RegionHeld3
import Derived.Test.YtpognnifgcacnaaPart3
import Derived.Maps.OwnSet
import Derived.Maps.Views
namespace Go.Proofs.Ytpognnifgcacnaa
open Go.RowKit

section
variable {P : Program} {nt : Nat} {S S1 S2 : St} {w0 w : World} {ω0 : Beg} {ω : Own?} {η : Env} {a : Act} {Q : Exit → Act → World → Prop} {ops : Array Oper} {rest : List Oper}
variable {t : Nat} {ty : TypeId} {ps : String} {af : Array Edge} {gd : Option (Nat × Bool)} {x y : Operand} {av : AV} {o : Oper}

theorem nbeq_comm (x y : Nat) : Nat.beq x y = Nat.beq y x := by
  cases h : Nat.beq x y with
  | true => rw [beq_true h]; simp
  | false =>
    cases h2 : Nat.beq y x with
    | false => rfl
    | true => rw [beq_true h2] at h; simp at h
theorem inL_one (x y : Nm) (c : Ch) : inL [(x, c)] y = Nat.beq x y := by
  unfold inL; simp only [lk]
  rw [nbeq_comm x y]
  cases Nat.beq y x <;> rfl
theorem bad_one (x : Nm) (c : Ch) (a : A1) : a.bad (inL [(x, c)]) (memB []) = a.has x := by
  cases a with
  | val v => rfl
  | any => rfl
  | sl y _ _ => exact inL_one x y c
  | ptr y _ => show (inL [(x, c)] y && !memB [] y) = _; rw [inL_one]; simp [memB, A1.has]
  | esl y _ _ _ => exact inL_one x y c
  | eptr y _ _ => exact inL_one x y c
  | clo f xs => show xs.any (fun p => inL [(x, c)] p.1 && !memB [] p.1) = xs.any fun p => Nat.beq x p.1; congr 1; funext p; rw [inL_one]; simp [memB]
theorem bad_one2 (x : Nm) (c : Ch) (a : A2) : a.bad (inL [(x, c)]) (memB []) = a.has x := by
  cases a with
  | one a => exact bad_one x c a
  | agg l => show l.any _ = l.any _; congr 1; funext a; exact bad_one x c a
theorem bad_one3 (x : Nm) (c : Ch) (a : AV) : a.bad (inL [(x, c)]) (memB []) = a.has x := by
  cases a with
  | s a => exact bad_one2 x c a
  | tup l => show l.any _ = l.any _; congr 1; funext a; exact bad_one2 x c a
theorem clean_one (x : Nm) (c d : Ch) : d.clean (inL [(x, c)]) (memB []) = d.forget x := by
  obtain ⟨ow, E, k, d⟩ := d
  unfold Ch.clean Ch.forget Dat.clean Dat.forget
  cases d with
  | flat l =>
    have : (l.map fun a => bif a.bad (inL [(x, c)]) (memB []) then A1.any else a) = l.map (A1.forget x) := List.map_congr_left fun a _ => by rw [bad_one]; rfl
    simp only [this]
  | vals vs => rfl
  | rows F vss hs => rfl
  | mix cs => rfl
/-- a call that reads and makes one chunk -/
theorem wk_after1 {ins : List (Nm × Ch)} {t : Nat} {res : AV} {x : Nm} {c : Ch} (hro : (ins.all fun p => !p.2.own) = true) : Wk ((S.after ins [(x, c)] []).putO (some t) res) ((S.new x c).put t res) := by
  have hc : ∀ x, consB ins x = false := fun x => by
    unfold consB
    cases h : lk x ins with
    | none => rfl
    | some c => have := List.all_eq_true.1 hro _ (lk_mem h); simpa using this
  refine Wk.less (fun t' av h => ?_) (fun y d h => ?_) fun t' av h => ?_
  · rw [sl_put] at h
    show ((S.after ins [(x, c)] []).put t res).sl t' = some av
    rw [sl_put]
    by_cases e : t' = t
    · rw [if_pos e] at h ⊢; exact h
    · rw [if_neg e] at h ⊢
      obtain ⟨h1, h2⟩ := sl_new h
      show ((S.sl t').bind fun av => bif av.bad (inL [(x, c)]) (memB []) then none else some av) = some av
      rw [h1, Option.bind_some, bad_one3, h2]; rfl
  · have h' : (S.new x c).ch y = some d := h
    clear h
    rw [ch_new] at h'
    show (match lk y [(x, c)] with | some c => some c | none => bif consB ins y then none else (S.ch y).map (Ch.clean (inL [(x, c)]) (memB []))) = some d
    simp only [lk]
    by_cases e : y = x
    · rw [if_pos e] at h'; subst e; simpa using h'
    · rw [if_neg e] at h'
      rw [beq_ne e, cond_false, hc, cond_false]
      have : Ch.clean (inL [(x, c)]) (memB []) = Ch.forget x := funext fun d => clean_one x c d
      rw [this]; exact h'
  · have h : (S.new x c).ph t' = some av := h
    obtain ⟨h1, h2⟩ := ph_new h
    show ((S.ph t').bind fun av => bif av.bad (inL [(x, c)]) (memB []) then none else some av) = some av
    rw [h1, Option.bind_some, bad_one3, h2]; rfl
theorem stp_callN {f : FuncId} {xs : Array Operand} {ts : Array TypeId} {ins : List (Nm × Ch)} {args args' : List AV} {res : AV} {back : List (Nat × AV)} {x : Nm} {c : Ch}
    (hfc : FC P f ins args [(x, c)] res back) (hf : goFnB P f = true) (ht : Nat.blt t nt = true) (hx' : opL S xs.toList = some args') (hto : allTo args' args) (hin : allIn S ins) (hro : (ins.all fun p => !p.2.own) = true) (hnr : (res.names.all (inL [(x, c)])) = true) (hno : ([(x, c)].all fun p => p.2.own && p.2.names.all (inL [(x, c)])) = true) :
    Stp P nt ⟨some t, .call { callee := .value (.func f), args := xs, argTypes := ts }, ty, ps, af, gd⟩ S ((S.new x c).put t res) :=
  (stp_call (kp := []) hfc hf (by simp [ht]) hx' hto hin trivial hnr hno).wk (wk_after1 hro)

/-- a contract in words of a function that hands back integers of its own, as a contract in names -/
theorem vecO_of {x : Nm × Option Nat} {w' : World} {lo E n c : Nat} {ao : Option Addr} {xs : List Value} (h : Own w' lo E ao n c xs) {ω' : Own?} (ho : ∀ g, bk ao = some g → ω' g = some x) : VecO ω' w' x ⟨ao, c, 1⟩ E xs.length fun j u => xs[j]? = some u := by
  have hl := h.len
  rcases h.1.2 with ⟨h2, h3⟩ | ⟨g, cap, cur, hv, hg, hh, h4, h5, h6, h7⟩
  · injection h2 with e1 e2 e3
    subst e1 e3
    exact .inl ⟨rfl, rfl, by omega⟩
  · injection hv with e1 e2 e3
    subst e1 e3
    refine .inr ⟨g, 0, cur, rfl, ho g rfl, hh, ⟨rfl, h6⟩, by show xs.length ≤ c * 1; omega, h5, fun j hj => ?_⟩
    have h8 : xs[j]? = some xs[j] := List.getElem?_eq_getElem hj
    refine ⟨xs[j], ?_, h8⟩
    have h9 : (cur.toList.take (n * 1))[j]? = some xs[j] := by rw [h7]; exact h8
    rw [List.getElem?_take] at h9
    split at h9
    · rw [Nat.zero_add]; simpa using h9
    · cases h9
theorem fc_of_own {f : FuncId} {ins : List (Nm × Ch)} {args : List AV} {x E : Nat} {zs : List Int} (h : ∀ w η ω us, Mem η ω w (fun x => lk x ins) → DenL η args us → Calls P f us.toArray w fun e w' => ∃ ao c, e = .returned (.slice ao zs.length c) ∧ Own w' w.heap.size E ao zs.length c (ivals zs) ∧ Below w.heap.size w w') :
    FC P f ins args [(x, ⟨true, E, 1, .vals (ivals zs)⟩)] (o1 (.sl x 0 zs.length)) [] := by
  intro w η ω us hm hd
  refine (h w η ω us hm hd).mono ?_
  rintro e w' ⟨ao, c, rfl, ho, hb⟩
  refine ⟨_, { h := fun y => if y = x then some ⟨ao, c, 1⟩ else none, r := η.r }, fun b => if bk ao = some b then some (x, none) else ω b, rfl, ⟨⟨_, _, rfl⟩, fun hd' he => ?_⟩, ⟨fun y d hy => ?_, fun y hy => ?_⟩, ⟨hb.os, hb.tape, hb.output, hb.size, fun b hlt hn => ⟨hb.block b hlt, ?_⟩⟩, fun t av ht => (nomatch ht)⟩
  · simp only [if_true, Option.some.injEq] at he
    subst he
    exact ⟨_, rfl, fun _ => rfl, fun h0 => absurd h0 (by omega)⟩
  · have hy : lk y [(x, (⟨true, E, 1, .vals (ivals zs)⟩ : Ch))] = some d := hy
    simp only [lk] at hy
    cases hb' : Nat.beq y x with
    | false => rw [hb'] at hy; simp at hy
    | true =>
      rw [hb'] at hy; simp at hy; subst hy
      obtain rfl := beq_true hb'
      exact ⟨⟨ao, c, 1⟩, if_pos rfl, rfl, vecO_of ho fun g hg => if_pos hg⟩
  · have hy : lk y [(x, (⟨true, E, 1, .vals (ivals zs)⟩ : Ch))] = none := hy
    have : y ≠ x := fun e => by subst e; simp [lk] at hy
    exact if_neg this
  · show (if bk ao = some b then some (x, none) else ω b) = none
    rw [if_neg fun e => by have := (ho.lt b e).1; omega]; exact hn

/-- a literal of one row of the call's own -/
theorem stp_lit1R {T E F z m : Nat} {x0 : Operand} {vs : List Value} (ht : Nat.blt t nt = true) (hT : elZ P T E 1 = true) (hx : S.op x0 = some (o1 (.sl z 0 m))) (hz : S.ch z = some ⟨true, F, 1, .vals vs⟩) (hm : vs.length = m) (hzt : Nat.beq z t = false) :
    Stp P nt ⟨some t, .buildSlice T 1 #[(0, x0)], ty, ps, af, gd⟩ S (((S.rm z).new t ⟨true, E, 1, .rows F [vs] []⟩).put t (o1 (.sl t 0 1))) :=
  Stp.of _ fun w0 ω0 η ω a w hs => by
    have hne : z ≠ t := fun e => by rw [e] at hzt; simp at hzt
    subst hm
    obtain ⟨i, zz, k1, k2, k3, k4, k5, k6⟩ := elZ_spec hT
    have hd0 : Den1 η (.sl z 0 vs.length) (a.eval x0) := hs.opv hx
    have ho : (a.eval x0).oneCell' = true := hd0.one fun v hv => by cases hv
    obtain ⟨hz', z1, z2, z3⟩ := hs.chunk hz
    have z2 : hz'.k = 1 := z2
    have z3 : VecO ω w (z, none) hz' F vs.length (cellsOK η ω w true z (.vals vs)) := z3
    obtain ⟨az, hav, q1, _⟩ := hd0.2 hz' z1
    refine ⟨.slice (some ⟨w.heap.size, 0, none⟩) 1 1, w.alloc (.cells #[a.eval x0] E), ?_, ?_⟩
    · simp [execOp, Instr.buildSlice, run_underlying k1, sizeOf, typeInfo, k2, k3, zeroValue, k5, Instr.fill, newRow, cells_one ho, range1]
    · have hSz : (S.rm z).ch z = none := by simp [ch_rm]
      have calm : Calm (S.rm z) ω w (Own?.give (Own?.new ω w.heap.size (t, none)) z t 0) (w.alloc (.cells #[a.eval x0] E)) := ⟨rfl, rfl, rfl, by simp, fun b hb hl => by
        have hnew : Own?.new ω w.heap.size (t, none) b = ω b := by simp [Own?.new, Nat.ne_of_lt hb]
        refine ⟨Below.heap_alloc w _ b hb, ?_⟩
        have h1 : ω b ≠ some (z, none) := by
          rcases hl with h0 | ⟨y, j, c, h0, h1⟩
          · rw [h0]; simp
          · rw [h0]
            intro e
            simp at e; rw [e.1, hSz] at h1; cases h1
        simp only [Own?.give, hnew, if_neg h1]⟩
      have key : ChIs ((η.drop z).new t ⟨some ⟨w.heap.size, 0, none⟩, 1, 1⟩ fun _ => hz') (Own?.give (Own?.new ω w.heap.size (t, none)) z t 0) (w.alloc (.cells #[a.eval x0] E)) t ⟨some ⟨w.heap.size, 0, none⟩, 1, 1⟩ ⟨true, E, 1, .rows F [vs] []⟩ := by
        have hself : Own?.new ω w.heap.size (t, none) w.heap.size = some (t, none) := by simp [Own?.new]
        refine ⟨rfl, .inr ⟨w.heap.size, 0, _, rfl, ?_, heap_alloc_new w _, ⟨rfl, rfl⟩, Nat.le_refl _, by simp [maxLen], fun j hj => ?_⟩⟩
        · unfold Own?.give
          rw [hself, if_neg (by simp; exact fun e => hne e.symm)]
        · have hj0 : j = 0 := by simp [Dat.len] at hj; omega
          subst hj0
          refine ⟨a.eval x0, by simp, ho, fun _ vs' hvs' => ?_⟩
          simp at hvs'; subst hvs'
          have hr : ((η.drop z).new t ⟨some ⟨w.heap.size, 0, none⟩, 1, 1⟩ fun _ => hz').r t 0 = hz' := by simp [Env.new]
          rw [hr]
          refine ⟨by rw [hav, q1 rfl, Nat.sub_zero], z2, VecO.give z3 fun b hb hob => ⟨Below.heap_alloc w _ b hb, ?_⟩⟩
          have hnew : Own?.new ω w.heap.size (t, none) b = ω b := by simp [Own?.new, Nat.ne_of_lt hb]
          simp only [Own?.give, hnew, hob, if_true]
      exact ⟨_, _, ((hs.drop z).lay calm key).putV (by simpa using ht) den_newsl⟩

/-- a row is taken out of the rows: it is a vector of its own, and its place is a hole -/
theorem wk_takeRow {n i z m : Nat} {E F s : Nat} {vss : List (List Value)} {vs : List Value} (hc : S.ch n = some ⟨true, E, 1, .rows F vss []⟩) (hs0 : S.sl s = some (o1 (.esl n i 0 m))) (hi : vss[i]? = some vs) (hm : vs.length = m) (hzn : Nat.beq z n = false) :
    Wk S ((((S.cutE n).set n ⟨true, E, 1, .rows F vss [i]⟩).new z ⟨true, F, 1, .vals vs⟩).put s (o1 (.sl z 0 m))) := by
  have hne : z ≠ n := fun e => by rw [e] at hzn; simp at hzn
  subst hm
  refine ⟨fun w0 ω0 nt a w ⟨η, ω, h⟩ => ?_⟩
  obtain ⟨u, hu, hdu⟩ := h.slots s _ hs0
  have hdu : Den1 η (.esl n i 0 vs.length) u := hdu
  obtain ⟨hd, e1, e2, e3⟩ := h.chunk hc
  have e3 : VecO ω w (n, none) hd E vss.length (cellsOK η ω w true n (.rows F vss [])) := e3
  obtain ⟨ao, rfl, q1, _⟩ := hdu.2 hd e1
  have hil : i < vss.length := (List.getElem?_eq_some_iff.1 hi).1
  obtain ⟨b0, o0, u0, _, _, g3⟩ := Vec.get (own := true) e3 hil
  obtain ⟨r1, r2, r3⟩ := g3.2 (by simp) vs hi
  have r3 : VecO ω w (n, some i) (η.r n i) F vs.length fun j u => vs[j]? = some u := r3
  let ω' : Own? := fun b => if ω b = some (n, some i) then some (z, none) else ω b
  have calm : Calm (S.rm n) ω w ω' w := ⟨rfl, rfl, rfl, Nat.le_refl _, fun b _ hl => ⟨rfl, by
    have h1 : ω b ≠ some (n, some i) := by
      rcases hl with h0 | ⟨y, j, c, h0, h1⟩
      · rw [h0]; simp
      · rw [h0]; intro e; simp at e; rw [e.1, ch_rm, if_pos rfl] at h1; cases h1
    exact if_neg h1⟩⟩
  have key : ChIs { η with r := fun y j => if y = n then η.r n j else η.r y j } ω' w n hd ⟨true, E, 1, .rows F vss [i]⟩ := by
    refine ⟨e2, ?_⟩
    rcases e3 with h0 | ⟨b, o, cs, f1, f2, f3, f4, f5, f6, f7⟩
    · exact .inl h0
    · refine .inr ⟨b, o, cs, f1, (if_neg (by rw [f2]; simp)).trans f2, f3, f4, f5, f6, fun j hj => ?_⟩
      obtain ⟨u', hu', hk⟩ := f7 j hj
      refine ⟨u', hu', hk.1, fun hj' vs' hvs' => ?_⟩
      obtain ⟨m1, m2, m3⟩ := hk.2 (by simp) vs' hvs'
      simp only [if_true]
      refine ⟨m1, m2, VecO.same (fun b2 _ ho => ⟨rfl, ?_⟩) (fun _ _ h => h) m3⟩
      show (if ω b2 = some (n, some i) then some (z, none) else ω b2) = _
      rw [if_neg (by rw [ho]; simp; simpa using hj')]; exact ho
  have h1 := h.rewrite (n := n) (r := η.r n) e1 calm key
  have h2 := h1.lay (x := z) (c := ⟨true, F, 1, .vals vs⟩) (hd := η.r n i) (r := fun _ => ⟨none, 0, 1⟩) (Calm.refl _ _ _) ⟨r2, by
    show VecO ω' w (z, none) (η.r n i) F vs.length _
    rcases r3 with h0 | ⟨b, o, cs, f1, f2, f3, f4, f5, f6, f7⟩
    · exact .inl h0
    · exact .inr ⟨b, o, cs, f1, if_pos f2, f3, f4, f5, f6, f7⟩⟩
  refine ⟨_, ω', { h2 with slots := fun t' av ht' => ?_ }⟩
  rw [sl_put] at ht'
  by_cases e : t' = s
  · subst e
    rw [if_pos rfl] at ht'
    obtain rfl := Option.some.inj ht'
    refine ⟨_, hu, ⟨_, _, rfl⟩, fun hd' he => ?_⟩
    simp [Env.new] at he
    subst he
    exact ⟨_, rfl, fun _ => q1 rfl, fun h0 => absurd h0 (by omega)⟩
  · rw [if_neg e] at ht'
    exact h2.slots t' av ht'

/-- a part of a row -/
theorem stp_sliceE {T : TypeId} {n i len l : Nat} {c : Ch} {F : TypeId} {vss : List (List Value)} {vs : List Value} {hi : Operand} {ki : IntKind} {z : Int} (ht : Nat.blt t nt = true) (hx : S.op x = some (o1 (.esl n i 0 len))) (hc : S.ch n = some c) (hd0 : c.d = .rows F vss []) (hr : vss[i]? = some vs) (hT : elemB P T 1 = true)
    (hhi : S.op hi = some (vv (.int ki z))) (hz : z = (l : Int)) (hlh : l ≤ len) (hl : len ≤ vs.length) : Stp P nt ⟨some t, .slice T x none (some hi) none, ty, ps, af, gd⟩ S (S.put t (o1 (.esl n i 0 l))) :=
  Stp.pure rfl ht fun _ _ η ω a w hs => by
    obtain ⟨hd, h1, h2, h3⟩ := hs.chunk hc
    have hd1 : Den1 η (.esl n i 0 len) (a.eval x) := hs.opv hx
    obtain ⟨ao, e1, e2, e3⟩ := hd1.2 hd h1
    obtain ⟨e, inf, g1, g2, g3⟩ := elemB_spec hT
    rw [hd0] at h3
    have hil : i < vss.length := (List.getElem?_eq_some_iff.1 hr).1
    obtain ⟨b0, o0, u0, _, _, k3⟩ := h3.get (j := i) hil
    obtain ⟨r1, r2, r3⟩ := k3.2 (by simp) vs hr
    have hcap := r3.cap
    rw [r2, Nat.mul_one] at hcap
    rw [Nat.sub_zero] at e1
    have hrun := run_sliceT (P := P) (lo := none) (hi := some hi) (l := 0) (h := l) (len := len) (m := (η.r n i).c) (ao := ao) g1 g2 hs rfl ⟨ki, z, hhi, hz⟩ (Nat.zero_le _) (by omega)
    refine ⟨.slice (if (η.r n i).c = 0 then ao else ao.map (·.add (0 * inf.size))) (l - 0) ((η.r n i).c - 0), by simp only [execOp, e1]; simp only [Option.map_none, Option.map_some] at hrun ⊢; simp [hrun], ⟨_, _, rfl⟩, fun hd' he => ?_⟩
    rw [h1] at he; obtain rfl := Option.some.inj he
    refine ⟨_, rfl, fun h0 => ?_, fun h0 hlt => absurd h0 (by omega)⟩
    rw [e2 rfl]
    split
    · rfl
    · cases (η.r n i).ao <;> simp [Addr.add]
end
end Go.Proofs.Ytpognnifgcacnaa

/- The laws' own helpers on []int64: the copy, the comparison, the marks. -/
namespace Go.Proofs.Ytpognnifgcacnaa
open Go.RowKit

theorem etI : ET Try.prog 49 2 (.int .i64 0) 8 := ⟨Try.underlying49, by kernel_rfl, rfl, by omega⟩

end Go.Proofs.Ytpognnifgcacnaa

/- slices.Repeat at []int64. -/
namespace Go.Proofs.Ytpognnifgcacnaa
open Go.RowKit

theorem ofInt_u64 (a : Nat) (ha : a < 18446744073709551616) : (BitVec.ofInt 64 (a : Int)).toNat = a := by
  rw [BitVec.ofInt_natCast, BitVec.toNat_ofNat]; exact Nat.mod_eq_of_lt (by omega)
theorem and_low (a : Nat) (ha : a ≤ 1048576) : bits .and .u64 (a : Int) 4294967295 = (a : Int) := by
  show IntKind.u64.wrap ((BitVec.ofInt 64 (a : Int) &&& BitVec.ofInt 64 ((4294967295 : Nat) : Int)).toNat : Int) = _
  rw [BitVec.toNat_and, ofInt_u64 a (by omega), ofInt_u64 4294967295 (by omega), show (4294967295 : Nat) = 2 ^ 32 - 1 from rfl, Nat.and_two_pow_sub_one_eq_mod, Nat.mod_eq_of_lt (by omega)]
  simp [IntKind.wrap, IntKind.signed, IntKind.bits]; omega

theorem wrap_u64_nat (a : Nat) (ha : a ≤ 4294967295) : IntKind.u64.wrap ((a : Nat) : Int) = (a : Int) := by
  simp [IntKind.wrap, IntKind.signed, IntKind.bits]; omega

set_option maxHeartbeats 400000 in
theorem bitsMul_any (a b : Nat) (w : World) (ha : a ≤ 1048576) (hb : b ≤ 1048576) (hab : a * b ≤ 4294967295) :
    Calls Try.prog 214 #[.int .u64 a, .int .u64 b] w fun e w' => e = .returned (.tuple #[.int .u64 0, .int .u64 ((a * b : Nat) : Int)]) ∧ w = w' := by
  have e1 : (a : Int) / 4294967296 = 0 := by omega
  have e2 : (b : Int) / 4294967296 = 0 := by omega
  have e3 : bits .and .u64 (a : Int) 4294967295 = (a : Int) := and_low a ha
  have e4 : bits .and .u64 (b : Int) 4294967295 = (b : Int) := and_low b hb
  have e5 : (a : Int) * (b : Int) = ((a * b : Nat) : Int) := by rw [Int.natCast_mul]
  have e6 : IntKind.u64.wrap ((a : Int) * (b : Int)) = ((a * b : Nat) : Int) := by rw [e5]; exact wrap_u64_nat _ hab
  have e7 : ((a : Int) * (b : Int)) / 4294967296 = 0 := by rw [e5]; omega
  have e8 : bits .and .u64 0 4294967295 = 0 := by decide +kernel
  have e9 : IntKind.u64.wrap 0 = 0 := by decide +kernel
  have H6 := Lib.hid e6
  have H5 := Lib.hid e5
  clear e5 e6
  have e10 : IntKind.u64.wrap ((a : Int) * (b : Int)) = (a : Int) * (b : Int) := by rw [H6.out, H5.out]
  go_enter Try.func214, Try.ntmps214
  go_wp2
  go_ret2
  exact ⟨by simp, rfl⟩

/-- a list again and again -/
def repL {α : Type} (zs : List α) (count : Nat) : List α := (List.replicate count zs).flatten
theorem length_repL {α : Type} (zs : List α) (count : Nat) : (repL zs count).length = zs.length * count := by
  unfold repL; rw [List.length_flatten]; simp; exact Nat.mul_comm _ _
theorem repL_add {α : Type} (zs : List α) (a b : Nat) : repL zs (a + b) = repL zs a ++ repL zs b := by
  unfold repL; rw [← List.replicate_append_replicate, List.flatten_append]
theorem repL_one {α : Type} (zs : List α) : repL zs 1 = zs := by simp [repL]
/-- what is copied from the front to behind place k, k a multiple of the period -/
theorem repL_double {α : Type} {zs : List α} {count j c : Nat} (hj : j ≤ count) (hc : c ≤ zs.length * (count - j)) : (repL zs count).take (zs.length * j + c) = (repL zs count).take (zs.length * j) ++ (repL zs count).take c := by
  have h1 : repL zs count = repL zs j ++ repL zs (count - j) := by rw [← repL_add]; congr 1; omega
  have h2 : repL zs count = repL zs (count - j) ++ repL zs j := by rw [← repL_add]; congr 1; omega
  have l1 := length_repL zs j
  have l2 := length_repL zs (count - j)
  have e3 : (repL zs count).take c = (repL zs (count - j)).take c := by rw [h2, List.take_append_of_le_length (by omega)]
  have e4 : (repL zs count).take (zs.length * j) = repL zs j := by rw [h1, ← l1, List.take_left']; rfl
  rw [e3, e4, h1, List.take_append, List.take_of_length_le (by omega)]
  congr 2; omega

theorem splice_pad {α : Type} {R : List α} {z : α} {k c T : Nat} (hR : R.length = T) (hk : k + c ≤ T) (h : R.take (k + c) = R.take k ++ R.take c) : splice (R.take k ++ List.replicate (T - k) z) k (R.take c) = R.take (k + c) ++ List.replicate (T - (k + c)) z := by
  unfold splice
  have l1 : (R.take k).length = k := by simp; omega
  have l2 : (R.take c).length = c := by simp; omega
  rw [List.take_append_of_le_length (by omega), List.take_of_length_le (by omega), l2, List.drop_append, List.drop_of_length_le (by omega), l1, h]
  simp
  omega

theorem splice_map {α β : Type} (f : α → β) (xs : List α) (k : Nat) (ys : List α) : (splice xs k ys).map f = splice (xs.map f) k (ys.map f) := by
  unfold splice; simp

/-- a whole row of the call's own, cell by cell -/
theorem Own.heap_ {w : World} {base E g T : Nat} {xs : List Value} (h : Own w base E (some ⟨g, 0, none⟩) T T xs) : w.heap[g]? = some (.cells xs.toArray E (0, 0)) := by
  rcases h.1.2 with ⟨h2, _⟩ | ⟨g', cap, cur, hv, _, hh, _, _, hs, ht⟩
  · cases h2
  · injection hv with h1 h2 h3
    injection h1 with h1; injection h1 with h1
    subst h1 h3
    have : cur.toList = xs := by rw [← ht, List.take_of_length_le]; rw [Array.length_toList, hs]; exact Nat.le_refl _
    rw [hh, ← this, Array.toArray_toList]
theorem Own.of_heap {w w' : World} {base E g T : Nat} {xs ys : List Value} (h : Own w base E (some ⟨g, 0, none⟩) T T xs) (hh : w'.heap[g]? = some (.cells ys.toArray E (0, 0))) (hl : ys.length = T) : Own w' base E (some ⟨g, 0, none⟩) T T ys := by
  refine ⟨⟨by rw [hl, Nat.mul_one], .inr ⟨g, T, ys.toArray, rfl, (h.lt g rfl).1, hh, Nat.le_refl _, by have := h.2; simp [maxLen]; omega, by simp [hl], ?_⟩⟩, h.2⟩
  simp [← hl]
section
variable {P : Program} {ops : Array Oper} {rest : List Oper} {o : Oper} {a : Act} {Q : Exit → Act → World → Prop}
/-- copy into a row of the call's own -/
theorem wpList_cp {S E : TypeId} {z : Value} {bytes : Nat} (et : ET P S E z bytes) (w : World) (hg : o.guard = none) (d s : Operand) (ho : o.op = .call { callee := .builtin .copy, args := #[d, s], argTypes := #[S, S] })
    (base g T off : Nat) (xs cs : List Value) (hown : Own w base E (some ⟨g, 0, none⟩) T T xs) (dp : Option Addr) (dLen dCap : Nat) (hd : a.eval d = .slice dp dLen dCap) (sp : Option Addr) (sLen sCap : Nat) (hs : a.eval s = .slice sp sLen sCap)
    (hn : cs.length = Nat.min sLen dLen) (hpos : 0 < cs.length → dp = some ⟨g, off, none⟩ ∧ ∃ ad, sp = some ad ∧ ∀ j v, cs[j]? = some v → w.cell? (ad.add j) = some v) (hfit : off + cs.length ≤ T) (h1 : ∀ v ∈ cs, v.oneCell' = true)
    (h : ∀ w', Own w' base E (some ⟨g, 0, none⟩) T T (splice xs off cs) → Below g w w' → wpList P ops Q rest (a.put o.dst (goInt cs.length)) w') : wpList P ops Q (o :: rest) a w := by
  obtain ⟨i, hi, hz, hsz, hby⟩ := info_parts et.info
  refine wpList_copy_splice hg d s S S ho E et.und (by rw [hi]; simp [hsz]) dp sp dLen dCap sLen sCap hd hs g off xs E hown.heap_ cs hn hpos (by rw [hown.len]; exact hfit) h1 g w (Below.refl _ _) (Nat.le_refl _) ?_
  intro w' hh hb
  exact h w' (hown.of_heap hh.out (by rw [length_splice _ _ _ (by rw [hown.len]; exact hfit), hown.len])) hb
theorem step_cp {S E : TypeId} {z : Value} {bytes : Nat} (et : ET P S E z bytes) {w : World} {K : Act → World → Prop} {X : Prop} (hg : o.guard = none) (d s : Operand) (ho : o.op = .call { callee := .builtin .copy, args := #[d, s], argTypes := #[S, S] })
    (base g T off : Nat) (xs cs : List Value) (hown : Own w base E (some ⟨g, 0, none⟩) T T xs) (dp : Option Addr) (dLen dCap : Nat) (hd : a.eval d = .slice dp dLen dCap) (sp : Option Addr) (sLen sCap : Nat) (hs : a.eval s = .slice sp sLen sCap)
    (hn : cs.length = Nat.min sLen dLen) (hpos : 0 < cs.length → dp = some ⟨g, off, none⟩ ∧ ∃ ad, sp = some ad ∧ ∀ j v, cs[j]? = some v → w.cell? (ad.add j) = some v) (hfit : off + cs.length ≤ T) (h1 : ∀ v ∈ cs, v.oneCell' = true)
    (h : ∀ w', Own w' base E (some ⟨g, 0, none⟩) T T (splice xs off cs) → Below g w w' → K (a.put o.dst (goInt cs.length)) w') : if Region.wanted o (yielded ops a.tmps) = true then Oper.wp P o a w K Q else X := by
  obtain ⟨i, hi, hz, hsz, hby⟩ := info_parts et.info
  refine step_copy_splice hg d s S S ho E et.und (by rw [hi]; simp [hsz]) dp sp dLen dCap sLen sCap hd hs g off xs E hown.heap_ cs hn hpos (by rw [hown.len]; exact hfit) h1 g w (Below.refl _ _) (Nat.le_refl _) ?_
  intro w' hh hb
  exact h w' (hown.of_heap hh.out (by rw [length_splice _ _ _ (by rw [hown.len]; exact hfit), hown.len])) hb
end

set_option maxRecDepth 100000 in
set_option maxHeartbeats 3200000 in
theorem repeat_any (ao : Option Addr) (n c count : Nat) (zs : List Int) (w : World) (h : Ints w ao n zs) (hn : n ≤ 1048576) (hc : count ≤ 1048576) (hnc : n * count ≤ 1048576) (hpos : 0 < n * count) :
    Calls Try.prog 180 #[.slice ao n c, .int .i64 count] w fun e w' => ∃ ao' c', e = .returned (.slice ao' (n * count) c') ∧ Own w' w.heap.size 2 ao' (n * count) c' ((repL zs count).map (Value.int .i64)) ∧ Below w.heap.size w w' := by
  have HL := Lib.hid h.1
  have hn0 : 0 < n := Nat.pos_of_mul_pos_right hpos
  have hc0 : 0 < count := Nat.pos_of_mul_pos_left hpos
  have hle : n ≤ n * count := Nat.le_mul_of_pos_right _ hc0
  obtain ⟨T, hT⟩ : ∃ T, n * count = T := ⟨_, rfl⟩
  rw [hT] at hpos hle ⊢
  have HT := Lib.hid hT
  have hT2 : T ≤ 1048576 := by omega
  clear hT hnc
  have hRl : ((repL zs count)).length = T := by rw [length_repL, HL.out, HT.out]
  have HR := Lib.hid hRl
  clear hRl
  obtain ⟨b, off, rfl, hb0, hcells⟩ := h.all_ hn0
  obtain ⟨cs, hcs⟩ : ∃ cs : List Value, cs = ((repL zs count).take n).map (Value.int .i64) := ⟨_, rfl⟩
  have hcl : cs.length = n := by rw [hcs]; simp [HR.out]; omega
  have hc1 : ∀ v ∈ cs, v.oneCell' = true := by rw [hcs]; exact ints_oneCell _ _
  have hcsv : ∀ j v, cs[j]? = some v → w.cell? ⟨b, off + j, none⟩ = some v := by
    intro j v hv
    have hj : j < n := by have := (List.getElem?_eq_some_iff.1 hv).1; omega
    have hrn : (repL zs count).take n = zs := by
      have e : repL zs count = zs ++ repL zs (count - 1) := by
        have : count = 1 + (count - 1) := by omega
        conv => lhs; rw [this]
        rw [repL_add, repL_one]
      rw [e, ← HL.out, List.take_left']; rfl
    rw [hcs, hrn, List.getElem?_map, List.getElem?_eq_getElem (by rw [HL.out]; exact hj)] at hv
    rw [hcells j hj, ← hv, iget_lt (by rw [HL.out]; exact hj)]; rfl
  have HCS := Lib.hid hcs
  have HCL := Lib.hid hcl
  have HC1 := Lib.hid hc1
  have HCV := Lib.hid hcsv
  have x1 := wrap_u64_nat n (by omega)
  have x2 := wrap_u64_nat count (by omega)
  clear hcs hcl hc1 hcsv hcells
  go_enter Try.func180, Try.ntmps180
  go_wp2_with (first | (go_at_call 214; refine (bitsMul_any n count _ hn hc (by rw [HT.out]; omega)).mono ?_; rintro e w' ⟨rfl, rfl⟩; rw [HT.out]) | (at_make; refine wpList_mk etI _ rfl _ _ rfl w.heap.size _ _ _ _ T rfl rfl rfl rfl (by omega) (Nat.le_refl _) ?_; intro w1 hown hgrow hsz; have hb1 : Below w.heap.size w w1 := (Below.refl _ _).grown hgrow (Nat.le_refl _) (by simp); clear hgrow) | (with_reducible refine wpList_cp (o := ⟨some 33, _, _, _, _, _⟩) etI _ rfl (.tmp 31) (.tmp 32) rfl w.heap.size w.heap.size T 0 _ cs hown _ _ _ rfl _ _ _ rfl ?_ ?_ ?_ HC1.out ?_))
  · rw [HCL.out]; exact (Nat.min_eq_left hle).symm
  · exact fun _ j v hv => (hb1.cell (p := ⟨b, off + j, none⟩) hb0).trans (HCV.out j v hv)
  · rw [HCL.out]; omega
  intro w2 o2 b2
  have hb2 : Below w.heap.size w w2 := hb1.trans b2
  have e0 : splice (List.replicate T (Value.int .i64 0)) 0 cs = ((repL zs count).take n ++ List.replicate (T - n) 0).map (Value.int .i64) := by
    rw [HCS.out, ← List.map_replicate]
    have := splice_pad (R := repL zs count) (z := (0 : Int)) (k := 0) (c := n) HR.out (by omega) (by simp)
    simp only [List.take_zero, List.nil_append, Nat.zero_add, Nat.sub_zero] at this
    rw [← this]
    simp [splice]
  rw [e0] at o2
  rw [HCL.out]
  clear e0 hown hsz hb1 b2 HCV HC1 HCS HCL
  go_wp2
  go_loopw [8] (fun i wr => ∃ k j : Nat, i = .int .i64 k ∧ 0 < k ∧ k ≤ T ∧ (k = n * j ∧ j ≤ count ∨ k = T) ∧ Own wr w.heap.size 2 (some ⟨w.heap.size, 0, none⟩) T T (((repL zs count).take k ++ List.replicate (T - k) 0).map (Value.int .i64)) ∧ Below w.heap.size w wr) (fun i _ => T - (intOf i).toNat)
  case atStart => exact ⟨n, 1, by simp, hn0, hle, .inl ⟨by omega, by omega⟩, o2, hb2⟩
  case round =>
    obtain ⟨k, j, rfl, hk0, hkT, hkj, ho, hb⟩ := hrel
    clear o2 hb2
    have HK := Lib.hid hkj
    clear hkj
    by_cases hlt : k < T
    · obtain ⟨c2, hc2⟩ : ∃ c2, c2 = Nat.min k (T - k) := ⟨_, rfl⟩
      have hc2a : c2 ≤ k := by rw [hc2]; exact Nat.min_le_left _ _
      have hc2b : c2 ≤ T - k := by rw [hc2]; exact Nat.min_le_right _ _
      have hc2c : 0 < c2 := by rw [hc2]; exact Nat.lt_min.2 ⟨hk0, by omega⟩
      have hdb : (repL zs count).take (k + c2) = (repL zs count).take k ++ (repL zs count).take c2 := by
        rcases HK.out with ⟨e, hj⟩ | e
        · have hx : c2 ≤ zs.length * (count - j) := by rw [HL.out, Nat.mul_sub, HT.out, ← e]; exact hc2b
          have := repL_double (zs := zs) hj hx
          rwa [HL.out, ← e] at this
        · omega
      obtain ⟨cs, hcs⟩ : ∃ cs : List Value, cs = ((repL zs count).take c2).map (Value.int .i64) := ⟨_, rfl⟩
      have hcl : cs.length = c2 := by rw [hcs]; simp [HR.out]; omega
      have hc1 : ∀ v ∈ cs, v.oneCell' = true := by rw [hcs]; exact ints_oneCell _ _
      have hcsv : ∀ j v, cs[j]? = some v → wr.cell? ⟨w.heap.size, j, none⟩ = some v := by
        intro j v hv
        have hj : j < c2 := by have := (List.getElem?_eq_some_iff.1 hv).1; omega
        obtain ⟨g', eg, -, -, -, hcell, -⟩ := ho.form (by omega)
        injection eg with eg; injection eg with eg; subst eg
        rw [hcell j (by omega), ← hv, hcs, List.getElem?_map, List.getElem?_map, List.getElem?_append_left (by simp [HR.out]; omega), List.getElem?_take, List.getElem?_take, if_pos (by omega), if_pos (by omega)]
      have HD := Lib.hid hdb
      have HC := Lib.hid hcs
      have HCL := Lib.hid hcl
      have HC1 := Lib.hid hc1
      have HCV := Lib.hid hcsv
      have HC2 := Lib.hid hc2
      have hTk : ((T - k : Nat) : Int) = (T : Int) - k := by omega
      clear hdb hcs hcl hc1 hcsv hc2 hTk
      go_wp2_with fail
      have HB := Lib.hid hb
      have HS := Lib.hid (show ((k : Nat) : Int) + ((c2 : Nat) : Int) = ((k + c2 : Nat) : Int) by omega)
      have hw : IntKind.i64.wrap (((k + c2 : Nat) : Nat) : Int) = ((k + c2 : Nat) : Int) := by simp [IntKind.wrap, IntKind.signed, IntKind.bits]; omega
      have HW := Lib.hid hw
      clear hw
      go_region_held3 (fun w' => Below w.heap.size w w') (first | exact HB.out.drew | assumption) (first | (refine step_cp (o := ⟨some 45, _, _, _, _, _⟩) etI rfl (.tmp 41) (.tmp 44) rfl w.heap.size w.heap.size T k _ cs (ho.drewN 1) _ _ _ rfl _ _ _ rfl ?_ ?_ ?_ HC1.out ?_; (rw [HCL.out, HC2.out]); (intro _; exact ⟨if_neg (by omega), _, rfl, fun j v hv => by have hx := HCV.out j v hv; by_cases e : j = 0 <;> simp_all [Addr.add]⟩); (rw [HCL.out]; omega); intro w3 o3 b3; have b4 : Below w.heap.size w w3 := HB.out.drew.trans b3))
      rw [HCL.out, HS.out, HW.out]
      have o4 : Own w3 w.heap.size 2 (some ⟨w.heap.size, 0, none⟩) T T (((repL zs count).take (k + c2) ++ List.replicate (T - (k + c2)) 0).map (Value.int .i64)) := by
        have e := splice_pad (R := repL zs count) (z := (0 : Int)) (k := k) (c := c2) HR.out (by omega) HD.out
        rw [← e]
        rw [HC.out] at o3
        rw [splice_map]
        exact o3
      go_roundw
      case rel =>
        refine ⟨_, _, _, _, _, _, _, _, _, _, _, _, _, _, ⟨k + c2, 2 * j, rfl, by omega, by omega, ?_, o4, b4⟩, rfl⟩
        rcases HK.out with ⟨e, hj⟩ | e
        · by_cases hx : k ≤ T - k
          · have hc2k : c2 = k := by rw [HC2.out]; exact Nat.min_eq_left hx
            left
            have e2 : n * (2 * j) = k + k := by rw [e, Nat.mul_left_comm]; omega
            refine ⟨by omega, ?_⟩
            have : n * (2 * j) ≤ n * count := by rw [HT.out]; omega
            exact Nat.le_of_mul_le_mul_left this hn0
          · have hc2k : c2 = T - k := by rw [HC2.out]; exact Nat.min_eq_right (by omega)
            right; omega
        · omega
      case measure => simp [intOf]; omega
    · obtain rfl : k = T := by omega
      rw [Nat.sub_self, List.replicate_zero, List.append_nil, List.take_of_length_le (Nat.le_of_eq HR.out)] at ho
      go_wp2
      go_ret
      exact ⟨_, _, rfl, ho, hb⟩
end Go.Proofs.Ytpognnifgcacnaa

/- Contracts in names of small functions: size, slices.Repeat. -/
namespace Go.Proofs.Ytpognnifgcacnaa
open Go.RowKit

theorem sizeR_fc (x n : Nat) : FC Try.prog 145 [] [o1 (.sl x 0 n)] [] (vv (I6 n)) [] := by
  refine fc_enter (nt := 5) Try.func145 rfl rfl (by simp) fun w0 ω0 => ?_
  (refine goes_seq ?_; refine goes_region ?_; apply run_step rfl; (exact stp_assign rfl rfl); refine run_nil ?_; refine fin_seq ?_; refine goes_seq ?_; refine goes_region ?_; apply run_step rfl; (exact stp_move rfl rfl); apply run_step rfl; (exact stp_len rfl rfl rfl (by as_aux_lemma => kernel_rfl)); apply run_step rfl; (exact stp_assign rfl rfl); refine run_nil ?_; refine fin_seq ?_; refine goes_ret ?_)
  exact fin_ret1 (.inl rfl) rfl (.tmp rfl) trivial trivial
theorem sizeV_fc (x n : Nat) : FC Try.prog 139 [] [o1 (.sl x 0 n)] [] (vv (I6 n)) [] := by
  refine fc_enter (nt := 5) Try.func139 rfl rfl (by simp) fun w0 ω0 => ?_
  (refine goes_seq ?_; refine goes_region ?_; apply run_step rfl; (exact stp_assign rfl rfl); refine run_nil ?_; refine fin_seq ?_; refine goes_seq ?_; refine goes_region ?_; apply run_step rfl; (exact stp_move rfl rfl); apply run_step rfl; (exact stp_len rfl rfl rfl (by as_aux_lemma => kernel_rfl)); apply run_step rfl; (exact stp_assign rfl rfl); refine run_nil ?_; refine fin_seq ?_; refine goes_ret ?_)
  exact fin_ret1 (.inl rfl) rfl (.tmp rfl) trivial trivial

theorem repL_single (z : Int) : ∀ n, repL [z] n = List.replicate n z := fun n => by
  unfold repL
  induction n with
  | zero => rfl
  | succ n ih => simp [List.replicate_succ] at ih ⊢
theorem lk_self {α : Type} (x : Nat) (c : α) : lk x [(x, c)] = some c := by simp [lk]
/-- slices.Repeat of a list of one number -/
theorem repeat1_fc (x y n : Nat) (z : Int) (hn : n ≤ 1048576) (hn0 : 0 < n) :
    FC Try.prog 180 [(x, ⟨false, 2, 1, .vals (ivals [z])⟩)] [o1 (.sl x 0 1), vv (I6 n)] [(y, ⟨true, 2, 1, .vals (ivals (List.replicate n z))⟩)] (o1 (.sl y 0 n)) [] := by
  have h := fc_of_own (P := Try.prog) (f := 180) (ins := [(x, ⟨false, 2, 1, .vals (ivals [z])⟩)]) (args := [o1 (.sl x 0 1), vv (I6 n)]) (x := y) (E := 2) (zs := List.replicate n z) fun w η ω us hm hd => by
    obtain ⟨hl, ha⟩ := hd
    obtain ⟨u0, h0, d0⟩ := ha 0 _ rfl
    obtain ⟨u1, h1, d1⟩ := ha 1 _ rfl
    obtain ⟨ao, c, e0, hi⟩ := rdS (zs := [z]) (E := 2) (own := false) hm (lk_self _ _) d0 (by simp)
    have d1 : u1 = I6 n := d1
    subst e0 d1
    obtain rfl : us = [.slice ao 1 c, I6 n] := by
      match us, hl, h0, h1 with
      | [p, q], _, h0, h1 => simp at h0 h1; rw [h0, h1]
    refine (repeat_any ao 1 c n [z] w hi (by omega) hn (by omega) (by omega)).mono ?_
    rintro e w' ⟨ao', c', rfl, ho, hb⟩
    rw [Nat.one_mul, repL_single] at ho
    rw [List.length_replicate]
    exact ⟨ao', c', by rw [Nat.one_mul], ho, hb⟩
  rw [List.length_replicate] at h
  exact h
end Go.Proofs.Ytpognnifgcacnaa

/- The program's coset enumeration: define. -/
namespace Go.Proofs.Ytpognnifgcacnaa
open Go.RowKit

theorem iDefine_full (im : List (List Int)) (less : List Int) (m n c g : Nat) (b : Bool) (hm : im.length = m) (h : 2000 ≤ im.length) :
    FC Try.prog 194 [(1010, coOw m n b), (1000, imOw im), (1001, leOw less)] [o1 (.ptr 1010 0), vv (I6 c), vv (I6 g)] [(1010, coOw m n true), (1000, imOw im), (1001, leOw less)] (vv (I6 c)) [(0, o1 (.ptr 1010 0))] := by
  have hS := sizeR_fc 1000 m
  refine fc_enter (nt := 53) Try.func194 rfl rfl (by simp) fun w0 ω0 => ?_
  (refine goes_seq ?_; refine goes_region ?_; apply run_step rfl; (exact stp_assign rfl rfl); refine run_nil ?_; refine fin_seq ?_; refine goes_seq ?_; refine goes_region ?_; apply run_step rfl; (exact stp_move rfl rfl); apply run_step rfl; (exact stp_nilCheck rfl rfl rfl); apply run_step rfl; (exact stp_fieldAddr (d := 0) rfl rfl rfl (by as_aux_lemma => kernel_rfl)); apply run_step rfl; (exact stp_loadF rfl (by as_aux_lemma => kernel_rfl) rfl rfl rfl rfl); apply run_step rfl; (apply call_gate 145; exact stp_callR hS (by as_aux_lemma => kernel_rfl) rfl rfl ⟨rfl, trivial⟩ trivial rfl rfl); apply run_step rfl; (exact stp_assign rfl rfl); refine run_nil ?_; refine fin_seq ?_; refine goes_seq ?_; refine goes_seq ?_; refine goes_region ?_; apply run_step rfl; (exact stp_move rfl rfl); apply run_step rfl; (exact stp_bin rfl rfl rfl rfl); refine run_nil ?_; refine fin_seq ?_)
  refine goes_cond rfl (fun e => ?_) (fun e => ?_)
  · (refine goes_seq ?_; refine goes_region ?_; apply run_step rfl; (exact stp_move rfl rfl); apply run_step rfl; (exact stp_nilCheck rfl rfl rfl); apply run_step rfl; (exact stp_fieldAddr (d := 2) rfl rfl rfl (by as_aux_lemma => kernel_rfl)); apply run_step rfl; (exact stp_storeF rfl rfl rfl rfl rfl rfl (by as_aux_lemma => kernel_rfl) rfl); refine run_nil ?_; refine fin_seq ?_; refine goes_seq ?_; refine goes_region ?_; apply run_step rfl; (exact stp_move rfl rfl); apply run_step rfl; (exact stp_assign rfl rfl); refine run_nil ?_; refine fin_seq ?_; refine goes_ret ?_; refine fin_ret_then ?_)
    exact fin_ret1 (.inl rfl) rfl (.tmp rfl) ⟨rfl, rfl, rfl, trivial⟩ ⟨rfl, trivial⟩
  · exfalso; simp at e; omega

set_option maxRecDepth 100000 in
set_option maxHeartbeats 2000000 in
theorem iDefine_fc (ng : Nat) (im : List (List Int)) (less : List Int) (m n c g : Nat) (b : Bool) (hm : im.length = m) (hn : less.length = n) (h : im.length < 2000) (hw : WF ng im less) (hc : c < less.length) (hg : g < ng) (hng : ng ≤ 1000) :
    FC Try.prog 194 [(1010, coOw m n b), (1000, imOw im), (1001, leOw less)] [o1 (.ptr 1010 0), vv (I6 c), vv (I6 g)] [(1010, coOw (m + 1) (n + 1) b), (1000, imOw (addC ng im less.length c g)), (1001, leOw (less ++ [(n : Int)]))] (vv (I6 n)) [(0, o1 (.ptr 1010 0))] := by
  have hlen := hw.len
  obtain rfl : m = n := by omega
  subst hn
  have hS := sizeR_fc 1000 less.length
  have h0 := hw.row 0 (by omega)
  have hrow0 : (irows im)[0]? = some (ivals (lget im 0)) := irows_get (by omega)
  have hR : FC Try.prog 180 [(24, ⟨false, 2, 1, .vals (ivals [-1])⟩)] [o1 (.sl 24 0 1), vv (I6 ng)] [(32, ⟨true, 2, 1, .vals (ivals (List.replicate ng (-1)))⟩)] (o1 (.sl 32 0 ng)) [] := repeat1_fc 24 32 ng (-1) (by omega) (by omega)
  have hA := hw.app
  have hlA : (im ++ [List.replicate ng (-1)]).length = less.length + 1 := by simp; omega
  have hL := iLink_fc (im ++ [List.replicate ng (-1)]) (less ++ [(less.length : Int)]) (less.length + 1) (less.length + 1) c less.length g b hlA (by omega) (by rw [hA.row c (by omega)]; exact hg) (by omega) (by rw [hA.row less.length (by omega)]; exact hg)
  refine fc_enter (nt := 53) Try.func194 rfl rfl (by simp) fun w0 ω0 => ?_
  (refine goes_seq ?_; refine goes_region ?_; apply run_step rfl; (exact stp_assign rfl rfl); refine run_nil ?_; refine fin_seq ?_; refine goes_seq ?_; refine goes_region ?_; apply run_step rfl; (exact stp_move rfl rfl); apply run_step rfl; (exact stp_nilCheck rfl rfl rfl); apply run_step rfl; (exact stp_fieldAddr (d := 0) rfl rfl rfl (by as_aux_lemma => kernel_rfl)); apply run_step rfl; (exact stp_loadF rfl (by as_aux_lemma => kernel_rfl) rfl rfl rfl rfl); apply run_step rfl; (apply call_gate 145; exact stp_callR hS (by as_aux_lemma => kernel_rfl) rfl rfl ⟨rfl, trivial⟩ trivial rfl rfl); apply run_step rfl; (exact stp_assign rfl rfl); refine run_nil ?_; refine fin_seq ?_; refine goes_seq ?_; refine goes_seq ?_; refine goes_region ?_; apply run_step rfl; (exact stp_move rfl rfl); apply run_step rfl; (exact stp_bin rfl rfl rfl rfl); refine run_nil ?_; refine fin_seq ?_)
  refine goes_cond rfl (fun e => ?_) (fun e => ?_)
  · exfalso; simp at e; omega
  · (refine goes_skip ?_; refine fin_seq ?_; refine goes_seq ?_)
    refine goes_cut (St.of [(0, o1 (.ptr 1010 0)), (1, vv (I6 c)), (2, vv (I6 g)), (7, vv (I6 less.length))] [(1010, ⟨true, 179, 3, .flat [.sl 1000 0 (less.length + 1), .sl 1001 0 less.length, .val (.bool b)]⟩), (1000, imOw (im ++ [List.replicate ng (-1)])), (1001, leOw less)] [(0, o1 (.ptr 1010 0))]) ?_ ?_
    · apply goes_drawF 15 [] 0 [[], [], [1], [1, 2], [1, 2, 3], [], [], [6], [6, 7], [6, 7, 8], [6, 7, 8, 9], [6, 7, 8, 9, 10], [6, 7, 8, 9, 10, 11], [5, 6, 7, 8, 9, 10, 11, 12], [5, 6, 7, 8, 9, 10, 11, 12, 13], [1, 2, 3, 4, 5, 6, 7, 8, 9, 10, 11, 12, 13, 14], [0, 1, 2, 3, 4, 5, 6, 7, 8, 9, 10, 11, 12, 13, 14, 15], [0, 1, 2, 3, 4, 5, 6, 7, 8, 9, 10, 11, 12, 13, 14, 15, 16], [0, 1, 2, 3, 4, 5, 6, 7, 8, 9, 10, 11, 12, 13, 14, 15, 16, 17]] [19, 20, 21, 22, 23, 24, 25, 26, 27, 28, 29, 30, 31, 32, 33] [24, 32, 33] (by kernel_rfl) (by kernel_rfl) (by kernel_rfl)
      · (apply draw_put rfl; (intro S1 hS; exact stp_move rfl (hS.op rfl)); apply draw_put rfl; (intro S1 hS; exact stp_move rfl (hS.op rfl)); apply draw_put rfl; (intro S1 hS; exact stp_nilCheck rfl (hS.op rfl) (hS.ch _ _ rfl)); apply draw_put rfl; (intro S1 hS; exact stp_fieldAddr (d := 0) rfl (hS.op rfl) (hS.ch _ _ rfl) (by as_aux_lemma => kernel_rfl)); apply draw_put rfl; (intro S1 hS; exact stp_loadF rfl (by as_aux_lemma => kernel_rfl) (hS.op rfl) (hS.ch _ _ rfl) rfl rfl); apply draw_new rfl; (intro S1 hS; exact stp_lit1I (E := 2) rfl (by as_aux_lemma => kernel_rfl) (hS.op rfl)); apply draw_put rfl; (intro S1 hS; exact stp_move rfl (hS.op rfl)); apply draw_put rfl; (intro S1 hS; exact stp_nilCheck rfl (hS.op rfl) (hS.ch _ _ rfl)); apply draw_put rfl; (intro S1 hS; exact stp_fieldAddr (d := 0) rfl (hS.op rfl) (hS.ch _ _ rfl) (by as_aux_lemma => kernel_rfl)); apply draw_put rfl; (intro S1 hS; exact stp_loadF rfl (by as_aux_lemma => kernel_rfl) (hS.op rfl) (hS.ch _ _ rfl) rfl rfl); apply draw_put rfl; (intro S1 hS; exact stp_ix rfl (hS.op rfl) (hS.op rfl) (hS.ch _ _ rfl) rfl (by as_aux_lemma => kernel_rfl) (by first | rfl | exact (Int.toNat_of_nonneg (by omega)).symm) (by first | assumption | omega | (simp; omega)) (by first | exact Nat.le_refl _ | exact Nat.le_of_eq (ivals_len _).symm | exact Nat.le_of_eq (irows_len _).symm | (refine Nat.le_trans ?_ (Nat.le_of_eq (ivals_len _).symm); (first | omega | (simp; done) | (simp; omega))) | (refine Nat.le_trans ?_ (Nat.le_of_eq (irows_len _).symm); (first | omega | (simp; done) | (simp; omega))))); apply draw_put rfl; (intro S1 hS; exact stp_loadR rfl (by as_aux_lemma => kernel_rfl) (hS.op rfl) (hS.ch _ _ rfl) rfl (by first | assumption | exact ivals_get (by assumption) | exact irows_get (by assumption) | exact ivals_get (by omega) | exact irows_get (by omega) | rfl) (by first | exact ivals_len _ | assumption | rfl)); apply draw_put rfl; (intro S1 hS; exact stp_len rfl (hS.op rfl) rfl (by as_aux_lemma => kernel_rfl)); (apply draw_new rfl; (focus (intro S1 hS1; apply call_gate 180; exact stp_callN hR (by as_aux_lemma => kernel_rfl) rfl (opL_le hS1 rfl) ⟨rfl, congrArg (fun z : Nat => vv (I6 z)) h0, trivial⟩ (allIn_le hS1 ⟨⟨_, rfl, .inr rfl⟩, trivial⟩) rfl rfl rfl))); apply draw_new rfl; (intro S1 hS; exact stp_lit1 (E := 49) rfl (by as_aux_lemma => kernel_rfl) (hS.op rfl) rfl rfl); exact Draw.nil)
      · rfl
      · ((apply rest_one 15 rfl (by as_aux_lemma => kernel_rfl) rfl rfl; (exact stp_appR rfl (by as_aux_lemma => kernel_rfl) rfl rfl (by first | rfl | assumption | (simp; done)) rfl rfl rfl (by first | rfl | assumption | (simp; done)) rfl (by omega))); (apply rest_one 16 rfl (by as_aux_lemma => kernel_rfl) rfl rfl; (exact stp_nilCheck rfl rfl rfl)); (apply rest_one 17 rfl (by as_aux_lemma => kernel_rfl) rfl rfl; (exact stp_fieldAddr (d := 0) rfl rfl rfl (by as_aux_lemma => kernel_rfl))); (apply rest_one 18 rfl (by as_aux_lemma => kernel_rfl) rfl rfl; (exact stp_storeF rfl rfl rfl rfl rfl rfl (by as_aux_lemma => kernel_rfl) rfl)); (refine rest_done (by as_aux_lemma => kernel_rfl) ?_; exact fin_join (Wk.of ⟨rfl, rfl, rfl, rfl, trivial⟩ ⟨rfl, rfl, rfl, trivial⟩ ⟨rfl, trivial⟩)))
      · ((apply rest_two 0 15 rfl (by as_aux_lemma => kernel_rfl) rfl rfl rfl rfl; (exact stp_move rfl rfl); (exact stp_appR rfl (by as_aux_lemma => kernel_rfl) rfl rfl (by first | rfl | assumption | (simp; done)) rfl rfl rfl (by first | rfl | assumption | (simp; done)) rfl (by omega)); (focus ((apply rest_one 15 rfl (by as_aux_lemma => kernel_rfl) rfl rfl; (exact stp_appR rfl (by as_aux_lemma => kernel_rfl) rfl rfl (by first | rfl | assumption | (simp; done)) rfl rfl rfl (by first | rfl | assumption | (simp; done)) rfl (by omega))); (apply rest_one 16 rfl (by as_aux_lemma => kernel_rfl) rfl rfl; (exact stp_nilCheck rfl rfl rfl)); (apply rest_one 17 rfl (by as_aux_lemma => kernel_rfl) rfl rfl; (exact stp_fieldAddr (d := 0) rfl rfl rfl (by as_aux_lemma => kernel_rfl))); (apply rest_one 18 rfl (by as_aux_lemma => kernel_rfl) rfl rfl; (exact stp_storeF rfl rfl rfl rfl rfl rfl (by as_aux_lemma => kernel_rfl) rfl)); (refine rest_done (by as_aux_lemma => kernel_rfl) ?_; exact fin_join (Wk.of ⟨rfl, rfl, rfl, rfl, trivial⟩ ⟨rfl, rfl, rfl, trivial⟩ ⟨rfl, trivial⟩)))); (focus ((apply rest_one 0 rfl (by as_aux_lemma => kernel_rfl) rfl rfl; (exact stp_move rfl rfl)); (apply rest_one 16 rfl (by as_aux_lemma => kernel_rfl) rfl rfl; (exact stp_nilCheck rfl rfl rfl)); (apply rest_one 17 rfl (by as_aux_lemma => kernel_rfl) rfl rfl; (exact stp_fieldAddr (d := 0) rfl rfl rfl (by as_aux_lemma => kernel_rfl))); (apply rest_one 18 rfl (by as_aux_lemma => kernel_rfl) rfl rfl; (exact stp_storeF rfl rfl rfl rfl rfl rfl (by as_aux_lemma => kernel_rfl) rfl)); (refine rest_done (by as_aux_lemma => kernel_rfl) ?_; exact fin_join (Wk.of ⟨rfl, rfl, rfl, rfl, trivial⟩ ⟨rfl, rfl, rfl, trivial⟩ ⟨rfl, trivial⟩))))))
    (refine fin_seq ?_; refine goes_seq ?_; refine goes_region ?_; apply run_step rfl; (exact stp_move rfl rfl); apply run_step rfl; (exact stp_move rfl rfl); apply run_step rfl; (exact stp_nilCheck rfl rfl rfl); apply run_step rfl; (exact stp_fieldAddr (d := 1) rfl rfl rfl (by as_aux_lemma => kernel_rfl)); apply run_step rfl; (exact stp_loadF rfl (by as_aux_lemma => kernel_rfl) rfl rfl rfl rfl); apply run_step rfl; (exact stp_move rfl rfl); apply run_step rfl; (exact stp_lit1I (E := 2) rfl (by as_aux_lemma => kernel_rfl) rfl); apply run_step rfl; (exact stp_appI rfl (by as_aux_lemma => kernel_rfl) rfl rfl rfl (by first | rfl | assumption | (simp; done)) rfl rfl (by omega)); apply run_step rfl; (exact stp_nilCheck rfl rfl rfl); apply run_step rfl; (exact stp_fieldAddr (d := 1) rfl rfl rfl (by as_aux_lemma => kernel_rfl)); apply run_step rfl; (exact stp_storeF rfl rfl rfl rfl rfl rfl (by as_aux_lemma => kernel_rfl) rfl); refine run_nil ?_; refine fin_seq ?_; refine goes_seq ?_; refine goes_region ?_; apply run_step rfl; (exact stp_move rfl rfl); apply run_step rfl; (exact stp_move rfl rfl); apply run_step rfl; (exact stp_move rfl rfl); apply run_step rfl; (exact stp_move rfl rfl); apply run_step rfl; (apply call_gate 218; exact stp_call [(0, 1010)] hL (by as_aux_lemma => kernel_rfl) rfl rfl ⟨rfl, rfl, rfl, rfl, trivial⟩ ⟨⟨_, rfl, .inl rfl⟩, ⟨_, rfl, .inl rfl⟩, ⟨_, rfl, .inl rfl⟩, trivial⟩ ⟨rfl, rfl, rfl, trivial⟩ rfl rfl); refine run_nil ?_; refine fin_seq ?_; refine goes_seq ?_; refine goes_region ?_; apply run_step rfl; (exact stp_move rfl rfl); apply run_step rfl; (exact stp_assign rfl rfl); refine run_nil ?_; refine fin_seq ?_; refine goes_ret ?_)
    exact fin_ret1 (.inl rfl) rfl (.tmp rfl) ⟨rfl, rfl, rfl, trivial⟩ ⟨rfl, trivial⟩
end Go.Proofs.Ytpognnifgcacnaa

/- A memory of names: append behind the front of a vector (a queue): in place, or to new memory; arrays of two integers. No program in sight. -/
namespace Go.Proofs.Ytpognnifgcacnaa
open Go.RowKit

theorem run_appendQ {P : Program} {ω : Own?} {w : World} {ow : Nm × Option Nat} {h : Hd} {T E k dlen n m off c : Nat} {ty : TypeId} {u : Value} {cell : Nat → Value → Prop} {a : Addr} {news : List Value} (hT : elZ P T E k = true) (hk0 : 0 < k) (hk : h.k = k)
    (hv : VecO ω w ow h E dlen cell) (hu : slAt h off n u) (hd : (off + n) * k = dlen) (hm0 : 0 < m) (hl : news.length = m * k) (hnews : ∀ j v, news[j]? = some v → w.cell? (a.add j) = some v) (h1 : ∀ v ∈ news, v.oneCell' = true) (hb : n + m ≤ 2199023255552) :
    ∃ ao' c' w', (Builtin.append_ #[T, T] ty #[u, .slice (some a) m c]).run P w = .ok (.slice ao' (n + m) c') w' ∧ ((∃ h', ao' = h'.ao ∧ c' = h'.c ∧ Grown ω w w' ow h' E k (n * k) news (fun j u => cell (off * k + j) u)) ∨
      (slAt h off (n + m) (.slice ao' (n + m) c') ∧ Grown ω w w' ow h E k dlen news cell)) := by
  rcases Nat.eq_zero_or_pos off with hoff | hoff
  · obtain ⟨h', w', r1, r2⟩ := run_appendO (ty := ty) (c := c) hT hk0 hk hv hu hoff hd hm0 hl hnews h1 hb
    exact ⟨_, _, w', r1, .inl ⟨h', rfl, rfl, r2⟩⟩
  obtain ⟨i, z, e1, e2, e3, e4, e5, e6⟩ := elZ_spec hT
  obtain ⟨ao, rfl, ha0, ha1⟩ := hu
  have hby : (n + m) * i.bytes ≤ 140737488355328 := Nat.le_trans (Nat.mul_le_mul_left _ e4) (by omega)
  have hb0 : 0 + m ≤ maxLen := by simp [maxLen]; omega
  have hbn : n + m ≤ maxLen := by simp [maxLen]; omega
  subst e3
  -- a new block
  have fresh : ∀ (cs0 : List Value) (cap : Nat), cs0.length = n * i.size → n + m ≤ cap → cap ≤ maxLen → (∀ j, j < n * i.size → ∃ u, cs0[j]? = some u ∧ cell (off * i.size + j) u) → ∀ w1 : World, w1.heap = w.heap → w1.os = w.os → w1.tape = w.tape → w1.output = w.output →
      Grown ω w (w1.alloc (.cells (cs0.toArray ++ news.toArray ++ Builtin.zeroCells z.cells (cap - (n + m))) E)) ow ⟨some ⟨w.heap.size, 0, none⟩, cap, i.size⟩ E i.size (n * i.size) news (fun j u => cell (off * i.size + j) u) := by
    intro cs0 cap hc0 hcap hcm hcs w1 hw1 ho1 ht1 hout1
    have hs1 : w1.heap.size = w.heap.size := by rw [hw1]
    refine { k_ := rfl, os := ho1, tape := ht1, output := hout1, size := by simp [hs1], other := fun b hb _ => ?_, vec := ⟨w.heap.size, 0, _, rfl, by simp [Own?.new], by rw [← hs1]; exact heap_alloc_new w1 _, ?_, ?_, hcm, fun j hj => ?_, fun j v hj => ?_⟩ }
    · rw [Below.heap_alloc w1 _ b (by omega), hw1]
    · simp only [Array.size_append, List.size_toArray, size_zeroCells, e6, hc0, hl, ← Nat.add_mul, Nat.zero_add]
      exact ⟨trivial, by congr 1; omega⟩
    · rw [hl, ← Nat.add_mul]; exact Nat.mul_le_mul_right _ hcap
    · obtain ⟨u, hu, hcu⟩ := hcs j hj
      refine ⟨u, ?_, hcu⟩
      rw [Nat.zero_add, Array.getElem?_append_left (by simp [hc0]; omega), Array.getElem?_append_left (by simp [hc0]; omega)]
      simpa using hu
    · have hjl : j < news.length := (List.getElem?_eq_some_iff.1 hj).1
      rw [Nat.zero_add, Array.getElem?_append_left (by simp [hc0]; omega), Array.getElem?_append_right (by simp [hc0])]
      simpa [hc0] using hj
  rcases hv with ⟨hao, hc, hd0⟩ | ⟨b, o, cs, g1, g2, g3, ⟨ho, g4⟩, g5, g6, g7⟩
  · exfalso
    have h0 : (off + n) * i.size = 0 := by rw [hd, hd0]
    rcases Nat.eq_zero_or_pos (off + n) with h8 | h8
    · omega
    · have := Nat.mul_pos h8 hk0; omega
  · rw [hk] at g4 g5
    have hoc : off + n ≤ h.c := Nat.le_of_mul_le_mul_right (by rw [hd]; exact g5) hk0
    have hmul : ∀ x, x ≤ h.c → x * i.size ≤ h.c * i.size := fun x hx => Nat.mul_le_mul_right _ hx
    have hbs : b < w.heap.size := lt_of_heap g3
    have old : ∀ j, j < n * i.size → ∃ u, cs[o + off * i.size + j]? = some u ∧ cell (off * i.size + j) u := fun j hj => by
      obtain ⟨u, hu, hcu⟩ := g7 (off * i.size + j) (by rw [← hd, Nat.add_mul]; omega)
      exact ⟨u, by rw [Nat.add_assoc]; exact hu, hcu⟩
    have haos : off < h.c → ao = some ⟨b, o + off * i.size, none⟩ := fun hlt => by
      rcases Nat.eq_zero_or_pos off with h0 | h0
      · rw [ha0 h0, g1, h0]; simp
      · rw [ha1 h0 hlt, g1, hk]; rfl
    by_cases hroom : n + m ≤ h.c - off
    · have hlt : off < h.c := by omega
      rw [haos hlt]
      have hfit : o + off * i.size + n * i.size + news.length ≤ cs.size := by
        have h2 := hmul (off + n + m) (by omega)
        rw [Nat.add_mul, Nat.add_mul] at h2
        rw [hl]; omega
      have hr := run_append_at (P := P) (ty := ty) w T E i e1 e2 b (o + off * i.size) n (h.c - off) cs g3 a m c news hl hnews h1 hroom hfit
      have hnl : n * i.size + news.length ≤ (h.c - off) * i.size := by rw [hl, ← Nat.add_mul]; exact Nat.mul_le_mul_right _ hroom
      have htl : (cs.toList.take (o + off * i.size + n * i.size)).length = o + off * i.size + n * i.size := by
        rw [List.length_take, Array.length_toList]; omega
      refine ⟨some ⟨b, o + off * i.size, none⟩, h.c - off, _, hr, .inr ⟨⟨_, rfl, fun e => absurd e (by omega), fun _ _ => by rw [g1, hk]; rfl⟩, ?_⟩⟩
      have hon : o + off * i.size + n * i.size = o + dlen := by rw [← hd, Nat.add_mul]; omega
      rw [hon] at hfit htl
      refine { k_ := hk, os := rfl, tape := rfl, output := rfl, size := by simp, other := fun b' _ hne => setRow_other w b b' _ (fun e => hne (e ▸ g2)), vec := ⟨b, o, _, g1, by simp [Own?.new, Nat.ne_of_lt hbs, g2], setRow_heap w b cs _ E _ g3, ⟨ho, ?_⟩, ?_, g6, fun j hj => ?_, fun j v hj => ?_⟩ }
      · rw [hon]
        simp only [List.size_toArray, List.length_append, htl, List.length_drop, Array.length_toList]
        omega
      · omega
      · obtain ⟨u, hu, hcu⟩ := g7 j hj
        refine ⟨u, ?_, hcu⟩
        rw [hon]
        simp only [List.getElem?_toArray]
        rw [List.append_assoc, List.getElem?_append_left (by rw [htl]; omega), List.getElem?_take, if_pos (by omega)]
        simpa using hu
      · rw [hon]
        simp only [List.getElem?_toArray]
        have := get_app3 (a := cs.toList.take (o + dlen)) (c := cs.toList.drop (o + dlen + news.length)) hj
        rw [htl] at this
        exact this
    · have holds : ∀ u', n * i.size ≠ 0 → ao = some u' → u' = ⟨b, o + off * i.size, none⟩ := fun u' hn0 he => by
        have hnp : 0 < n := by
          rcases Nat.eq_zero_or_pos n with h8 | h8
          · subst h8; simp at hn0
          · exact h8
        rw [haos (by omega)] at he; exact (Option.some.inj he).symm
      have hol : ((cs.toList.drop (o + off * i.size)).take (n * i.size)).length = n * i.size := by
        rw [List.length_take, List.length_drop, Array.length_toList]
        have h2 := hmul (off + n) hoc
        rw [Nat.add_mul] at h2
        omega
      have hoat : ∀ (j : Nat) (u : Value), ((cs.toList.drop (o + off * i.size)).take (n * i.size))[j]? = some u → j < n * i.size ∧ cs[o + off * i.size + j]? = some u := fun j u hj => by
        have hjl : j < n * i.size := by have := (List.getElem?_eq_some_iff.1 hj).1; omega
        rw [List.getElem?_take, if_pos hjl, List.getElem?_drop] at hj
        exact ⟨hjl, by simpa using hj⟩
      have hfresh := fresh ((cs.toList.drop (o + off * i.size)).take (n * i.size)) (grownCap w (n + m) (h.c - off) E) hol (grownCap_ge _ _ _ _) (grownCap_le_maxLen _ _ _ _ hbn) (fun j hj => by
        obtain ⟨u, hu, hcu⟩ := old j hj
        refine ⟨u, ?_, hcu⟩
        rw [List.getElem?_take, if_pos hj, List.getElem?_drop]
        simpa using hu) w.drew rfl rfl rfl rfl
      cases hao : ao with
      | none =>
        have hno : ¬ off < h.c := fun hlt => by rw [haos hlt] at hao; cases hao
        have hn0 : n = 0 := by omega
        subst hn0
        have hc0 : h.c - off = 0 := by omega
        rw [hc0] at hfresh ⊢
        have hr := run_append_nil (P := P) (ty := ty) w T E i z e1 e2 e5 a m c news hl hnews hm0 (by omega) (by simp only [Nat.zero_add] at hby; omega)
        exact ⟨_, _, _, by rw [hr, Nat.zero_add], .inl ⟨⟨some ⟨w.heap.size, 0, none⟩, grownCap w m 0 E, i.size⟩, rfl, rfl, by simpa using hfresh⟩⟩
      | some a' =>
        have hr := run_append_grow (P := P) (ty := ty) w T E i z e1 e2 e5 a' n (h.c - off) _ hol (fun j u hj => by
          obtain ⟨hj1, hj2⟩ := hoat j u hj
          rw [holds a' (by omega) hao, Addr.add_lit]
          show w.cell? ⟨b, o + off * i.size + j, none⟩ = some u
          rw [cell_of_row w b _ cs E (0, 0) g3]; exact hj2) a m c news hl hnews (by omega) (by omega) (growslice_fits (by omega) hby)
        exact ⟨_, _, _, hr, .inl ⟨⟨some ⟨w.heap.size, 0, none⟩, grownCap w (n + m) (h.c - off) E, i.size⟩, rfl, rfl, hfresh⟩⟩

section
variable {P : Program} {nt : Nat} {S S1 S2 : St} {w0 w : World} {ω0 : Beg} {ω : Own?} {η : Env} {a : Act} {Q : Exit → Act → World → Prop} {ops : Array Oper} {rest : List Oper}
variable {t : Nat} {ty : TypeId} {ps : String} {af : Array Edge} {gd : Option (Nat × Bool)} {x y : Operand} {av : AV} {o : Oper}
/-- a step that ends in one of two states -/
structure StpOr (P : Program) (nt : Nat) (o : Oper) (S S1 S2 : St) : Prop where
  go : ∀ w0 ω0 a w Q, Sat w0 ω0 nt S a w → o.wp P a w (fun a w => Sat w0 ω0 nt S1 a w ∨ Sat w0 ω0 nt S2 a w) Q
theorem run_or (hg : o.guard = none) (h : StpOr P nt o S S1 S2) (k1 : Run P w0 ω0 nt ops Q S1 rest) (k2 : Run P w0 ω0 nt ops Q S2 rest) : Run P w0 ω0 nt ops Q S (o :: rest) := by
  refine ⟨fun a w hs => wpList_plain hg fun K' hK' => ?_⟩
  exact Oper.wp_mono (fun a' w' h' => hK' _ _ (h'.elim (fun h1 => k1.go a' w' h1) fun h2 => k2.go a' w' h2)) (h.go w0 ω0 a w Q hs)
theorem StpOr.fin {w' : World} {v : Value} (h : (execOp a.eval o).run P w = .ok (.value v) w') (k : Sat w0 ω0 nt S1 (a.put o.dst v) w' ∨ Sat w0 ω0 nt S2 (a.put o.dst v) w') : o.wp P a w (fun a w => Sat w0 ω0 nt S1 a w ∨ Sat w0 ω0 nt S2 a w) Q := by
  unfold Oper.wp
  rw [h]
  exact k
theorem stpor_append {T E k n off len m : Nat} {vs news : List Value} {b : A1} (ht : Nat.blt t nt = true) (hT : elZ P T E k = true) (hk0 : Nat.blt 0 k = true) (hx : S.op x = some (o1 (.sl n off len))) (hc : S.ch n = some ⟨true, E, k, .vals vs⟩) (hl : (off + len) * k = vs.length)
    (hy : S.op y = some (o1 b)) (hr : Reads S b m k news) (hm : 0 < m) (h1 : ∀ v ∈ news, v.oneCell' = true) (hb : len + m ≤ 2199023255552) :
    StpOr P nt ⟨some t, .call { callee := .builtin .append, args := #[x, y], argTypes := #[T, T] }, ty, ps, af, gd⟩ S ((S.new n ⟨true, E, k, .vals (vs.drop (off * k) ++ news)⟩).put t (o1 (.sl n 0 (len + m)))) ((S.new n ⟨true, E, k, .vals (vs ++ news)⟩).put t (o1 (.sl n off (len + m)))) := by
  refine ⟨fun w0 ω0 a w Q ⟨η, ω, hs⟩ => ?_⟩
  have hk0' : 0 < k := by simpa using hk0
  obtain ⟨hd, e1, e2, e3⟩ := hs.chunk hc
  have e3 : VecO ω w (n, none) hd E vs.length (cellsOK η ω w true n (.vals vs)) := e3
  have hu : Den1 η (.sl n off len) (a.eval x) := hs.opv hx
  obtain ⟨ad, cp, r1, r2⟩ := hr.go hs (hs.opv hy)
  have hnl := hr.len
  have hn0 : 0 < news.length := by rw [hnl]; exact Nat.mul_pos hm hk0'
  obtain ⟨bb, o, r3, _⟩ := r2 0 _ (List.getElem?_eq_getElem hn0)
  subst r3
  obtain ⟨ao', c', w', k1, k2⟩ := run_appendQ (P := P) (ty := ty) (c := cp) hT hk0' e2 e3 (hu.2 hd e1) hl hm hnl (a := ⟨bb, o, none⟩) (fun j v hj => by
    obtain ⟨b2, o2, h2, h3⟩ := r2 j v hj
    simp only [Option.some.injEq, Addr.mk.injEq, and_true] at h2
    obtain ⟨rfl, rfl⟩ := h2
    rw [Addr.add_lit]; exact h3) h1 hb
  refine StpOr.fin (v := .slice ao' (len + m) c') (w' := w') (by simp [execOp, resolve, invoke, builtin, r1, k1]) ?_
  rcases k2 with ⟨h', q1, q2, k2⟩ | ⟨k3, k2⟩
  · left
    subst q1 q2
    have hlen : (vs.drop (off * k) ++ news).length = len * k + news.length := by
      rw [List.length_append, List.length_drop, ← hl, Nat.add_mul]; omega
    have := hs.renew (n := n) (c := ⟨true, E, k, .vals (vs.drop (off * k) ++ news)⟩) (hd := h') (r := fun _ => ⟨none, 0, 1⟩) (calm_grown (by simp [ch_rm]) k2) ⟨k2.k_, by
      obtain ⟨b', o', cs', v1, v2, v3, v4, v5, v6, v7, v8⟩ := k2.vec
      refine .inr ⟨b', o', cs', v1, v2, v3, by rw [k2.k_]; exact v4, by rw [k2.k_]; show (vs.drop (off * k) ++ news).length ≤ _; rw [hlen]; exact v5, v6, fun j hj => ?_⟩
      have hj : j < (vs.drop (off * k) ++ news).length := hj
      rw [hlen] at hj
      by_cases hlt : j < len * k
      · obtain ⟨u, q1, q2⟩ := v7 j hlt
        have q2 : vs[off * k + j]? = some u := q2
        refine ⟨u, q1, ?_⟩
        show (vs.drop (off * k) ++ news)[j]? = some u
        rw [List.getElem?_append_left (by rw [List.length_drop, ← hl, Nat.add_mul]; omega), List.getElem?_drop]; exact q2
      · have hdl : (vs.drop (off * k)).length = len * k := by rw [List.length_drop, ← hl, Nat.add_mul]; omega
        have hj2 : j - len * k < news.length := by omega
        refine ⟨news[j - len * k], ?_, ?_⟩
        · have := v8 (j - len * k) _ (List.getElem?_eq_getElem hj2)
          rw [show o' + len * k + (j - len * k) = o' + j by omega] at this; exact this
        · show (vs.drop (off * k) ++ news)[j]? = _
          rw [List.getElem?_append_right (by omega), hdl, List.getElem?_eq_getElem hj2]⟩
    exact ⟨_, _, this.putV (by simpa using ht) den_new⟩
  · right
    have := hs.renew (n := n) (c := ⟨true, E, k, .vals (vs ++ news)⟩) (hd := hd) (r := fun _ => ⟨none, 0, 1⟩) (calm_grown (by simp [ch_rm]) k2) ⟨k2.k_, by
      obtain ⟨b', o', cs', v1, v2, v3, v4, v5, v6, v7, v8⟩ := k2.vec
      refine .inr ⟨b', o', cs', v1, v2, v3, by rw [k2.k_]; exact v4, by rw [k2.k_]; show (vs ++ news).length ≤ _; rw [List.length_append]; exact v5, v6, fun j hj => ?_⟩
      have hj : j < (vs ++ news).length := hj
      rw [List.length_append] at hj
      by_cases hlt : j < vs.length
      · obtain ⟨u, q1, q2⟩ := v7 j hlt
        have q2 : vs[j]? = some u := q2
        refine ⟨u, q1, ?_⟩
        show (vs ++ news)[j]? = some u
        rw [List.getElem?_append_left hlt]; exact q2
      · have hj2 : j - vs.length < news.length := by omega
        refine ⟨news[j - vs.length], ?_, ?_⟩
        · have := v8 (j - vs.length) _ (List.getElem?_eq_getElem hj2)
          rw [show o' + vs.length + (j - vs.length) = o' + j by omega] at this; exact this
        · show (vs ++ news)[j]? = _
          rw [List.getElem?_append_right (by omega), List.getElem?_eq_getElem hj2]⟩
    exact ⟨_, _, this.putV (by simpa using ht) ⟨⟨_, _, rfl⟩, fun hd' he => by
      simp [Env.new] at he; subst he; exact k3⟩⟩

def pflat (q : List (Int × Int)) : List Int := q.flatMap fun p => [p.1, p.2]
theorem pflat_len : ∀ q : List (Int × Int), (pflat q).length = 2 * q.length
  | [] => rfl
  | p :: r => by have := pflat_len r; simp [pflat] at this ⊢; omega
theorem iget_at {zs : List Int} {j : Nat} {z : Int} (h : zs[j]? = some z) : (ivals zs)[j]? = some (I6 z) := by simp [ivals, h]
/-- an array of two integers -/
theorem stp_build2 {T : TypeId} {x0 x1 : Operand} {z0 z1 : Int} (ht : Nat.blt t nt = true) (hx0 : S.op x0 = some (vv (I6 z0))) (hx1 : S.op x1 = some (vv (I6 z1))) (hb : P.built T [(0, I6 z0), (1, I6 z1)] = some #[I6 z0, I6 z1]) :
    Stp P nt ⟨some t, .build T #[(0, x0), (1, x1)], ty, ps, af, gd⟩ S (S.put t (.s (.agg [.val (I6 z0), .val (I6 z1)]))) :=
  Stp.of _ fun w0 ω0 η ω a w hs => by
    refine ⟨.agg #[I6 z0, I6 z1], w, ?_, η, ω, hs.putV (by simpa using ht) (⟨_, rfl, rfl, fun j b hb => ?_⟩ : Den2 η (.agg [.val (I6 z0), .val (I6 z1)]) _)⟩
    · simp only [execOp]
      simp [hs.opV hx0, hs.opV hx1, run_build w T #[(0, I6 z0), (1, I6 z1)] _ hb]
    · match j, hb with
      | 0, hb => simp at hb; subst hb; exact ⟨_, by simp, rfl⟩
      | 1, hb => simp at hb; subst hb; exact ⟨_, by simp, rfl⟩
/-- a struct of two slices and what else is zero -/
theorem stp_buildSl {T : TypeId} {x0 x1 : Operand} {b0 b1 : A1} {vs : List Value} {n0 n1 : Nat} (ht : Nat.blt t nt = true) (hx0 : S.op x0 = some (o1 b0)) (hx1 : S.op x1 = some (o1 b1)) (hl0 : b0.len = some n0) (hl1 : b1.len = some n1)
    (hb : ∀ ao n c ao' n' c', P.built T [(0, .slice ao n c), (1, .slice ao' n' c')] = some (#[.slice ao n c, .slice ao' n' c'] ++ vs.toArray)) :
    Stp P nt ⟨some t, .build T #[(0, x0), (1, x1)], ty, ps, af, gd⟩ S (S.put t (.s (.agg (b0 :: b1 :: vs.map .val)))) :=
  Stp.of _ fun w0 ω0 η ω a w hs => by
    have d0 : Den1 η b0 (a.eval x0) := hs.opv hx0
    have d1 : Den1 η b1 (a.eval x1) := hs.opv hx1
    obtain ⟨ao, c, e0⟩ := d0.len_ hl0
    obtain ⟨ao', c', e1⟩ := d1.len_ hl1
    refine ⟨.agg (#[a.eval x0, a.eval x1] ++ vs.toArray), w, ?_, η, ω, hs.putV (by simpa using ht) (⟨_, rfl, by simp, fun j b hb => ?_⟩ : Den2 η (.agg (b0 :: b1 :: vs.map .val)) _)⟩
    · simp only [execOp]
      have := run_build w T #[(0, .slice ao n0 c), (1, .slice ao' n1 c')] _ (hb ao n0 c ao' n1 c')
      simp [e0, e1, this]
    · match j, hb with
      | 0, hb => simp at hb; subst hb; exact ⟨_, by simp, d0⟩
      | 1, hb => simp at hb; subst hb; exact ⟨_, by simp, d1⟩
      | j + 2, hb =>
        simp only [List.getElem?_cons_succ, List.getElem?_map, Option.map_eq_some_iff] at hb
        obtain ⟨v, hv, rfl⟩ := hb
        exact ⟨v, by simpa [Array.getElem?_append] using hv, rfl⟩
/-- a literal of one array of two integers -/
theorem stp_litP {T E : Nat} {x0 : Operand} {z0 z1 : Int} (ht : Nat.blt t nt = true) (hT : elZ P T E 2 = true) (hx : S.op x0 = some (.s (.agg [.val (I6 z0), .val (I6 z1)]))) :
    Stp P nt ⟨some t, .buildSlice T 1 #[(0, x0)], ty, ps, af, gd⟩ S ((S.new t ⟨true, E, 2, .vals (ivals [z0, z1])⟩).put t (o1 (.sl t 0 1))) :=
  Stp.of _ fun w0 ω0 η ω a w hs => by
    obtain ⟨i, z, k1, k2, k3, k4, k5, k6⟩ := elZ_spec hT
    obtain ⟨us, hu, hul, hua⟩ : Den2 η (.agg [.val (I6 z0), .val (I6 z1)]) (a.eval x0) := hs.opv hx
    obtain ⟨u0, g0, rfl⟩ := hua 0 _ rfl
    obtain ⟨u1, g1, rfl⟩ := hua 1 _ rfl
    obtain rfl : us = #[I6 z0, I6 z1] := by
      have : us.size = 2 := hul
      match us with
      | ⟨[p, q]⟩ => simp at g0 g1; rw [g0, g1]
    refine ⟨.slice (some ⟨w.heap.size, 0, none⟩) 1 1, w.alloc (.cells #[I6 z0, I6 z1] E), ?_, ?_⟩
    · have hc : (Value.agg #[I6 z0, I6 z1]).cells = #[I6 z0, I6 z1] := rfl
      simp [execOp, Instr.buildSlice, run_underlying k1, sizeOf, typeInfo, k2, k3, zeroValue, k5, Instr.fill, newRow, hu, hc, range2]
    · have hal := hs.alloc (x := t) (c := ⟨true, E, 2, .vals (ivals [z0, z1])⟩) (cs := #[I6 z0, I6 z1]) (r := fun _ => ⟨none, 0, 1⟩) (n := 1) rfl (by simp) (by simp [Dat.len, ivals]) (by simp [maxLen]) fun j hj => by
        have hj : j < 2 := hj
        match j, hj with
        | 0, _ => exact ⟨_, by simp, rfl⟩
        | 1, _ => exact ⟨_, by simp, rfl⟩
      exact ⟨_, _, hal.putV (by simpa using ht) den_newsl⟩
end
end Go.Proofs.Ytpognnifgcacnaa

/- A memory of names: mixed vectors: structs with slices in them, and rows of structs. No program in sight. -/
namespace Go.Proofs.Ytpognnifgcacnaa
open Go.RowKit

section
variable {P : Program} {nt : Nat} {S S1 S2 : St} {w0 w : World} {ω0 : Beg} {ω : Own?} {η : Env} {a : Act} {Q : Exit → Act → World → Prop} {ops : Array Oper} {rest : List Oper}
variable {t : Nat} {ty : TypeId} {ps : String} {af : Array Edge} {gd : Option (Nat × Bool)} {x y : Operand} {av : AV} {o : Oper}

/-- plain cells, of which a nil slice may be taken for an empty row -/
def celNew : Cel → Value → Prop
  | .v y, u => u = y
  | .r _ _ m vs, u => m = 0 ∧ vs = [] ∧ u = .slice none 0 0
  | .any, _ => True
def celK : Cel → Nat
  | .r _ k _ _ => k
  | _ => 1
theorem celNew.ok {own : Bool} {n : Nm} {j : Nat} {c : Cel} {u : Value} (hr : η.r n j = ⟨none, 0, celK c⟩) (h : celNew c u) : celOK η ω w true n j c u := by
  cases c with
  | v y => exact h
  | any => trivial
  | r F k m vs =>
    obtain ⟨rfl, rfl, rfl⟩ := h
    refine ⟨by simp, by rw [hr], by rw [hr]; rfl, ?_⟩
    rw [hr]
    exact .inl ⟨rfl, rfl, rfl⟩
end
end Go.Proofs.Ytpognnifgcacnaa

/- Walks in names: shifts, bits, conversions between integers, three results. -/
namespace Go.Proofs.Ytpognnifgcacnaa
open Go.RowKit

section
variable {P : Program} {nt : Nat} {S : St} {t : Nat} {ty : TypeId} {ps : String} {af : Array Edge} {gd : Option (Nat × Bool)} {x y : Operand}
end
section
variable {P : Program} {w0 : World} {ω0 : Beg} {nt : Nat} {S : St}
end
end Go.Proofs.Ytpognnifgcacnaa

/- A memory of names: a region that draws its order and holds guards, walked once. No program in sight. -/
namespace Go.Proofs.Ytpognnifgcacnaa
open Go.RowKit

section
variable {P : Program} {nt : Nat} {w0 w : World} {ω0 : Beg} {S S1 : St} {Q : Exit → Act → World → Prop} {a : Act}
/-- an operation, run or passed over, as its guard says -/
inductive GSt (P : Program) (nt : Nat) (ops : Array Oper) (o : Oper) (S1 : St) (A : Add) : Prop where
  | run (hg : o.guard = none) (h : Stp P nt o S1 (S1.add A))
  | yes {j d : Nat} {want : Bool} (hg : o.guard = some (j, want)) (hj : (ops[j]?).bind (·.dst) = some d) (hb : S1.sl d = some (vv (.bool want))) (h : Stp P nt o S1 (S1.add A))
  | no {j d : Nat} {want : Bool} (hg : o.guard = some (j, want)) (hj : (ops[j]?).bind (·.dst) = some d) (hb : S1.sl d = some (vv (.bool (!want)))) (ht : o.dst = some A.t) (hn : Nat.blt A.t nt = true) (ha : A.av = vv undef) (hx : A.news = none)
/-- the operations, one behind the other in the text's order: each may look at what it depends on alone -/
inductive DrawG (P : Program) (nt : Nat) (ops0 : Array Oper) (S : St) (cls : List (List Nat)) (sk : List Nat) : List Oper → List Add → List Add → Prop where
  | nil {done : List Add} : DrawG P nt ops0 S cls sk [] done done
  | skip {o : Oper} {rest : List Oper} {done all : List Add} (A : Add) (hs : memN sk done.length = true) (k : DrawG P nt ops0 S cls sk rest (A :: done) all) : DrawG P nt ops0 S cls sk (o :: rest) done all
  | cons {o : Oper} {rest : List Oper} {done all : List Add} (A : Add)
      (h : ∀ S1, (S.partR (memN (cls.getD done.length [])) done).le S1 → GSt P nt ops0 o S1 A) (k : DrawG P nt ops0 S cls sk rest (A :: done) all) : DrawG P nt ops0 S cls sk (o :: rest) done all
theorem DrawG.spec {ops0 : Array Oper} {cls : List (List Nat)} {sk : List Nat} {ops : List Oper} {done all : List Add} (h : DrawG P nt ops0 S cls sk ops done all) : (∃ r, all.reverse = done.reverse ++ r ∧ r.length = ops.length) ∧ ∀ (i : Nat) (o : Oper), ops[i]? = some o → memN sk (done.length + i) = false →
    ∃ A, all.reverse[done.length + i]? = some A ∧ ∀ S1, (S.partR (memN (cls.getD (done.length + i) [])) (all.reverse.take (done.length + i)).reverse).le S1 → GSt P nt ops0 o S1 A := by
  induction h with
  | nil => exact ⟨⟨[], by simp⟩, fun i o h => by simp at h⟩
  | @skip o rest done all A hs k ih =>
    obtain ⟨⟨r, hr, hl⟩, h2⟩ := ih
    refine ⟨⟨A :: r, by rw [hr]; simp, by simp [hl]⟩, fun i o' hi hsk => ?_⟩
    cases i with
    | zero => rw [Nat.add_zero, hs] at hsk; cases hsk
    | succ i =>
      have e : (A :: done).length + i = done.length + (i + 1) := by simp; omega
      rw [← e] at hsk ⊢
      exact h2 i o' (by simpa using hi) hsk
  | @cons o rest done all A h k ih =>
    obtain ⟨⟨r, hr, hl⟩, h2⟩ := ih
    refine ⟨⟨A :: r, by rw [hr]; simp, by simp [hl]⟩, fun i o' hi hsk => ?_⟩
    cases i with
    | zero =>
      simp at hi; subst hi
      refine ⟨A, by rw [hr]; simp, fun S1 hS => h S1 ?_⟩
      have : (all.reverse.take (done.length + 0)).reverse = done := by rw [hr]; simp
      rw [this] at hS
      exact hS
    | succ i =>
      have e : (A :: done).length + i = done.length + (i + 1) := by simp; omega
      rw [← e] at hsk ⊢
      exact h2 i o' (by simpa using hi) hsk

end
section
variable {P : Program} {nt : Nat} {S : St} {cls : List (List Nat)} {sk : List Nat} {o : Oper} {rest : List Oper} {done all : List Add} {ops0 : Array Oper} {t : Nat} {ty : TypeId} {ps : String} {af : Array Edge} {gd : Option (Nat × Bool)} {x y : Operand}
end
end Go.Proofs.Ytpognnifgcacnaa

/- A memory of names: rows as words; vectors cut short. No program in sight. -/
namespace Go.Proofs.Ytpognnifgcacnaa
open Go.RowKit

section
variable {η : Env} {ω : Own?} {w : World} {ins : List (Nm × Ch)}
end
section
variable {P : Program} {nt : Nat} {S : St} {t : Nat} {ty : TypeId} {ps : String} {af : Array Edge} {gd : Option (Nat × Bool)} {x y : Operand}
theorem stp_minN {ts : Array TypeId} {m n : Nat} (ht : Nat.blt t nt = true) (hx : S.op x = some (vv (I6 (m : Int)))) (hy : S.op y = some (vv (I6 (n : Int)))) :
    Stp P nt ⟨some t, .call { callee := .builtin .min, args := #[x, y], argTypes := ts }, ty, ps, af, gd⟩ S (S.put t (vv (I6 ((min m n : Nat) : Int)))) := by
  have := stp_min (P := P) (nt := nt) (ty := ty) (ps := ps) (af := af) (gd := gd) (ts := ts) ht hx hy
  rwa [show (if (n : Int) < m then (n : Int) else m) = ((min m n : Nat) : Int) by split <;> omega] at this
theorem stp_maxN {ts : Array TypeId} {m n : Nat} (ht : Nat.blt t nt = true) (hx : S.op x = some (vv (I6 (m : Int)))) (hy : S.op y = some (vv (I6 (n : Int)))) :
    Stp P nt ⟨some t, .call { callee := .builtin .max, args := #[x, y], argTypes := ts }, ty, ps, af, gd⟩ S (S.put t (vv (I6 ((max m n : Nat) : Int)))) := by
  have := stp_max (P := P) (nt := nt) (ty := ty) (ps := ps) (af := af) (gd := gd) (ts := ts) ht hx hy
  rwa [show (if (n : Int) > m then (n : Int) else m) = ((max m n : Nat) : Int) by split <;> omega] at this
end
end Go.Proofs.Ytpognnifgcacnaa

/- The program's coset enumeration: identify. -/
namespace Go.Proofs.Ytpognnifgcacnaa
open Go.RowKit

abbrev prCh (l : List Int) : Ch := ⟨true, 171, 2, .vals (ivals l)⟩
theorem prLen {pre : List Int} {o : Nat} (h : pre.length = 2 * o) (q : List (Int × Int)) : (o + q.length) * 2 = (ivals (pre ++ pflat q)).length := by
  rw [ivals_len, List.length_append, h, pflat_len]; omega
theorem prGet0 {pre : List Int} {o : Nat} (h : pre.length = 2 * o) (p : Int × Int) (q : List (Int × Int)) : (ivals (pre ++ pflat (p :: q)))[(o + 0) * 2 + 0 * 1]? = some (I6 p.1) := by
  apply iget_at
  rw [List.getElem?_append_right (by omega), show (o + 0) * 2 + 0 * 1 - pre.length = 0 by omega]; rfl
theorem prGet1 {pre : List Int} {o : Nat} (h : pre.length = 2 * o) (p : Int × Int) (q : List (Int × Int)) : (ivals (pre ++ pflat (p :: q)))[(o + 0) * 2 + 1 * 1]? = some (I6 p.2) := by
  apply iget_at
  rw [List.getElem?_append_right (by omega), show (o + 0) * 2 + 1 * 1 - pre.length = 1 by omega]; rfl
theorem ident_bound {ng : Nat} {less : List Int} {p : Int × Int} (hn : less.length ≤ 2000) (hng : ng ≤ 1000) : fuel ng less [p] ≤ 2100000 := by
  unfold fuel
  have h1 : alive less ≤ less.length := by unfold alive; exact Nat.le_trans (List.length_filter_le _ _) (by simp)
  have h2 : alive less * (ng + 1) ≤ 2000 * 1001 := Nat.mul_le_mul (by omega) (by omega)
  simp; omega
theorem prApp2 (pre : List Int) (q r : List (Int × Int)) (x y : Int) : ivals (pre ++ pflat (q ++ r)) ++ ((ivals [x, y]).drop (0 * 2)).take (1 * 2) = ivals (pre ++ pflat (q ++ (r ++ [(x, y)]))) := by
  simp [ivals, pflat]
theorem prApp1 {pre : List Int} {o : Nat} (h : pre.length = 2 * o) (q r : List (Int × Int)) (x y : Int) : (ivals (pre ++ pflat (q ++ r))).drop (o * 2) ++ ((ivals [x, y]).drop (0 * 2)).take (1 * 2) = ivals ([] ++ pflat (q ++ (r ++ [(x, y)]))) := by
  have h1 : (ivals (pre ++ pflat (q ++ r))).drop (o * 2) = ivals (pflat (q ++ r)) := by
    rw [show ivals (pre ++ pflat (q ++ r)) = ivals pre ++ ivals (pflat (q ++ r)) by simp [ivals], List.drop_append_of_le_length (by rw [ivals_len]; omega), List.drop_of_length_le (by rw [ivals_len]; omega), List.nil_append]
  rw [h1]
  simp [ivals, pflat]

set_option maxRecDepth 100000 in
set_option maxHeartbeats 2000000 in
theorem iIdentify_fc (ng n : Nat) (im : List (List Int)) (less : List Int) (c d : Nat) (b : Bool) (hnn : less.length = n) (hw : WF ng im less) (hc : c < less.length) (hd : d < less.length) (hn : less.length ≤ 2000) (hng : ng ≤ 1000) :
    FC Try.prog 217 [(1010, coOw n n b), (1000, imOw im), (1001, leOw less)] [o1 (.ptr 1010 0), vv (I6 c), vv (I6 d)] [(1010, coOw n n b), (1000, imOw (ident ng im less [((c : Int), (d : Int))]).1), (1001, leOw (ident ng im less [((c : Int), (d : Int))]).2)] (.tup []) [(0, o1 (.ptr 1010 0))] := by
  refine fc_enter (nt := 93) Try.func217 rfl rfl (by simp) fun w0 ω0 => ?_
  generalize hR : ident ng im less [((c : Int), (d : Int))] = R
  (refine goes_seq ?_; refine goes_region ?_; apply run_step rfl; (exact stp_move rfl rfl); apply run_step rfl; (exact stp_move rfl rfl); apply run_step rfl; (first | exact stp_build2 rfl rfl rfl (by as_aux_lemma => kernel_rfl) | exact stp_litP (E := 171) rfl (by as_aux_lemma => kernel_rfl) rfl); apply run_step rfl; (first | exact stp_build2 rfl rfl rfl (by as_aux_lemma => kernel_rfl) | exact stp_litP (E := 171) rfl (by as_aux_lemma => kernel_rfl) rfl); apply run_step rfl; (exact stp_assign rfl rfl); refine run_nil ?_; refine fin_seq ?_; refine goes_block ?_)
  have hB := ident_bound (p := ((c : Int), (d : Int))) hn hng
  have hq0 : QOK less.length [((c : Int), (d : Int))] := fun p hp => by simp at hp; subst hp; exact ⟨by omega, by omega⟩
  have hnm : im.length = n := hw.len.trans hnn
  refine goes_loop (fun j : List (List Int) × List Int × List (Int × Int) × List Int × Nat => St.of [(0, o1 (.ptr 1010 0)), (6, o1 (.sl 15 j.2.2.2.2 j.2.2.1.length))]
      [(1010, coOw n n b), (1000, imOw j.1), (1001, leOw j.2.1), (15, prCh (j.2.2.2.1 ++ pflat j.2.2.1))] [(0, o1 (.ptr 1010 0))])
    (fun j => WF ng j.1 j.2.1 ∧ j.2.1.length = n ∧ QOK n j.2.2.1 ∧ fuel ng j.2.1 j.2.2.1 ≤ 2100000 ∧ ident ng j.1 j.2.1 j.2.2.1 = R ∧ j.2.2.2.1.length = 2 * j.2.2.2.2)
    (fun j => fuel ng j.2.1 j.2.2.1) (im, less, [((c : Int), (d : Int))], [], 0) ⟨hw, hnn, hnn ▸ hq0, hB, hR, rfl⟩ (Wk.of ⟨rfl, rfl, trivial⟩ ⟨rfl, rfl, rfl, rfl, trivial⟩ ⟨rfl, trivial⟩) ?_
  rintro ⟨im1, less1, qq, pre, o⟩ ⟨hw1, hn1, hq, hb, hr, hpre⟩
  dsimp only at hw1 hn1 hq hb hr hpre ⊢
  have hm1 := hw1.len
  (refine goes_seq ?_; refine goes_seq ?_; refine goes_region ?_; apply run_step rfl; (exact stp_move rfl rfl); apply run_step rfl; (exact stp_len rfl rfl rfl (by as_aux_lemma => kernel_rfl)); apply run_step rfl; (exact stp_bin rfl rfl rfl rfl); refine run_nil ?_; refine fin_seq ?_)
  refine goes_cond rfl (fun hlt => ?_) (fun hlt => ?_)
  · obtain ⟨p, q, rfl⟩ : ∃ p q, qq = p :: q := by
      cases qq with
      | nil => simp at hlt
      | cons p q => exact ⟨p, q, rfl⟩
    have hpp := hq p (by simp)
    have hqn : QOK n q := fun x hx => hq x (by simp [hx])
    have g1 := prGet0 hpre p q
    have g2 := prGet1 hpre p q
    have gl : (o + (p :: q).length) * 2 ≤ (ivals (pre ++ pflat (p :: q))).length := Nat.le_of_eq (prLen hpre (p :: q))
    have hF1 : FC Try.prog 219 [(1010, coRo n n b), (1000, imRo im1), (1001, leRo less1)] [o1 (.ptr 1010 0), vv (I6 p.1)] [] (vv (I6 (root less1 p.1.toNat))) [] := by
      have := iFind_fc im1 less1 n n p.1.toNat b hn1 hw1.down (by omega)
      rwa [Int.toNat_of_nonneg hpp.1.1] at this
    have hF2 : FC Try.prog 219 [(1010, coRo n n b), (1000, imRo im1), (1001, leRo less1)] [o1 (.ptr 1010 0), vv (I6 p.2)] [] (vv (I6 (root less1 p.2.toNat))) [] := by
      have := iFind_fc im1 less1 n n p.2.toNat b hn1 hw1.down (by omega)
      rwa [Int.toNat_of_nonneg hpp.2.1] at this
    (refine goes_skip ?_; refine fin_seq ?_; refine goes_seq ?_; refine goes_block ?_; refine goes_seq ?_)
    apply goes_draw 12 [] [[], [], [1], [1, 2], [1, 2, 3], [0, 1, 2, 3, 4], [], [], [7], [7, 8], [7, 8, 9], [0, 1, 2, 3, 4, 5, 6, 7, 8, 9, 10], [0, 1, 2, 3, 4, 5, 6, 7, 8, 9, 10, 11], [0, 1, 2, 3, 4, 5, 6, 7, 8, 9, 10, 11, 12]] [21, 22, 23, 24, 25, 26, 27, 28, 29, 30, 31, 32] [] (by kernel_rfl) (by kernel_rfl)
    · (apply draw_put rfl; (intro S1 hS; exact stp_move rfl (hS.op rfl)); apply draw_put rfl; (intro S1 hS; exact stp_move rfl (hS.op rfl)); (apply draw_put rfl; (focus (intro S1 hS; first | exact stp_indexAddr (k := 2) (j := 0) rfl (hS.op rfl) (hS.op rfl) (hS.ch _ _ rfl) rfl (by as_aux_lemma => kernel_rfl) rfl (by simp) gl (by omega) | exact stp_indexArr (k := 1) (len := 2) (j := 0) rfl (hS.op rfl) (hS.op rfl) (hS.ch _ _ rfl) (by as_aux_lemma => kernel_rfl) rfl (by omega) | exact stp_indexArr (k := 1) (len := 2) (j := 1) rfl (hS.op rfl) (hS.op rfl) (hS.ch _ _ rfl) (by as_aux_lemma => kernel_rfl) rfl (by omega) | (apply call_gate 219; first | exact stp_callR hF1 (by as_aux_lemma => kernel_rfl) rfl (opL_le hS rfl) ⟨rfl, rfl, trivial⟩ (allIn_le hS ⟨⟨_, rfl, .inr rfl⟩, ⟨_, rfl, .inr rfl⟩, ⟨_, rfl, .inr rfl⟩, trivial⟩) rfl rfl | exact stp_callR hF2 (by as_aux_lemma => kernel_rfl) rfl (opL_le hS rfl) ⟨rfl, rfl, trivial⟩ (allIn_le hS ⟨⟨_, rfl, .inr rfl⟩, ⟨_, rfl, .inr rfl⟩, ⟨_, rfl, .inr rfl⟩, trivial⟩) rfl rfl)))); (apply draw_put rfl; (focus (intro S1 hS; first | exact stp_indexAddr (k := 2) (j := 0) rfl (hS.op rfl) (hS.op rfl) (hS.ch _ _ rfl) rfl (by as_aux_lemma => kernel_rfl) rfl (by simp) gl (by omega) | exact stp_indexArr (k := 1) (len := 2) (j := 0) rfl (hS.op rfl) (hS.op rfl) (hS.ch _ _ rfl) (by as_aux_lemma => kernel_rfl) rfl (by omega) | exact stp_indexArr (k := 1) (len := 2) (j := 1) rfl (hS.op rfl) (hS.op rfl) (hS.ch _ _ rfl) (by as_aux_lemma => kernel_rfl) rfl (by omega) | (apply call_gate 219; first | exact stp_callR hF1 (by as_aux_lemma => kernel_rfl) rfl (opL_le hS rfl) ⟨rfl, rfl, trivial⟩ (allIn_le hS ⟨⟨_, rfl, .inr rfl⟩, ⟨_, rfl, .inr rfl⟩, ⟨_, rfl, .inr rfl⟩, trivial⟩) rfl rfl | exact stp_callR hF2 (by as_aux_lemma => kernel_rfl) rfl (opL_le hS rfl) ⟨rfl, rfl, trivial⟩ (allIn_le hS ⟨⟨_, rfl, .inr rfl⟩, ⟨_, rfl, .inr rfl⟩, ⟨_, rfl, .inr rfl⟩, trivial⟩) rfl rfl)))); apply draw_put rfl; (intro S1 hS; exact stp_loadV rfl (by as_aux_lemma => kernel_rfl) (hS.op rfl) (hS.ch _ _ rfl) rfl (by first | assumption | exact ivals_get (by assumption) | exact irows_get (by assumption) | exact ivals_get (by omega) | exact irows_get (by omega) | rfl)); (apply draw_put rfl; (focus (intro S1 hS; first | exact stp_indexAddr (k := 2) (j := 0) rfl (hS.op rfl) (hS.op rfl) (hS.ch _ _ rfl) rfl (by as_aux_lemma => kernel_rfl) rfl (by simp) gl (by omega) | exact stp_indexArr (k := 1) (len := 2) (j := 0) rfl (hS.op rfl) (hS.op rfl) (hS.ch _ _ rfl) (by as_aux_lemma => kernel_rfl) rfl (by omega) | exact stp_indexArr (k := 1) (len := 2) (j := 1) rfl (hS.op rfl) (hS.op rfl) (hS.ch _ _ rfl) (by as_aux_lemma => kernel_rfl) rfl (by omega) | (apply call_gate 219; first | exact stp_callR hF1 (by as_aux_lemma => kernel_rfl) rfl (opL_le hS rfl) ⟨rfl, rfl, trivial⟩ (allIn_le hS ⟨⟨_, rfl, .inr rfl⟩, ⟨_, rfl, .inr rfl⟩, ⟨_, rfl, .inr rfl⟩, trivial⟩) rfl rfl | exact stp_callR hF2 (by as_aux_lemma => kernel_rfl) rfl (opL_le hS rfl) ⟨rfl, rfl, trivial⟩ (allIn_le hS ⟨⟨_, rfl, .inr rfl⟩, ⟨_, rfl, .inr rfl⟩, ⟨_, rfl, .inr rfl⟩, trivial⟩) rfl rfl)))); apply draw_put rfl; (intro S1 hS; exact stp_move rfl (hS.op rfl)); apply draw_put rfl; (intro S1 hS; exact stp_move rfl (hS.op rfl)); (apply draw_put rfl; (focus (intro S1 hS; first | exact stp_indexAddr (k := 2) (j := 0) rfl (hS.op rfl) (hS.op rfl) (hS.ch _ _ rfl) rfl (by as_aux_lemma => kernel_rfl) rfl (by simp) gl (by omega) | exact stp_indexArr (k := 1) (len := 2) (j := 0) rfl (hS.op rfl) (hS.op rfl) (hS.ch _ _ rfl) (by as_aux_lemma => kernel_rfl) rfl (by omega) | exact stp_indexArr (k := 1) (len := 2) (j := 1) rfl (hS.op rfl) (hS.op rfl) (hS.ch _ _ rfl) (by as_aux_lemma => kernel_rfl) rfl (by omega) | (apply call_gate 219; first | exact stp_callR hF1 (by as_aux_lemma => kernel_rfl) rfl (opL_le hS rfl) ⟨rfl, rfl, trivial⟩ (allIn_le hS ⟨⟨_, rfl, .inr rfl⟩, ⟨_, rfl, .inr rfl⟩, ⟨_, rfl, .inr rfl⟩, trivial⟩) rfl rfl | exact stp_callR hF2 (by as_aux_lemma => kernel_rfl) rfl (opL_le hS rfl) ⟨rfl, rfl, trivial⟩ (allIn_le hS ⟨⟨_, rfl, .inr rfl⟩, ⟨_, rfl, .inr rfl⟩, ⟨_, rfl, .inr rfl⟩, trivial⟩) rfl rfl)))); (apply draw_put rfl; (focus (intro S1 hS; first | exact stp_indexAddr (k := 2) (j := 0) rfl (hS.op rfl) (hS.op rfl) (hS.ch _ _ rfl) rfl (by as_aux_lemma => kernel_rfl) rfl (by simp) gl (by omega) | exact stp_indexArr (k := 1) (len := 2) (j := 0) rfl (hS.op rfl) (hS.op rfl) (hS.ch _ _ rfl) (by as_aux_lemma => kernel_rfl) rfl (by omega) | exact stp_indexArr (k := 1) (len := 2) (j := 1) rfl (hS.op rfl) (hS.op rfl) (hS.ch _ _ rfl) (by as_aux_lemma => kernel_rfl) rfl (by omega) | (apply call_gate 219; first | exact stp_callR hF1 (by as_aux_lemma => kernel_rfl) rfl (opL_le hS rfl) ⟨rfl, rfl, trivial⟩ (allIn_le hS ⟨⟨_, rfl, .inr rfl⟩, ⟨_, rfl, .inr rfl⟩, ⟨_, rfl, .inr rfl⟩, trivial⟩) rfl rfl | exact stp_callR hF2 (by as_aux_lemma => kernel_rfl) rfl (opL_le hS rfl) ⟨rfl, rfl, trivial⟩ (allIn_le hS ⟨⟨_, rfl, .inr rfl⟩, ⟨_, rfl, .inr rfl⟩, ⟨_, rfl, .inr rfl⟩, trivial⟩) rfl rfl)))); apply draw_put rfl; (intro S1 hS; exact stp_loadV rfl (by as_aux_lemma => kernel_rfl) (hS.op rfl) (hS.ch _ _ rfl) rfl (by first | assumption | exact ivals_get (by assumption) | exact irows_get (by assumption) | exact ivals_get (by omega) | exact irows_get (by omega) | rfl)); (apply draw_put rfl; (focus (intro S1 hS; first | exact stp_indexAddr (k := 2) (j := 0) rfl (hS.op rfl) (hS.op rfl) (hS.ch _ _ rfl) rfl (by as_aux_lemma => kernel_rfl) rfl (by simp) gl (by omega) | exact stp_indexArr (k := 1) (len := 2) (j := 0) rfl (hS.op rfl) (hS.op rfl) (hS.ch _ _ rfl) (by as_aux_lemma => kernel_rfl) rfl (by omega) | exact stp_indexArr (k := 1) (len := 2) (j := 1) rfl (hS.op rfl) (hS.op rfl) (hS.ch _ _ rfl) (by as_aux_lemma => kernel_rfl) rfl (by omega) | (apply call_gate 219; first | exact stp_callR hF1 (by as_aux_lemma => kernel_rfl) rfl (opL_le hS rfl) ⟨rfl, rfl, trivial⟩ (allIn_le hS ⟨⟨_, rfl, .inr rfl⟩, ⟨_, rfl, .inr rfl⟩, ⟨_, rfl, .inr rfl⟩, trivial⟩) rfl rfl | exact stp_callR hF2 (by as_aux_lemma => kernel_rfl) rfl (opL_le hS rfl) ⟨rfl, rfl, trivial⟩ (allIn_le hS ⟨⟨_, rfl, .inr rfl⟩, ⟨_, rfl, .inr rfl⟩, ⟨_, rfl, .inr rfl⟩, trivial⟩) rfl rfl)))); exact Draw.nil)
    · rfl
    ((apply rest_one 12 rfl (by as_aux_lemma => kernel_rfl) rfl rfl; (exact stp_assign rfl rfl)); (apply rest_one 13 rfl (by as_aux_lemma => kernel_rfl) rfl rfl; (exact stp_assign rfl rfl)); (refine rest_done (by as_aux_lemma => kernel_rfl) ?_; skip))
    have hr1 := root_lt hw1.down (c := p.1.toNat) (by omega)
    have hr2 := root_lt hw1.down (c := p.2.toNat) (by omega)
    (refine fin_seq ?_; refine goes_seq ?_; refine goes_seq ?_; refine goes_region ?_; apply run_step rfl; (exact stp_move rfl rfl); apply run_step rfl; (exact stp_move rfl rfl); apply run_step rfl; (exact stp_bin rfl rfl rfl rfl); refine run_nil ?_; refine fin_seq ?_)
    refine goes_cond rfl (fun he => ?_) (fun he => ?_)
    · have he' : root less1 p.1.toNat = root less1 p.2.toNat := by have := he; simp at this; omega
      have hfu : fuel ng less1 (p :: q) = fuel ng less1 q + 1 := by unfold fuel; simp; omega
      (refine goes_exit ?_; refine fin_exit_then ?_; refine fin_exit_eq ?_; refine fin_seq ?_; refine goes_region ?_; apply run_step rfl; (exact stp_move rfl rfl); apply run_step rfl; (exact stp_slice (k := 2) (l := 1) rfl rfl rfl rfl (by as_aux_lemma => kernel_rfl) (by omega) (bnd_some rfl rfl) bnd_none (by simp) (Nat.le_refl _) gl); apply run_step rfl; (exact stp_assign rfl rfl); refine run_nil ?_)
      exact fin_round (im1, less1, q, pre ++ [p.1, p.2], o + 1) ⟨hw1, hn1, hqn, by show fuel ng less1 q ≤ _; omega, by rw [← ident_same hw1 (hn1 ▸ hq) he']; exact hr, by simp; omega⟩ (by show fuel ng less1 q < fuel ng less1 (p :: q); omega) (Wk.of ⟨rfl, rfl, trivial⟩ ⟨rfl, rfl, rfl, congrArg (fun l => some (prCh l)) (show pre ++ pflat (p :: q) = (pre ++ [p.1, p.2]) ++ pflat q by simp [pflat]), trivial⟩ ⟨rfl, trivial⟩)
    · have he' : root less1 p.1.toNat ≠ root less1 p.2.toNat := by have := he; simp at this; omega
      obtain ⟨hm1, hm2, hm3, hm4⟩ := ident_merge hw1 (hn1 ▸ hq) he'
      generalize hcc : root less1 p.1.toNat = cc at *
      generalize hdd : root less1 p.2.toNat = dd at *
      unfold mergeSt at hm1 hm2 hm3 hm4
      have hhl : max cc dd < less1.length := by omega
      have him : max cc dd < im1.length := by omega
      have hrw : (lget im1 (max cc dd)).length = ng := hw1.row _ him
      (refine goes_skip ?_; refine fin_seq ?_; refine goes_seq ?_; refine goes_region ?_; apply run_step rfl; (exact stp_move rfl rfl); apply run_step rfl; (exact stp_move rfl rfl); apply run_step rfl; (first | exact stp_minN rfl rfl rfl | exact stp_maxN rfl rfl rfl); apply run_step rfl; (exact stp_move rfl rfl); apply run_step rfl; (exact stp_move rfl rfl); apply run_step rfl; (first | exact stp_minN rfl rfl rfl | exact stp_maxN rfl rfl rfl); apply run_step rfl; (exact stp_assign rfl rfl); apply run_step rfl; (exact stp_assign rfl rfl); refine run_nil ?_; refine fin_seq ?_; refine goes_seq ?_; refine goes_region ?_; apply run_step rfl; (exact stp_move rfl rfl); apply run_step rfl; (exact stp_nilCheck rfl rfl rfl); apply run_step rfl; (exact stp_fieldAddr (d := 1) rfl rfl rfl (by as_aux_lemma => kernel_rfl)); apply run_step rfl; (exact stp_loadF rfl (by as_aux_lemma => kernel_rfl) rfl rfl rfl rfl); apply run_step rfl; (exact stp_move rfl rfl); apply run_step rfl; (exact stp_move rfl rfl); apply run_step rfl; (exact stp_ix rfl rfl rfl rfl rfl (by as_aux_lemma => kernel_rfl) (by first | rfl | exact (Int.toNat_of_nonneg (by omega)).symm) (by first | assumption | omega | (simp; omega)) (by first | exact Nat.le_refl _ | exact Nat.le_of_eq (ivals_len _).symm | exact Nat.le_of_eq (irows_len _).symm | (refine Nat.le_trans ?_ (Nat.le_of_eq (ivals_len _).symm); (first | omega | (simp; done) | (simp; omega))) | (refine Nat.le_trans ?_ (Nat.le_of_eq (irows_len _).symm); (first | omega | (simp; done) | (simp; omega))))); apply run_step rfl; (exact stp_stI rfl rfl rfl rfl rfl (by first | assumption | omega | (simp; omega)) (by as_aux_lemma => kernel_rfl)); refine run_nil ?_; refine fin_seq ?_; refine goes_seq ?_; refine goes_region ?_; apply run_step rfl; (exact stp_move rfl rfl); apply run_step rfl; (exact stp_nilCheck rfl rfl rfl); apply run_step rfl; (exact stp_fieldAddr (d := 0) rfl rfl rfl (by as_aux_lemma => kernel_rfl)); apply run_step rfl; (exact stp_loadF rfl (by as_aux_lemma => kernel_rfl) rfl rfl rfl rfl); apply run_step rfl; (exact stp_move rfl rfl); apply run_step rfl; (exact stp_ix rfl rfl rfl rfl rfl (by as_aux_lemma => kernel_rfl) (by first | rfl | exact (Int.toNat_of_nonneg (by omega)).symm) (by first | assumption | omega | (simp; omega)) (by first | exact Nat.le_refl _ | exact Nat.le_of_eq (ivals_len _).symm | exact Nat.le_of_eq (irows_len _).symm | (refine Nat.le_trans ?_ (Nat.le_of_eq (ivals_len _).symm); (first | omega | (simp; done) | (simp; omega))) | (refine Nat.le_trans ?_ (Nat.le_of_eq (irows_len _).symm); (first | omega | (simp; done) | (simp; omega))))); apply run_step rfl; (exact stp_loadR rfl (by as_aux_lemma => kernel_rfl) rfl rfl rfl (by first | assumption | exact ivals_get (by assumption) | exact irows_get (by assumption) | exact ivals_get (by omega) | exact irows_get (by omega) | rfl) (by first | exact ivals_len _ | assumption | rfl)); apply run_step rfl; (exact stp_len rfl rfl rfl (by as_aux_lemma => kernel_rfl)); apply run_step rfl; (exact stp_move rfl rfl); refine run_nil ?_; refine fin_seq ?_; refine goes_block ?_)
      have hll : min cc dd < max cc dd ∧ max cc dd < n := by omega
      generalize min cc dd = lo at *
      generalize max cc dd = hi at *
      have hfb : (p :: q).length ≤ 2100000 := by unfold fuel at hb; omega
      clear g1 g2 gl hF1 hF2
      refine goes_loop (fun j : Nat × List Int × Nat => St.of [(0, o1 (.ptr 1010 0)), (6, o1 (.sl 15 j.2.2 ((p :: q) ++ (mergeUp lo hi (im1, []) j.1).2).length)), (7, vv (I6 lo)), (8, vv (I6 hi)), (55, o1 (.esl 1000 hi 0 ng)), (56, vv (I6 ng)), (57, vv (I6 j.1))] [(1010, coOw n n b), (1000, imOw (mergeUp lo hi (im1, []) j.1).1), (1001, leOw (less1.set hi (lo : Int))), (15, prCh (j.2.1 ++ pflat ((p :: q) ++ (mergeUp lo hi (im1, []) j.1).2)))] [(0, o1 (.ptr 1010 0))]) (fun j => j.1 ≤ ng ∧ j.2.1.length = 2 * j.2.2) (fun j => ng - j.1) (0, pre, o) ⟨Nat.zero_le _, hpre⟩ (Wk.of ⟨rfl, congrArg (fun l : List (Int × Int) => some (o1 (.sl 15 o l.length))) (List.append_nil (p :: q)).symm, rfl, rfl, by rw [← hrw]; rfl, by rw [← hrw]; rfl, rfl, trivial⟩ ⟨rfl, rfl, rfl, congrArg (fun l : List (Int × Int) => some (prCh (pre ++ pflat l))) (List.append_nil (p :: q)).symm, trivial⟩ ⟨rfl, trivial⟩) ?_
      clear hpre
      rintro ⟨g, pre2, o2⟩ ⟨hg, hpre⟩
      dsimp only at hg hpre ⊢
      obtain ⟨M, N, hMN⟩ : ∃ M N, mergeUp lo hi (im1, []) g = (M, N) := ⟨_, _, rfl⟩
      have hAq := mergeUp_app lo hi im1 q g
      obtain ⟨k1, k2, k3, k4⟩ := mergeUp_ok hw1 (lo := lo) (hi := hi) (q := []) (by omega) (by omega) (fun x hx => by simp at hx) g hg
      rw [hMN] at hAq k1 k2 k3 k4
      dsimp only at hAq k1 k2 k3 k4
      rw [hMN]
      dsimp only
      have hMl : M.length = n := k1.len.trans hn1
      have hrow := k1.row hi (by omega)
      have hrowl := k1.row lo (by omega)
      have hNl : ((p :: q) ++ N).length ≤ 2200000 := by rw [List.length_append]; simp at k3 hfb ⊢; omega
      (refine goes_seq ?_; refine goes_region ?_; apply run_step rfl; (exact stp_bin rfl rfl rfl rfl); refine run_nil ?_; refine fin_seq ?_; refine goes_seq ?_)
      refine goes_if rfl (fun hgl => ?_) (fun hgl => ?_)
      · have hg' : g < ng := by omega
        have e1 := k1.ent hi g (by omega) hg'
        have e2 := k1.ent lo g (by omega) hg'
        (refine goes_skip ?_; refine fin_seq ?_; refine goes_seq ?_; refine goes_block ?_; refine goes_seq ?_; refine goes_region ?_; apply run_step rfl; (exact stp_move rfl rfl); apply run_step rfl; (exact stp_ixE rfl rfl rfl rfl rfl (by as_aux_lemma => kernel_rfl) (by first | assumption | exact ivals_get (by assumption) | exact irows_get (by assumption) | exact ivals_get (by omega) | exact irows_get (by omega) | rfl) (by first | rfl | exact (Int.toNat_of_nonneg (by omega)).symm) (by first | assumption | omega | (simp; omega)) (by first | exact Nat.le_refl _ | exact Nat.le_of_eq (ivals_len _).symm | exact Nat.le_of_eq (irows_len _).symm | (refine Nat.le_trans ?_ (Nat.le_of_eq (ivals_len _).symm); (first | omega | (simp; done) | (simp; omega))) | (refine Nat.le_trans ?_ (Nat.le_of_eq (irows_len _).symm); (first | omega | (simp; done) | (simp; omega))))); apply run_step rfl; (exact stp_loadE' rfl (by as_aux_lemma => kernel_rfl) rfl rfl rfl (by first | assumption | exact ivals_get (by assumption) | exact irows_get (by assumption) | exact ivals_get (by omega) | exact irows_get (by omega) | rfl) (by first | assumption | exact ivals_get (by assumption) | exact irows_get (by assumption) | exact ivals_get (by omega) | exact irows_get (by omega) | rfl)); apply run_step rfl; (exact stp_assign rfl rfl); apply run_step rfl; (exact stp_assign rfl rfl); refine run_nil ?_; refine fin_seq ?_; refine goes_seq ?_; refine goes_seq ?_; refine goes_region ?_; apply run_step rfl; (exact stp_move rfl rfl); apply run_step rfl; (exact stp_bin rfl rfl rfl rfl); refine run_nil ?_; refine fin_seq ?_)
        refine goes_if rfl (fun he => ?_) (fun he => ?_)
        · have he : ent M hi g < 0 := he
          have hstep : mergeUp lo hi (im1, []) (g + 1) = (M, N) := by rw [mergeUp, hMN]; exact if_pos he
          (refine goes_exit ?_; refine fin_exit_then ?_; refine fin_exit_eq ?_; refine fin_seq ?_; refine goes_region ?_; apply run_step rfl; (exact stp_add rfl rfl rfl (by first | exact IntWalk.i64_in _ (by omega) | rfl)); apply run_step rfl; (exact stp_move rfl rfl); refine run_nil ?_)
          exact fin_round (g + 1, pre2, o2) ⟨hg', hpre⟩ (by show ng - (g + 1) < ng - g; omega) (Wk.of (by rw [hstep]; exact ⟨rfl, rfl, rfl, rfl, rfl, rfl, rfl, trivial⟩) (by rw [hstep]; exact ⟨rfl, rfl, rfl, rfl, trivial⟩) ⟨rfl, trivial⟩)
        · have he : ¬ ent M hi g < 0 := he
          (refine goes_skip ?_; refine fin_seq ?_; refine goes_seq ?_; refine goes_region ?_; apply run_step rfl; (exact stp_move rfl rfl); apply run_step rfl; (exact stp_nilCheck rfl rfl rfl); apply run_step rfl; (exact stp_fieldAddr (d := 0) rfl rfl rfl (by as_aux_lemma => kernel_rfl)); apply run_step rfl; (exact stp_loadF rfl (by as_aux_lemma => kernel_rfl) rfl rfl rfl rfl); apply run_step rfl; (exact stp_move rfl rfl); apply run_step rfl; (exact stp_ix rfl rfl rfl rfl rfl (by as_aux_lemma => kernel_rfl) (by first | rfl | exact (Int.toNat_of_nonneg (by omega)).symm) (by first | assumption | omega | (simp; omega)) (by first | exact Nat.le_refl _ | exact Nat.le_of_eq (ivals_len _).symm | exact Nat.le_of_eq (irows_len _).symm | (refine Nat.le_trans ?_ (Nat.le_of_eq (ivals_len _).symm); (first | omega | (simp; done) | (simp; omega))) | (refine Nat.le_trans ?_ (Nat.le_of_eq (irows_len _).symm); (first | omega | (simp; done) | (simp; omega))))); apply run_step rfl; (exact stp_loadR rfl (by as_aux_lemma => kernel_rfl) rfl rfl rfl (by first | assumption | exact ivals_get (by assumption) | exact irows_get (by assumption) | exact ivals_get (by omega) | exact irows_get (by omega) | rfl) (by first | exact ivals_len _ | assumption | rfl)); apply run_step rfl; (exact stp_move rfl rfl); apply run_step rfl; (exact stp_ixE rfl rfl rfl rfl rfl (by as_aux_lemma => kernel_rfl) (by first | assumption | exact ivals_get (by assumption) | exact irows_get (by assumption) | exact ivals_get (by omega) | exact irows_get (by omega) | rfl) (by first | rfl | exact (Int.toNat_of_nonneg (by omega)).symm) (by first | assumption | omega | (simp; omega)) (by first | exact Nat.le_refl _ | exact Nat.le_of_eq (ivals_len _).symm | exact Nat.le_of_eq (irows_len _).symm | (refine Nat.le_trans ?_ (Nat.le_of_eq (ivals_len _).symm); (first | omega | (simp; done) | (simp; omega))) | (refine Nat.le_trans ?_ (Nat.le_of_eq (irows_len _).symm); (first | omega | (simp; done) | (simp; omega))))); apply run_step rfl; (exact stp_loadE' rfl (by as_aux_lemma => kernel_rfl) rfl rfl rfl (by first | assumption | exact ivals_get (by assumption) | exact irows_get (by assumption) | exact ivals_get (by omega) | exact irows_get (by omega) | rfl) (by first | assumption | exact ivals_get (by assumption) | exact irows_get (by assumption) | exact ivals_get (by omega) | exact irows_get (by omega) | rfl)); apply run_step rfl; (exact stp_assign rfl rfl); refine run_nil ?_; refine fin_seq ?_; refine goes_seq ?_; refine goes_region ?_; apply run_step rfl; (exact stp_move rfl rfl); apply run_step rfl; (exact stp_bin rfl rfl rfl rfl); refine run_nil ?_; refine fin_seq ?_)
          refine goes_if rfl (fun hf => ?_) (fun hf => ?_)
          · have hf : ent M lo g ≥ 0 := hf
            have hstep : mergeUp lo hi (im1, []) (g + 1) = (M, N ++ [(ent M hi g, ent M lo g)]) := by rw [mergeUp, hMN]; exact (if_neg he).trans (if_pos hf)
            have hln : (o2 + ((p :: q) ++ N).length) * 2 = (ivals (pre2 ++ pflat ((p :: q) ++ N))).length := prLen hpre _
            (refine goes_region ?_; apply run_step rfl; (exact stp_move rfl rfl); apply run_step rfl; (exact stp_move rfl rfl); apply run_step rfl; (exact stp_move rfl rfl); apply run_step rfl; (first | exact stp_build2 rfl rfl rfl (by as_aux_lemma => kernel_rfl) | exact stp_litP (t := 80) (E := 171) rfl (by as_aux_lemma => kernel_rfl) rfl); apply run_step rfl; (first | exact stp_build2 rfl rfl rfl (by as_aux_lemma => kernel_rfl) | exact stp_litP (t := 80) (E := 171) rfl (by as_aux_lemma => kernel_rfl) rfl))
            refine run_or rfl (stpor_append (k := 2) (m := 1) (E := 171) rfl (by as_aux_lemma => kernel_rfl) rfl rfl rfl hln rfl (reads_vals (k := 2) rfl rfl rfl rfl (Nat.le_refl _)) (by omega) (by intro v hv; simp [ivals] at hv; rcases hv with rfl | rfl <;> rfl) (by omega)) ?_ ?_
            · (apply run_step rfl; (exact stp_assign rfl rfl); refine run_nil ?_; refine fin_block ?_; refine fin_seq ?_; refine goes_region ?_; apply run_step rfl; (exact stp_add rfl rfl rfl (by first | exact IntWalk.i64_in _ (by omega) | rfl)); apply run_step rfl; (exact stp_move rfl rfl); refine run_nil ?_)
              exact fin_round (g + 1, [], 0) ⟨hg', rfl⟩ (by show ng - (g + 1) < ng - g; omega) (Wk.of (by rw [hstep]; exact ⟨rfl, congrArg (fun x => some (o1 (.sl 15 0 x))) (by simp; omega), rfl, rfl, rfl, rfl, rfl, trivial⟩) (by rw [hstep]; exact ⟨rfl, rfl, rfl, congrArg (fun l => some (⟨true, 171, 2, .vals l⟩ : Ch)) (prApp1 hpre (p :: q) N (ent M hi g) (ent M lo g)), trivial⟩) ⟨rfl, trivial⟩)
            · (apply run_step rfl; (exact stp_assign rfl rfl); refine run_nil ?_; refine fin_block ?_; refine fin_seq ?_; refine goes_region ?_; apply run_step rfl; (exact stp_add rfl rfl rfl (by first | exact IntWalk.i64_in _ (by omega) | rfl)); apply run_step rfl; (exact stp_move rfl rfl); refine run_nil ?_)
              exact fin_round (g + 1, pre2, o2) ⟨hg', hpre⟩ (by show ng - (g + 1) < ng - g; omega) (Wk.of (by rw [hstep]; exact ⟨rfl, congrArg (fun x => some (o1 (.sl 15 o2 x))) (by simp; omega), rfl, rfl, rfl, rfl, rfl, trivial⟩) (by rw [hstep]; exact ⟨rfl, rfl, rfl, congrArg (fun l => some (⟨true, 171, 2, .vals l⟩ : Ch)) (prApp2 pre2 (p :: q) N (ent M hi g) (ent M lo g)), trivial⟩) ⟨rfl, trivial⟩)
          · have hf : ¬ ent M lo g ≥ 0 := hf
            have hstep : mergeUp lo hi (im1, []) (g + 1) = (rset M lo g (ent M hi g), N) := by rw [mergeUp, hMN]; exact (if_neg he).trans (if_neg hf)
            (refine goes_region ?_; apply run_step rfl; (exact stp_move rfl rfl); apply run_step rfl; (exact stp_nilCheck rfl rfl rfl); apply run_step rfl; (exact stp_fieldAddr (d := 0) rfl rfl rfl (by as_aux_lemma => kernel_rfl)); apply run_step rfl; (exact stp_loadF rfl (by as_aux_lemma => kernel_rfl) rfl rfl rfl rfl); apply run_step rfl; (exact stp_move rfl rfl); apply run_step rfl; (exact stp_ix rfl rfl rfl rfl rfl (by as_aux_lemma => kernel_rfl) (by first | rfl | exact (Int.toNat_of_nonneg (by omega)).symm) (by first | assumption | omega | (simp; omega)) (by first | exact Nat.le_refl _ | exact Nat.le_of_eq (ivals_len _).symm | exact Nat.le_of_eq (irows_len _).symm | (refine Nat.le_trans ?_ (Nat.le_of_eq (ivals_len _).symm); (first | omega | (simp; done) | (simp; omega))) | (refine Nat.le_trans ?_ (Nat.le_of_eq (irows_len _).symm); (first | omega | (simp; done) | (simp; omega))))); apply run_step rfl; (exact stp_loadR rfl (by as_aux_lemma => kernel_rfl) rfl rfl rfl (by first | assumption | exact ivals_get (by assumption) | exact irows_get (by assumption) | exact ivals_get (by omega) | exact irows_get (by omega) | rfl) (by first | exact ivals_len _ | assumption | rfl)); apply run_step rfl; (exact stp_move rfl rfl); apply run_step rfl; (exact stp_move rfl rfl); apply run_step rfl; (exact stp_ixE rfl rfl rfl rfl rfl (by as_aux_lemma => kernel_rfl) (by first | assumption | exact ivals_get (by assumption) | exact irows_get (by assumption) | exact ivals_get (by omega) | exact irows_get (by omega) | rfl) (by first | rfl | exact (Int.toNat_of_nonneg (by omega)).symm) (by first | assumption | omega | (simp; omega)) (by first | exact Nat.le_refl _ | exact Nat.le_of_eq (ivals_len _).symm | exact Nat.le_of_eq (irows_len _).symm | (refine Nat.le_trans ?_ (Nat.le_of_eq (ivals_len _).symm); (first | omega | (simp; done) | (simp; omega))) | (refine Nat.le_trans ?_ (Nat.le_of_eq (irows_len _).symm); (first | omega | (simp; done) | (simp; omega))))); apply run_step rfl; (exact stp_stE rfl rfl rfl rfl rfl (by first | assumption | omega | (simp; omega)) (by first | assumption | omega | (simp; omega)) (by as_aux_lemma => kernel_rfl)); refine run_nil ?_; refine fin_block ?_; refine fin_seq ?_; refine goes_region ?_; apply run_step rfl; (exact stp_add rfl rfl rfl (by first | exact IntWalk.i64_in _ (by omega) | rfl)); apply run_step rfl; (exact stp_move rfl rfl); refine run_nil ?_)
            exact fin_round (g + 1, pre2, o2) ⟨hg', hpre⟩ (by show ng - (g + 1) < ng - g; omega) (Wk.of (by rw [hstep]; exact ⟨rfl, rfl, rfl, rfl, rfl, rfl, rfl, trivial⟩) (by rw [hstep]; exact ⟨rfl, rfl, rfl, rfl, trivial⟩) ⟨rfl, trivial⟩)
      · obtain rfl : g = ng := by omega
        rw [hAq] at hm1 hm2 hm3 hm4
        dsimp only at hm1 hm2 hm3 hm4
        have gl : (o2 + ((p :: q) ++ N).length) * 2 ≤ (ivals (pre2 ++ pflat ((p :: q) ++ N))).length := Nat.le_of_eq (prLen hpre _)
        (refine goes_exit ?_; refine fin_exit_then ?_; refine fin_exit_then ?_; refine fin_exit_eq ?_; refine fin_block ?_; refine fin_seq ?_; refine goes_region ?_; apply run_step rfl; (exact stp_move rfl rfl); apply run_step rfl; (exact stp_slice (k := 2) (l := 1) rfl rfl rfl rfl (by as_aux_lemma => kernel_rfl) (by omega) (bnd_some rfl rfl) bnd_none (by simp) (Nat.le_refl _) gl); apply run_step rfl; (exact stp_assign rfl rfl); refine run_nil ?_)
        exact fin_round (M, less1.set hi (lo : Int), q ++ N, pre2 ++ [p.1, p.2], o2 + 1) ⟨hm2, by rw [List.length_set]; exact hn1, by rw [← hn1]; exact hm3, by show fuel _ (less1.set hi (lo : Int)) (q ++ N) ≤ 2100000; omega, by show ident _ _ _ (q ++ N) = R; rw [← hm1]; exact hr, by simp; omega⟩ (by show fuel _ _ (q ++ N) < fuel _ less1 (p :: q); exact hm4) (Wk.of ⟨rfl, rfl, trivial⟩ ⟨rfl, rfl, rfl, congrArg (fun l => some (prCh l)) (show pre2 ++ pflat ((p :: q) ++ N) = (pre2 ++ [p.1, p.2]) ++ pflat (q ++ N) by simp [pflat]), trivial⟩ ⟨rfl, trivial⟩)
  · obtain rfl : qq = [] := by
      cases qq with
      | nil => rfl
      | cons p q => simp at hlt
    rw [ident_nil] at hr
    subst hr
    (refine goes_exit ?_; refine fin_exit_then ?_; refine fin_exit_then ?_; refine fin_exit_eq ?_)
    exact fin_ret0 (.inr rfl) rfl ⟨rfl, rfl, rfl, trivial⟩ ⟨rfl, trivial⟩
end Go.Proofs.Ytpognnifgcacnaa

/- The program's coset enumeration: closeAt. guards: -/
namespace Go.Proofs.Ytpognnifgcacnaa
open Go.RowKit

theorem rset_swap {im : List (List Int)} {c d g : Nat} : rset (rset im c g (d : Int)) d g (c : Int) = rset (rset im d g (c : Int)) c g (d : Int) := by
  by_cases e : c = d
  · subst e; rfl
  · unfold rset
    rw [lget_set, if_neg (fun h => e h.1), lget_set, if_neg (fun h => e h.1.symm), List.set_comm _ _ e]
/-- closing a word also where the procedure has failed -/
def closeI (ng : Nat) (im : List (List Int)) (less : List Int) (b : Bool) (c : Nat) (w : List Nat) : CSt :=
  if b = true then (if w.length = 1 then ((closeC ng im less c w).1, (closeC ng im less c w).2.1, true) else (im, less, true)) else closeC ng im less c w
theorem closeC_last {ng c : Nat} {im : List (List Int)} {less : List Int} {w : List Nat} {g : Nat} {M : List (List Int)} {N : List Int} {d : Nat} (hw : w.getLast? = some g) (hg : goC ng (im, less, false, c) w.dropLast = (M, N, false, d)) :
    closeC ng im less c w = if 0 ≤ image M N d g then ((ident ng M N [(image M N d g, (c : Int))]).1, (ident ng M N [(image M N d g, (c : Int))]).2, false)
      else if 0 ≤ image M N c g then ((ident ng M N [(image M N c g, (d : Int))]).1, (ident ng M N [(image M N c g, (d : Int))]).2, false)
      else (rset (rset M d g c) c g d, N, false) := by
  unfold closeC; rw [hw]; dsimp only; rw [hg]; rfl
theorem closeC_fail {ng c : Nat} {im : List (List Int)} {less : List Int} {w : List Nat} {g : Nat} {M : List (List Int)} {N : List Int} {d : Nat} (hw : w.getLast? = some g) (hg : goC ng (im, less, false, c) w.dropLast = (M, N, true, d)) :
    closeC ng im less c w = (M, N, true) := by
  unfold closeC; rw [hw]; dsimp only; rw [hg]; rfl
theorem goC_take {ng : Nat} {s s' : List (List Int) × List Int × Bool × Nat} {w : List Nat} {k : Nat} (h : goC ng s (w.take k) = s') (hf : s'.2.2.1 = true) : goC ng s w = s' := by
  rw [← List.take_append_drop k w, goC_app, h, goC_failed hf]

set_option maxRecDepth 100000 in
set_option maxHeartbeats 2000000 in
theorem iCloseAt_fc (ng n : Nat) (im : List (List Int)) (less : List Int) (b : Bool) (c : Nat) (words : List (List Int)) (j wl : Nat) (W : List Int) (hnn : less.length = n) (hw : WF ng im less) (hb : b = true → less.length = 2000) (hc : c < less.length) (hn : less.length ≤ 2000) (hng : ng ≤ 1000) (hj : j < words.length) (hW : lget words j = W) (hwl : W.length = wl) (hwb : wl ≤ 1000000000) (hlet : Letters ng W) (C : CSt) (hC : closeI ng im less b c (W.map Int.toNat) = C) :
    FC Try.prog 193 [(1010, coOw n n b), (1000, imOw im), (1001, leOw less), (1002, rowsRo words)] [o1 (.ptr 1010 0), o1 (.esl 1002 j 0 wl), vv (I6 c)] [(1010, coOw C.2.1.length C.2.1.length C.2.2), (1000, imOw C.1), (1001, leOw C.2.1)] (.tup []) [(0, o1 (.ptr 1010 0))] := by
  subst hnn hwl
  have hrow : (irows words)[j]? = some (ivals W) := by rw [← hW]; exact irows_get hj
  have hWl : (ivals W).length = W.length := ivals_len W
  refine fc_enter (nt := 76) Try.func193 rfl rfl (by simp) fun w0 ω0 => ?_
  (refine goes_seq ?_; refine goes_seq ?_; refine goes_region ?_; apply run_step rfl; (exact stp_move rfl rfl); apply run_step rfl; (exact stp_len rfl rfl rfl (by as_aux_lemma => kernel_rfl)); apply run_step rfl; (exact stp_bin rfl rfl rfl rfl); refine run_nil ?_; refine fin_seq ?_)
  refine goes_cond rfl (fun h0 => ?_) (fun h0 => ?_)
  · obtain rfl : W = [] := by simpa using h0
    have hCe : C = (im, less, b) := by
      rw [← hC]; unfold closeI; cases b <;> rfl
    subst hCe
    (refine goes_ret ?_; refine fin_ret_then ?_)
    exact fin_ret0 (.inl rfl) rfl ⟨rfl, rfl, rfl, trivial⟩ ⟨rfl, trivial⟩
  · have hpos : 0 < W.length := List.length_pos_iff.2 (by simpa using h0)
    obtain ⟨L, hL⟩ : ∃ L, W.map Int.toNat = L := ⟨_, rfl⟩
    have hLl : L.length = W.length := by rw [← hL]; simp
    have hget : ∀ k, k < W.length → ∃ g : Nat, g < ng ∧ L[k]? = some g ∧ iget W k = (g : Int) := fun k hk => by
      have hz := hlet (iget W k) (iget_mem hk)
      refine ⟨(iget W k).toNat, by omega, ?_, (Int.toNat_of_nonneg hz.1).symm⟩
      rw [← hL, List.getElem?_map, List.getElem?_eq_getElem hk, iget_lt hk]; rfl
    have hdl : L.dropLast = L.take (W.length - 1) := by rw [List.dropLast_eq_take, hLl]
    rw [hL] at hC
    have hws : IntKind.i64.wrap ((W.length : Int) - 1) = ((W.length - 1 : Nat) : Int) := by rw [IntWalk.i64_in _ (by omega)]; omega
    (refine goes_skip ?_; refine fin_seq ?_; refine goes_seq ?_; refine goes_region ?_; apply run_step rfl; (exact stp_move rfl rfl); apply run_step rfl; (exact stp_assign rfl rfl); refine run_nil ?_; refine fin_seq ?_; refine goes_seq ?_; refine goes_region ?_; apply run_step rfl; (exact stp_move rfl rfl); apply run_step rfl; (exact stp_len rfl rfl rfl (by as_aux_lemma => kernel_rfl)); apply run_step rfl; (first | exact stp_sub rfl rfl rfl hws | exact stp_sliceE (l := W.length - 1) rfl rfl rfl rfl hrow (by as_aux_lemma => kernel_rfl) rfl rfl (by omega) (Nat.le_of_eq hWl.symm)); apply run_step rfl; (exact stp_assign rfl rfl); refine run_nil ?_; refine fin_seq ?_; refine goes_seq ?_; refine goes_seq ?_; refine goes_region ?_; apply run_step rfl; (exact stp_move rfl rfl); apply run_step rfl; (exact stp_move rfl rfl); apply run_step rfl; (first | exact stp_sub rfl rfl rfl hws | exact stp_sliceE (l := W.length - 1) rfl rfl rfl rfl hrow (by as_aux_lemma => kernel_rfl) rfl rfl (by omega) (Nat.le_of_eq hWl.symm)); apply run_step rfl; (exact stp_len rfl rfl rfl (by as_aux_lemma => kernel_rfl)); apply run_step rfl; (exact stp_move rfl rfl); refine run_nil ?_; refine fin_seq ?_; refine goes_block ?_)
    refine goes_loop (fun q : Nat × List (List Int) × List Int × Nat => St.of [(0, o1 (.ptr 1010 0)), (1, o1 (.esl 1002 j 0 W.length)), (2, vv (I6 c)), (6, vv (I6 q.2.2.2)), (7, vv (I6 ((W.length - 1 : Nat) : Int))), (23, o1 (.esl 1002 j 0 (W.length - 1))), (24, vv (I6 ((W.length - 1 : Nat) : Int))), (25, vv (I6 q.1))]
        [(1010, coOw q.2.2.1.length q.2.2.1.length b), (1000, imOw q.2.1), (1001, leOw q.2.2.1), (1002, rowsRo words)] [(0, o1 (.ptr 1010 0))])
      (fun q => q.1 ≤ W.length - 1 ∧ goC ng (im, less, false, c) (L.take q.1) = (q.2.1, q.2.2.1, false, q.2.2.2) ∧ (b = true → q.1 = 0)) (fun q => W.length - 1 - q.1) (0, im, less, c) ⟨Nat.zero_le _, rfl, fun _ => rfl⟩ (Wk.of ⟨rfl, rfl, rfl, rfl, rfl, rfl, rfl, rfl, trivial⟩ ⟨rfl, rfl, rfl, rfl, trivial⟩ ⟨rfl, trivial⟩) ?_
    rintro ⟨k, M, N, d⟩ ⟨hk, hgo, hb0⟩
    dsimp only at hk hgo hb0 ⊢
    have hok : GoOK ng less.length (M, N, false, d) := by
      have := goC_ok (ng := ng) (n0 := less.length) (L.take k) (im, less, false, c) ⟨hw, Nat.le_refl _, hn, hc⟩ fun g hg => by
        have hg := List.mem_of_mem_take hg
        rw [← hL] at hg
        exact hlet.nat g hg
      rwa [hgo] at this
    have hMw : WF ng M N := hok.wf
    have hMn : M.length = N.length := hMw.len
    have hdN : d < N.length := hok.d
    have hNhi : N.length ≤ 2000 := hok.hi
    have hlN : less.length ≤ N.length := hok.lo
    have hbN : b = true → N.length = 2000 := fun hbt => by have := hb hbt; omega
    (refine goes_seq ?_; refine goes_region ?_; apply run_step rfl; (exact stp_bin rfl rfl rfl rfl); refine run_nil ?_; refine fin_seq ?_; refine goes_seq ?_)
    refine goes_if rfl (fun hlt => ?_) (fun hlt => ?_)
    · have hlt' : k < W.length - 1 := by omega
      obtain ⟨g, hg, hLk, hgk⟩ := hget k (by omega)
      have hgv : (ivals W)[k]? = some (I6 (g : Int)) := by rw [ivals_get (by omega), hgk]
      have hgo' : goC ng (im, less, false, c) (L.take (k + 1)) = nextC ng M N d g := by
        rw [List.take_add_one, hLk, goC_app, hgo]; rfl
      have hI := iImage_fc M N N.length N.length d g b hMn rfl hMw.down (by omega) (by rw [hMw.row d (by omega)]; exact hg) (hMw.ent d g (by omega) hg)
      (refine goes_skip ?_; refine fin_seq ?_; refine goes_seq ?_; refine goes_block ?_; refine goes_seq ?_; refine goes_region ?_; apply run_step rfl; (exact stp_ixE rfl rfl rfl rfl rfl (by as_aux_lemma => kernel_rfl) (by first | assumption | exact ivals_get (by assumption) | exact irows_get (by assumption) | exact ivals_get (by omega) | exact irows_get (by omega) | rfl) (by first | rfl | exact (Int.toNat_of_nonneg (by omega)).symm) (by first | assumption | omega | (simp; omega)) (by first | exact Nat.le_refl _ | exact Nat.le_of_eq (ivals_len _).symm | exact Nat.le_of_eq (irows_len _).symm | (refine Nat.le_trans ?_ (Nat.le_of_eq (ivals_len _).symm); (first | omega | (simp; done) | (simp; omega))) | (refine Nat.le_trans ?_ (Nat.le_of_eq (irows_len _).symm); (first | omega | (simp; done) | (simp; omega))))); apply run_step rfl; (exact stp_loadE' rfl (by as_aux_lemma => kernel_rfl) rfl rfl rfl (by first | assumption | exact ivals_get (by assumption) | exact irows_get (by assumption) | exact ivals_get (by omega) | exact irows_get (by omega) | rfl) (by first | assumption | exact ivals_get (by assumption) | exact irows_get (by assumption) | exact ivals_get (by omega) | exact irows_get (by omega) | rfl)); apply run_step rfl; (exact stp_assign rfl rfl); refine run_nil ?_; refine fin_seq ?_; refine goes_seq ?_; refine goes_region ?_; apply run_step rfl; (exact stp_move rfl rfl); apply run_step rfl; (exact stp_move rfl rfl); apply run_step rfl; (exact stp_move rfl rfl); apply run_step rfl; (apply call_gate 195; exact stp_callR hI (by as_aux_lemma => kernel_rfl) rfl rfl ⟨rfl, rfl, rfl, trivial⟩ ⟨⟨_, rfl, .inr rfl⟩, ⟨_, rfl, .inr rfl⟩, ⟨_, rfl, .inr rfl⟩, trivial⟩ rfl rfl); apply run_step rfl; (exact stp_assign rfl rfl); refine run_nil ?_; refine fin_seq ?_; refine goes_seq ?_; refine goes_seq ?_; refine goes_region ?_; apply run_step rfl; (exact stp_move rfl rfl); apply run_step rfl; (exact stp_bin rfl rfl rfl rfl); refine run_nil ?_; refine fin_seq ?_)
      have hgl : W.length - 1 < W.length := by omega
      obtain ⟨gl, _, hLg, _⟩ := hget (W.length - 1) hgl
      have hlast : L.getLast? = some gl := by rw [List.getLast?_eq_getElem?, hLl]; exact hLg
      have hw1 : L.length ≠ 1 := by omega
      refine goes_cond rfl (fun he => ?_) (fun he => ?_)
      · have he : image M N d g < 0 := by simpa using he
        have hent : ¬ 0 ≤ ent M d g := fun h => by unfold image at he; rw [if_neg (by omega)] at he; omega
        by_cases hfull : N.length = 2000
        · have hD := iDefine_full M N N.length N.length d g b hMn (by omega)
          have hnx : nextC ng M N d g = (M, N, true, 0) := by unfold nextC; rw [if_neg hent, if_pos hfull]
          have hCe : C = (M, N, true) := by
            rw [← hC]; unfold closeI
            cases b with
            | true =>
              rw [if_pos rfl, if_neg hw1]
              obtain rfl : k = 0 := hb0 rfl
              simp only [List.take_zero, goC, Prod.mk.injEq] at hgo
              rw [hgo.1, hgo.2.1]
            | false =>
              rw [if_neg (by simp)]
              refine closeC_fail hlast (d := 0) ?_
              rw [hdl]
              refine goC_take (k := k + 1) (by rw [List.take_take, Nat.min_eq_left (by omega), hgo', hnx]) rfl
          subst hCe
          (refine goes_region ?_; apply run_step rfl; (exact stp_move rfl rfl); apply run_step rfl; (exact stp_move rfl rfl); apply run_step rfl; (exact stp_move rfl rfl); apply run_step rfl; (apply call_gate 194; exact stp_call [(0, 1010)] hD (by as_aux_lemma => kernel_rfl) rfl rfl ⟨rfl, rfl, rfl, trivial⟩ ⟨⟨_, rfl, .inl rfl⟩, ⟨_, rfl, .inl rfl⟩, ⟨_, rfl, .inl rfl⟩, trivial⟩ ⟨rfl, rfl, rfl, trivial⟩ rfl rfl); apply run_step rfl; (exact stp_assign rfl rfl); refine run_nil ?_; refine fin_seq ?_; refine goes_seq ?_; refine goes_seq ?_; refine goes_region ?_; apply run_step rfl; (exact stp_move rfl rfl); apply run_step rfl; (exact stp_nilCheck rfl rfl rfl); apply run_step rfl; (exact stp_fieldAddr (d := 2) rfl rfl rfl (by as_aux_lemma => kernel_rfl)); apply run_step rfl; (exact stp_loadF rfl (by as_aux_lemma => kernel_rfl) rfl rfl rfl rfl); refine run_nil ?_; refine fin_seq ?_)
          refine goes_cond rfl (fun _ => ?_) (fun e => by cases e)
          (refine goes_ret ?_; refine fin_ret_then ?_; refine fin_ret_block ?_; refine fin_ret_then ?_; refine fin_ret_then ?_; refine fin_ret_block ?_; refine fin_ret_then ?_)
          exact fin_ret0 (.inl rfl) rfl ⟨rfl, rfl, rfl, trivial⟩ ⟨rfl, trivial⟩
        · obtain rfl : b = false := by
            cases b with
            | false => rfl
            | true => exact absurd (hbN rfl) hfull
          have hD := iDefine_fc ng M N N.length N.length d g false hMn rfl (by omega) hMw hdN hg hng
          have hnx : nextC ng M N d g = (addC ng M N.length d g, N ++ [(N.length : Int)], false, N.length) := by unfold nextC; rw [if_neg hent, if_neg hfull]
          have hsn : (N ++ [(N.length : Int)]).length = N.length + 1 := by simp
          (refine goes_region ?_; apply run_step rfl; (exact stp_move rfl rfl); apply run_step rfl; (exact stp_move rfl rfl); apply run_step rfl; (exact stp_move rfl rfl); apply run_step rfl; (apply call_gate 194; exact stp_call [(0, 1010)] hD (by as_aux_lemma => kernel_rfl) rfl rfl ⟨rfl, rfl, rfl, trivial⟩ ⟨⟨_, rfl, .inl rfl⟩, ⟨_, rfl, .inl rfl⟩, ⟨_, rfl, .inl rfl⟩, trivial⟩ ⟨rfl, rfl, rfl, trivial⟩ rfl rfl); apply run_step rfl; (exact stp_assign rfl rfl); refine run_nil ?_; refine fin_seq ?_; refine goes_seq ?_; refine goes_seq ?_; refine goes_region ?_; apply run_step rfl; (exact stp_move rfl rfl); apply run_step rfl; (exact stp_nilCheck rfl rfl rfl); apply run_step rfl; (exact stp_fieldAddr (d := 2) rfl rfl rfl (by as_aux_lemma => kernel_rfl)); apply run_step rfl; (exact stp_loadF rfl (by as_aux_lemma => kernel_rfl) rfl rfl rfl rfl); refine run_nil ?_; refine fin_seq ?_)
          refine goes_cond rfl (fun e => by cases e) (fun _ => ?_)
          (refine goes_skip ?_; refine fin_seq ?_; refine goes_region ?_; apply run_step rfl; (exact stp_move rfl rfl); apply run_step rfl; (exact stp_assign rfl rfl); refine run_nil ?_; refine fin_block ?_; refine fin_seq ?_; refine goes_region ?_; apply run_step rfl; (exact stp_add rfl rfl rfl (by first | exact IntWalk.i64_in _ (by omega) | rfl)); apply run_step rfl; (exact stp_move rfl rfl); refine run_nil ?_)
          exact fin_round (k + 1, addC ng M N.length d g, N ++ [(N.length : Int)], N.length) ⟨hlt', hgo'.trans hnx, fun e => by cases e⟩ (by show W.length - 1 - (k + 1) < W.length - 1 - k; omega) (Wk.of ⟨rfl, rfl, rfl, rfl, rfl, rfl, rfl, rfl, trivial⟩ ⟨by rw [hsn]; rfl, rfl, rfl, rfl, trivial⟩ ⟨rfl, trivial⟩)
      · have he : ¬ image M N d g < 0 := by simpa using he
        have hent : 0 ≤ ent M d g := by
          rcases Int.lt_or_le (ent M d g) 0 with h | h
          · exfalso; apply he; unfold image; rw [if_pos h]; omega
          · exact h
        have hie : image M N d g = (root N (ent M d g).toNat : Nat) := by unfold image; rw [if_neg (by omega)]
        have hnx : nextC ng M N d g = (M, N, false, root N (ent M d g).toNat) := by unfold nextC; rw [if_pos hent]
        (refine goes_skip ?_; refine fin_seq ?_; refine goes_seq ?_; refine goes_seq ?_; refine goes_region ?_; apply run_step rfl; (exact stp_move rfl rfl); apply run_step rfl; (exact stp_nilCheck rfl rfl rfl); apply run_step rfl; (exact stp_fieldAddr (d := 2) rfl rfl rfl (by as_aux_lemma => kernel_rfl)); apply run_step rfl; (exact stp_loadF rfl (by as_aux_lemma => kernel_rfl) rfl rfl rfl rfl); refine run_nil ?_; refine fin_seq ?_)
        refine goes_cond rfl (fun hbt => ?_) (fun hbf => ?_)
        · subst hbt
          obtain rfl : k = 0 := hb0 rfl
          simp only [List.take_zero, goC, Prod.mk.injEq] at hgo
          obtain ⟨rfl, rfl, _, rfl⟩ := hgo
          have hCe : C = (im, less, true) := by rw [← hC]; unfold closeI; rw [if_pos rfl, if_neg hw1]
          subst hCe
          (refine goes_ret ?_; refine fin_ret_then ?_; refine fin_ret_block ?_; refine fin_ret_then ?_; refine fin_ret_then ?_; refine fin_ret_block ?_; refine fin_ret_then ?_)
          exact fin_ret0 (.inl rfl) rfl ⟨rfl, rfl, rfl, trivial⟩ ⟨rfl, trivial⟩
        · subst hbf
          (refine goes_skip ?_; refine fin_seq ?_; refine goes_region ?_; apply run_step rfl; (exact stp_move rfl rfl); apply run_step rfl; (exact stp_assign rfl rfl); refine run_nil ?_; refine fin_block ?_; refine fin_seq ?_; refine goes_region ?_; apply run_step rfl; (exact stp_add rfl rfl rfl (by first | exact IntWalk.i64_in _ (by omega) | rfl)); apply run_step rfl; (exact stp_move rfl rfl); refine run_nil ?_)
          exact fin_round (k + 1, M, N, root N (ent M d g).toNat) ⟨hlt', hgo'.trans hnx, fun e => by cases e⟩ (by show W.length - 1 - (k + 1) < W.length - 1 - k; omega) (Wk.of ⟨rfl, rfl, rfl, by rw [← hie]; rfl, rfl, rfl, rfl, rfl, trivial⟩ ⟨rfl, rfl, rfl, rfl, trivial⟩ ⟨rfl, trivial⟩)
    · obtain rfl : k = W.length - 1 := by omega
      obtain ⟨g, hg, hLk, hgk⟩ := hget (W.length - 1) (by omega)
      have hlast : L.getLast? = some g := by rw [List.getLast?_eq_getElem?, hLl]; exact hLk
      have hgv : (ivals W)[W.length - 1]? = some (I6 (g : Int)) := by rw [ivals_get (by omega), hgk]
      rw [← hdl] at hgo
      have hcl := closeC_last hlast hgo
      have hw1 : b = true → L.length = 1 := fun hbt => by have := hb0 hbt; omega
      have hCe : C = ((closeC ng im less c L).1, (closeC ng im less c L).2.1, b) := by
        rw [← hC]; unfold closeI
        cases b with
        | true => rw [if_pos rfl, if_pos (hw1 rfl)]
        | false => rw [if_neg (by simp)]; rw [hcl]; (split; · rfl); split <;> rfl
      have hcN : c < N.length := by omega
      have hI1 := iImage_fc M N N.length N.length d g b hMn rfl hMw.down (by omega) (by rw [hMw.row d (by omega)]; exact hg) (hMw.ent d g (by omega) hg)
      have hI2 := iImage_fc M N N.length N.length c g b hMn rfl hMw.down (by omega) (by rw [hMw.row c (by omega)]; exact hg) (hMw.ent c g (by omega) hg)
      have hil1 := image_lt hMw hdN hg
      have hil2 := image_lt hMw hcN hg
      have hwd : (lget M d).length = ng := hMw.row d (by omega)
      have hwc : (lget M c).length = ng := hMw.row c (by omega)
      generalize image M N d g = e at *
      generalize image M N c g = f at *
      (refine goes_exit ?_; refine fin_exit_then ?_; refine fin_exit_then ?_; refine fin_exit_eq ?_; refine fin_seq ?_; refine goes_seq ?_; refine goes_region ?_; apply run_step rfl; (exact stp_move rfl rfl); apply run_step rfl; (exact stp_move rfl rfl); apply run_step rfl; (exact stp_ixE rfl rfl rfl rfl rfl (by as_aux_lemma => kernel_rfl) (by first | assumption | exact ivals_get (by assumption) | exact irows_get (by assumption) | exact ivals_get (by omega) | exact irows_get (by omega) | rfl) (by first | rfl | exact (Int.toNat_of_nonneg (by omega)).symm) (by first | assumption | omega | (simp; omega)) (by first | exact Nat.le_refl _ | exact Nat.le_of_eq (ivals_len _).symm | exact Nat.le_of_eq (irows_len _).symm | (refine Nat.le_trans ?_ (Nat.le_of_eq (ivals_len _).symm); (first | omega | (simp; done) | (simp; omega))) | (refine Nat.le_trans ?_ (Nat.le_of_eq (irows_len _).symm); (first | omega | (simp; done) | (simp; omega))))); apply run_step rfl; (exact stp_loadE' rfl (by as_aux_lemma => kernel_rfl) rfl rfl rfl (by first | assumption | exact ivals_get (by assumption) | exact irows_get (by assumption) | exact ivals_get (by omega) | exact irows_get (by omega) | rfl) (by first | assumption | exact ivals_get (by assumption) | exact irows_get (by assumption) | exact ivals_get (by omega) | exact irows_get (by omega) | rfl)); apply run_step rfl; (exact stp_assign rfl rfl); refine run_nil ?_; refine fin_seq ?_; refine goes_seq ?_; refine goes_region ?_; apply run_step rfl; (exact stp_move rfl rfl); apply run_step rfl; (exact stp_move rfl rfl); apply run_step rfl; (exact stp_move rfl rfl); apply run_step rfl; (apply call_gate 195; first | exact stp_callR hI1 (by as_aux_lemma => kernel_rfl) rfl rfl ⟨rfl, rfl, rfl, trivial⟩ ⟨⟨_, rfl, .inr rfl⟩, ⟨_, rfl, .inr rfl⟩, ⟨_, rfl, .inr rfl⟩, trivial⟩ rfl rfl | exact stp_callR hI2 (by as_aux_lemma => kernel_rfl) rfl rfl ⟨rfl, rfl, rfl, trivial⟩ ⟨⟨_, rfl, .inr rfl⟩, ⟨_, rfl, .inr rfl⟩, ⟨_, rfl, .inr rfl⟩, trivial⟩ rfl rfl); apply run_step rfl; (exact stp_move rfl rfl); apply run_step rfl; (exact stp_move rfl rfl); apply run_step rfl; (exact stp_move rfl rfl); apply run_step rfl; (apply call_gate 195; first | exact stp_callR hI1 (by as_aux_lemma => kernel_rfl) rfl rfl ⟨rfl, rfl, rfl, trivial⟩ ⟨⟨_, rfl, .inr rfl⟩, ⟨_, rfl, .inr rfl⟩, ⟨_, rfl, .inr rfl⟩, trivial⟩ rfl rfl | exact stp_callR hI2 (by as_aux_lemma => kernel_rfl) rfl rfl ⟨rfl, rfl, rfl, trivial⟩ ⟨⟨_, rfl, .inr rfl⟩, ⟨_, rfl, .inr rfl⟩, ⟨_, rfl, .inr rfl⟩, trivial⟩ rfl rfl); apply run_step rfl; (exact stp_assign rfl rfl); apply run_step rfl; (exact stp_assign rfl rfl); refine run_nil ?_; refine fin_seq ?_; refine goes_block ?_; refine goes_seq ?_; refine goes_region ?_; apply run_step rfl; (exact stp_move rfl rfl); apply run_step rfl; (exact stp_bin rfl rfl rfl rfl); apply run_step rfl; (exact stp_assign rfl rfl); refine run_nil ?_; refine fin_seq ?_)
      refine goes_cond rfl (fun he => ?_) (fun he => ?_)
      · have he : 0 ≤ e := by simp at he; omega
        rw [if_pos he] at hcl
        rw [hcl] at hCe
        dsimp only at hCe
        have hId := iIdentify_fc ng N.length M N e.toNat c b rfl hMw (by omega) hcN hNhi hng
        rw [Int.toNat_of_nonneg he] at hId
        have hlen := (ident_ok (q := [(e, (c : Int))]) hMw rfl (fun p hp => by simp at hp; subst hp; exact ⟨⟨he, by dsimp only; omega⟩, by dsimp only; omega, by dsimp only; omega⟩)).2
        subst hCe
        (refine goes_region ?_; apply run_step rfl; (exact stp_move rfl rfl); apply run_step rfl; (exact stp_move rfl rfl); apply run_step rfl; (exact stp_move rfl rfl); apply run_step rfl; (apply call_gate 217; exact stp_call [(0, 1010)] hId (by as_aux_lemma => kernel_rfl) rfl rfl ⟨rfl, rfl, rfl, trivial⟩ ⟨⟨_, rfl, .inl rfl⟩, ⟨_, rfl, .inl rfl⟩, ⟨_, rfl, .inl rfl⟩, trivial⟩ ⟨rfl, rfl, rfl, trivial⟩ rfl rfl); refine run_nil ?_; refine fin_block ?_)
        exact fin_ret0 (.inr rfl) rfl ⟨by dsimp only; rw [hlen]; rfl, rfl, rfl, trivial⟩ ⟨rfl, trivial⟩
      · have he : ¬ 0 ≤ e := by simp at he; omega
        rw [if_neg he] at hcl
        (refine goes_seq ?_; refine goes_region ?_; apply run_step rfl; (exact stp_move rfl rfl); apply run_step rfl; (exact stp_bin rfl rfl rfl rfl); apply run_step rfl; (exact stp_assign rfl rfl); refine run_nil ?_; refine fin_seq ?_)
        refine goes_cond rfl (fun hf => ?_) (fun hf => ?_)
        · have hf : 0 ≤ f := by simp at hf; omega
          rw [if_pos hf] at hcl
          rw [hcl] at hCe
          dsimp only at hCe
          have hId := iIdentify_fc ng N.length M N f.toNat d b rfl hMw (by omega) hdN hNhi hng
          rw [Int.toNat_of_nonneg hf] at hId
          have hlen := (ident_ok (q := [(f, (d : Int))]) hMw rfl (fun p hp => by simp at hp; subst hp; exact ⟨⟨hf, by dsimp only; omega⟩, by dsimp only; omega, by dsimp only; omega⟩)).2
          subst hCe
          (refine goes_region ?_; apply run_step rfl; (exact stp_move rfl rfl); apply run_step rfl; (exact stp_move rfl rfl); apply run_step rfl; (exact stp_move rfl rfl); apply run_step rfl; (apply call_gate 217; exact stp_call [(0, 1010)] hId (by as_aux_lemma => kernel_rfl) rfl rfl ⟨rfl, rfl, rfl, trivial⟩ ⟨⟨_, rfl, .inl rfl⟩, ⟨_, rfl, .inl rfl⟩, ⟨_, rfl, .inl rfl⟩, trivial⟩ ⟨rfl, rfl, rfl, trivial⟩ rfl rfl); refine run_nil ?_; refine fin_block ?_)
          exact fin_ret0 (.inr rfl) rfl ⟨by dsimp only; rw [hlen]; rfl, rfl, rfl, trivial⟩ ⟨rfl, trivial⟩
        · have hf : ¬ 0 ≤ f := by simp at hf; omega
          rw [if_neg hf] at hcl
          rw [hcl] at hCe
          dsimp only at hCe
          have hLk := iLink_fc M N N.length N.length c d g b hMn (by omega) (by omega) (by omega) (by omega)
          rw [rset_swap] at hLk
          subst hCe
          (refine goes_region ?_; apply run_step rfl; (exact stp_move rfl rfl); apply run_step rfl; (exact stp_move rfl rfl); apply run_step rfl; (exact stp_move rfl rfl); apply run_step rfl; (exact stp_move rfl rfl); apply run_step rfl; (apply call_gate 218; exact stp_call [(0, 1010)] hLk (by as_aux_lemma => kernel_rfl) rfl rfl ⟨rfl, rfl, rfl, rfl, trivial⟩ ⟨⟨_, rfl, .inl rfl⟩, ⟨_, rfl, .inl rfl⟩, ⟨_, rfl, .inl rfl⟩, trivial⟩ ⟨rfl, rfl, rfl, trivial⟩ rfl rfl); refine run_nil ?_; refine fin_block ?_)
          exact fin_ret0 (.inr rfl) rfl ⟨rfl, rfl, rfl, trivial⟩ ⟨rfl, trivial⟩
end Go.Proofs.Ytpognnifgcacnaa

/- Coset enumeration, the program's run against the reference's, on lists. No program in sight. -/
namespace Go.Proofs.Ytpognnifgcacnaa

theorem goC_full {ng n0 : Nat} : ∀ (w : List Nat) (s : List (List Int) × List Int × Bool × Nat), GoOK ng n0 s → (∀ g ∈ w, g < ng) → (s.2.2.1 = true → s.2.1.length = 2000) → (goC ng s w).2.2.1 = true → (goC ng s w).2.1.length = 2000
  | [], s, _, _, h, hf => h hf
  | g :: r, s, h, hg, hs, hf => by
    unfold goC at hf ⊢
    by_cases e : s.2.2.1 = true
    · rw [if_pos e] at hf ⊢; exact hs e
    · rw [if_neg e] at hf ⊢
      obtain ⟨h1, h2, h3, h4, h5⟩ := nextC_ok h.wf h.d (hg g (by simp)) h.hi
      exact goC_full (n0 := n0) r _ ⟨h1, Nat.le_trans h.lo h2, h3, h4⟩ (fun x hx => hg x (by simp [hx])) h5 hf
theorem closeC_full {ng : Nat} {im : List (List Int)} {less : List Int} {c : Nat} {w : List Nat} (h : WF ng im less) (hc : c < less.length) (hn : less.length ≤ 2000) (hg : ∀ g ∈ w, g < ng) (hf : (closeC ng im less c w).2.2 = true) : (closeC ng im less c w).2.1.length = 2000 := by
  unfold closeC at hf ⊢
  cases hw : w.getLast? with
  | none => rw [hw] at hf; cases hf
  | some g =>
    rw [hw] at hf
    have hfull := goC_full (n0 := less.length) w.dropLast (im, less, false, c) ⟨h, Nat.le_refl _, hn, hc⟩ (fun x hx => hg x (List.dropLast_subset _ hx)) (fun e => by cases e)
    generalize goC ng (im, less, false, c) w.dropLast = s at *
    dsimp only at hf ⊢
    by_cases e : s.2.2.1 = true
    · rw [if_pos e]; exact hfull e
    · rw [if_neg e] at hf
      split at hf
      · cases hf
      · split at hf <;> cases hf
/-- what the program's procedure keeps -/
structure IOK (ng n : Nat) (s : CSt) : Prop where
  ok : CloseOK ng n s
  full : s.2.2 = true → s.2.1.length = 2000
def closeW (ng : Nat) (s : CSt) (w : List Int) : CSt := closeI ng s.1 s.2.1 s.2.2 0 (w.map Int.toNat)
theorem closeI_ok {ng n c : Nat} {s : CSt} {w : List Nat} (h : IOK ng n s) (hc : c < n) (hw : ∀ g ∈ w, g < ng) : IOK ng n (closeI ng s.1 s.2.1 s.2.2 c w) := by
  have hcl : c < s.2.1.length := Nat.lt_of_lt_of_le hc h.ok.lo
  have hk := closeC_ok h.ok.wf hcl h.ok.hi hw
  unfold closeI
  split
  · rename_i hb
    have hl := h.full hb
    split
    · refine ⟨⟨hk.wf, Nat.le_trans h.ok.lo hk.lo, hk.hi⟩, fun _ => ?_⟩
      have h1 := hk.lo
      have h2 := hk.hi
      dsimp only
      omega
    · exact ⟨⟨h.ok.wf, h.ok.lo, h.ok.hi⟩, fun _ => hl⟩
  · exact ⟨⟨hk.wf, Nat.le_trans h.ok.lo hk.lo, hk.hi⟩, fun hf => closeC_full h.ok.wf hcl h.ok.hi hw hf⟩
theorem closeW_ok {ng n : Nat} {s : CSt} {w : List Int} (h : IOK ng n s) (hn : 0 < n) (hw : Letters ng w) : IOK ng n (closeW ng s w) := closeI_ok h hn hw.nat
theorem close1_iok {ng n c : Nat} {s : CSt} {w : List Int} (h : IOK ng n s) (hc : c < n) (hw : Letters ng w) : IOK ng n (close1 ng c s w) := by
  unfold close1
  split
  · rename_i hl
    have hb : s.2.2 = false := by unfold liveC at hl; simp at hl; exact hl.2
    have := closeI_ok h hc hw.nat
    unfold closeI at this
    rwa [hb, if_neg (by simp)] at this
  · exact h
theorem next1_iok {ng n c g : Nat} {s : CSt} (h : IOK ng n s) (hc : c < n) (hg : g < ng) : IOK ng n (next1 ng c s g) := by
  refine ⟨next1_ok h.ok hc hg, ?_⟩
  unfold next1
  split
  · exact (nextC_ok h.ok.wf (Nat.lt_of_lt_of_le hc h.ok.lo) hg h.ok.hi).2.2.2.2
  · exact h.full
theorem startC_iok (ng : Nat) : IOK ng 1 (startC ng) := ⟨startC_ok ng, fun h => by cases h⟩
def runI (ng : Nat) (rels words : List (List Int)) : CSt := outer ng rels 2001 0 (words.foldl (closeW ng) (startC ng))
theorem closeW_failed {ng : Nat} {s : CSt} (h : s.2.2 = true) (w : List Int) : (closeW ng s w).2.2 = true := by
  unfold closeW closeI
  rw [if_pos h]; split <;> rfl
theorem fold_same {ng : Nat} : ∀ (words : List (List Int)) (s s' : CSt), (s = s' ∨ (s.2.2 = true ∧ s'.2.2 = true)) → (words.foldl (close0 ng) s = words.foldl (closeW ng) s' ∨ ((words.foldl (close0 ng) s).2.2 = true ∧ (words.foldl (closeW ng) s').2.2 = true))
  | [], s, s', h => h
  | w :: r, s, s', h => by
    refine fold_same r _ _ ?_
    rcases h with rfl | ⟨h1, h2⟩
    · by_cases e : s.2.2 = true
      · right
        exact ⟨by rw [close0_failed e]; exact e, closeW_failed e w⟩
      · left
        unfold close0 closeW closeI
        rw [if_neg e, if_neg e]
    · right
      exact ⟨by rw [close0_failed h1]; exact h1, closeW_failed h2 w⟩
theorem runI_same (ng : Nat) (rels words : List (List Int)) : runC ng rels words = runI ng rels words ∨ ((runC ng rels words).2.2 = true ∧ (runI ng rels words).2.2 = true) := by
  unfold runC runI
  rcases fold_same (ng := ng) words (startC ng) (startC ng) (.inl rfl) with h | ⟨h1, h2⟩
  · left; rw [h]
  · right; rw [outer_failed h1, outer_failed h2]; exact ⟨h1, h2⟩
end Go.Proofs.Ytpognnifgcacnaa

/- Coset enumeration: the table filled while cosets are numbered. No program in sight. -/
namespace Go.Proofs.Ytpognnifgcacnaa

def tabP (ng : Nat) (im : List (List Int)) (less : List Int) (s : NSt) (i g : Nat) : List (List Int) := (List.range ng).map fun g' => (List.range (if g' < g then i + 1 else i)).map (tabC im less s g')
def SeenG (ng : Nat) (im : List (List Int)) (less : List Int) (s : NSt) (i g : Nat) : Prop := ∀ k g', g' < ng → (k < i ∨ (k = i ∧ g' < g)) → k < s.1.length ∧ 0 ≤ tabC im less s g' k
section
variable {ng : Nat} {im : List (List Int)} {less : List Int} {s s' : NSt} {i g : Nat}
theorem tabP_len : (tabP ng im less s i g).length = ng := by simp [tabP]
theorem tabP_zero : tabP ng im less s 0 0 = List.replicate ng [] := by
  refine List.ext_getElem (by simp [tabP]) fun k h1 h2 => ?_
  simp [tabP]
theorem tabP_row (hg : g < ng) : lget (tabP ng im less s i g) g = (List.range i).map (tabC im less s g) := by
  simp [tabP, lget, hg]
theorem tabP_next : tabP ng im less s i ng = tabP ng im less s (i + 1) 0 := by
  unfold tabP
  refine List.map_congr_left fun g' hg' => ?_
  rw [if_pos (List.mem_range.1 hg'), if_neg (by omega)]
theorem tabC_grow (h : NGrow s s') {k g' : Nat} (hk : k < s.1.length) (h0 : 0 ≤ tabC im less s g' k) : tabC im less s' g' k = tabC im less s g' k := by
  unfold tabC at h0 ⊢
  rw [h.pre k hk, h.num _ h0]
theorem tabP_grow (h : NGrow s s') (hs : SeenG ng im less s i g) : tabP ng im less s i g = tabP ng im less s' i g := by
  unfold tabP
  refine List.map_congr_left fun g' hg' => ?_
  refine List.map_congr_left fun k hk => ?_
  have hg' := List.mem_range.1 hg'
  have hk := List.mem_range.1 hk
  have := hs k g' hg' (by
    split at hk
    · rename_i e
      by_cases e2 : k < i
      · exact .inl e2
      · exact .inr ⟨by omega, e⟩
    · exact .inl hk)
  exact (tabC_grow h this.1 this.2).symm
theorem tabP_set (hg : g < ng) : (tabP ng im less s i g).set g ((List.range i).map (tabC im less s g) ++ [tabC im less s g i]) = tabP ng im less s i (g + 1) := by
  refine List.ext_getElem (by simp [tabP]) fun k h1 h2 => ?_
  simp only [tabP, List.length_map, List.length_range] at h2
  rw [List.getElem_set]
  simp only [tabP, List.getElem_map, List.getElem_range]
  by_cases e : g = k
  · subst e
    rw [if_pos rfl, if_pos (by omega), List.range_succ, List.map_append]; rfl
  · rw [if_neg e]
    by_cases e2 : k < g
    · rw [if_pos e2, if_pos (by omega)]
    · rw [if_neg e2, if_neg (by omega)]
theorem SeenG.grow (h : NGrow s s') (hs : SeenG ng im less s i g) : SeenG ng im less s' i g := fun k g' hg' hk => by
  obtain ⟨h1, h2⟩ := hs k g' hg' hk
  exact ⟨Nat.lt_of_lt_of_le h1 h.len, by rw [tabC_grow h h1 h2]; exact h2⟩
theorem SeenG.next (hs : SeenG ng im less s i ng) : SeenG ng im less s (i + 1) 0 := fun k g' hg' hk => hs k g' hg' (by omega)
theorem SeenG.zero : SeenG ng im less s 0 0 := fun k g' _ hk => by omega
/-- the number of a coset behind its visit -/
theorem tabC_visit {d e : Nat} (hi : i < s.1.length) (hd : iget s.1 i = (d : Int)) (he : image im less d g = (e : Int)) : tabC im less (visit s e) g i = iget (visit s e).2 e := by
  unfold tabC
  rw [(visit_grow s e).pre i hi, hd, Int.toNat_natCast, he, Int.toNat_natCast]
theorem SeenG.visit {d e : Nat} (hF : TOK less.length less s) (hi : i < s.1.length) (hd : iget s.1 i = (d : Int)) (he : image im less d g = (e : Int)) (hel : e < less.length) (hs : SeenG ng im less s i g) : SeenG ng im less (visit s e) i (g + 1) := fun k g' hg' hk => by
  by_cases e1 : k = i ∧ g' = g
  · obtain ⟨rfl, rfl⟩ := e1
    exact ⟨Nat.lt_of_lt_of_le hi (visit_grow s e).len, by rw [tabC_visit hi hd he]; exact visit_num hF hel⟩
  · exact hs.grow (visit_grow s e) k g' hg' (by omega)
theorem tabP_done (h : numbered ng im less = s) : tabP ng im less s s.1.length 0 = tableC ng im less := by
  subst h
  rw [tableC_row]
  unfold tabP
  refine List.map_congr_left fun g' _ => ?_
  rw [if_neg (by omega)]
end

/-- the numbers as a map -/
def fN (M : List Int) (z : Int) : Option Int := if 0 ≤ z ∧ z < M.length ∧ 0 ≤ iget M z.toNat then some (iget M z.toNat) else none
theorem fN_set {M : List Int} {e : Nat} {v : Int} (he : e < M.length) (hv : 0 ≤ v) : (fun z => if z = (e : Int) then some v else fN M z) = fN (M.set e v) := by
  funext z
  have h1 : iget (M.set e v) e = v := by rw [iget_set, if_pos ⟨rfl, he⟩]
  unfold fN
  rw [List.length_set]
  by_cases h : z = (e : Int)
  · subst h
    rw [if_pos rfl, Int.toNat_natCast, h1, if_pos ⟨by omega, by omega, hv⟩]
  · rw [if_neg h]
    by_cases h0 : 0 ≤ z
    · have h2 : iget (M.set e v) z.toNat = iget M z.toNat := by rw [iget_set, if_neg (by omega)]
      rw [h2]
    · rw [if_neg (fun hh => h0 hh.1), if_neg (fun hh => h0 hh.1)]
theorem fN_rep (n : Nat) : fN (List.replicate n (-1)) = fun _ => none := by
  funext z
  unfold fN
  rw [if_neg]
  rintro ⟨h1, h2, h3⟩
  rw [iget_rep (by simp at h2; omega)] at h3
  omega
theorem fN_start {n : Nat} (h : 0 < n) : (fun z : Int => if z = 0 then some (0 : Int) else none) = fN (tabStart n).2 := by
  show _ = fN ((List.replicate n (-1)).set 0 0)
  rw [← fN_set (by simpa using h) (Int.le_refl 0), fN_rep]
  rfl
theorem fN_some {M : List Int} {e : Nat} (he : e < M.length) : (fN M (e : Int)).isSome = decide (0 ≤ iget M e) ∧ (0 ≤ iget M e → (fN M (e : Int)).getD 0 = iget M e) := by
  unfold fN
  rw [Int.toNat_natCast]
  by_cases h : 0 ≤ iget M e
  · rw [if_pos ⟨by omega, by omega, h⟩]; simp [h]
  · rw [if_neg (fun hh => h hh.2.2)]; simp [h]
end Go.Proofs.Ytpognnifgcacnaa

/- A memory of names: beside it a map from integers to integers that the call itself has made. No program in sight. -/
namespace Go.Proofs.Ytpognnifgcacnaa
open Go.RowKit

section
variable {P : Program} {nt : Nat} {S S1 S2 : St} {w0 w wB : World} {ω0 : Beg} {ω ωB : Own?} {η : Env} {a : Act} {Q : Exit → Act → World → Prop} {ops : Array Oper} {rest : List Oper}
variable {t : Nat} {ty : TypeId} {ps : String} {af : Array Edge} {gd : Option (Nat × Bool)} {x y : Operand} {av : AV} {o : Oper}

theorem Vec.off {own : Bool} {ow : Nm × Option Nat} {h : Hd} {E : TypeId} {len : Nat} {cell cell' : Nat → Value → Prop} {b : Nat} {w' : World} (hb : ∀ o, w.cell? ⟨b, o, none⟩ = none) (hn : ω b = none) (hs : ∀ b', b' < w.heap.size → b' ≠ b → w'.heap[b']? = w.heap[b']?) (hsz : w.heap.size ≤ w'.heap.size)
    (hc : ∀ j u, cell j u → cell' j u) (hv : Vec own ω w ow h E len cell) : Vec own ω w' ow h E len cell' := by
  cases own with
  | true =>
    rcases hv with h0 | ⟨b0, o, cs, h1, h2, h3, h4, h5, h6, h7⟩
    · exact .inl h0
    · have hne : b0 ≠ b := fun e => by rw [e, hn] at h2; cases h2
      refine .inr ⟨b0, o, cs, h1, h2, (hs b0 (lt_of_heap h3) hne).trans h3, h4, h5, h6, fun j hj => ?_⟩
      obtain ⟨u, hu, hcu⟩ := h7 j hj
      exact ⟨u, hu, hc j u hcu⟩
  | false =>
    refine ⟨hv.1, fun j hj => ?_⟩
    obtain ⟨b0, o, u, h1, h2, h3, h4, h5⟩ := hv.2 j hj
    have hne : b0 ≠ b := fun e => by rw [e, hb] at h4; cases h4
    exact ⟨b0, o, u, h1, h2, Nat.lt_of_lt_of_le h3 hsz, (World.cell?_of_block (hs b0 h3 hne)).trans h4, hc j u h5⟩
theorem Mem.off {b : Nat} {w' : World} {ch : Nm → Option Ch} (hb : ∀ o, w.cell? ⟨b, o, none⟩ = none) (hn : ω b = none) (hs : ∀ b', b' < w.heap.size → b' ≠ b → w'.heap[b']? = w.heap[b']?) (hsz : w.heap.size ≤ w'.heap.size) (hm : Mem η ω w ch) : Mem η ω w' ch := by
  refine ⟨fun x c hx => ?_, hm.2⟩
  obtain ⟨h, h1, h2, h3⟩ := hm.1 x c hx
  refine ⟨h, h1, h2, h3.off hb hn hs hsz fun j u hu => ?_⟩
  cases hd : c.d with
  | flat l => rw [hd] at hu; exact hu
  | vals vs => rw [hd] at hu; exact hu
  | rows E vss holes =>
    rw [hd] at hu
    exact ⟨hu.1, fun hj vs hvs => have ⟨k1, k2, k3⟩ := hu.2 hj vs hvs; ⟨k1, k2, k3.off hb hn hs hsz fun _ _ h => h⟩⟩
  | mix cs => rw [hd] at hu; exact ⟨hu.1, fun c hc => (hu.2 c hc).move rfl fun _ _ _ _ _ h3 => h3.off hb hn hs hsz fun _ _ h => h⟩

/-- block b is a map that answers as f -/
structure MapAt (P : Program) (k e : TypeId) (b : Nat) (ω : Own?) (w : World) (f : Int → Option Int) (n : Nat) : Prop where
  free : ω b = none
  map : ∃ D : DataW Unit, w.ownsMap P k (plainElem P e) b n D ∧ Maps.IsMap D ∧ ∀ z, (Lit.int .i64 z).wf = true → Maps.has D (.int .i64 z) = (f z).isSome ∧ D.atKey (.int .i64 z) (.lit (.int .i64 0)) = .lit (.int .i64 ((f z).getD 0))
theorem MapAt.lt {k e b n : Nat} {f : Int → Option Int} (h : MapAt P k e b ω w f n) : b < w.heap.size := by
  obtain ⟨D, hD, _⟩ := h.map
  exact hD.lt
theorem MapAt.no {k e b n : Nat} {f : Int → Option Int} (h : MapAt P k e b ω w f n) (o : Nat) : w.cell? ⟨b, o, none⟩ = none := by
  obtain ⟨D, ⟨es, clock, hb, _⟩, _⟩ := h.map
  simp [World.cell?, hb]
theorem MapAt.fr {k e b n : Nat} {f : Int → Option Int} (h : MapAt P k e b ωB wB f n) (hf : Fr ωB wB ω w) : MapAt P k e b ω w f n := by
  have hb := hf.block b h.lt h.free
  obtain ⟨D, ⟨es, clock, h1, h2⟩, h3⟩ := h.map
  exact ⟨hb.2, D, ⟨es, clock, hb.1.trans h1, h2⟩, h3⟩
/-- where the walk goes on with a map beside it -/
structure MB (P : Program) (k e : TypeId) (w0 : World) (ω0 : Own?) (b : Nat) (f : Int → Option Int) (n : Nat) (wB : World) (ωB : Own?) : Prop where
  fr : Fr ω0 w0 ωB wB
  new : w0.heap.size ≤ b
  at_ : MapAt P k e b ωB wB f n

theorem fin_base {e : Exit} (hf : Fr ω0.own w0 ωB wB) (h : Fin w0 ω0 nt S e Q) : Fin wB ⟨ωB, ω0.ph⟩ nt S e Q :=
  ⟨fun a w ⟨η, ω, hs⟩ => h.go a w ⟨η, ω, { dfr := hs.dfr, tsz := hs.tsz, slots := hs.slots, phs := hs.phs, mem := hs.mem, fr := hf.trans hs.fr }⟩⟩

/-- make of a map -/
theorem run_makeMap {T k e : Nat} (hg : o.guard = none) (ho : o = ⟨some t, .makeMap T none, ty, ps, af, gd⟩) (ht : Nat.blt t nt = true) (K : P.underlying k = some (.int .i64)) (hT : P.underlying T = some (.map k e))
    (h : ∀ b wB ωB, MB P k e w0 ω0.own b (fun _ => none) 0 wB ωB → Run P wB ⟨ωB, ω0.ph⟩ nt ops Q (S.put t (vv (.map (some b)))) rest) : Run P w0 ω0 nt ops Q S (o :: rest) := by
  subst ho
  refine ⟨fun a w ⟨η, ω, hs⟩ => wpList_plain hg fun K' hK' => ?_⟩
  have hrun := Go.RowKit.run_makeMap (P := P) T w
  unfold Oper.wp
  have hex : (execOp a.eval ⟨some t, .makeMap T none, ty, ps, af, gd⟩).run P w = .ok (.value (.map (some w.heap.size))) (w.alloc (.map #[] 0)) := by simp [execOp, hrun]
  rw [hex]
  refine hK' _ _ ?_
  let ω' : Own? := fun b => if b = w.heap.size then none else ω b
  have hheap : ∀ b, b < w.heap.size → (w.alloc (.map #[] 0)).heap[b]? = w.heap[b]? := fun b hb => Below.heap_alloc w _ b hb
  have hsame : ∀ p : Option (Nm × Option Nat) → Prop, Same ω w ω' (w.alloc (.map #[] 0)) p := fun p => ⟨by simp, fun b hb _ => ⟨hheap b hb, if_neg (Nat.ne_of_lt hb)⟩⟩
  have hmem : Mem η ω' (w.alloc (.map #[] 0)) S.ch := ⟨fun x c hx => by
    obtain ⟨hd, h1, h2⟩ := hs.mem.1 x c hx
    exact ⟨hd, h1, h2.same (hsame fun _ => True) trivial (fun _ => trivial) (fun _ => rfl) fun l _ a _ y _ => .inr ⟨rfl, fun _ => rfl⟩⟩, hs.mem.2⟩
  have hfr : Fr ω0.own w0 ω' (w.alloc (.map #[] 0)) := hs.fr.trans ⟨rfl, rfl, rfl, by simp, fun b hb hn => ⟨hheap b hb, (if_neg (Nat.ne_of_lt hb)).trans hn⟩⟩
  refine (h w.heap.size (w.alloc (.map #[] 0)) ω' ⟨hfr, hs.fr.size, if_pos rfl, .map [], World.ownsMap_made w P k _, ⟨_, rfl⟩, fun z _ => ⟨rfl, rfl⟩⟩).go _ _ ⟨η, ω', ?_⟩
  exact SatE.putV (w0 := w.alloc (.map #[] 0)) (ω0 := ⟨ω', ω0.ph⟩) { dfr := hs.dfr, tsz := hs.tsz, slots := hs.slots, phs := hs.phs, mem := hmem, fr := Fr.refl _ _ } (by simpa using ht) rfl

/-- a key is written -/
theorem run_mapPut {T k e b n : Nat} {m v : Operand} {z r : Int} {f : Int → Option Int} {w00 : World} {ω00 : Own?} {ph : List Value} (hg : o.guard = none) (ho : o.op = .mapUpdate T m x v ∨ o.op = .insert T m x v) (hd : o.dst = none) (K : P.underlying k = some (.int .i64)) (he : P.underlying e = some (.int .i64)) (hT : P.underlying T = some (.map k e))
    (hB : MB P k e w00 ω00 b f n wB ωB) (hm : S.op m = some (vv (.map (some b)))) (hx : S.op x = some (vv (I6 z))) (hv : S.op v = some (vv (I6 r))) (hz : (Lit.int .i64 z).wf = true) (hr : (Lit.int .i64 r).wf = true) (hn : n ≤ 1000000000)
    (h : ∀ wB' ωB', MB P k e w00 ω00 b (fun z' => if z' = z then some r else f z') (n + 1) wB' ωB' → Run P wB' ⟨ωB', ph⟩ nt ops Q S rest) : Run P wB ⟨ωB, ph⟩ nt ops Q S (o :: rest) := by
  refine ⟨fun a w ⟨η, ω, hs⟩ => wpList_plain hg fun K' hK' => ?_⟩
  have hA := hB.at_.fr hs.fr
  obtain ⟨D, hD, hI, hf⟩ := hA.map
  obtain ⟨w', hrun, r1, r2⟩ := hD.update (d := .lit (.int .i64 r)) (ps := []) (Maps.int_keyed K) hT (by simp [maxLen]; omega) (Maps.keyOf_int_mk K hz) (plainElem_int he hr)
  unfold Oper.wp
  have hex : (execOp a.eval o).run P w = .ok .skip w' := by
    rcases ho with ho | ho <;> simp [execOp, ho, hs.opV hm, hs.opV hx, hs.opV hv, hrun]
  rw [hex]
  refine hK' _ _ ?_
  rw [hd]
  have hs' : ∀ b', b' < w.heap.size → b' ≠ b → w'.heap[b']? = w.heap[b']? := fun b' h1 hb' => r2.block b' h1 (by simpa using hb')
  have hmem := hs.mem.off hA.no hA.free hs' r2.size
  have hfr : Fr ω00 w00 ω w' := ⟨r2.os.trans (hB.fr.trans hs.fr).os, r2.tape.trans (hB.fr.trans hs.fr).tape, r2.output.trans (hB.fr.trans hs.fr).output, Nat.le_trans (hB.fr.trans hs.fr).size r2.size, fun b' hb' hn' => by
    have h1 := (hB.fr.trans hs.fr).block b' hb' hn'
    have hne : b' ≠ b := fun e => by have := hB.new; omega
    exact ⟨(hs' b' (Nat.lt_of_lt_of_le hb' (hB.fr.trans hs.fr).size) hne).trans h1.1, h1.2⟩⟩
  refine (h w' ω ⟨hfr, hB.new, hA.free, _, r1, Maps.IsMap.put hI _ _, fun z' hz' => ?_⟩).go _ _ ⟨η, ω, { dfr := hs.dfr, tsz := hs.tsz, slots := hs.slots, phs := hs.phs, mem := hmem, fr := Fr.refl _ _ }⟩
  by_cases e : z' = z
  · subst e
    rw [Maps.has_put_same hI (k := .int .i64 z') trivial, Maps.atKey_put_same hI (k := .int .i64 z') trivial]
    simp
  · have hne : Lit.int .i64 z' ≠ Lit.int .i64 z := fun h => by injection h with _ h; exact e h
    rw [Maps.has_put_other hne, Maps.atKey_put_other hne, if_neg e]
    exact hf z' hz'
/-- a key is asked for -/
theorem run_lookup {T k e b n : Nat} {m : Operand} {z : Int} {f : Int → Option Int} {w00 : World} {ω00 : Own?} {ph : List Value} (hg : o.guard = none) (ho : o.op = .lookup T m x true) (hd : o.dst = some t) (ht : Nat.blt t nt = true) (K : P.underlying k = some (.int .i64)) (he : P.underlying e = some (.int .i64)) (hT : P.underlying T = some (.map k e)) (hz0 : (P.info? e).bind (·.zero) = some (I6 0))
    (hB : MB P k e w00 ω00 b f n wB ωB) (hm : S.op m = some (vv (.map (some b)))) (hx : S.op x = some (vv (I6 z))) (hz : (Lit.int .i64 z).wf = true)
    (h : Run P wB ⟨ωB, ph⟩ nt ops Q (S.put t (.tup [.one (.val (I6 ((f z).getD 0))), .one (.val (.bool (f z).isSome))])) rest) : Run P wB ⟨ωB, ph⟩ nt ops Q S (o :: rest) := by
  refine ⟨fun a w ⟨η, ω, hs⟩ => wpList_plain hg fun K' hK' => ?_⟩
  have hA := hB.at_.fr hs.fr
  obtain ⟨D, hD, hI, hf⟩ := hA.map
  have hzero : (zeroValue e).run P w = .ok (I6 0) w := by
    obtain ⟨i, hi, hz⟩ := Option.bind_eq_some_iff.1 hz0
    simp [zeroValue, typeInfo, hi, hz]
  obtain ⟨v, ps, hrun, hv⟩ := hD.look_ok (Maps.int_keyed K) hT hzero (plainElem_int he (by decide)) (Maps.keyOf_int_mk K hz)
  obtain ⟨h1, h2⟩ := hf z hz
  rw [h2] at hv
  obtain ⟨c, rfl, hc, _⟩ := plainElem_int_inv he hv
  simp only [Prod.mk.injEq, DataW.lit.injEq, Lit.int.injEq, true_and] at hc
  rw [h1, ← hc.1] at hrun
  unfold Oper.wp
  have hex : (execOp a.eval o).run P w = .ok (.value (.tuple #[I6 ((f z).getD 0), .bool (f z).isSome])) w := by
    simp [execOp, ho, hs.opV hm, hs.opV hx, hrun]
  rw [hex]
  refine hK' _ _ (h.go _ _ ⟨η, ω, ?_⟩)
  rw [hd]
  refine hs.putV (by simpa using ht) ⟨_, rfl, rfl, fun j b hj => ?_⟩
  match j, hj with
  | 0, hj => simp at hj; subst hj; exact ⟨_, by simp, rfl⟩
  | 1, hj => simp at hj; subst hj; exact ⟨_, by simp, rfl⟩

/-- loops beside which the ground may turn -/
def LoopPostB {ι : Type} (ph : List Value) (nt : Nat) (I : ι → St) (p : ι → World → Own? → Prop) (μ : ι → Nat) (i : ι) (a : Act) (w : World) : Prop := ∃ j wB ωB, p j wB ωB ∧ μ j < μ i ∧ Sat wB ⟨ωB, ph⟩ nt (I j) a w
open Classical in
theorem goes_loopB {ι : Type} {ph : List Value} (I : ι → St) (p : ι → World → Own? → Prop) (μ : ι → Nat) (i0 : ι) {c : Code} (hp : p i0 wB ωB) (h0 : Wk S (I i0)) (hr : ∀ i wB ωB, p i wB ωB → Goes P wB ⟨ωB, ph⟩ nt (I i) c (Exit.then (LoopPostB ph nt I p μ i) Q)) : Goes P wB ⟨ωB, ph⟩ nt S (.loop c) Q := by
  refine ⟨fun a w hs => ?_⟩
  let R : Act → World → ι → Prop := fun a w i => ∃ wB ωB, p i wB ωB ∧ Sat wB ⟨ωB, ph⟩ nt (I i) a w
  have ex : ∀ a w, (∃ i, R a w i) → ∃ n i, R a w i ∧ μ i = n := fun a w ⟨i, hi⟩ => ⟨μ i, i, hi, rfl⟩
  refine wp_loop (fun a w => ∃ i, R a w i) (fun a w => if h : ∃ i, R a w i then Classical.choose (least (ex a w h)) else 0) ⟨i0, wB, ωB, hp, h0.go _ _ _ a w hs⟩ fun a w hI => ?_
  obtain ⟨⟨i, ⟨wB', ωB', hi1, hi2⟩, hm⟩, _⟩ := Classical.choose_spec (least (ex a w hI))
  refine Code.wp_mono (fun e a' w' hq => ?_) ((hr i wB' ωB' hi1).go a w hi2)
  cases e with
  | normal =>
    obtain ⟨j, wB2, ωB2, hpj, hj, hsj⟩ := hq
    have hR : R a' w' j := ⟨wB2, ωB2, hpj, hsj⟩
    refine ⟨⟨j, hR⟩, ?_⟩
    simp only [dif_pos hI, dif_pos (⟨j, hR⟩ : ∃ i, R a' w' i)]
    refine Nat.lt_of_le_of_lt ((Classical.choose_spec (least (ex a' w' ⟨j, hR⟩))).2 _ ⟨j, hR, rfl⟩) ?_
    rw [← hm]; exact hj
  | _ => exact hq
theorem fin_roundB {ι : Type} {ph : List Value} {I : ι → St} {p : ι → World → Own? → Prop} {μ : ι → Nat} {i : ι} (j : ι) (hp : p j wB ωB) (hm : μ j < μ i) (h : Wk S (I j)) : Fin wB ⟨ωB, ph⟩ nt S .normal (Exit.then (LoopPostB ph nt I p μ i) Q) :=
  ⟨fun a w hs => ⟨j, wB, ωB, hp, hm, h.go _ _ _ a w hs⟩⟩
/-- two ways meet, beside which the ground may have turned -/
theorem goes_joinB {ph : List Value} (S' : St) (p : World → Own? → Prop) {c : Operand} {x y : Code} {b : Bool} (hc : S.op c = some (vv (.bool b)))
    (ht : b = true → Goes P wB ⟨ωB, ph⟩ nt S x (fun e a w => e = .normal ∧ ∃ wB ωB, p wB ωB ∧ Sat wB ⟨ωB, ph⟩ nt S' a w)) (hf : b = false → Goes P wB ⟨ωB, ph⟩ nt S y (fun e a w => e = .normal ∧ ∃ wB ωB, p wB ωB ∧ Sat wB ⟨ωB, ph⟩ nt S' a w))
    (k : ∀ wB ωB, p wB ωB → Fin wB ⟨ωB, ph⟩ nt S' .normal Q) : Goes P wB ⟨ωB, ph⟩ nt S (.cond c x y) Q :=
  goes_cond hc (fun h => ⟨fun a w hs => Code.wp_mono (fun e a w he => by obtain ⟨rfl, wB', ωB', h1, h2⟩ := he; exact (k wB' ωB' h1).go a w h2) ((ht h).go a w hs)⟩)
    (fun h => ⟨fun a w hs => Code.wp_mono (fun e a w he => by obtain ⟨rfl, wB', ωB', h1, h2⟩ := he; exact (k wB' ωB' h1).go a w h2) ((hf h).go a w hs)⟩)
theorem fin_joinB {ph : List Value} {S' : St} {p : World → Own? → Prop} (hp : p wB ωB) (h : Wk S1 S') : Fin wB ⟨ωB, ph⟩ nt S1 .normal (fun e a w => e = .normal ∧ ∃ wB ωB, p wB ωB ∧ Sat wB ⟨ωB, ph⟩ nt S' a w) := ⟨fun a w hs => ⟨rfl, wB, ωB, hp, h.go _ _ _ a w hs⟩⟩
end
end Go.Proofs.Ytpognnifgcacnaa
