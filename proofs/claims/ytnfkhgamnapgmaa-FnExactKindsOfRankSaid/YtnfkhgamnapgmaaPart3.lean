/- A memory of names: append behind the front of a vector (a queue): in place, or to new memory; arrays of two integers. No program in sight. -/
import Derived.Test.YtnfkhgamnapgmaaPart2
import Derived.Test.YtnfkhgamnapgmaaPart1
import Derived.BigQuiet
import Derived.Test.YtnfkhgamnapgmaaProg
import Derived.RegionTactic
import Derived.Lib.LazyBuf
import Derived.Lib.SliceRun
namespace Go.Proofs.Ytnfkhgamnapgmaa
open Go.RowKit

section
variable {P : Program} {nt : Nat} {S S1 S2 : St} {w0 w : World} {ω0 : Beg} {ω : Own?} {η : Env} {a : Act} {Q : Exit → Act → World → Prop} {ops : Array Oper} {rest : List Oper}
variable {t : Nat} {ty : TypeId} {ps : String} {af : Array Edge} {gd : Option (Nat × Bool)} {x y : Operand} {av : AV} {o : Oper}
/-- a step that ends in one of two states -/
structure StpOr (P : Program) (nt : Nat) (o : Oper) (S S1 S2 : St) : Prop where
  go : ∀ w0 ω0 a w Q, Sat w0 ω0 nt S a w → o.wp P a w (fun a w => Sat w0 ω0 nt S1 a w ∨ Sat w0 ω0 nt S2 a w) Q
theorem StpOr.fin {w' : World} {v : Value} (h : (execOp a.eval o).run P w = .ok (.value v) w') (k : Sat w0 ω0 nt S1 (a.put o.dst v) w' ∨ Sat w0 ω0 nt S2 (a.put o.dst v) w') : o.wp P a w (fun a w => Sat w0 ω0 nt S1 a w ∨ Sat w0 ω0 nt S2 a w) Q := by
  unfold Oper.wp
  rw [h]
  exact k
def pflat (q : List (Int × Int)) : List Int := q.flatMap fun p => [p.1, p.2]
theorem pflat_len : ∀ q : List (Int × Int), (pflat q).length = 2 * q.length
  | [] => rfl
  | p :: r => by have := pflat_len r; simp [pflat] at this ⊢; omega
/-- an array of two integers -/
theorem stp_build2 {T : TypeId} {x0 x1 : Operand} {z0 z1 : Int} (ht : Nat.blt t nt = true) (hx0 : S.op x0 = some (vv (I6 z0))) (hx1 : S.op x1 = some (vv (I6 z1))) (hb : P.built T [(0, I6 z0), (1, I6 z1)] = some #[I6 z0, I6 z1]) :
    Stp P nt ⟨some t, .build T #[(0, x0), (1, x1)], ty, ps, af, gd⟩ S (S.put t (.s (.agg [.val (I6 z0), .val (I6 z1)]))) :=
  Stp.of _ fun w0 ω0 η ω a w hs => by
    refine ⟨.agg #[I6 z0, I6 z1], w, ?_, η, ω, hs.putV (by simpa using ht) (⟨_, rfl, rfl, fun j b hb => ?_⟩ : Den2 η (.agg [.val (I6 z0), .val (I6 z1)]) _)⟩
    · simp only [execOp]
      simp [hs.opV hx0, hs.opV hx1, run_build w T #[(0, I6 z0), (1, I6 z1)] _ hb]
    · match j, hb with
      | 0, hb => simp at hb; subst hb; exact ⟨_, by simp, rfl⟩
      | 1, hb => simp at hb; subst hb; exact ⟨_, by simp, rfl⟩
/-- a literal of one array of two integers -/
theorem stp_litP {T E : Nat} {x0 : Operand} {z0 z1 : Int} (ht : Nat.blt t nt = true) (hT : elZ P T E 2 = true) (hx : S.op x0 = some (.s (.agg [.val (I6 z0), .val (I6 z1)]))) :
    Stp P nt ⟨some t, .buildSlice T 1 #[(0, x0)], ty, ps, af, gd⟩ S ((S.new t ⟨true, E, 2, .vals (ivals [z0, z1])⟩).put t (o1 (.sl t 0 1))) :=
  Stp.of _ fun w0 ω0 η ω a w hs => by
    obtain ⟨i, z, k1, k2, k3, k4, k5, k6⟩ := elZ_spec hT
    obtain ⟨us, hu, hul, hua⟩ : Den2 η (.agg [.val (I6 z0), .val (I6 z1)]) (a.eval x0) := hs.opv hx
    obtain ⟨u0, g0, rfl⟩ := hua 0 _ rfl
    obtain ⟨u1, g1, rfl⟩ := hua 1 _ rfl
    obtain rfl : us = #[I6 z0, I6 z1] := by
      have : us.size = 2 := hul
      match us with
      | ⟨[p, q]⟩ => simp at g0 g1; rw [g0, g1]
    refine ⟨.slice (some ⟨w.heap.size, 0, none⟩) 1 1, w.alloc (.cells #[I6 z0, I6 z1] E), ?_, ?_⟩
    · have hc : (Value.agg #[I6 z0, I6 z1]).cells = #[I6 z0, I6 z1] := rfl
      simp [execOp, Instr.buildSlice, run_underlying k1, sizeOf, typeInfo, k2, k3, zeroValue, k5, Instr.fill, newRow, hu, hc, range2]
    · have hal := hs.alloc (x := t) (c := ⟨true, E, 2, .vals (ivals [z0, z1])⟩) (cs := #[I6 z0, I6 z1]) (r := fun _ => ⟨none, 0, 1⟩) (n := 1) rfl (by simp) (by simp [Dat.len, ivals]) (by simp [maxLen]) fun j hj => by
        have hj : j < 2 := hj
        match j, hj with
        | 0, _ => exact ⟨_, by simp, rfl⟩
        | 1, _ => exact ⟨_, by simp, rfl⟩
      exact ⟨_, _, hal.putV (by simpa using ht) den_newsl⟩
end
end Go.Proofs.Ytnfkhgamnapgmaa

/- A region that draws its order, whose operations only read and whose callees make new memory alone: one walk, in the order of the text. (The steps are printed by fill.py out of the mark CALM.) -/
namespace Go.Proofs.Ytnfkhgamnapgmaa
open Go.RowKit

section
variable {P : Program} {ops : Array Oper} {C : World → Prop} {o : Oper} {a : Act} {K : Act → Prop}
theorem quiet_val {u : Value} (h : ∀ w, C w → (execOp a.eval o).run P w = .ok (.value u) w) (hk : K (a.put o.dst u)) : o.quiet P a C K :=
  ⟨u, fun w hw => by unfold Oper.quietAt; rw [h w hw]; exact ⟨rfl, rfl⟩, hk⟩
theorem quiet_call {f : FuncId} {args : Array Value} {v : Value} (h : ∀ w, C w → (execOp a.eval o).run P w = .ok (.enter f args) w) (hc : ∀ w, C w → Calls P f args w (fun e w'' => e = .returned v ∧ C w'')) (hk : K (a.put o.dst v)) : o.quiet P a C K :=
  ⟨v, fun w hw => by unfold Oper.quietAt; rw [h w hw]; exact ⟨rfl, hc w hw⟩, hk⟩
theorem wp_region_calm {id : Nat} {Q : Exit → Act → World → Prop} {w : World} {l : List Oper} (hm : P.follows .mixedOrders = true) (hB : Region.lexB .any l.toArray = true)
    (h : wpQuiet P l.toArray (fun w' => Below w.heap.size w w') (fun a' => ∀ w', Below w.heap.size w w' → Q .normal a' w') l a) : (Code.region id l.toArray true).wp P Q a w :=
  wp_region_quiet (C := fun w' => Below w.heap.size w w') hm hB (below_drew1 w) (by simpa using h)
end

end Go.Proofs.Ytnfkhgamnapgmaa

/- Lists of structs of two integers: words, the laws' helpers on []Kind. -/
namespace Go.Proofs.Ytnfkhgamnapgmaa
open Go.RowKit

/-- the cell of the j-th struct -/
def kA (ks : List (Int × Int)) (j : Nat) : Int := (ks.getD j (0, 0)).1
def kB (ks : List (Int × Int)) (j : Nat) : Int := (ks.getD j (0, 0)).2
theorem pflat_get : ∀ (ks : List (Int × Int)) (j : Nat), j < ks.length → (ivals (pflat ks))[j * 2]? = some (.int .i64 (kA ks j)) ∧ (ivals (pflat ks))[j * 2 + 1]? = some (.int .i64 (kB ks j))
  | [], j, h => absurd h (by simp)
  | p :: ks, 0, _ => by simp [pflat, ivals, kA, kB]
  | p :: ks, j + 1, h => by
    have ih := pflat_get ks j (by simpa using h)
    have e : ivals (pflat (p :: ks)) = .int .i64 p.1 :: .int .i64 p.2 :: ivals (pflat ks) := by simp [pflat, ivals]
    rw [e, show (j + 1) * 2 = j * 2 + 1 + 1 by omega]
    simp only [List.getElem?_cons_succ]
    exact ⟨by rw [ih.1]; simp [kA], by rw [ih.2]; simp [kB]⟩
theorem pflat_set : ∀ (A : List (Int × Int)) (p : Int × Int) (B : List (Int × Int)) (x y : Int), ((ivals (pflat (A ++ p :: B))).set (A.length * 2) (.int .i64 x)).set (A.length * 2 + 1) (.int .i64 y) = ivals (pflat (A ++ (x, y) :: B))
  | [], p, B, x, y => by simp [pflat, ivals]
  | q :: A, p, B, x, y => by
    have ih := pflat_set A p B x y
    have e : ∀ L, ivals (pflat (q :: L)) = .int .i64 q.1 :: .int .i64 q.2 :: ivals (pflat L) := fun L => by simp [pflat, ivals]
    rw [List.cons_append, e, List.length_cons, show (A.length + 1) * 2 = A.length * 2 + 1 + 1 by omega]
    simp only [List.set_cons_succ]
    rw [ih, List.cons_append, e]
/-- the slice at ao, of n structs, is a row of the call's own -/
def Own2 (w : World) (base E : Nat) (ao : Option Addr) (n c : Nat) (ks : List (Int × Int)) : Prop :=
  w.ownsRow base E 2 (.slice ao n c) n (ivals (pflat ks)) ∧ n ≤ 4398046511104
section
variable {w w' : World} {base E : Nat} {ao : Option Addr} {n c : Nat} {ks : List (Int × Int)}
theorem Own2.len (h : Own2 w base E ao n c ks) : ks.length = n := by
  have := h.1.1; rw [ivals_len, pflat_len] at this; omega
theorem Own2.lt (h : Own2 w base E ao n c ks) : ∀ g, bk ao = some g → base ≤ g ∧ g < w.heap.size := by
  have := h.1.lt
  rw [ownBlock_slice] at this; exact this
theorem Own2.same (h : Own2 w base E ao n c ks) (hs : ∀ g, bk ao = some g → w'.heap[g]? = w.heap[g]?) : Own2 w' base E ao n c ks := by
  refine ⟨⟨h.1.1, ?_⟩, h.2⟩
  rcases h.1.2 with h2 | ⟨g, cap, cur, hv, hg, hh, r⟩
  · exact Or.inl h2
  · refine Or.inr ⟨g, cap, cur, hv, hg, ?_, r⟩
    have : bk ao = some g := by injection hv with h1; subst h1; rfl
    rw [hs g this]; exact hh
theorem Own2.form (h : Own2 w base E ao n c ks) (hn : 0 < n) : ∃ g, ao = some ⟨g, 0, none⟩ ∧ base ≤ g ∧ g < w.heap.size ∧ n ≤ c ∧ (∀ j, j < n → w.cell? ⟨g, j * 2, none⟩ = some (.int .i64 (kA ks j)) ∧ w.cell? ⟨g, j * 2 + 1, none⟩ = some (.int .i64 (kB ks j))) ∧ (∀ j, w.frozen? ⟨g, j, none⟩ = false) := by
  have hl := h.len
  obtain ⟨g, cap, hv, hb, hlt⟩ := h.1.form (by omega)
  injection hv with h1 _ h2
  subst h1 h2
  refine ⟨g, rfl, hb, hlt, ?_, fun j hj => ?_, fun j => h.1.frozenAt j⟩
  · rcases h.1.2 with ⟨h2, _⟩ | ⟨g', cap', cur, hv, _, _, hnc, _⟩
    · cases h2
    · injection hv with _ _ h3; subst h3; exact hnc
  · have := pflat_get ks j (by omega)
    exact ⟨(h.1.cellAt (j * 2) (by omega)).trans this.1, (h.1.cellAt (j * 2 + 1) (by omega)).trans this.2⟩
end
def RdK (w : World) (v : Value) (ks : List (Int × Int)) : Prop := ∃ ao n c, v = .slice ao n c ∧ ks.length = n ∧ n ≤ 4398046511104 ∧ (0 < n → ∃ g, ao = some ⟨g, 0, none⟩ ∧ g < w.heap.size ∧ ∀ j, j < n → w.cell? ⟨g, j * 2, none⟩ = some (.int .i64 (kA ks j)) ∧ w.cell? ⟨g, j * 2 + 1, none⟩ = some (.int .i64 (kB ks j)))
theorem RdK.below {w w' : World} {v : Value} {ks : List (Int × Int)} (h : RdK w v ks) (hb : Below w.heap.size w w') : RdK w' v ks := by
  obtain ⟨ao, n, c, rfl, hl, hn, hc⟩ := h
  refine ⟨ao, n, c, rfl, hl, hn, fun h0 => ?_⟩
  obtain ⟨g, rfl, hg, hc⟩ := hc h0
  exact ⟨g, rfl, Nat.lt_of_lt_of_le hg hb.size, fun j hj => ⟨(World.cell?_of_block (hb.block g hg)).trans (hc j hj).1, (World.cell?_of_block (hb.block g hg)).trans (hc j hj).2⟩⟩
def OwnK (E : Nat) (w : World) (lo hi : Nat) (v : Value) (ks : List (Int × Int)) : Prop := ∃ ao n c, v = .slice ao n c ∧ Own2 w 0 E ao n c ks ∧ ∀ g, bk ao = some g → lo ≤ g ∧ g < hi
theorem OwnK.rd {E : Nat} {w : World} {lo hi : Nat} {v : Value} {ks : List (Int × Int)} (h : OwnK E w lo hi v ks) : RdK w v ks := by
  obtain ⟨ao, n, c, rfl, ho, _⟩ := h
  refine ⟨ao, n, c, rfl, ho.len, ho.2, fun h0 => ?_⟩
  obtain ⟨g, rfl, _, hg, _, hc, _⟩ := ho.form h0
  exact ⟨g, rfl, hg, hc⟩
theorem OwnK.below {E : Nat} {w w' : World} {lo hi : Nat} {v : Value} {ks : List (Int × Int)} (h : OwnK E w lo hi v ks) (hb : Below w.heap.size w w') : OwnK E w' lo hi v ks := by
  obtain ⟨ao, n, c, rfl, ho, h1⟩ := h
  exact ⟨ao, n, c, rfl, ho.same fun g hg => hb.block g (ho.lt g hg).2, h1⟩
theorem OwnK.only {E : Nat} {w w' : World} {lo hi : Nat} {v : Value} {ks : List (Int × Int)} (h : OwnK E w lo hi v ks) {l k : Nat} (hq : Only l k w w') (hd : hi ≤ l ∨ k ≤ lo) : OwnK E w' lo hi v ks := by
  obtain ⟨ao, n, c, rfl, ho, h1⟩ := h
  exact ⟨ao, n, c, rfl, ho.same fun g hg => hq.block g (ho.lt g hg).2 (by have := h1 g hg; omega), h1⟩
theorem ownK_nil {E : Nat} {w : World} {lo hi : Nat} : OwnK E w lo hi (.slice none 0 0) [] := ⟨none, 0, 0, rfl, ⟨World.ownsRow_nil w 0 E 2, by omega⟩, fun g hg => nomatch hg⟩
def marksK (k : Int) (n : Nat) : List (Int × Int) := (List.range n).map fun j : Nat => (k + 2 * (j : Int), k + 2 * (j : Int) + 1)
theorem length_marksK (k : Int) (n : Nat) : (marksK k n).length = n := by simp [marksK]
theorem marksK_succ (k : Int) (n : Nat) : marksK k (n + 1) = marksK k n ++ [(k + 2 * n, k + 2 * n + 1)] := by simp [marksK, List.range_succ]
theorem marksK_get (k : Int) (n j : Nat) (h : j < n) : kA (marksK k n) j = k + 2 * j ∧ kB (marksK k n) j = k + 2 * j + 1 := by
  simp [kA, kB, marksK, h]
set_option maxHeartbeats 400000 in
theorem eqKind_any (a b : Int) (w : World) : Calls Try.prog 89 #[.agg #[.int .i64 a, .int .i64 b], .agg #[.int .i64 a, .int .i64 b]] w fun e w' => e = .returned (.bool true) ∧ Below w.heap.size w w' := by
  have h1 : ((a : Int) != a) = false := by simp
  have h2 : ((b : Int) != b) = false := by simp
  go_enter Try.func89, Try.ntmps89
  go_wp2
  go_ret
  exact ⟨rfl, below_alloc2 w _ _⟩
set_option maxHeartbeats 400000 in
theorem eqKinds_any (g g' n c c' : Nat) (ks : List (Int × Int)) (w : World) (hg : g < w.heap.size) (hg' : g' < w.heap.size) (hn : n ≤ 4398046511104)
    (h : ∀ j, j < n → w.cell? ⟨g, j * 2, none⟩ = some (.int .i64 (kA ks j)) ∧ w.cell? ⟨g, j * 2 + 1, none⟩ = some (.int .i64 (kB ks j)))
    (h' : ∀ j, j < n → w.cell? ⟨g', j * 2, none⟩ = some (.int .i64 (kA ks j)) ∧ w.cell? ⟨g', j * 2 + 1, none⟩ = some (.int .i64 (kB ks j))) :
    Calls Try.prog 28 #[.slice (some ⟨g, 0, none⟩) n c, .slice (some ⟨g', 0, none⟩) n c'] w fun e w' => e = .returned (.bool true) ∧ Below w.heap.size w w' := by
  have hq : ((n : Int) != (n : Int)) = false := by simp
  have H := Lib.hid h
  have H' := Lib.hid h'
  clear h h'
  go_enter Try.func28, Try.ntmps28
  go_wp2
  go_loopw [5] (fun i wr => ∃ k : Nat, k ≤ n ∧ i = .int .i64 k ∧ Below w.heap.size w wr) (fun i _ => (n - intOf i).toNat)
  case atStart => exact ⟨0, Nat.zero_le _, rfl, Below.refl _ _⟩
  case round =>
    obtain ⟨k, hk, rfl, hb⟩ := hrel
    have HB := Lib.hid hb
    have hsz := hb.size
    clear hb
    by_cases hlt : k < n
    · have hS : ∀ w', Below wr.heap.size wr w' → (w'.cell? ⟨g, k * 2, none⟩ = some (.int .i64 (kA ks k)) ∧ w'.cell? ⟨g, k * 2 + 1, none⟩ = some (.int .i64 (kB ks k))) ∧ (w'.cell? ⟨g', k * 2, none⟩ = some (.int .i64 (kA ks k)) ∧ w'.cell? ⟨g', k * 2 + 1, none⟩ = some (.int .i64 (kB ks k))) := fun w' hb => by
        have hh := HB.out.trans (hb.mono hsz)
        have k1 := H.out k hlt
        have k2 := H'.out k hlt
        exact ⟨⟨(World.cell?_of_block (hh.block g hg)).trans k1.1, (World.cell?_of_block (hh.block g hg)).trans k1.2⟩, (World.cell?_of_block (hh.block g' hg')).trans k2.1, (World.cell?_of_block (hh.block g' hg')).trans k2.2⟩
      have HS := Lib.hid hS
      clear hS
      go_wp2_with fail
      (refine wp_region_calm (by kernel_rfl) (by kernel_rfl) ?_; (repeat (first | go_big_quiet_skip | (go_big_quiet_want; first | (go_big_quiet_op; go_big_quiet_on) | (apply quiet_val; (· (intro _ hw; have f1 := (HS.out _ hw).1.1; have f2 := (HS.out _ hw).1.2; have f3 := (HS.out _ hw).2.1; have f4 := (HS.out _ hw).2.2; go_simp; exact rfl)); go_simp; go_big_quiet_on) | (apply quiet_call; (· (intro _ _; go_simp; exact ⟨rfl, rfl⟩)); (· (intro _ hw; go_at_call 89; refine (eqKind_any _ _ _).mono ?_; rintro e w2 ⟨rfl, hb2⟩; exact ⟨rfl, hw.trans (hb2.mono hw.size)⟩)); go_simp; go_big_quiet_on)))); refine wpQuiet_nil ?_; intro wq bq)
      go_wp2_with fail
      go_roundw
      case rel => exact ⟨k + 1, by omega, by go_num, HB.out.trans (bq.mono hsz)⟩
      case measure => simp [intOf]; omega
    · obtain rfl : k = n := by omega
      go_wp2
      go_ret
      exact ⟨rfl, HB.out⟩
set_option maxHeartbeats 400000 in
theorem eqKinds_none (ao ao' : Option Addr) (c c' : Nat) (w : World) : Calls Try.prog 28 #[.slice ao 0 c, .slice ao' 0 c'] w fun e w' => e = .returned (.bool true) ∧ w' = w := by
  go_enter Try.func28, Try.ntmps28
  go_wp2
  go_loop [5] (fun i => i = .int .i64 0) (fun _ => 0)
  case atStart => rfl
  case round =>
    obtain rfl := hrel
    go_wp2
    go_ret
    exact ⟨rfl, rfl⟩
theorem law_eqK {v v' : Value} {ks : List (Int × Int)} (w : World) (h : RdK w v ks) (h' : RdK w v' ks) :
    Calls Try.prog 28 #[v, v'] w fun e w' => e = .returned (.bool true) ∧ Below w.heap.size w w' := by
  obtain ⟨ao, n, c, rfl, hl, hn, hc⟩ := h
  obtain ⟨ao', n', c', rfl, hl', hn', hc'⟩ := h'
  obtain rfl : n = n' := by omega
  rcases Nat.eq_zero_or_pos n with h0 | h0
  · subst h0
    refine (eqKinds_none ao ao' c c' w).mono ?_
    rintro e w' ⟨rfl, rfl⟩
    exact ⟨rfl, Below.refl _ _⟩
  · obtain ⟨g, rfl, hg, hc⟩ := hc h0
    obtain ⟨g', rfl, hg', hc'⟩ := hc' h0
    exact eqKinds_any g g' n c c' ks w hg hg' hn hc hc'
theorem Own2.stored {w : World} {base E g n c : Nat} {A B : List (Int × Int)} {p : Int × Int} (h : Own2 w base E (some ⟨g, 0, none⟩) n c (A ++ p :: B)) (x y : Int) :
    Own2 ((w.setCell ⟨g, A.length * 2, none⟩ (.int .i64 x)).setCell ⟨g, A.length * 2 + 1, none⟩ (.int .i64 y)) base E (some ⟨g, 0, none⟩) n c (A ++ (x, y) :: B) ∧ w.grownBy ((w.setCell ⟨g, A.length * 2, none⟩ (.int .i64 x)).setCell ⟨g, A.length * 2 + 1, none⟩ (.int .i64 y)) (some g) := by
  have h1 := h.1.stored (A.length * 2) (.int .i64 x)
  have h2 := h1.1.stored (A.length * 2 + 1) (.int .i64 y)
  refine ⟨⟨?_, h.2⟩, grown_tr h1.2 h2.2⟩
  have := h2.1
  rw [pflat_set] at this
  exact this
set_option maxHeartbeats 800000 in
theorem markKinds_any (g n c : Nat) (ks : List (Int × Int)) (k0 : Int) (w : World) (base : Nat) (h : Own2 w base 91 (some ⟨g, 0, none⟩) n c ks) (hk0 : 0 ≤ k0) (hk1 : k0 ≤ 1125899906842624) :
    Calls Try.prog 29 #[.slice (some ⟨g, 0, none⟩) n c, .int .i64 k0] w fun e w' => e = .returned (.int .i64 (k0 + 2 * n)) ∧ Own2 w' base 91 (some ⟨g, 0, none⟩) n c (marksK k0 n) ∧ w.grownBy w' (some g) := by
  have hn := h.2
  have hlen : ks.length = n := h.len
  go_enter Try.func29, Try.ntmps29
  go_wp2
  go_loopw [1, 5] (fun m i wr => ∃ k : Nat, k ≤ n ∧ i = .int .i64 k ∧ m = .int .i64 (k0 + 2 * k) ∧ Own2 wr base 91 (some ⟨g, 0, none⟩) n c (marksK k0 k ++ ks.drop k) ∧ w.grownBy wr (some g)) (fun _ i _ => (n - intOf i).toNat)
  case atStart => exact ⟨0, Nat.zero_le _, rfl, by simp, by simpa [marksK] using h, World.grownBy.refl _ _⟩
  case round =>
    obtain ⟨k, hk, rfl, rfl, ho, hg⟩ := hrel
    have HO := Lib.hid ho
    have HG := Lib.hid hg
    have HL := Lib.hid hlen
    clear ho hg hlen
    by_cases hlt : k < n
    · obtain ⟨g', hgg, _, hgl, _, hcell, hfr⟩ := HO.out.form (by omega)
      injection hgg with hgg; injection hgg with hgg
      subst hgg
      have hc2 := (hcell k hlt).1
      have hc3 := (hcell k hlt).2
      have hf := hfr (k * 2)
      have hf2 := hfr (k * 2 + 1)
      have ho2 := HO.out
      rw [List.drop_eq_getElem_cons (by rw [HL.out]; omega)] at ho2
      have hst := ho2.stored (k0 + 2 * k) (k0 + 2 * k + 1)
      rw [length_marksK] at hst
      have HS := Lib.hid hst
      clear hst hcell hfr ho2
      go_wp2
      go_roundw
      case rel => exact ⟨k + 1, by omega, by go_num, by congr 1; omega, by rw [marksK_succ, List.append_assoc]; exact HS.out.1, grown_tr HG.out HS.out.2⟩
      case measure => simp [intOf]; omega
    · obtain rfl : k = n := by omega
      go_wp2
      go_ret
      exact ⟨rfl, by simpa [List.drop_of_length_le (Nat.le_of_eq HL.out)] using HO.out, HG.out⟩
set_option maxHeartbeats 400000 in
theorem markKinds_none (ao : Option Addr) (c : Nat) (k0 : Int) (w : World) : Calls Try.prog 29 #[.slice ao 0 c, .int .i64 k0] w fun e w' => e = .returned (.int .i64 k0) ∧ w' = w := by
  go_enter Try.func29, Try.ntmps29
  go_wp2
  go_loop [1, 5] (fun m i => i = .int .i64 0 ∧ m = .int .i64 k0) (fun _ _ => 0)
  case atStart => exact ⟨rfl, rfl⟩
  case round =>
    obtain ⟨rfl, rfl⟩ := hrel
    go_wp2
    go_ret
    exact ⟨rfl, rfl⟩
theorem law_markK {v : Value} {ks : List (Int × Int)} {lo hi : Nat} (k : Int) (w : World) (h : OwnK 91 w lo hi v ks) (hk0 : 0 ≤ k) (hk1 : k ≤ 1125899906842624) :
    Calls Try.prog 29 #[v, .int .i64 k] w fun e w' => e = .returned (.int .i64 (k + 2 * ks.length)) ∧ OwnK 91 w' lo hi v (marksK k ks.length) ∧ Only lo hi w w' := by
  obtain ⟨ao, n, c, rfl, ho, h1⟩ := h
  have hl := ho.len
  rcases Nat.eq_zero_or_pos n with h0 | h0
  · subst h0
    refine (markKinds_none ao c k w).mono ?_
    rintro e w' ⟨rfl, rfl⟩
    have : ks = [] := List.length_eq_zero_iff.1 hl
    subst this
    exact ⟨ret_int (by simp), ⟨ao, 0, c, rfl, ho, h1⟩, Only.refl _ _ _⟩
  · obtain ⟨g, rfl, _⟩ := ho.form h0
    refine (markKinds_any g n c ks k w 0 ho hk0 hk1).mono ?_
    rintro e w' ⟨rfl, ho', hg⟩
    exact ⟨ret_int (by rw [hl]), ⟨_, n, c, rfl, by rw [hl]; exact ho', h1⟩, Only.of_grown hg fun g' hg' => h1 g' hg'⟩
set_option maxHeartbeats 400000 in
theorem heldKinds_any (g n c : Nat) (k0 : Int) (w : World) (hn : n ≤ 4398046511104) (h : ∀ j, j < n → w.cell? ⟨g, j * 2, none⟩ = some (.int .i64 (k0 + 2 * j)) ∧ w.cell? ⟨g, j * 2 + 1, none⟩ = some (.int .i64 (k0 + 2 * j + 1))) (hk0 : 0 ≤ k0) (hk1 : k0 ≤ 1125899906842624) :
    Calls Try.prog 30 #[.slice (some ⟨g, 0, none⟩) n c, .int .i64 k0] w fun e w' => e = .returned (.int .i64 (k0 + 2 * n)) ∧ w' = w := by
  have H := Lib.hid h
  clear h
  go_enter Try.func30, Try.ntmps30
  go_wp2
  go_loop [1, 5] (fun m i => ∃ k : Nat, k ≤ n ∧ i = .int .i64 k ∧ m = .int .i64 (k0 + 2 * k)) (fun _ i => n - (intOf i).toNat)
  case atStart => exact ⟨0, Nat.zero_le _, rfl, by simp⟩
  case round =>
    obtain ⟨k, hk, rfl, rfl⟩ := hrel
    by_cases hlt : k < n
    · have hc := (H.out k hlt).1
      have hc2 := (H.out k hlt).2
      have he : ((k0 + 2 * k : Int) != (k0 + 2 * k : Int)) = false := by simp
      have he2 : ((k0 + 2 * k + 1 : Int) != (k0 + 2 * k + 1 : Int)) = false := by simp
      go_wp2
      go_round
      case rel => exact ⟨k + 1, by omega, by go_num, by congr 1; omega⟩
      case measure => simp [intOf]; omega
    · obtain rfl : k = n := by omega
      go_wp2
      go_ret
      exact ⟨rfl, rfl⟩
set_option maxHeartbeats 400000 in
theorem heldKinds_none (ao : Option Addr) (c : Nat) (k0 : Int) (w : World) : Calls Try.prog 30 #[.slice ao 0 c, .int .i64 k0] w fun e w' => e = .returned (.int .i64 k0) ∧ w' = w := by
  go_enter Try.func30, Try.ntmps30
  go_wp2
  go_loop [1, 5] (fun m i => i = .int .i64 0 ∧ m = .int .i64 k0) (fun _ _ => 0)
  case atStart => exact ⟨rfl, rfl⟩
  case round =>
    obtain ⟨rfl, rfl⟩ := hrel
    go_wp2
    go_ret
    exact ⟨rfl, rfl⟩
theorem law_heldK {v : Value} {n : Nat} (k : Int) (w : World) (h : RdK w v (marksK k n)) (hk0 : 0 ≤ k) (hk1 : k ≤ 1125899906842624) :
    Calls Try.prog 30 #[v, .int .i64 k] w fun e w' => e = .returned (.int .i64 (k + 2 * n)) ∧ Below w.heap.size w w' := by
  obtain ⟨ao, n', c, rfl, hl, hn, hc⟩ := h
  obtain rfl : n = n' := by rwa [length_marksK] at hl
  rcases Nat.eq_zero_or_pos n with h0 | h0
  · subst h0
    refine (heldKinds_none ao c k w).mono ?_
    rintro e w' ⟨rfl, rfl⟩
    exact ⟨ret_int (by simp), Below.refl _ _⟩
  · obtain ⟨g, rfl, _, hc⟩ := hc h0
    refine (heldKinds_any g n c k w hn (fun j hj => by have h1 := hc j hj; have h2 := marksK_get k n j hj; rw [h2.1, h2.2] at h1; exact h1) hk0 hk1).mono ?_
    rintro e w' ⟨rfl, rfl⟩
    exact ⟨rfl, Below.refl _ _⟩
theorem toK {η : Env} {ω : Own?} {w' : World} {lo : Nat} {outs : List (Nm × Ch)} {y E : Nat} {ks : List (Int × Int)} {v : Value} (hm : Mem η ω w' (fun x => lk x outs)) (hlo : ∀ b, b < lo → ω b = none) (hx : lk y outs = some ⟨true, E, 2, .vals (ivals (pflat ks))⟩) (hv : Den1 η (.sl y 0 ks.length) v) (hn : ks.length ≤ 4398046511104) : OwnK E w' lo w'.heap.size v ks := by
  obtain ⟨h, h1, h2, h3⟩ := hm.1 y _ hx
  have h2 : h.k = 2 := h2
  obtain ⟨ao, rfl, h4, _⟩ := hv.2 h h1
  have h4 := h4 rfl
  subst h4
  rw [Nat.sub_zero]
  have h3 : VecO ω w' (y, none) h E (ivals (pflat ks)).length (cellsOK η ω w' true y (.vals (ivals (pflat ks)))) := h3
  have hl2 : (ivals (pflat ks)).length = 2 * ks.length := by rw [ivals_len, pflat_len]
  have hget : ∀ j u, j < (ivals (pflat ks)).length → (∃ b o, h.ao = some ⟨b, o, none⟩ ∧ w'.cell? ⟨b, o + j, none⟩ = some u) → (ivals (pflat ks))[j]? = some u := fun j u hj ⟨b, o, e1, e2⟩ => by
    obtain ⟨b', o', u', f1, f2, f3⟩ := Vec.get (own := true) h3 hj
    rw [e1] at f1; injection f1 with f1; injection f1 with f1 f1'; subst f1 f1'
    rw [e2] at f2
    obtain rfl := Option.some.inj f2
    exact f3
  rcases h3 with ⟨k1, k2, k3⟩ | ⟨b, o, cs, k1, k2, k3, ⟨k4, k4'⟩, k5, k6, k7⟩
  · have : ks.length = 0 := by omega
    have : ks = [] := List.length_eq_zero_iff.1 this
    subst this
    exact ⟨_, 0, h.c, rfl, ⟨⟨rfl, .inl ⟨by rw [k1, k2], rfl⟩⟩, by omega⟩, fun g hg => by rw [k1] at hg; cases hg⟩
  · subst k4
    rw [h2] at k4' k5
    have hb : lo ≤ b := by
      rcases Nat.lt_or_ge b lo with h8 | h8
      · rw [hlo b h8] at k2; cases k2
      · exact h8
    refine ⟨_, ks.length, h.c, rfl, ⟨⟨by rw [hl2]; omega, .inr ⟨b, h.c, cs, by rw [k1], Nat.zero_le _, k3, by omega, k6, k4', ?_⟩⟩, hn⟩, fun g hg => ?_⟩
    · apply List.ext_getElem?
      intro j
      rw [List.getElem?_take]
      by_cases hj : j < ks.length * 2
      · obtain ⟨u, hu, _⟩ := k7 j (by omega)
        rw [Nat.zero_add] at hu
        rw [if_pos hj, hget j u (by omega) ⟨b, 0, k1, by rw [Nat.zero_add, cell_of_row w' b j cs E (0, 0) k3]; exact hu⟩]
        simpa using hu
      · rw [if_neg hj, List.getElem?_eq_none (by omega)]
    · rw [k1] at hg
      injection hg with hg
      subst hg
      exact ⟨hb, lt_of_heap k3⟩
end Go.Proofs.Ytnfkhgamnapgmaa

/- within and its twin in the reference; slices.IndexFunc and slices.ContainsFunc at []int64, over any predicate that only reads or makes memory. -/
namespace Go.Proofs.Ytnfkhgamnapgmaa
open Go.RowKit

/-- n lies between lo and hi -/
def inB (n lo hi : Int) : Bool := decide (lo ≤ n) && decide (n ≤ hi)
theorem inB_true {n lo hi : Int} : inB n lo hi = true ↔ lo ≤ n ∧ n ≤ hi := by simp [inB]
theorem within_any (n lo hi : Int) (w : World) : Calls Try.prog 84 #[.int .i64 n, .int .i64 lo, .int .i64 hi] w fun e w' => e = .returned (.bool (inB n lo hi)) ∧ w' = w := by
  by_cases h : lo ≤ n
  · have h1 : decide (lo ≤ n) = true := by simpa using h
    go_enter Try.func84, Try.ntmps84
    go_wp2
    go_ret
    exact ⟨ret_bool (by simp [inB, h]), rfl⟩
  · have h1 : decide (lo ≤ n) = false := by simpa using h
    have h2 : inB n lo hi = false := by simp [inB, h1]
    have H2 := Lib.hid h2
    clear h2
    go_enter Try.func84, Try.ntmps84
    go_wp2
    go_ret
    exact ⟨ret_bool H2.out.symm, rfl⟩

theorem specIn_any (n lo hi : Int) (w : World) : Calls Try.prog 76 #[.int .i64 n, .int .i64 lo, .int .i64 hi] w fun e w' => e = .returned (.bool (inB n lo hi)) ∧ w' = w := by
  by_cases h : lo ≤ n
  · have h1 : decide (lo ≤ n) = true := by simpa using h
    go_enter Try.func76, Try.ntmps76
    go_wp2
    go_ret
    exact ⟨ret_bool (by simp [inB, h]), rfl⟩
  · have h1 : decide (lo ≤ n) = false := by simpa using h
    have h2 : inB n lo hi = false := by simp [inB, h1]
    have H2 := Lib.hid h2
    clear h2
    go_enter Try.func76, Try.ntmps76
    go_wp2
    go_ret
    exact ⟨ret_bool H2.out.symm, rfl⟩

/-- the first index at which p holds, or -1 -/
def findI (p : Int → Bool) (zs : List Int) : Int := match zs.findIdx? p with | some i => i | none => -1
theorem findI_none {p : Int → Bool} {zs : List Int} (h : zs.any p = false) : findI p zs = -1 := by
  have : zs.findIdx? p = none := by rw [List.findIdx?_eq_none_iff]; intro x hx; have := (List.any_eq_false.1 h) x hx; simpa using this
  simp [findI, this]
theorem findI_some {p : Int → Bool} {zs : List Int} {k : Nat} (hk : k < zs.length) (hn : (zs.take k).any p = false) (hp : p (iget zs k) = true) : findI p zs = k := by
  have : zs.findIdx? p = some k := by
    rw [List.findIdx?_eq_some_iff_getElem]
    refine ⟨hk, by rw [← iget_lt hk]; exact hp, fun j hj => ?_⟩
    have hx : zs[j]'(by omega) ∈ zs.take k := by rw [List.mem_take_iff_getElem]; exact ⟨j, by omega, rfl⟩
    have := (List.any_eq_false.1 hn) _ hx
    simpa using this
  simp [findI, this]
theorem findI_any (p : Int → Bool) (zs : List Int) : decide (0 ≤ findI p zs) = zs.any p := by
  cases h : zs.any p with
  | false => rw [findI_none h]; rfl
  | true =>
    rw [decide_eq_true_iff]
    unfold findI
    cases h2 : zs.findIdx? p with
    | some i => exact Int.natCast_nonneg i
    | none =>
      rw [List.findIdx?_eq_none_iff] at h2
      obtain ⟨x, hx, hp⟩ := List.any_eq_true.1 h
      have := h2 x hx
      simp [hp] at this

set_option maxHeartbeats 400000 in
theorem indexFunc_any (fn : Nat) (cap : Array Value) (p : Int → Bool) (ao : Option Addr) (n c : Nat) (zs : List Int) (w : World) (h : Ints w ao n zs)
    (hcf : ∀ (args : Array Value) (w : World), (callFunc fn args).run Try.prog w = .ok (.enter fn args) w)
    (hf : ∀ j, j < n → ∀ w', Below w.heap.size w w' → Calls Try.prog fn (#[.int .i64 (iget zs j)] ++ cap) w' fun e w'' => e = .returned (.bool (p (iget zs j))) ∧ Below w'.heap.size w' w'') :
    Calls Try.prog 178 #[.slice ao n c, .func (.func fn) #[] cap] w fun e w' => e = .returned (.int .i64 (findI p zs)) ∧ Below w.heap.size w w' := by
  have hn := h.2.1
  have HF := Lib.hid hf
  clear hf
  go_enter Try.func178, Try.ntmps178
  go_wp2
  go_loopw [8] (fun i wr => ∃ k : Nat, k ≤ n ∧ i = .int .i64 k ∧ (zs.take k).any p = false ∧ Below w.heap.size w wr) (fun i _ => n - (intOf i).toNat)
  case atStart => exact ⟨0, Nat.zero_le _, rfl, by simp, Below.refl _ _⟩
  case round =>
    obtain ⟨k, hk, rfl, hpre, hb⟩ := hrel
    have HP := Lib.hid hpre
    clear hpre
    by_cases hlt : k < n
    · obtain ⟨b, off, rfl, hc⟩ := (h.below hb).at_ hlt
      have HH := Lib.hid h
      clear h
      cases hp : p (iget zs k) with
      | true =>
        have HX := Lib.hid hp
        clear hp
        go_wp2_with fail
        refine (HF.out k hlt _ hb).mono ?_
        rintro e w1 ⟨rfl, hb1⟩
        rw [HX.out]
        go_wp2
        go_ret
        exact ⟨ret_int (findI_some (by rw [HH.out.1]; exact hlt) HP.out HX.out).symm, hb.trans (hb1.mono hb.size)⟩
      | false =>
        have HX := Lib.hid hp
        clear hp
        go_wp2_with fail
        refine (HF.out k hlt _ hb).mono ?_
        rintro e w1 ⟨rfl, hb1⟩
        rw [HX.out]
        go_wp2
        go_roundw
        case rel => exact ⟨k + 1, by omega, by go_num, by rw [any_take_iget (by rw [HH.out.1]; exact hlt), HP.out, HX.out]; rfl, hb.trans (hb1.mono hb.size)⟩
        case measure => simp [intOf]; omega
    · obtain rfl : k = n := by omega
      have hl := h.1
      have HL := Lib.hid hl
      clear hl
      go_wp2
      go_ret
      exact ⟨ret_int (findI_none (by have := HP.out; rwa [List.take_of_length_le (Nat.le_of_eq HL.out)] at this)).symm, hb⟩

theorem containsFunc_any (fn : Nat) (cap : Array Value) (p : Int → Bool) (ao : Option Addr) (n c : Nat) (zs : List Int) (w : World) (h : Ints w ao n zs)
    (hcf : ∀ (args : Array Value) (w : World), (callFunc fn args).run Try.prog w = .ok (.enter fn args) w)
    (hf : ∀ j, j < n → ∀ w', Below w.heap.size w w' → Calls Try.prog fn (#[.int .i64 (iget zs j)] ++ cap) w' fun e w'' => e = .returned (.bool (p (iget zs j))) ∧ Below w'.heap.size w' w'') :
    Calls Try.prog 138 #[.slice ao n c, .func (.func fn) #[] cap] w fun e w' => e = .returned (.bool (zs.any p)) ∧ Below w.heap.size w w' := by
  have HF := Lib.hid hf
  clear hf
  go_enter Try.func138, Try.ntmps138
  go_wp2_with fail
  refine (indexFunc_any fn cap p ao n c zs w h hcf HF.out).mono ?_
  rintro e w1 ⟨rfl, hb1⟩
  go_wp2
  go_ret
  exact ⟨ret_bool (findI_any p zs), hb1⟩
end Go.Proofs.Ytnfkhgamnapgmaa

/- IsDiagram, the program's and the reference's. -/
namespace Go.Proofs.Ytnfkhgamnapgmaa
open Go.RowKit

/-- a label: 0, or 2 to 32 -/
def isLabel (z : Int) : Bool := z == 0 || inB z 2 32
/-- a diagram: fewer than 5 labels -/
def isDiag (zs : List Int) : Bool := zs.all isLabel && decide (zs.length < 5)

set_option maxHeartbeats 400000 in
theorem spec12Is_any (ao : Option Addr) (n c : Nat) (zs : List Int) (w : World) (h : Ints w ao n zs) :
    Calls Try.prog 75 #[.slice ao n c] w fun e w' => e = .returned (.bool (isDiag zs)) ∧ w' = w := by
  have hn := h.2.1
  go_enter Try.func75, Try.ntmps75
  go_wp2
  go_loop [3] (fun i => ∃ k : Nat, k ≤ n ∧ i = .int .i64 k ∧ (zs.take k).all isLabel = true) (fun i => n - (intOf i).toNat)
  case atStart => exact ⟨0, Nat.zero_le _, rfl, by simp⟩
  case round =>
    obtain ⟨k, hk, rfl, hpre⟩ := hrel
    have HP := Lib.hid hpre
    clear hpre
    by_cases hlt : k < n
    · obtain ⟨b, off, rfl, hc⟩ := h.at_ hlt
      have hl := h.1
      have HL := Lib.hid hl
      clear hl h
      cases hp : isLabel (iget zs k) with
      | true =>
        have HX := Lib.hid hp
        by_cases h0 : iget zs k = 0
        · have h1 : (iget zs k != 0) = false := by simp [h0]
          clear hp h0
          go_wp2
          go_round
          case rel => exact ⟨k + 1, by omega, by go_num, by rw [all_take_iget (by rw [HL.out]; exact hlt), HP.out, HX.out]; rfl⟩
          case measure => simp [intOf]; omega
        · have h1 : (iget zs k != 0) = true := by simp [h0]
          have h2 : inB (iget zs k) 2 32 = true := by unfold isLabel at hp; simpa [h0] using hp
          have H2 := Lib.hid h2
          clear hp h0 h2
          go_wp2_with (go_at_call 76; refine (specIn_any _ _ _ _).mono ?_; rintro e w' ⟨rfl, rfl⟩; rw [H2.out])
          go_round
          case rel => exact ⟨k + 1, by omega, by go_num, by rw [all_take_iget (by rw [HL.out]; exact hlt), HP.out, HX.out]; rfl⟩
          case measure => simp [intOf]; omega
      | false =>
        have HX := Lib.hid hp
        have h1 : (iget zs k != 0) = true := by
          rw [bne_iff_ne]; intro e; unfold isLabel at hp; simp [e] at hp
        have h2 : inB (iget zs k) 2 32 = false := by unfold isLabel at hp; simp only [Bool.or_eq_false_iff] at hp; exact hp.2
        have H2 := Lib.hid h2
        clear hp h2
        go_wp2_with (go_at_call 76; refine (specIn_any _ _ _ _).mono ?_; rintro e w' ⟨rfl, rfl⟩; rw [H2.out])
        go_ret
        exact ⟨ret_bool (by unfold isDiag; rw [all_false_at (by rw [HL.out]; exact hlt) HX.out]; rfl), rfl⟩
    · obtain rfl : k = n := by omega
      have hl := h.1
      have HL := Lib.hid hl
      clear hl
      go_wp2
      go_ret
      exact ⟨ret_bool (by have := HP.out; rw [List.take_of_length_le (Nat.le_of_eq HL.out)] at this; unfold isDiag; rw [this, HL.out]; simp; omega), rfl⟩

theorem isDiagramFn_any (z : Int) (w : World) :
    Calls Try.prog 139 #[.int .i64 z] w fun e w' => e = .returned (.bool (!isLabel z)) ∧ w' = w := by
  by_cases h0 : z = 0
  · have h1 : (z != 0) = false := by simp [h0]
    have h2 : isLabel z = true := by simp [isLabel, h0]
    have H2 := Lib.hid h2
    clear h0 h2
    go_enter Try.func139, Try.ntmps139
    go_wp2
    go_ret
    exact ⟨ret_bool (by rw [H2.out]; rfl), rfl⟩
  · have h1 : (z != 0) = true := by simp [h0]
    have h2 : isLabel z = inB z 2 32 := by simp [isLabel, h0]
    have H2 := Lib.hid h2
    clear h0 h2
    go_enter Try.func139, Try.ntmps139
    go_wp2_with (go_at_call 84; refine (within_any _ _ _ _).mono ?_; rintro e w' ⟨rfl, rfl⟩)
    go_ret
    exact ⟨ret_bool (by rw [H2.out]), rfl⟩

set_option maxRecDepth 100000 in
theorem isDiagramImpl_any (ao : Option Addr) (n c : Nat) (zs : List Int) (w : World) (h : Ints w ao n zs) :
    Calls Try.prog 82 #[.slice ao n c] w fun e w' => e = .returned (.bool (isDiag zs)) ∧ Below w.heap.size w w' := by
  have hl := h.1
  have HL := Lib.hid hl
  clear hl
  have hany : zs.any (fun z => !isLabel z) = !(zs.all isLabel) := by rw [List.any_eq_not_all_not]; simp
  have HA := Lib.hid hany
  clear hany
  by_cases hs : n < 5
  · have h1 : decide ((n : Int) < 5) = true := by simp; omega
    go_enter Try.func82, Try.ntmps82
    go_wp2_with fail
    refine (containsFunc_any 139 #[] (fun z => !isLabel z) ao n c zs w h (fun _ _ => by rfl) (fun j hj w' hb => (isDiagramFn_any _ w').mono ?_)).mono ?_
    · rintro e w1 ⟨rfl, rfl⟩; exact ⟨rfl, Below.refl _ _⟩
    rintro e w1 ⟨rfl, hb⟩
    go_wp2
    go_ret
    exact ⟨ret_bool (by rw [HA.out]; unfold isDiag; rw [HL.out]; simp [hs]), hb⟩
  · have h1 : decide ((n : Int) < 5) = false := by simp; omega
    go_enter Try.func82, Try.ntmps82
    go_wp2
    go_ret
    exact ⟨ret_bool (by unfold isDiag; rw [HL.out]; simp; intro _; omega), Below.refl _ _⟩

end Go.Proofs.Ytnfkhgamnapgmaa

/- ReverseDiagram: the reference's l12Turned, slices.Clone and slices.Reverse at []int64. -/
namespace Go.Proofs.Ytnfkhgamnapgmaa
open Go.RowKit

/-- a list the other way round; closed to simp -/
def turned (zs : List Int) : List Int := zs.reverse
theorem turned_drop {zs : List Int} {k : Nat} (h : k < zs.length) : turned (zs.drop k) = turned (zs.drop (k + 1)) ++ [iget zs k] := by
  unfold turned; rw [List.drop_eq_getElem_cons h, ← iget_lt h, List.reverse_cons]

set_option maxHeartbeats 400000 in
theorem spec12Turned_any (ao : Option Addr) (n c : Nat) (zs : List Int) (w : World) (h : Ints w ao n zs) (hn : n ≤ 1048576) :
    Calls Try.prog 210 #[.slice ao n c] w fun e w' => ∃ ao' c', e = .returned (.slice ao' n c') ∧ Own w' w.heap.size 2 ao' n c' ((turned zs).map (Value.int .i64)) ∧ Below w.heap.size w w' := by
  have hl := h.1
  have HL := Lib.hid hl
  clear hl
  go_enter Try.func210, Try.ntmps210
  go_wp2
  go_loopw [3, 4] (fun v i wr => ∃ (k a' : Nat) (ao' : Option Addr) (c' : Nat), k ≤ n ∧ i = .int .i64 ((k : Int) - 1) ∧ v = .slice ao' a' c' ∧ a' + k = n ∧ Own wr w.heap.size 2 ao' a' c' ((turned (zs.drop k)).map (Value.int .i64)) ∧ Below w.heap.size w wr) (fun _ i _ => (intOf i + 1).toNat)
  case atStart => exact ⟨n, 0, _, _, Nat.le_refl _, rfl, rfl, by omega, by rw [List.drop_of_length_le (Nat.le_of_eq HL.out)]; exact Own.empty_ w _ (Nat.le_refl _), (Below.refl _ _).alloc (Nat.le_refl _) _⟩
  case round =>
    obtain ⟨k, a', ao', c', hk, rfl, rfl, hak, ho, hb⟩ := hrel
    have HAK := Lib.hid hak
    clear hak
    by_cases hlt : 0 < k
    · obtain ⟨j, rfl⟩ : ∃ j, k = j + 1 := ⟨k - 1, by omega⟩
      have hj : j < n := by omega
      have ha' : a' ≤ 1048576 := by have := HAK.out; omega
      obtain ⟨b, off, rfl, hc⟩ := (h.below hb).at_ hj
      have HT : Hid (turned (zs.drop j) = turned (zs.drop (j + 1)) ++ [iget zs j]) := turned_drop (by rw [HL.out]; exact hj)
      have hbs := hb.size
      have ej : ((j + 1 : Nat) : Int) - 1 = j := by omega
      rw [ej]
      clear ej
      go_wp2_with (at_builtin; refine wpList_ap1 etI _ rfl _ _ rfl w.heap.size ao' a' c' _ rfl ho (.int .i64 (iget zs j)) rfl rfl (by omega) hbs ?_; intro ao2 c2 w2 ho2 hg2 hblk)
      have hol := ho.lt
      clear ho hc h
      go_wp2
      go_roundw
      case rel =>
        refine ⟨j, a' + 1, ao2, c2, by omega, rfl, rfl, by have := HAK.out; omega, ?_, hb.grown hg2 hbs (fun g hg => (hol g hg).1)⟩
        rw [HT.out, List.map_append]; exact ho2
      case measure => simp [intOf]
    · obtain rfl : k = 0 := by omega
      obtain rfl : a' = n := by have := HAK.out; omega
      go_wp2
      go_ret
      exact ⟨_, _, rfl, by simpa using ho, hb⟩

set_option maxHeartbeats 400000 in
theorem clone_any (ao : Option Addr) (n c : Nat) (zs : List Int) (w : World) (h : Ints w ao n zs) (hn : n ≤ 1048576) :
    Calls Try.prog 168 #[.slice ao n c] w fun e w' => ∃ ao' c', e = .returned (.slice ao' n c') ∧ Own w' w.heap.size 2 ao' n c' (zs.map (Value.int .i64)) ∧ Below w.heap.size w w' := by
  have he := fun (w : World) => Lib.run_eql_slice_nil (P := Try.prog) w 22 2 ao n c 0 0 Try.underlying22
  cases ao with
  | none =>
    obtain ⟨rfl, rfl⟩ := h.of_none
    go_enter Try.func168, Try.ntmps168
    go_wp2
    go_ret
    exact ⟨_, _, rfl, Own.nil_ _ _ _, Below.refl _ _⟩
  | some ad =>
    have h2 : Ints (w.alloc (.cells #[] 2)) (some ad) n zs := h.below ((Below.refl _ _).alloc (Nat.le_refl _) _)
    have H2 := Lib.hid h2
    clear h2
    go_enter Try.func168, Try.ntmps168
    go_wp2_with (at_builtin; refine wpList_apN etI _ rfl _ _ rfl w.heap.size _ 0 0 [] rfl (Own.empty_ w _ (Nat.le_refl _)) (some ad) n c zs rfl H2.out (by omega) (by simp) ?_; intro ao2 c2 w2 ho2 hg2 hblk)
    go_ret
    refine ⟨_, _, rfl, by simpa using ho2, ((Below.refl _ _).alloc (Nat.le_refl _) _).grown hg2 (by simp) (fun g hg => ?_)⟩
    simp [bk] at hg; omega
end Go.Proofs.Ytnfkhgamnapgmaa

/- slices.Reverse at []int64: it turns a row of the call's own round, in place. -/
namespace Go.Proofs.Ytnfkhgamnapgmaa
open Go.RowKit

theorem own_iget {w : World} {base E : Nat} {g n c : Nat} {zs : List Int} (h : Own w base E (some ⟨g, 0, none⟩) n c (zs.map (Value.int .i64))) {k : Nat} (hk : k < n) : w.cell? ⟨g, k, none⟩ = some (.int .i64 (iget zs k)) := by
  obtain ⟨g', hg, _, _, _, hc, _⟩ := h.form (by omega)
  obtain rfl : g = g' := by injection hg with hg; injection hg
  have hl : zs.length = n := by have := h.len; simpa using this
  rw [hc k hk, List.getElem?_map, List.getElem?_eq_getElem (by omega), iget_lt (by omega)]; rfl
theorem iget_set_eq {zs : List Int} {k : Nat} (h : k < zs.length) (x : Int) : iget (zs.set k x) k = x := by rw [iget_lt (by simpa using h)]; simp
theorem iget_set_ne {zs : List Int} {k j : Nat} (h : k ≠ j) (x : Int) : iget (zs.set k x) j = iget zs j := by simp [iget, h]

set_option maxHeartbeats 800000 in
theorem reverse_any (ao : Option Addr) (n c : Nat) (zs : List Int) (w : World) (base : Nat) (h : Own w base 2 ao n c (zs.map (Value.int .i64))) :
    Calls Try.prog 230 #[.slice ao n c] w fun e w' => e = .returned (.tuple #[]) ∧ Own w' base 2 ao n c ((turned zs).map (Value.int .i64)) ∧ w.grownBy w' (bk ao) := by
  have hn := h.2
  have hl : zs.length = n := by have := h.len; simpa using this
  have HL := Lib.hid hl
  clear hl
  go_enter Try.func230, Try.ntmps230
  go_wp2
  go_loopw [2, 3] (fun i j wr => ∃ (k : Nat) (cur : List Int), k ≤ n ∧ i = .int .i64 k ∧ j = .int .i64 ((n : Int) - 1 - k) ∧ cur.length = n ∧ (∀ x, x < n → iget cur x = if x < k ∨ n < x + 1 + k then iget zs (n - 1 - x) else iget zs x) ∧ Own wr base 2 ao n c (cur.map (Value.int .i64)) ∧ w.grownBy wr (bk ao)) (fun i _ _ => n - (intOf i).toNat)
  case atStart => exact ⟨0, zs, by omega, rfl, by simp, HL.out, fun x hx => by rw [if_neg (by omega)], h, World.grownBy.refl _ _⟩
  case round =>
    obtain ⟨k, cur, hk, rfl, rfl, hcl, hcur, ho, hg⟩ := hrel
    have HC := Lib.hid hcl
    have HU := Lib.hid hcur
    clear hcl hcur
    by_cases hlt : k + k + 1 < n
    · obtain ⟨j, hj⟩ : ∃ j : Nat, j + k + 1 = n := ⟨n - 1 - k, by omega⟩
      have HJ := Lib.hid hj
      have ej : (n : Int) - 1 - k = j := by omega
      have hjn : j < n := by omega
      have hkn : k < n := by omega
      have hkj : k < j := by omega
      rw [ej]
      clear hj ej
      obtain ⟨g, rfl, -, hgl, -, -, -⟩ := ho.form (by omega)
      have hc1 := own_iget ho hjn
      have hc2 := own_iget ho hkn
      have hf1 := ho.1.frozenAt j
      have hf2 := ho.1.frozenAt k
      have ho1 : Own wr.drew base 2 (some ⟨g, 0, none⟩) n c (cur.map (Value.int .i64)) := ho
      obtain ⟨s1, t1⟩ := ho1.stored k (.int .i64 (iget cur j))
      obtain ⟨s2, t2⟩ := s1.stored j (.int .i64 (iget cur k))
      have S2 := Lib.hid s2
      have T1 := Lib.hid t1
      have T2 := Lib.hid t2
      clear s1 t1 s2 t2 ho1 ho
      go_wp2
      go_region
      go_wp2
      go_roundw
      case rel =>
        refine ⟨k + 1, (cur.set k (iget cur j)).set j (iget cur k), by omega, by go_num, ?_, by simp [HC.out], ?_, by rw [List.map_set, List.map_set]; exact S2.out, grown_tr hg (grown_tr (⟨rfl, rfl, rfl, Nat.le_refl _, fun _ _ _ => rfl⟩ : wr.grownBy wr.drew _) (grown_tr T1.out T2.out))⟩
        · congr 1; have := HJ.out; omega
        · intro x hx
          have hcl := HC.out
          have hjn' := HJ.out
          by_cases h1 : x = j
          · subst h1
            rw [iget_set_eq (by simp; omega), if_pos (by omega), HU.out k (by omega), if_neg (by omega)]
            congr 1; omega
          · rw [iget_set_ne (fun e => h1 e.symm)]
            by_cases h2 : x = k
            · subst h2
              rw [iget_set_eq (by omega), if_pos (by omega), HU.out j (by omega), if_neg (by omega)]
              congr 1; omega
            · rw [iget_set_ne (fun e => h2 e.symm), HU.out x hx]
              by_cases h3 : x < k ∨ n < x + 1 + k
              · rw [if_pos h3, if_pos (by omega)]
              · rw [if_neg h3, if_neg (by omega)]
      case measure => simp [intOf]; omega
    · have hle : (n : Int) - 1 - k ≤ k := by omega
      go_wp2
      go_end0
      refine ⟨rfl, ?_, hg⟩
      have hcl := HC.out
      have hzl := HL.out
      have e : cur = turned zs := by
        apply iget_ext (by unfold turned; simp; omega)
        intro x hx
        have hr : iget (turned zs) x = iget zs (n - 1 - x) := by
          rw [iget_lt (by unfold turned; simp; omega), iget_lt (by omega)]
          unfold turned
          rw [List.getElem_reverse]
          congr 1; omega
        rw [hr, HU.out x (by omega)]
        by_cases h3 : x < k ∨ n < x + 1 + k
        · rw [if_pos h3]
        · rw [if_neg h3]; congr 1; omega
      rw [← e]; exact ho
end Go.Proofs.Ytnfkhgamnapgmaa

/- slices.Sort at []int64, a few elements: it sorts a row of the call's own in place. -/
namespace Go.Proofs.Ytnfkhgamnapgmaa
open Go.RowKit

theorem nan_any (x : Int) (w : World) : Calls Try.prog 247 #[.int .i64 x] w fun e w' => e = .returned (.bool false) ∧ w' = w := by
  have hx : (x != x) = false := by simp
  go_enter Try.func247, Try.ntmps247
  go_wp2
  go_ret
  exact ⟨rfl, rfl⟩

theorem less_any (x y : Int) (w : World) : Calls Try.prog 237 #[.int .i64 x, .int .i64 y] w fun e w' => e = .returned (.bool (decide (x < y))) ∧ w' = w := by
  go_enter Try.func237, Try.ntmps237
  go_wp2_with (go_at_call 247; refine (nan_any _ _).mono ?_; rintro e w' ⟨rfl, rfl⟩)
  go_ret
  exact ⟨rfl, rfl⟩

set_option maxRecDepth 100000 in
theorem len64_0 (w : World) : Calls Try.prog 241 #[.int .u64 0] w fun e w' => (∃ r : Int, e = .returned (.int .i64 r)) ∧ w' = w := by
  go_enter Try.func241, Try.ntmps241
  go_wp2
  go_ret
  exact ⟨⟨_, rfl⟩, rfl⟩
set_option maxRecDepth 100000 in
theorem len64_1 (w : World) : Calls Try.prog 241 #[.int .u64 1] w fun e w' => (∃ r : Int, e = .returned (.int .i64 r)) ∧ w' = w := by
  go_enter Try.func241, Try.ntmps241
  go_wp2
  go_ret
  exact ⟨⟨_, rfl⟩, rfl⟩
set_option maxRecDepth 100000 in
theorem len64_2 (w : World) : Calls Try.prog 241 #[.int .u64 2] w fun e w' => (∃ r : Int, e = .returned (.int .i64 r)) ∧ w' = w := by
  go_enter Try.func241, Try.ntmps241
  go_wp2
  go_ret
  exact ⟨⟨_, rfl⟩, rfl⟩
set_option maxRecDepth 100000 in
theorem len64_3 (w : World) : Calls Try.prog 241 #[.int .u64 3] w fun e w' => (∃ r : Int, e = .returned (.int .i64 r)) ∧ w' = w := by
  go_enter Try.func241, Try.ntmps241
  go_wp2
  go_ret
  exact ⟨⟨_, rfl⟩, rfl⟩
set_option maxRecDepth 100000 in
theorem len64_4 (w : World) : Calls Try.prog 241 #[.int .u64 4] w fun e w' => (∃ r : Int, e = .returned (.int .i64 r)) ∧ w' = w := by
  go_enter Try.func241, Try.ntmps241
  go_wp2
  go_ret
  exact ⟨⟨_, rfl⟩, rfl⟩
set_option maxRecDepth 100000 in
theorem len64_5 (w : World) : Calls Try.prog 241 #[.int .u64 5] w fun e w' => (∃ r : Int, e = .returned (.int .i64 r)) ∧ w' = w := by
  go_enter Try.func241, Try.ntmps241
  go_wp2
  go_ret
  exact ⟨⟨_, rfl⟩, rfl⟩
theorem len64_any (k : Nat) (hk : k ≤ 5) (w : World) : Calls Try.prog 241 #[.int .u64 k] w fun e w' => (∃ r : Int, e = .returned (.int .i64 r)) ∧ w' = w := by
  rcases (by omega : k = 0 ∨ k = 1 ∨ k = 2 ∨ k = 3 ∨ k = 4 ∨ k = 5) with rfl | rfl | rfl | rfl | rfl | rfl
  · exact len64_0 w
  · exact len64_1 w
  · exact len64_2 w
  · exact len64_3 w
  · exact len64_4 w
  · exact len64_5 w
theorem len_any (k : Nat) (hk : k ≤ 5) (w : World) : Calls Try.prog 225 #[.int .u64 k] w fun e w' => (∃ r : Int, e = .returned (.int .i64 r)) ∧ w' = w := by
  go_enter Try.func225, Try.ntmps225
  go_wp2_with fail
  refine (len64_any k hk _).mono ?_
  rintro e w' ⟨⟨r, rfl⟩, rfl⟩
  go_wp2
  go_ret
  exact ⟨⟨_, rfl⟩, rfl⟩

/-- ascending, but for what stands at j, up to i -/
def asc (cur : List Int) (i j : Nat) : Prop := ∀ x y, x < y → y ≤ i → y ≠ j → iget cur x ≤ iget cur y
theorem swap_perm : ∀ (l : List Int) (k : Nat), k + 1 < l.length → ((l.set (k + 1) (iget l k)).set k (iget l (k + 1))).Perm l
  | [], k, h => by simp at h
  | [a], k, h => by simp at h
  | a :: b :: r, 0, _ => by
    simp only [List.set_cons_succ, List.set_cons_zero]
    exact List.Perm.swap a b r
  | a :: b :: r, k + 1, h => by
    have := swap_perm (b :: r) k (by simpa using h)
    rw [show iget (a :: b :: r) (k + 1) = iget (b :: r) k by simp [iget], show iget (a :: b :: r) (k + 1 + 1) = iget (b :: r) (k + 1) by simp [iget], List.set_cons_succ, List.set_cons_succ]
    exact this.cons a
theorem asc_stop {cur : List Int} {i j : Nat} (h : asc cur i j) (hs : j = 0 ∨ iget cur (j - 1) ≤ iget cur j) : ∀ x y, x < y → y ≤ i → iget cur x ≤ iget cur y := by
  intro x y h1 h2
  by_cases e : y = j
  · subst e
    rcases hs with h0 | h0
    · omega
    · by_cases e2 : x = y - 1
      · rw [e2]; exact h0
      · exact Int.le_trans (h x (y - 1) (by omega) (by omega) (by omega)) h0
  · exact h x y h1 h2 e
theorem asc_swap {cur : List Int} {i k : Nat} (hl : k + 1 < cur.length) (hk : k + 1 ≤ i) (h : asc cur i (k + 1)) (hlt : iget cur (k + 1) < iget cur k) : asc ((cur.set (k + 1) (iget cur k)).set k (iget cur (k + 1))) i k := by
  have e1 : iget ((cur.set (k + 1) (iget cur k)).set k (iget cur (k + 1))) k = iget cur (k + 1) := iget_set_eq (by simp; omega) _
  have e2 : iget ((cur.set (k + 1) (iget cur k)).set k (iget cur (k + 1))) (k + 1) = iget cur k := by rw [iget_set_ne (by omega), iget_set_eq hl]
  have e3 : ∀ z, z ≠ k → z ≠ k + 1 → iget ((cur.set (k + 1) (iget cur k)).set k (iget cur (k + 1))) z = iget cur z := fun z h1 h2 => by rw [iget_set_ne (fun e => h1 e.symm), iget_set_ne (fun e => h2 e.symm)]
  intro x y h1 h2 h3
  by_cases y1 : y = k + 1
  · subst y1
    rw [e2]
    by_cases x1 : x = k
    · subst x1; rw [e1]; omega
    · rw [e3 x x1 (by omega)]; exact h x k (by omega) (by omega) (by omega)
  · rw [e3 y h3 y1]
    by_cases x1 : x = k
    · subst x1; rw [e1]; exact h (x + 1) y (by omega) h2 y1
    · by_cases x2 : x = k + 1
      · subst x2; rw [e2]; exact h k y (by omega) h2 y1
      · rw [e3 x x1 x2]; exact h x y h1 h2 y1

/-- the list, in ascending order -/
def sortL (zs : List Int) : List Int := zs.mergeSort (fun a b => decide (a ≤ b))
theorem pair_of_iget {l : List Int} (h : ∀ x y, x < y → y < l.length → iget l x ≤ iget l y) : l.Pairwise (· ≤ ·) := by
  rw [List.pairwise_iff_getElem]
  intro i j hi hj hij
  have := h i j hij hj
  rwa [iget_lt hi, iget_lt hj] at this
theorem sortL_uniq {l zs : List Int} (hp : l.Perm zs) (ha : l.Pairwise (· ≤ ·)) : l = sortL zs := by
  have h1 : (sortL zs).Pairwise (· ≤ ·) := by
    have := List.pairwise_mergeSort (le := fun a b : Int => decide (a ≤ b)) (fun a b c h1 h2 => by simp at *; omega) (fun a b => by simp; omega) zs
    exact this.imp (by simp)
  exact List.Perm.eq_of_pairwise (fun a b _ _ h1 h2 => Int.le_antisymm h1 h2) ha h1 (hp.trans (List.mergeSort_perm zs _).symm)
theorem sortL_len (zs : List Int) : (sortL zs).length = zs.length := (List.mergeSort_perm zs _).length_eq
end Go.Proofs.Ytnfkhgamnapgmaa

/- slices.SortStableFunc: what its parts do, on lists. No program in sight. -/
namespace Go.Proofs.Ytnfkhgamnapgmaa
open Go.RowKit

/-- two elements change places -/
def swp (zs : List Int) (i j : Nat) : List Int := (zs.set i (iget zs j)).set j (iget zs i)
theorem swp_len (zs : List Int) (i j : Nat) : (swp zs i j).length = zs.length := by simp [swp]
theorem swp_get {zs : List Int} {i j : Nat} (hi : i < zs.length) (hj : j < zs.length) (k : Nat) :
    iget (swp zs i j) k = if k = j then iget zs i else if k = i then iget zs j else iget zs k := by
  unfold swp
  by_cases e : k = j
  · subst e; rw [if_pos rfl, iget_set_eq (by simpa using hj)]
  · rw [if_neg e, iget_set_ne (fun h => e h.symm)]
    by_cases e2 : k = i
    · subst e2; rw [if_pos rfl, iget_set_eq hi]
    · rw [if_neg e2, iget_set_ne (fun h => e2 h.symm)]
theorem swp_perm {zs : List Int} {i j : Nat} (hi : i < zs.length) (hj : j < zs.length) : (swp zs i j).Perm zs := by
  have := List.set_set_perm hi hj
  unfold swp
  rw [iget_lt hi, iget_lt hj]; exact this

/-- zs' has the elements of zs, and those of a .. b - 1 stay among themselves; the others stay where they are -/
structure Kept (zs zs' : List Int) (a b : Nat) : Prop where
  len : zs'.length = zs.length
  perm : zs'.Perm zs
  out : ∀ j, j < a ∨ b ≤ j → iget zs' j = iget zs j
  mem : ∀ j, a ≤ j → j < b → ∃ i, a ≤ i ∧ i < b ∧ iget zs' j = iget zs i
theorem Kept.refl (zs : List Int) (a b : Nat) : Kept zs zs a b := ⟨rfl, List.Perm.refl _, fun _ _ => rfl, fun j h1 h2 => ⟨j, h1, h2, rfl⟩⟩
theorem Kept.trans {x y z : List Int} {a b : Nat} (h : Kept x y a b) (h' : Kept y z a b) : Kept x z a b :=
  ⟨h'.len.trans h.len, h'.perm.trans h.perm, fun j hj => (h'.out j hj).trans (h.out j hj), fun j h1 h2 => by
    obtain ⟨i, i1, i2, i3⟩ := h'.mem j h1 h2
    obtain ⟨k, k1, k2, k3⟩ := h.mem i i1 i2
    exact ⟨k, k1, k2, i3.trans k3⟩⟩
theorem Kept.wide {x y : List Int} {a b a' b' : Nat} (h : Kept x y a b) (ha : a' ≤ a) (hb : b ≤ b') : Kept x y a' b' :=
  ⟨h.len, h.perm, fun j hj => h.out j (by omega), fun j h1 h2 => by
    by_cases e : a ≤ j ∧ j < b
    · obtain ⟨i, i1, i2, i3⟩ := h.mem j e.1 e.2
      exact ⟨i, by omega, by omega, i3⟩
    · exact ⟨j, h1, h2, h.out j (by omega)⟩⟩
theorem Kept.swp {zs : List Int} {i j a b : Nat} (hi : i < zs.length) (hj : j < zs.length) (h1 : a ≤ i) (h2 : i < b) (h3 : a ≤ j) (h4 : j < b) : Kept zs (swp zs i j) a b :=
  ⟨swp_len _ _ _, swp_perm hi hj, fun k hk => by rw [swp_get hi hj, if_neg (by omega), if_neg (by omega)], fun k k1 k2 => by
    rw [swp_get hi hj]
    by_cases e : k = j
    · rw [if_pos e]; exact ⟨i, h1, h2, rfl⟩
    · rw [if_neg e]
      by_cases e2 : k = i
      · rw [if_pos e2]; exact ⟨j, h3, h4, rfl⟩
      · rw [if_neg e2]; exact ⟨k, k1, k2, rfl⟩⟩

section
variable (key : Int → Nat) (less : Int → Int → Bool)
/-- in order, from a to b - 1 -/
def Asc (zs : List Int) (a b : Nat) : Prop := ∀ i j, a ≤ i → i < j → j < b → key (iget zs i) ≤ key (iget zs j)
/-- between the elements of a .. m - 1 and those of m .. b - 1, the comparison says what the keys say -/
def Agr (zs : List Int) (a m b : Nat) : Prop := ∀ i j, a ≤ i → i < m → m ≤ j → j < b → (less (iget zs j) (iget zs i) = true ↔ key (iget zs j) < key (iget zs i))
/-- the same between any two elements of a .. b - 1 -/
def AgrA (zs : List Int) (a b : Nat) : Prop := ∀ i j, a ≤ i → i < j → j < b → (less (iget zs j) (iget zs i) = true ↔ key (iget zs j) < key (iget zs i))
end
variable {key : Int → Nat} {less : Int → Int → Bool} {zs zs' zs1 : List Int} {a b m : Nat}

/-- what was taken out of its place a and put behind those up to i - 1 -/
structure Up (zs zs' : List Int) (a i : Nat) : Prop where
  kept : Kept zs zs' a (i + 1)
  lo : ∀ j, a ≤ j → j < i → iget zs' j = iget zs (j + 1)
  at_ : iget zs' i = iget zs a
theorem Up.refl (zs : List Int) (a : Nat) : Up zs zs a a := ⟨Kept.refl _ _ _, fun j h1 h2 => by omega, rfl⟩
theorem Up.step {k : Nat} (h : Up zs zs' a k) (ha : a ≤ k) (hk : k + 1 < zs.length) : Up zs (swp zs' k (k + 1)) a (k + 1) := by
  have hl := h.kept.len
  have g := swp_get (zs := zs') (i := k) (j := k + 1) (by omega) (by omega)
  refine ⟨(h.kept.wide (Nat.le_refl _) (by omega)).trans (Kept.swp (by omega) (by omega) ha (by omega) (by omega) (by omega)), fun j h1 h2 => ?_, ?_⟩
  · rw [g, if_neg (by omega)]
    by_cases e : j = k
    · subst e; rw [if_pos rfl]; exact h.kept.out _ (by omega)
    · rw [if_neg e]; exact h.lo j h1 (by omega)
  · rw [g, if_pos rfl]; exact h.at_
/-- what was taken out of its place b and put ahead of those from i on -/
structure Dn (zs zs' : List Int) (i b : Nat) : Prop where
  kept : Kept zs zs' i (b + 1)
  hi : ∀ j, i < j → j ≤ b → iget zs' j = iget zs (j - 1)
  at_ : iget zs' i = iget zs b
theorem Dn.refl (zs : List Int) (b : Nat) : Dn zs zs b b := ⟨Kept.refl _ _ _, fun j h1 h2 => by omega, rfl⟩
theorem Dn.step {k : Nat} (h : Dn zs zs' (k + 1) b) (hk : k + 1 ≤ b) (hb : b < zs.length) : Dn zs (swp zs' (k + 1) k) k b := by
  have hl := h.kept.len
  have g := swp_get (zs := zs') (i := k + 1) (j := k) (by omega) (by omega)
  refine ⟨(h.kept.wide (by omega) (Nat.le_refl _)).trans (Kept.swp (by omega) (by omega) (by omega) (by omega) (by omega) (by omega)), fun j h1 h2 => ?_, ?_⟩
  · rw [g, if_neg (by omega)]
    by_cases e : j = k + 1
    · subst e; rw [if_pos rfl]; exact h.kept.out _ (by omega)
    · rw [if_neg e]; exact h.hi j (by omega) h2
  · rw [g, if_pos rfl]; exact h.at_

/-- one element, put into the list behind it -/
theorem merge_up {i : Nat} (hR : Asc key zs (a + 1) b) (h1 : a + 1 ≤ i) (h2 : i ≤ b) (lo : ∀ h, a + 1 ≤ h → h < i → key (iget zs h) ≤ key (iget zs a)) (hi : ∀ h, i ≤ h → h < b → key (iget zs a) ≤ key (iget zs h))
    (hu : Up zs zs' a (i - 1)) : Kept zs zs' a b ∧ Asc key zs' a b := by
  refine ⟨hu.kept.wide (Nat.le_refl _) (by omega), fun x y hx hxy hy => ?_⟩
  have hx' : iget zs' x = if x < i - 1 then iget zs (x + 1) else if x = i - 1 then iget zs a else iget zs x := by
    split
    · exact hu.lo x hx ‹_›
    · split
      · rename_i e; rw [e]; exact hu.at_
      · exact hu.kept.out x (by omega)
  have hy' : iget zs' y = if y < i - 1 then iget zs (y + 1) else if y = i - 1 then iget zs a else iget zs y := by
    split
    · exact hu.lo y (by omega) ‹_›
    · split
      · rename_i e; rw [e]; exact hu.at_
      · exact hu.kept.out y (by omega)
  rw [hx', hy']
  split
  · split
    · exact hR _ _ (by omega) (by omega) (by omega)
    · split
      · exact lo _ (by omega) (by omega)
      · exact hR _ _ (by omega) (by omega) (by omega)
  · split
    · split
      · omega
      · split
        · omega
        · exact hi _ (by omega) hy
    · split
      · omega
      · split
        · omega
        · exact hR _ _ (by omega) (by omega) (by omega)
/-- one element, put into the list ahead of it -/
theorem merge_dn {i : Nat} (hL : Asc key zs a m) (h1 : a ≤ i) (h2 : i ≤ m) (lo : ∀ h, a ≤ h → h < i → key (iget zs h) ≤ key (iget zs m)) (hi : ∀ h, i ≤ h → h < m → key (iget zs m) ≤ key (iget zs h))
    (hd : Dn zs zs' i m) : Kept zs zs' a (m + 1) ∧ Asc key zs' a (m + 1) := by
  refine ⟨hd.kept.wide h1 (Nat.le_refl _), fun x y hx hxy hy => ?_⟩
  have hg : ∀ x, a ≤ x → x ≤ m → iget zs' x = if x < i then iget zs x else if x = i then iget zs m else iget zs (x - 1) := fun x hx hm => by
    split
    · exact hd.kept.out x (by omega)
    · split
      · rename_i e; rw [e]; exact hd.at_
      · exact hd.hi x (by omega) hm
  rw [hg x hx (by omega), hg y (by omega) (by omega)]
  split
  · split
    · exact hL _ _ (by omega) (by omega) (by omega)
    · split
      · exact lo _ (by omega) (by omega)
      · exact hL _ _ (by omega) (by omega) (by omega)
  · split
    · split
      · omega
      · split
        · omega
        · exact hi _ (by omega) (by omega)
    · split
      · omega
      · split
        · omega
        · exact hL _ _ (by omega) (by omega) (by omega)

/-- the two parts of a list are exchanged -/
structure Rot (zs zs' : List Int) (a m b : Nat) : Prop where
  kept : Kept zs zs' a b
  lo : ∀ j, a ≤ j → j < a + (b - m) → iget zs' j = iget zs (j + (m - a))
  hi : ∀ j, a + (b - m) ≤ j → j < b → iget zs' j = iget zs (j - (b - m))
/-- where to cut -/
structure Cut (key : Int → Nat) (zs : List Int) (a m b st en md : Nat) : Prop where
  sum : st + en = md + m
  s1 : a ≤ st
  s2 : st ≤ m
  e1 : m ≤ en
  e2 : en ≤ b
  mid : md = (a + b) / 2
  ad : ∀ i j, a ≤ i → i < st → en ≤ j → j < b → key (iget zs i) ≤ key (iget zs j)
  cb : ∀ i j, m ≤ i → i < en → st ≤ j → j < m → key (iget zs i) ≤ key (iget zs j)
theorem cut_of {st md : Nat} (hmd : md = (a + b) / 2) (ham : a + 2 ≤ m) (hmb : m + 2 ≤ b) (hL : Asc key zs a m) (hR : Asc key zs m b)
    (h1 : (if m > md then md + m - b else a) ≤ st) (h2 : st ≤ (if m > md then md else m))
    (lo : ∀ c, (if m > md then md + m - b else a) ≤ c → c < st → key (iget zs c) ≤ key (iget zs (md + m - 1 - c)))
    (hi : ∀ c, st ≤ c → c < (if m > md then md else m) → key (iget zs (md + m - 1 - c)) ≤ key (iget zs c)) :
    Cut key zs a m b st (md + m - st) md := by
  have hle : ∀ {x y}, (a ≤ x ∧ x ≤ y ∧ y < m) ∨ (m ≤ x ∧ x ≤ y ∧ y < b) → key (iget zs x) ≤ key (iget zs y) := fun {x y} h => by
    by_cases e : x = y
    · rw [e]; exact Nat.le_refl _
    · rcases h with h | h
      · exact hL _ _ h.1 (by omega) h.2.2
      · exact hR _ _ h.1 (by omega) h.2.2
  split at h1 <;> split at h2 <;> try omega
  · rename_i hm _
    rw [if_pos hm] at lo hi
    refine ⟨by omega, by omega, by omega, by omega, by omega, hmd, fun i j i1 i2 j1 j2 => ?_, fun i j i1 i2 j1 j2 => ?_⟩
    · have h3 := lo (st - 1) (by omega) (by omega)
      exact Nat.le_trans (hle (.inl ⟨i1, by omega, by omega⟩)) (Nat.le_trans h3 (hle (.inr ⟨by omega, by omega, by omega⟩)))
    · have h3 := hi st (by omega) (by omega)
      exact Nat.le_trans (hle (.inr ⟨i1, by omega, by omega⟩)) (Nat.le_trans h3 (hle (.inl ⟨by omega, by omega, by omega⟩)))
  · rename_i hm _
    rw [if_neg hm] at lo hi
    refine ⟨by omega, by omega, by omega, by omega, by omega, hmd, fun i j i1 i2 j1 j2 => ?_, fun i j i1 i2 j1 j2 => ?_⟩
    · have h3 := lo (st - 1) (by omega) (by omega)
      exact Nat.le_trans (hle (.inl ⟨i1, by omega, by omega⟩)) (Nat.le_trans h3 (hle (.inr ⟨by omega, by omega, by omega⟩)))
    · have h3 := hi st (by omega) (by omega)
      exact Nat.le_trans (hle (.inr ⟨i1, by omega, by omega⟩)) (Nat.le_trans h3 (hle (.inl ⟨by omega, by omega, by omega⟩)))
/-- where nothing has to be exchanged, the exchange does nothing -/
theorem Rot.none {st en : Nat} (h : ¬ (st < m ∧ m < en)) (h1 : st ≤ m) (h2 : m ≤ en) : Rot zs zs st m en :=
  ⟨Kept.refl _ _ _, fun j i1 i2 => by rw [show j + (m - st) = j by omega], fun j i1 i2 => by rw [show j - (en - m) = j by omega]⟩
/-- after the exchange: a .. st | m .. en | st .. m | en .. b -/
theorem Rot.at {st en md : Nat} (c : Cut key zs a m b st en md) (hr : Rot zs zs1 st m en) :
    ∀ j, a ≤ j → j < b → iget zs1 j = if j < st then iget zs j else if j < md then iget zs (j + (m - st)) else if j < en then iget zs (j - (en - m)) else iget zs j := fun j j1 j2 => by
  have hs := c.sum; have s2 := c.s2; have e1 := c.e1
  split
  · exact hr.kept.out j (by omega)
  · split
    · exact hr.lo j (by omega) (by omega)
    · split
      · exact hr.hi j (by omega) ‹_›
      · exact hr.kept.out j (by omega)
/-- the two halves, each of two lists in order, and all of the first ahead of all of the second -/
structure Halves (key : Int → Nat) (less : Int → Int → Bool) (zs1 : List Int) (a st md en b : Nat) : Prop where
  o1 : Asc key zs1 a st
  o2 : Asc key zs1 st md
  o3 : Asc key zs1 md en
  o4 : Asc key zs1 en b
  g1 : Agr key less zs1 a st md
  g2 : Agr key less zs1 md en b
  ac : ∀ i j, a ≤ i → i < md → md ≤ j → j < b → key (iget zs1 i) ≤ key (iget zs1 j)
theorem halves_of {st en md : Nat} (c : Cut key zs a m b st en md) (hL : Asc key zs a m) (hR : Asc key zs m b) (hg : Agr key less zs a m b) (hr : Rot zs zs1 st m en) : Halves key less zs1 a st md en b := by
  have H := Rot.at c hr
  have hs := c.sum; have s1 := c.s1; have s2 := c.s2; have e1 := c.e1; have e2 := c.e2; have hm := c.mid
  have A : ∀ j, a ≤ j → j < st → iget zs1 j = iget zs j := fun j j1 j2 => by rw [H j j1 (by omega), if_pos j2]
  have C : ∀ j, st ≤ j → j < md → iget zs1 j = iget zs (j + (m - st)) := fun j j1 j2 => by rw [H j (by omega) (by omega), if_neg (by omega), if_pos j2]
  have B : ∀ j, md ≤ j → j < en → iget zs1 j = iget zs (j - (en - m)) := fun j j1 j2 => by rw [H j (by omega) (by omega), if_neg (by omega), if_neg (by omega), if_pos j2]
  have D : ∀ j, en ≤ j → j < b → iget zs1 j = iget zs j := fun j j1 j2 => by rw [H j (by omega) j2, if_neg (by omega), if_neg (by omega), if_neg (by omega)]
  refine ⟨fun i j i1 i2 i3 => ?_, fun i j i1 i2 i3 => ?_, fun i j i1 i2 i3 => ?_, fun i j i1 i2 i3 => ?_, fun i j i1 i2 i3 i4 => ?_, fun i j i1 i2 i3 i4 => ?_, fun i j i1 i2 i3 i4 => ?_⟩
  · rw [A i i1 (by omega), A j (by omega) i3]; exact hL _ _ i1 i2 (by omega)
  · rw [C i i1 (by omega), C j (by omega) i3]; exact hR _ _ (by omega) (by omega) (by omega)
  · rw [B i i1 (by omega), B j (by omega) i3]; exact hL _ _ (by omega) (by omega) (by omega)
  · rw [D i i1 (by omega), D j (by omega) i3]; exact hR _ _ (by omega) i2 i3
  · rw [A i i1 i2, C j i3 i4]; exact hg _ _ i1 (by omega) (by omega) (by omega)
  · rw [B i i1 i2, D j i3 i4]; exact hg _ _ (by omega) (by omega) (by omega) i4
  · by_cases ei : i < st <;> by_cases ej : j < en
    · rw [A i i1 ei, B j i3 ej]; exact hL _ _ i1 (by omega) (by omega)
    · rw [A i i1 ei, D j (by omega) i4]; exact c.ad _ _ i1 ei (by omega) i4
    · rw [C i (by omega) i2, B j i3 ej]; exact c.cb _ _ (by omega) (by omega) (by omega) (by omega)
    · rw [C i (by omega) i2, D j (by omega) i4]; exact hR _ _ (by omega) (by omega) i4
/-- both halves in order: the whole is in order -/
theorem join_of {zs2 zs3 : List Int} {md : Nat} (ha : a ≤ md) (hb : md ≤ b) (k2 : Kept zs1 zs2 a md) (o2 : Asc key zs2 a md) (k3 : Kept zs2 zs3 md b) (o3 : Asc key zs3 md b)
    (ac : ∀ i j, a ≤ i → i < md → md ≤ j → j < b → key (iget zs1 i) ≤ key (iget zs1 j)) : Kept zs1 zs3 a b ∧ Asc key zs3 a b := by
  refine ⟨(k2.wide (Nat.le_refl _) hb).trans (k3.wide ha (Nat.le_refl _)), fun i j i1 i2 i3 => ?_⟩
  by_cases ei : i < md <;> by_cases ej : j < md
  · rw [k3.out i (.inl ei), k3.out j (.inl ej)]; exact o2 _ _ i1 i2 ej
  · obtain ⟨x, x1, x2, x3⟩ := k2.mem i i1 ei
    obtain ⟨y, y1, y2, y3⟩ := k3.mem j (by omega) i3
    rw [k3.out i (.inl ei), x3, y3, k2.out y (.inr y1)]
    exact ac _ _ x1 x2 y1 y2
  · omega
  · exact o3 _ _ (by omega) i2 i3
theorem Agr.keep {a' b' : Nat} (h : Agr key less zs a m b) (k : Kept zs zs' a' b') (hb : b' ≤ a ∨ b ≤ a') : Agr key less zs' a m b := fun i j i1 i2 i3 i4 => by
  rw [k.out i (by omega), k.out j (by omega)]; exact h i j i1 i2 i3 i4
theorem Asc.keep {a' b' : Nat} (h : Asc key zs a b) (k : Kept zs zs' a' b') (hb : b' ≤ a ∨ b ≤ a') : Asc key zs' a b := fun i j i1 i2 i3 => by
  rw [k.out i (by omega), k.out j (by omega)]; exact h i j i1 i2 i3
theorem Asc.short (h : b ≤ a + 1) : Asc key zs a b := fun i j i1 i2 i3 => by omega
/-- a half with an empty part is in order already -/
theorem Asc.glue {x : Nat} (h1 : Asc key zs a x) (h2 : Asc key zs x b) (h : x ≤ a ∨ b ≤ x) : Asc key zs a b := fun i j i1 i2 i3 => by
  rcases h with h | h
  · exact h2 i j (by omega) i2 i3
  · exact h1 i j i1 i2 (by omega)

/-- the row of a block, exchanged with another one as long -/
structure SwR (zs zs' : List Int) (a b n : Nat) : Prop where
  len : zs'.length = zs.length
  perm : zs'.Perm zs
  lo : ∀ j, a ≤ j → j < a + n → iget zs' j = iget zs (b + (j - a))
  hi : ∀ j, b ≤ j → j < b + n → iget zs' j = iget zs (a + (j - b))
  out : ∀ j, (j < a ∨ a + n ≤ j) → (j < b ∨ b + n ≤ j) → iget zs' j = iget zs j
theorem SwR.refl (zs : List Int) (a b : Nat) : SwR zs zs a b 0 := ⟨rfl, List.Perm.refl _, fun j h1 h2 => by omega, fun j h1 h2 => by omega, fun _ _ _ => rfl⟩
theorem SwR.step {k : Nat} (h : SwR zs zs' a b k) (hab : a + k < b) (hb : b + k < zs.length) : SwR zs (swp zs' (a + k) (b + k)) a b (k + 1) := by
  have hl := h.len
  have g := swp_get (zs := zs') (i := a + k) (j := b + k) (by omega) (by omega)
  refine ⟨(swp_len _ _ _).trans hl, (swp_perm (by omega) (by omega)).trans h.perm, fun j h1 h2 => ?_, fun j h1 h2 => ?_, fun j h1 h2 => ?_⟩
  · rw [g, if_neg (by omega)]
    by_cases e : j = a + k
    · rw [if_pos e, show b + (j - a) = b + k by omega]; exact h.out _ (by omega) (by omega)
    · rw [if_neg e]; exact h.lo j h1 (by omega)
  · rw [g]
    by_cases e : j = b + k
    · rw [if_pos e, show a + (j - b) = a + k by omega]; exact h.out _ (by omega) (by omega)
    · rw [if_neg e, if_neg (by omega)]; exact h.hi j h1 (by omega)
  · rw [g, if_neg (by omega), if_neg (by omega)]; exact h.out j (by omega) (by omega)
theorem SwR.kept {n p q : Nat} (h : SwR zs zs' a b n) (h1 : p ≤ a) (h2 : a + n ≤ q) (h3 : p ≤ b) (h4 : b + n ≤ q) : Kept zs zs' p q :=
  ⟨h.len, h.perm, fun j hj => h.out j (by omega) (by omega), fun j j1 j2 => by
    by_cases e : a ≤ j ∧ j < a + n
    · exact ⟨b + (j - a), by omega, by omega, h.lo j e.1 e.2⟩
    · by_cases e2 : b ≤ j ∧ j < b + n
      · exact ⟨a + (j - b), by omega, by omega, h.hi j e2.1 e2.2⟩
      · exact ⟨j, j1, j2, h.out j (by omega) (by omega)⟩⟩
/-- the exchange under way: what waits is i elements ahead of m, and j from m on; T is what shall stand at the end -/
structure RotB (T : Nat → Int) (cur : List Int) (m i j : Nat) : Prop where
  out : ∀ p, p < m - i ∨ m + j ≤ p → iget cur p = T p
  lo : ∀ p, m - i ≤ p → p < m - i + j → T p = iget cur (p + i)
  hi : ∀ p, m - i + j ≤ p → p < m + j → T p = iget cur (p - j)
def rotT (zs : List Int) (a m b p : Nat) : Int := if a ≤ p ∧ p < a + (b - m) then iget zs (p + (m - a)) else if a + (b - m) ≤ p ∧ p < b then iget zs (p - (b - m)) else iget zs p
theorem RotB.start (h1 : a ≤ m) (h2 : m ≤ b) : RotB (rotT zs a m b) zs m (m - a) (b - m) :=
  ⟨fun p hp => by unfold rotT; rw [if_neg (by omega), if_neg (by omega)], fun p p1 p2 => by unfold rotT; rw [if_pos (by omega)], fun p p1 p2 => by unfold rotT; rw [if_neg (by omega), if_pos (by omega)]⟩
variable {T : Nat → Int} {cur cur' : List Int} {i j : Nat}
theorem RotB.more (h : RotB T cur m i j) (hm : i ≤ m) (hij : j < i) (hs : SwR cur cur' (m - i) m j) : RotB T cur' m (i - j) j := by
  refine ⟨fun p hp => ?_, fun p p1 p2 => ?_, fun p p1 p2 => ?_⟩
  · by_cases e : m - i ≤ p ∧ p < m - i + j
    · rw [hs.lo p e.1 e.2, h.lo p e.1 e.2]; congr 1; omega
    · rw [hs.out p (by omega) (by omega)]; exact h.out p (by omega)
  · rw [h.hi p (by omega) (by omega), hs.hi _ (by omega) (by omega)]; congr 1; omega
  · rw [h.hi p (by omega) (by omega), hs.out _ (by omega) (by omega)]
theorem RotB.fewer (h : RotB T cur m i j) (hm : i ≤ m) (hij : i < j) (hs : SwR cur cur' (m - i) (m + j - i) i) : RotB T cur' m i (j - i) := by
  refine ⟨fun p hp => ?_, fun p p1 p2 => ?_, fun p p1 p2 => ?_⟩
  · by_cases e : m + j - i ≤ p ∧ p < m + j
    · rw [hs.hi p e.1 (by omega), h.hi p (by omega) (by omega)]; congr 1; omega
    · rw [hs.out p (by omega) (by omega)]; exact h.out p (by omega)
  · rw [h.lo p (by omega) (by omega), hs.out _ (by omega) (by omega)]
  · rw [h.lo p (by omega) (by omega), hs.lo _ (by omega) (by omega)]; congr 1; omega
theorem RotB.last (h : RotB T cur m i i) (hm : i ≤ m) (hs : SwR cur cur' (m - i) m i) : ∀ p, iget cur' p = T p := fun p => by
  by_cases e : m - i ≤ p ∧ p < m
  · rw [hs.lo p e.1 (by omega), h.lo p e.1 (by omega)]; congr 1; omega
  · by_cases e2 : m ≤ p ∧ p < m + i
    · rw [hs.hi p e2.1 e2.2, h.hi p (by omega) e2.2]; congr 1; omega
    · rw [hs.out p (by omega) (by omega)]; exact h.out p (by omega)
theorem Rot.ofT (k : Kept zs zs' a b) (h : ∀ p, iget zs' p = rotT zs a m b p) : Rot zs zs' a m b :=
  ⟨k, fun p p1 p2 => by rw [h]; unfold rotT; rw [if_pos ⟨p1, p2⟩], fun p p1 p2 => by rw [h]; unfold rotT; rw [if_neg (by omega), if_pos ⟨p1, p2⟩]⟩

/-- the insertion of the element at k under way: it stands at j -/
theorem ins_done {k : Nat} (hd : Dn zs zs' j k) (ha : a ≤ j) (hj : j ≤ k) (hA : Asc key zs a k) (lo : j = a ∨ key (iget zs (j - 1)) ≤ key (iget zs k)) (hi : ∀ h, j ≤ h → h < k → key (iget zs k) ≤ key (iget zs h)) :
    Kept zs zs' a (k + 1) ∧ Asc key zs' a (k + 1) :=
  merge_dn hA ha hj (fun h h1 h2 => by
    rcases lo with e | e
    · omega
    · by_cases e2 : h = j - 1
      · rw [e2]; exact e
      · exact Nat.le_trans (hA h (j - 1) h1 (by omega) (by omega)) e) hi hd
/-- the list is in order and has the same elements: it is this one -/
theorem asc_uniq {l zs : List Int} (hinj : ∀ x y, x ∈ zs → y ∈ zs → key x = key y → x = y) (hp : l.Perm zs) (ha : Asc key l 0 l.length) (zt : List Int) (hpt : zt.Perm zs) (hat : zt.Pairwise fun x y => key x ≤ key y) : l = zt := by
  have h1 : l.Pairwise fun x y => key x ≤ key y := by
    rw [List.pairwise_iff_getElem]
    intro i j hi hj hij
    have := ha i j (Nat.zero_le _) hij hj
    rwa [iget_lt hi, iget_lt hj] at this
  exact List.Perm.eq_of_pairwise (fun x y hx hy h1 h2 => hinj x y (hp.subset hx) (hpt.subset hy) (Nat.le_antisymm h1 h2)) h1 hat (hp.trans hpt.symm)
end Go.Proofs.Ytnfkhgamnapgmaa

/- The number of ones of a mask of at most five bits, and the comparison of two masks by it. -/
namespace Go.Proofs.Ytnfkhgamnapgmaa
open Go.RowKit

/-- how many of the five last bits are set -/
def pcN (k : Nat) : Nat := k % 2 + k / 2 % 2 + k / 4 % 2 + k / 8 % 2 + k / 16 % 2
theorem pcN_le (k : Nat) : pcN k ≤ 5 := by unfold pcN; omega
set_option maxRecDepth 100000 in
theorem ones_0 (w : World) : Calls Try.prog 87 #[.int .u64 0] w fun e w' => e = .returned (.int .i64 (pcN 0 : Nat)) ∧ w' = w := by
  go_enter Try.func87, Try.ntmps87
  go_wp2
  go_ret
  exact ⟨by kernel_rfl, rfl⟩
set_option maxRecDepth 100000 in
theorem ones_1 (w : World) : Calls Try.prog 87 #[.int .u64 1] w fun e w' => e = .returned (.int .i64 (pcN 1 : Nat)) ∧ w' = w := by
  go_enter Try.func87, Try.ntmps87
  go_wp2
  go_ret
  exact ⟨by kernel_rfl, rfl⟩
set_option maxRecDepth 100000 in
theorem ones_2 (w : World) : Calls Try.prog 87 #[.int .u64 2] w fun e w' => e = .returned (.int .i64 (pcN 2 : Nat)) ∧ w' = w := by
  go_enter Try.func87, Try.ntmps87
  go_wp2
  go_ret
  exact ⟨by kernel_rfl, rfl⟩
set_option maxRecDepth 100000 in
theorem ones_3 (w : World) : Calls Try.prog 87 #[.int .u64 3] w fun e w' => e = .returned (.int .i64 (pcN 3 : Nat)) ∧ w' = w := by
  go_enter Try.func87, Try.ntmps87
  go_wp2
  go_ret
  exact ⟨by kernel_rfl, rfl⟩
set_option maxRecDepth 100000 in
theorem ones_4 (w : World) : Calls Try.prog 87 #[.int .u64 4] w fun e w' => e = .returned (.int .i64 (pcN 4 : Nat)) ∧ w' = w := by
  go_enter Try.func87, Try.ntmps87
  go_wp2
  go_ret
  exact ⟨by kernel_rfl, rfl⟩
set_option maxRecDepth 100000 in
theorem ones_5 (w : World) : Calls Try.prog 87 #[.int .u64 5] w fun e w' => e = .returned (.int .i64 (pcN 5 : Nat)) ∧ w' = w := by
  go_enter Try.func87, Try.ntmps87
  go_wp2
  go_ret
  exact ⟨by kernel_rfl, rfl⟩
set_option maxRecDepth 100000 in
theorem ones_6 (w : World) : Calls Try.prog 87 #[.int .u64 6] w fun e w' => e = .returned (.int .i64 (pcN 6 : Nat)) ∧ w' = w := by
  go_enter Try.func87, Try.ntmps87
  go_wp2
  go_ret
  exact ⟨by kernel_rfl, rfl⟩
set_option maxRecDepth 100000 in
theorem ones_7 (w : World) : Calls Try.prog 87 #[.int .u64 7] w fun e w' => e = .returned (.int .i64 (pcN 7 : Nat)) ∧ w' = w := by
  go_enter Try.func87, Try.ntmps87
  go_wp2
  go_ret
  exact ⟨by kernel_rfl, rfl⟩
set_option maxRecDepth 100000 in
theorem ones_8 (w : World) : Calls Try.prog 87 #[.int .u64 8] w fun e w' => e = .returned (.int .i64 (pcN 8 : Nat)) ∧ w' = w := by
  go_enter Try.func87, Try.ntmps87
  go_wp2
  go_ret
  exact ⟨by kernel_rfl, rfl⟩
set_option maxRecDepth 100000 in
theorem ones_9 (w : World) : Calls Try.prog 87 #[.int .u64 9] w fun e w' => e = .returned (.int .i64 (pcN 9 : Nat)) ∧ w' = w := by
  go_enter Try.func87, Try.ntmps87
  go_wp2
  go_ret
  exact ⟨by kernel_rfl, rfl⟩
set_option maxRecDepth 100000 in
theorem ones_10 (w : World) : Calls Try.prog 87 #[.int .u64 10] w fun e w' => e = .returned (.int .i64 (pcN 10 : Nat)) ∧ w' = w := by
  go_enter Try.func87, Try.ntmps87
  go_wp2
  go_ret
  exact ⟨by kernel_rfl, rfl⟩
set_option maxRecDepth 100000 in
theorem ones_11 (w : World) : Calls Try.prog 87 #[.int .u64 11] w fun e w' => e = .returned (.int .i64 (pcN 11 : Nat)) ∧ w' = w := by
  go_enter Try.func87, Try.ntmps87
  go_wp2
  go_ret
  exact ⟨by kernel_rfl, rfl⟩
set_option maxRecDepth 100000 in
theorem ones_12 (w : World) : Calls Try.prog 87 #[.int .u64 12] w fun e w' => e = .returned (.int .i64 (pcN 12 : Nat)) ∧ w' = w := by
  go_enter Try.func87, Try.ntmps87
  go_wp2
  go_ret
  exact ⟨by kernel_rfl, rfl⟩
set_option maxRecDepth 100000 in
theorem ones_13 (w : World) : Calls Try.prog 87 #[.int .u64 13] w fun e w' => e = .returned (.int .i64 (pcN 13 : Nat)) ∧ w' = w := by
  go_enter Try.func87, Try.ntmps87
  go_wp2
  go_ret
  exact ⟨by kernel_rfl, rfl⟩
set_option maxRecDepth 100000 in
theorem ones_14 (w : World) : Calls Try.prog 87 #[.int .u64 14] w fun e w' => e = .returned (.int .i64 (pcN 14 : Nat)) ∧ w' = w := by
  go_enter Try.func87, Try.ntmps87
  go_wp2
  go_ret
  exact ⟨by kernel_rfl, rfl⟩
set_option maxRecDepth 100000 in
theorem ones_15 (w : World) : Calls Try.prog 87 #[.int .u64 15] w fun e w' => e = .returned (.int .i64 (pcN 15 : Nat)) ∧ w' = w := by
  go_enter Try.func87, Try.ntmps87
  go_wp2
  go_ret
  exact ⟨by kernel_rfl, rfl⟩
set_option maxRecDepth 100000 in
theorem ones_16 (w : World) : Calls Try.prog 87 #[.int .u64 16] w fun e w' => e = .returned (.int .i64 (pcN 16 : Nat)) ∧ w' = w := by
  go_enter Try.func87, Try.ntmps87
  go_wp2
  go_ret
  exact ⟨by kernel_rfl, rfl⟩
set_option maxRecDepth 100000 in
theorem ones_17 (w : World) : Calls Try.prog 87 #[.int .u64 17] w fun e w' => e = .returned (.int .i64 (pcN 17 : Nat)) ∧ w' = w := by
  go_enter Try.func87, Try.ntmps87
  go_wp2
  go_ret
  exact ⟨by kernel_rfl, rfl⟩
set_option maxRecDepth 100000 in
theorem ones_18 (w : World) : Calls Try.prog 87 #[.int .u64 18] w fun e w' => e = .returned (.int .i64 (pcN 18 : Nat)) ∧ w' = w := by
  go_enter Try.func87, Try.ntmps87
  go_wp2
  go_ret
  exact ⟨by kernel_rfl, rfl⟩
set_option maxRecDepth 100000 in
theorem ones_19 (w : World) : Calls Try.prog 87 #[.int .u64 19] w fun e w' => e = .returned (.int .i64 (pcN 19 : Nat)) ∧ w' = w := by
  go_enter Try.func87, Try.ntmps87
  go_wp2
  go_ret
  exact ⟨by kernel_rfl, rfl⟩
set_option maxRecDepth 100000 in
theorem ones_20 (w : World) : Calls Try.prog 87 #[.int .u64 20] w fun e w' => e = .returned (.int .i64 (pcN 20 : Nat)) ∧ w' = w := by
  go_enter Try.func87, Try.ntmps87
  go_wp2
  go_ret
  exact ⟨by kernel_rfl, rfl⟩
set_option maxRecDepth 100000 in
theorem ones_21 (w : World) : Calls Try.prog 87 #[.int .u64 21] w fun e w' => e = .returned (.int .i64 (pcN 21 : Nat)) ∧ w' = w := by
  go_enter Try.func87, Try.ntmps87
  go_wp2
  go_ret
  exact ⟨by kernel_rfl, rfl⟩
set_option maxRecDepth 100000 in
theorem ones_22 (w : World) : Calls Try.prog 87 #[.int .u64 22] w fun e w' => e = .returned (.int .i64 (pcN 22 : Nat)) ∧ w' = w := by
  go_enter Try.func87, Try.ntmps87
  go_wp2
  go_ret
  exact ⟨by kernel_rfl, rfl⟩
set_option maxRecDepth 100000 in
theorem ones_23 (w : World) : Calls Try.prog 87 #[.int .u64 23] w fun e w' => e = .returned (.int .i64 (pcN 23 : Nat)) ∧ w' = w := by
  go_enter Try.func87, Try.ntmps87
  go_wp2
  go_ret
  exact ⟨by kernel_rfl, rfl⟩
set_option maxRecDepth 100000 in
theorem ones_24 (w : World) : Calls Try.prog 87 #[.int .u64 24] w fun e w' => e = .returned (.int .i64 (pcN 24 : Nat)) ∧ w' = w := by
  go_enter Try.func87, Try.ntmps87
  go_wp2
  go_ret
  exact ⟨by kernel_rfl, rfl⟩
set_option maxRecDepth 100000 in
theorem ones_25 (w : World) : Calls Try.prog 87 #[.int .u64 25] w fun e w' => e = .returned (.int .i64 (pcN 25 : Nat)) ∧ w' = w := by
  go_enter Try.func87, Try.ntmps87
  go_wp2
  go_ret
  exact ⟨by kernel_rfl, rfl⟩
set_option maxRecDepth 100000 in
theorem ones_26 (w : World) : Calls Try.prog 87 #[.int .u64 26] w fun e w' => e = .returned (.int .i64 (pcN 26 : Nat)) ∧ w' = w := by
  go_enter Try.func87, Try.ntmps87
  go_wp2
  go_ret
  exact ⟨by kernel_rfl, rfl⟩
set_option maxRecDepth 100000 in
theorem ones_27 (w : World) : Calls Try.prog 87 #[.int .u64 27] w fun e w' => e = .returned (.int .i64 (pcN 27 : Nat)) ∧ w' = w := by
  go_enter Try.func87, Try.ntmps87
  go_wp2
  go_ret
  exact ⟨by kernel_rfl, rfl⟩
set_option maxRecDepth 100000 in
theorem ones_28 (w : World) : Calls Try.prog 87 #[.int .u64 28] w fun e w' => e = .returned (.int .i64 (pcN 28 : Nat)) ∧ w' = w := by
  go_enter Try.func87, Try.ntmps87
  go_wp2
  go_ret
  exact ⟨by kernel_rfl, rfl⟩
set_option maxRecDepth 100000 in
theorem ones_29 (w : World) : Calls Try.prog 87 #[.int .u64 29] w fun e w' => e = .returned (.int .i64 (pcN 29 : Nat)) ∧ w' = w := by
  go_enter Try.func87, Try.ntmps87
  go_wp2
  go_ret
  exact ⟨by kernel_rfl, rfl⟩
set_option maxRecDepth 100000 in
theorem ones_30 (w : World) : Calls Try.prog 87 #[.int .u64 30] w fun e w' => e = .returned (.int .i64 (pcN 30 : Nat)) ∧ w' = w := by
  go_enter Try.func87, Try.ntmps87
  go_wp2
  go_ret
  exact ⟨by kernel_rfl, rfl⟩
set_option maxRecDepth 100000 in
theorem ones_31 (w : World) : Calls Try.prog 87 #[.int .u64 31] w fun e w' => e = .returned (.int .i64 (pcN 31 : Nat)) ∧ w' = w := by
  go_enter Try.func87, Try.ntmps87
  go_wp2
  go_ret
  exact ⟨by kernel_rfl, rfl⟩
theorem ones_any (k : Nat) (hk : k < 32) (w : World) : Calls Try.prog 87 #[.int .u64 k] w fun e w' => e = .returned (.int .i64 (pcN k : Nat)) ∧ w' = w := by
  match k, hk with
  | 0, _ => exact ones_0 w
  | 1, _ => exact ones_1 w
  | 2, _ => exact ones_2 w
  | 3, _ => exact ones_3 w
  | 4, _ => exact ones_4 w
  | 5, _ => exact ones_5 w
  | 6, _ => exact ones_6 w
  | 7, _ => exact ones_7 w
  | 8, _ => exact ones_8 w
  | 9, _ => exact ones_9 w
  | 10, _ => exact ones_10 w
  | 11, _ => exact ones_11 w
  | 12, _ => exact ones_12 w
  | 13, _ => exact ones_13 w
  | 14, _ => exact ones_14 w
  | 15, _ => exact ones_15 w
  | 16, _ => exact ones_16 w
  | 17, _ => exact ones_17 w
  | 18, _ => exact ones_18 w
  | 19, _ => exact ones_19 w
  | 20, _ => exact ones_20 w
  | 21, _ => exact ones_21 w
  | 22, _ => exact ones_22 w
  | 23, _ => exact ones_23 w
  | 24, _ => exact ones_24 w
  | 25, _ => exact ones_25 w
  | 26, _ => exact ones_26 w
  | 27, _ => exact ones_27 w
  | 28, _ => exact ones_28 w
  | 29, _ => exact ones_29 w
  | 30, _ => exact ones_30 w
  | 31, _ => exact ones_31 w
  | k + 32, h => exact absurd h (by omega)
theorem cmp_any (x y : Nat) (hx : x < 32) (hy : y < 32) (w : World) : Calls Try.prog 136 #[.int .i64 x, .int .i64 y] w fun e w' => e = .returned (.int .i64 ((pcN x : Nat) - (pcN y : Nat))) ∧ w' = w := by
  have h1 : IntKind.u64.wrap (x : Int) = (x : Int) := by simp [IntKind.wrap, IntKind.bits, IntKind.signed]; omega
  have h2 : IntKind.u64.wrap (y : Int) = (y : Int) := by simp [IntKind.wrap, IntKind.bits, IntKind.signed]; omega
  have p1 := pcN_le x
  have p2 := pcN_le y
  have h3 : IntKind.i64.wrap ((pcN x : Nat) - (pcN y : Nat) : Int) = (pcN x : Nat) - (pcN y : Nat) := IntWalk.i64_in _ (by omega)
  go_enter Try.func136, Try.ntmps136
  go_wp2_with fail
  refine (ones_any x hx _).mono ?_
  rintro e w1 ⟨rfl, rfl⟩
  go_wp2_with fail
  refine (ones_any y hy _).mono ?_
  rintro e w1 ⟨rfl, rfl⟩
  go_wp2_with fail
  go_ret
  exact ⟨by kernel_rfl, rfl⟩
end Go.Proofs.Ytnfkhgamnapgmaa

/- slices.SortStableFunc at []int64 with the program's comparison of masks: its parts, in words. -/
namespace Go.Proofs.Ytnfkhgamnapgmaa
open Go.RowKit

/-- masks of five bits -/
def Rng (zs : List Int) : Prop := ∀ z ∈ zs, 0 ≤ z ∧ z < 32
theorem Rng.at_ {zs : List Int} (h : Rng zs) (j : Nat) : ∃ k : Nat, iget zs j = k ∧ k < 32 := by
  by_cases hj : j < zs.length
  · have h1 := h _ (iget_mem hj)
    exact ⟨(iget zs j).toNat, by omega, by omega⟩
  · exact ⟨0, by simp [iget, List.getElem?_eq_none (Nat.le_of_not_lt hj)], by omega⟩
theorem Rng.perm {zs zt : List Int} (h : Rng zs) (p : zt.Perm zs) : Rng zt := fun z hz => h z (p.subset hz)
/-- what the comparison says -/
def cmpZ (x y : Int) : Int := (pcN x.toNat : Nat) - (pcN y.toNat : Nat)
def lessZ (x y : Int) : Bool := decide (cmpZ x y < 0)
theorem cmp_at {zs : List Int} (h : Rng zs) (i j : Nat) (w : World) : Calls Try.prog 136 #[.int .i64 (iget zs i), .int .i64 (iget zs j)] w fun e w' => e = .returned (.int .i64 (cmpZ (iget zs i) (iget zs j))) ∧ w' = w := by
  obtain ⟨x, hx, hx2⟩ := h.at_ i
  obtain ⟨y, hy, hy2⟩ := h.at_ j
  have := cmp_any x y hx2 hy2 w
  rw [hx, hy]; unfold cmpZ; exact this

set_option maxHeartbeats 800000 in
theorem swapRange_any (ao : Option Addr) (n c a b k : Nat) (zs : List Int) (w : World) (base : Nat) (h : Own w base 2 ao n c (zs.map (Value.int .i64))) (hn : n ≤ 1000) (hab : a + k ≤ b) (hb : b + k ≤ n) (f : Value) :
    Calls Try.prog 229 #[.slice ao n c, .int .i64 a, .int .i64 b, .int .i64 k, f] w fun e w' => e = .returned (.tuple #[]) ∧ ∃ zt, SwR zs zt a b k ∧ Own w' base 2 ao n c (zt.map (Value.int .i64)) ∧ w.grownBy w' (bk ao) := by
  have hl : zs.length = n := by have := h.len; simpa using this
  have HL := Lib.hid hl
  clear hl
  go_enter Try.func229, Try.ntmps229
  go_wp2
  go_loopw [10] (fun i wr => ∃ (t : Nat) (cur : List Int), t ≤ k ∧ i = .int .i64 t ∧ SwR zs cur a b t ∧ Own wr base 2 ao n c (cur.map (Value.int .i64)) ∧ w.grownBy wr (bk ao)) (fun i _ => (k - intOf i).toNat)
  case atStart => exact ⟨0, zs, Nat.zero_le _, rfl, SwR.refl _ _ _, h, World.grownBy.refl _ _⟩
  case round =>
    obtain ⟨t, cur, ht, rfl, hsw, ho, hg⟩ := hrel
    have HS := Lib.hid hsw
    have HO := Lib.hid ho
    have HG := Lib.hid hg
    clear hsw ho hg
    by_cases hlt : t < k
    · obtain ⟨g, rfl, -, hgl, -, -, -⟩ := HO.out.form (by omega)
      have hin : a + t < n := by omega
      have hjn : b + t < n := by omega
      have e1 : IntKind.i64.wrap ((a : Int) + (t : Int)) = ((a + t : Nat) : Int) := by rw [IntWalk.i64_in _ (by omega)]; omega
      have e2 : IntKind.i64.wrap ((b : Int) + (t : Int)) = ((b + t : Nat) : Int) := by rw [IntWalk.i64_in _ (by omega)]; omega
      have hc1 := own_iget HO.out hin
      have hc2 := own_iget HO.out hjn
      have hf1 := HO.out.1.frozenAt (a + t)
      have hf2 := HO.out.1.frozenAt (b + t)
      have ho1 : Own wr.drew base 2 (some ⟨g, 0, none⟩) n c (cur.map (Value.int .i64)) := HO.out
      obtain ⟨s1, t1⟩ := ho1.stored (a + t) (.int .i64 (iget cur (b + t)))
      obtain ⟨s2, t2⟩ := s1.stored (b + t) (.int .i64 (iget cur (a + t)))
      have S2 := Lib.hid s2
      have T1 := Lib.hid t1
      have T2 := Lib.hid t2
      clear s1 t1 s2 t2 ho1
      go_wp2_with fail
      go_region
      go_wp2
      go_roundw
      case rel =>
        refine ⟨t + 1, swp cur (a + t) (b + t), by omega, by go_num, HS.out.step (by omega) (by have := HS.out.len; have := HL.out; omega), ?_, ?_⟩
        · unfold swp; rw [List.map_set, List.map_set]; exact S2.out
        · exact grown_tr HG.out (grown_tr (⟨rfl, rfl, rfl, Nat.le_refl _, fun _ _ _ => rfl⟩ : wr.grownBy wr.drew _) (grown_tr T1.out T2.out))
      case measure => simp [intOf]; omega
    · obtain rfl : t = k := by omega
      go_wp2
      go_end0
      exact ⟨rfl, cur, HS.out, HO.out, HG.out⟩

theorem sub_w {x y : Nat} (h : y ≤ x) (hx : x ≤ 1000000) : IntKind.i64.wrap ((x : Int) - (y : Int)) = ((x - y : Nat) : Int) := by rw [IntWalk.i64_in _ (by omega)]; omega
theorem add_w {x y : Nat} (hx : x ≤ 1000000) (hy : y ≤ 1000000) : IntKind.i64.wrap ((x : Int) + (y : Int)) = ((x + y : Nat) : Int) := by rw [IntWalk.i64_in _ (by omega)]; omega

set_option maxHeartbeats 800000 in
theorem rotate_any (ao : Option Addr) (n c a m b : Nat) (zs : List Int) (w : World) (base : Nat) (h : Own w base 2 ao n c (zs.map (Value.int .i64))) (hn : n ≤ 1000) (ham : a < m) (hmb : m < b) (hb : b ≤ n) (f : Value) :
    Calls Try.prog 221 #[.slice ao n c, .int .i64 a, .int .i64 m, .int .i64 b, f] w fun e w' => e = .returned (.tuple #[]) ∧ ∃ zt, Rot zs zt a m b ∧ Own w' base 2 ao n c (zt.map (Value.int .i64)) ∧ w.grownBy w' (bk ao) := by
  have hl : zs.length = n := by have := h.len; simpa using this
  have HL := Lib.hid hl
  clear hl
  have e1 : ((m : Int) - (a : Int)) = ((m - a : Nat) : Int) := by omega
  have e2 : ((b : Int) - (m : Int)) = ((b - m : Nat) : Int) := by omega
  go_enter Try.func221, Try.ntmps221
  go_wp2
  go_loopw [10, 11] (fun i j wr => ∃ (x y : Nat) (cur : List Int), 1 ≤ x ∧ x ≤ m - a ∧ 1 ≤ y ∧ y ≤ b - m ∧ i = .int .i64 x ∧ j = .int .i64 y ∧ Kept zs cur a b ∧ RotB (rotT zs a m b) cur m x y ∧ Own wr base 2 ao n c (cur.map (Value.int .i64)) ∧ w.grownBy wr (bk ao)) (fun i j _ => (intOf i + intOf j).toNat)
  case atStart => exact ⟨m - a, b - m, zs, by omega, Nat.le_refl _, by omega, Nat.le_refl _, rfl, rfl, Kept.refl _ _ _, RotB.start (by omega) (by omega), h, World.grownBy.refl _ _⟩
  case round =>
    clear e1 e2
    obtain ⟨x, y, cur, hx1, hx, hy1, hy, rfl, rfl, hk, hr, ho, hg⟩ := hrel
    have HK := Lib.hid hk
    have HR := Lib.hid hr
    have HO := Lib.hid ho
    have HG := Lib.hid hg
    clear hk hr ho hg
    have e1 : ((m : Int) - (x : Int)) = ((m - x : Nat) : Int) := by omega
    by_cases hxy : x = y
    · subst hxy
      go_wp2_with fail
      refine (swapRange_any ao n c (m - x) m x cur _ base HO.out hn (by omega) (by omega) f).mono ?_
      rintro e w1 ⟨rfl, zt, hs, ho, hg⟩
      go_wp2
      go_end0
      have hs' := HR.out.last (by omega) hs
      exact ⟨rfl, zt, Rot.ofT (HK.out.trans (hs.kept (by omega) (by omega) (by omega) (by omega))) hs', ho, grown_tr HG.out hg⟩
    · have hxy' : ¬ ((x : Int) = (y : Int)) := by omega
      by_cases hgt : y < x
      · have e2 : ((x : Int) - (y : Int)) = ((x - y : Nat) : Int) := by omega
        go_wp2_with fail
        refine (swapRange_any ao n c (m - x) m y cur _ base HO.out hn (by omega) (by omega) f).mono ?_
        rintro e w1 ⟨rfl, zt, hs, ho, hg⟩
        go_wp2
        go_roundw
        case rel => exact ⟨x - y, y, zt, by omega, by omega, hy1, hy, by go_num, rfl, HK.out.trans (hs.kept (by omega) (by omega) (by omega) (by omega)), HR.out.more (by omega) hgt hs, ho, grown_tr HG.out hg⟩
        case measure => simp [intOf]; omega
      · have e2 : ((y : Int) - (x : Int)) = ((y - x : Nat) : Int) := by omega
        have e3 : ((m : Int) + (y : Int)) - (x : Int) = ((m + y - x : Nat) : Int) := by omega
        go_wp2_with fail
        refine (swapRange_any ao n c (m - x) (m + y - x) x cur _ base HO.out hn (by omega) (by omega) f).mono ?_
        rintro e w1 ⟨rfl, zt, hs, ho, hg⟩
        go_wp2
        go_roundw
        case rel => exact ⟨x, y - x, zt, hx1, hx, by omega, by omega, rfl, by go_num, HK.out.trans (hs.kept (by omega) (by omega) (by omega) (by omega)), HR.out.fewer (by omega) (by omega) hs, ho, grown_tr HG.out hg⟩
        case measure => simp [intOf]; omega
end Go.Proofs.Ytnfkhgamnapgmaa

/- slices.SortStableFunc at []int64 with the program's comparison of masks: the insertion sort of a part, in words. -/
namespace Go.Proofs.Ytnfkhgamnapgmaa
open Go.RowKit

abbrev cmpF : Value := .func (.func 136) #[] #[]
set_option maxHeartbeats 1600000 in
theorem insertF_any (key : Int → Nat) (ao : Option Addr) (n c a b : Nat) (zs : List Int) (w : World) (base : Nat) (h : Own w base 2 ao n c (zs.map (Value.int .i64))) (hn : n ≤ 1000) (hab : a ≤ b) (hb : b ≤ n) (hr : Rng zs) (hag : AgrA key lessZ zs a b) :
    Calls Try.prog 203 #[.slice ao n c, .int .i64 a, .int .i64 b, cmpF] w fun e w' => e = .returned (.tuple #[]) ∧ ∃ zt, (Kept zs zt a b ∧ Asc key zt a b) ∧ Own w' base 2 ao n c (zt.map (Value.int .i64)) ∧ w.grownBy w' (bk ao) := by
  have hl : zs.length = n := by have := h.len; simpa using this
  have HL := Lib.hid hl
  have HRG := Lib.hid hr
  have HAG := Lib.hid hag
  clear hl hr hag
  have e0 : IntKind.i64.wrap ((a : Int) + 1) = ((a + 1 : Nat) : Int) := by rw [IntWalk.i64_in _ (by omega)]; omega
  go_enter Try.func203, Try.ntmps203
  go_wp2
  go_loopw [8] (fun i wr => ∃ (k : Nat) (cur : List Int), a + 1 ≤ k ∧ (cur = zs ∧ k = a + 1 ∨ k ≤ b) ∧ i = .int .i64 k ∧ Kept zs cur a k ∧ Asc key cur a k ∧ Own wr base 2 ao n c (cur.map (Value.int .i64)) ∧ w.grownBy wr (bk ao)) (fun i _ => (n - intOf i).toNat)
  case atStart => exact ⟨a + 1, zs, Nat.le_refl _, .inl ⟨rfl, rfl⟩, by go_num, Kept.refl _ _ _, Asc.short (Nat.le_refl _), h, World.grownBy.refl _ _⟩
  case round =>
    obtain ⟨k, cur0, hk1, hk, rfl, hkp, hca, ho, hg⟩ := hrel
    have HK := Lib.hid hkp
    have HA := Lib.hid hca
    have HO0 := Lib.hid ho
    have HG0 := Lib.hid hg
    have HKK := Lib.hid hk
    clear hkp hca ho hg hk e0
    by_cases hlt : k < b
    · go_wp2_with fail
      go_loopw [9] (fun i wr => ∃ (j : Nat) (cur : List Int), a ≤ j ∧ j ≤ k ∧ i = .int .i64 j ∧ Dn cur0 cur j k ∧ (∀ h, j ≤ h → h < k → key (iget cur0 k) ≤ key (iget cur0 h)) ∧ Own wr base 2 ao n c (cur.map (Value.int .i64)) ∧ w.grownBy wr (bk ao)) (fun i _ => (intOf i).toNat)
      case atStart => exact ⟨k, cur0, by omega, Nat.le_refl _, rfl, Dn.refl _ _, fun h h1 h2 => by omega, HO0.out, HG0.out⟩
      case round =>
        clear HO0 HG0
        obtain ⟨j, cur, hj1, hj, rfl, hd, hhi, ho, hg⟩ := hrel
        have HD := Lib.hid hd
        have HHI := Lib.hid hhi
        have HO := Lib.hid ho
        have HG := Lib.hid hg
        clear hd hhi ho hg
        have H0 : cur0.length = n := HK.out.len.trans HL.out
        have HC : cur.length = n := HD.out.kept.len.trans H0
        have HC := Lib.hid HC
        have H0 := Lib.hid H0
        have hr : Rng cur := (HRG.out.perm HK.out.perm).perm HD.out.kept.perm
        have HR := Lib.hid hr
        clear hr
        by_cases hj0 : a < j
        · obtain ⟨i, hij⟩ : ∃ i, j = i + 1 := ⟨j - 1, by omega⟩
          obtain ⟨g, rfl, -, hgl, -, -, -⟩ := HO.out.form (by omega)
          have hjn : j < n := by omega
          have hin : i < n := by omega
          have hc1 := own_iget HO.out hjn
          have hc2 := own_iget HO.out hin
          have hS : ∀ w', Below wr.heap.size wr w' → (w'.cell? ⟨g, j, none⟩ = some (.int .i64 (iget cur j)) ∧ w'.cell? ⟨g, i, none⟩ = some (.int .i64 (iget cur i))) := fun w' hb => ⟨(hb.cell (p := ⟨g, j, none⟩) (World.block_lt_of_cell? wr _ hc1)).trans hc1, (hb.cell (p := ⟨g, i, none⟩) (World.block_lt_of_cell? wr _ hc2)).trans hc2⟩
          have HS := Lib.hid hS
          clear hS
          have e1 : ((j : Int) - 1) = (i : Int) := by omega
          have e2 : IntKind.i64.wrap (i : Int) = (i : Int) := IntWalk.i64_in _ (by omega)
          have hkey : (lessZ (iget cur j) (iget cur i) = true ↔ key (iget cur0 k) < key (iget cur0 i)) := by
            rw [HD.out.at_, HD.out.kept.out i (by omega)]
            obtain ⟨y, y1, y2, y3⟩ := HK.out.mem i (by omega) (by omega)
            rw [HK.out.out k (by omega), y3]
            exact HAG.out y k y1 y2 hlt
          have HKEY := Lib.hid hkey
          have HIJ := Lib.hid hij
          obtain ⟨cz, hcz⟩ : ∃ cz, cmpZ (iget cur j) (iget cur i) = cz := ⟨_, rfl⟩
          have hlz : lessZ (iget cur j) (iget cur i) = decide (cz < 0) := by unfold lessZ; rw [hcz]
          have HCZ := Lib.hid hcz
          have HLZ := Lib.hid hlz
          clear hij hkey hcz hlz
          by_cases hlt2 : cz < 0
          · clear hc1 hc2
            go_wp2_with fail
            (refine wp_region_calm (by kernel_rfl) (by kernel_rfl) ?_; (repeat (first | go_big_quiet_skip | (go_big_quiet_want; first | (go_big_quiet_op; go_big_quiet_on) | (apply quiet_val; (· (intro _ hw; have f1 := (HS.out _ hw).1; have f0 := (HS.out _ hw).2; go_simp; exact rfl)); go_simp; go_big_quiet_on) | (apply quiet_call; (· (intro _ _; go_simp; exact ⟨rfl, rfl⟩)); (· (intro _ hw; go_at_call 136; refine (cmp_at HR.out j i _).mono ?_; rintro e w2 ⟨rfl, rfl⟩; rw [HCZ.out]; exact ⟨rfl, hw⟩)); go_simp; go_big_quiet_on)))); refine wpQuiet_nil ?_; intro wq bq)
            have b3 := bq
            clear bq
            have ho := HO.out.below b3
            have hg3 := grown_tr HG.out (grown_of_below b3 (bk (some ⟨g, 0, none⟩)))
            have HG3 := Lib.hid hg3
            have hc1 := own_iget ho hjn
            have hc2 := own_iget ho hin
            have hf1 := ho.1.frozenAt j
            have hf2 := ho.1.frozenAt i
            have ho1 : Own wq.drew base 2 (some ⟨g, 0, none⟩) n c (cur.map (Value.int .i64)) := ho
            obtain ⟨s1, t1⟩ := ho1.stored j (.int .i64 (iget cur i))
            obtain ⟨s2, t2⟩ := s1.stored i (.int .i64 (iget cur j))
            have S2 := Lib.hid s2
            have T1 := Lib.hid t1
            have T2 := Lib.hid t2
            clear s1 t1 s2 t2 ho1 ho hg3 b3
            go_wp2_with fail
            go_region
            go_wp2
            go_roundw
            case rel =>
              obtain rfl := HIJ.out
              have hky := HKEY.out.1 (by rw [HLZ.out]; exact decide_eq_true hlt2)
              refine ⟨i, swp cur (i + 1) i, by omega, by omega, by go_num, HD.out.step (by omega) (by have := H0.out; omega), fun h h1 h2 => ?_, ?_, ?_⟩
              · by_cases e : h = i
                · rw [e]; omega
                · exact HHI.out h (by omega) h2
              · unfold swp; rw [List.map_set, List.map_set]; exact S2.out
              · exact grown_tr HG3.out (grown_tr (⟨rfl, rfl, rfl, Nat.le_refl _, fun _ _ _ => rfl⟩ : wq.grownBy wq.drew _) (grown_tr T1.out T2.out))
            case measure => have := HIJ.out; simp [intOf]; omega
          · clear hc1 hc2
            go_wp2_with fail
            (refine wp_region_calm (by kernel_rfl) (by kernel_rfl) ?_; (repeat (first | go_big_quiet_skip | (go_big_quiet_want; first | (go_big_quiet_op; go_big_quiet_on) | (apply quiet_val; (· (intro _ hw; have f1 := (HS.out _ hw).1; have f0 := (HS.out _ hw).2; go_simp; exact rfl)); go_simp; go_big_quiet_on) | (apply quiet_call; (· (intro _ _; go_simp; exact ⟨rfl, rfl⟩)); (· (intro _ hw; go_at_call 136; refine (cmp_at HR.out j i _).mono ?_; rintro e w2 ⟨rfl, rfl⟩; rw [HCZ.out]; exact ⟨rfl, hw⟩)); go_simp; go_big_quiet_on)))); refine wpQuiet_nil ?_; intro wq bq)
            go_wp2_with fail
            go_roundw
            case rel =>
              obtain rfl := HIJ.out
              have hky : ¬ key (iget cur0 k) < key (iget cur0 i) := fun e => by
                have := HKEY.out.2 e
                rw [HLZ.out] at this
                have := of_decide_eq_true this; omega
              obtain ⟨d1, d2⟩ := ins_done HD.out hj1 hj HA.out (.inr (by rw [show i + 1 - 1 = i by omega]; omega)) HHI.out
              exact ⟨k + 1, cur, by omega, .inr (by omega), by go_num, (HK.out.wide (Nat.le_refl _) (by omega)).trans d1, d2, HO.out.below bq, grown_tr HG.out (grown_of_below bq _)⟩
            case measure => simp [intOf]; omega
        · obtain rfl : j = a := by omega
          go_wp2_with fail
          (refine wp_region_calm (by kernel_rfl) (by kernel_rfl) ?_; (repeat (first | go_big_quiet_skip | (go_big_quiet_want; first | (go_big_quiet_op; go_big_quiet_on) | (apply quiet_val; (· (intro _ hw; skip; go_simp; exact rfl)); go_simp; go_big_quiet_on) | (apply quiet_call; (· (intro _ _; go_simp; exact ⟨rfl, rfl⟩)); (· (intro _ hw; fail)); go_simp; go_big_quiet_on)))); refine wpQuiet_nil ?_; intro wq bq)
          go_wp2_with fail
          go_roundw
          case rel =>
            obtain ⟨d1, d2⟩ := ins_done HD.out hj1 hj HA.out (.inl rfl) HHI.out
            exact ⟨k + 1, cur, by omega, .inr (by omega), by go_num, (HK.out.wide (Nat.le_refl _) (by omega)).trans d1, d2, HO.out.below bq, grown_tr HG.out (grown_of_below bq _)⟩
          case measure => simp [intOf]; omega
    · go_wp2
      go_end0
      rcases HKK.out with ⟨rfl, e⟩ | e
      · exact ⟨rfl, cur0, ⟨Kept.refl _ _ _, Asc.short (by omega)⟩, HO0.out, HG0.out⟩
      · obtain rfl : k = b := by omega
        exact ⟨rfl, cur0, ⟨HK.out, HA.out⟩, HO0.out, HG0.out⟩
end Go.Proofs.Ytnfkhgamnapgmaa

/- slices.symMergeCmpFunc at []int64 with the program's comparison of masks: two lists in order become one, in words. (gen_stbm.py) -/
namespace Go.Proofs.Ytnfkhgamnapgmaa
open Go.RowKit

abbrev Merged (key : Int → Nat) (zs : List Int) (a b : Nat) (ao : Option Addr) (n c base : Nat) (w w' : World) : Prop :=
  ∃ zt, (Kept zs zt a b ∧ Asc key zt a b) ∧ Own w' base 2 ao n c (zt.map (Value.int .i64)) ∧ w.grownBy w' (bk ao)
set_option maxRecDepth 100000 in
set_option maxHeartbeats 3200000 in
theorem symL_any (key : Int → Nat) (g n c a b : Nat) (zs : List Int) (w : World) (base : Nat) (h : Own w base 2 (some ⟨g, 0, none⟩) n c (zs.map (Value.int .i64))) (hn : n ≤ 1000) (hmb : a + 1 < b) (hb : b ≤ n) (hr : Rng zs)
    (hB : Asc key zs (a + 1) b) (hag : Agr key lessZ zs a (a + 1) b) :
    Calls Try.prog 204 #[.slice (some ⟨g, 0, none⟩) n c, .int .i64 a, .int .i64 (a + 1 : Nat), .int .i64 b, cmpF] w fun e w' => e = .returned (.tuple #[]) ∧ Merged key zs a b (some ⟨g, 0, none⟩) n c base w w' := by
  have hl : zs.length = n := by have := h.len; simpa using this
  have HL := Lib.hid hl
  have HR := Lib.hid hr
  have HB := Lib.hid hB
  have HAG := Lib.hid hag
  clear hl hr hB hag
  have HB' := HB
  obtain ⟨m, hm⟩ : ∃ m, a + 1 = m := ⟨_, rfl⟩
  rw [hm]
  have e0 : (m : Int) - (a : Int) = 1 := by omega
  go_enter Try.func204, Try.ntmps204
  go_wp2_with fail
  go_loopw [10, 11] (fun x y wr => ∃ (i j : Nat), m ≤ i ∧ i ≤ j ∧ j ≤ b ∧ x = .int .i64 i ∧ y = .int .i64 j ∧ (∀ h, m ≤ h → h < i → key (iget zs h) ≤ key (iget zs a)) ∧ (∀ h, j ≤ h → h < b → key (iget zs a) ≤ key (iget zs h)) ∧ Own wr base 2 (some ⟨g, 0, none⟩) n c (zs.map (Value.int .i64)) ∧ w.grownBy wr (some g)) (fun x y _ => (intOf y - intOf x).toNat)
  case atStart => exact ⟨m, b, Nat.le_refl _, by omega, Nat.le_refl _, rfl, rfl, fun h h1 h2 => by omega, fun h h1 h2 => by omega, h, World.grownBy.refl _ _⟩
  case round =>
    obtain ⟨i, j, hi, hij, hj, rfl, rfl, hlo, hhi, ho, hg⟩ := hrel
    have HLO := Lib.hid hlo
    have HHI := Lib.hid hhi
    have HO := Lib.hid ho
    have HG := Lib.hid hg
    clear hlo hhi ho hg e0
    by_cases hlt : i < j
    · obtain ⟨h, hh⟩ : ∃ h, (i + j) / 2 = h := ⟨_, rfl⟩
      have hh1 : i ≤ h := by omega
      have hh2 : h < j := by omega
      have e1 : ((i : Int) + (j : Int)) / 2 = (h : Int) := by omega
      clear hh
      have hxn : h < n := by omega
      have hyn : a < n := by omega
      have hc1 := own_iget HO.out hxn
      have hc2 := own_iget HO.out hyn
      have hS : ∀ w', Below wr.heap.size wr w' → (w'.cell? ⟨g, h, none⟩ = some (.int .i64 (iget zs (h))) ∧ w'.cell? ⟨g, a, none⟩ = some (.int .i64 (iget zs (a)))) := fun w' hb => ⟨(hb.cell (p := ⟨g, h, none⟩) (World.block_lt_of_cell? wr _ hc1)).trans hc1, (hb.cell (p := ⟨g, a, none⟩) (World.block_lt_of_cell? wr _ hc2)).trans hc2⟩
      have HS := Lib.hid hS
      clear hS hc1 hc2
      obtain ⟨cz, hcz⟩ : ∃ cz, cmpZ (iget zs (h)) (iget zs (a)) = cz := ⟨_, rfl⟩
      have hlz : lessZ (iget zs (h)) (iget zs (a)) = decide (cz < 0) := by unfold lessZ; rw [hcz]
      have HCZ := Lib.hid hcz
      have HLZ := Lib.hid hlz
      clear hcz hlz
      have hk : (lessZ (iget zs h) (iget zs a) = true ↔ key (iget zs h) < key (iget zs a)) := HAG.out a h (Nat.le_refl _) (by omega) (by omega) (by omega)
      rw [HLZ.out, decide_eq_true_iff] at hk
      have HK := Lib.hid hk
      clear hk
      by_cases hlt2 : cz < 0
      · go_wp2_with fail
        (refine wp_region_calm (by kernel_rfl) (by kernel_rfl) ?_; (repeat (first | go_big_quiet_skip | (go_big_quiet_want; first | (go_big_quiet_op; go_big_quiet_on) | (apply quiet_val; (· (intro _ hw; have f1 := (HS.out _ hw).1; have f0 := (HS.out _ hw).2; go_simp; exact rfl)); go_simp; go_big_quiet_on) | (apply quiet_call; (· (intro _ _; go_simp; exact ⟨rfl, rfl⟩)); (· (intro _ hw; go_at_call 136; refine (cmp_at HR.out h a _).mono ?_; rintro e w2 ⟨rfl, rfl⟩; rw [HCZ.out]; exact ⟨rfl, hw⟩)); go_simp; go_big_quiet_on)))); refine wpQuiet_nil ?_; intro wq bq)
        go_wp2_with fail
        go_roundw
        case rel =>
          have hk := HK.out.1 hlt2
          refine ⟨h + 1, j, by omega, by omega, hj, by go_num, rfl, fun t t1 t2 => ?_, HHI.out, HO.out.below bq, grown_tr HG.out (grown_of_below bq _)⟩
          by_cases e : t = h
          · rw [e]; omega
          · exact Nat.le_trans (HB.out t h (by omega) (by omega) (by omega)) (Nat.le_of_lt hk)
        case measure => simp [intOf]; omega
      · go_wp2_with fail
        (refine wp_region_calm (by kernel_rfl) (by kernel_rfl) ?_; (repeat (first | go_big_quiet_skip | (go_big_quiet_want; first | (go_big_quiet_op; go_big_quiet_on) | (apply quiet_val; (· (intro _ hw; have f1 := (HS.out _ hw).1; have f0 := (HS.out _ hw).2; go_simp; exact rfl)); go_simp; go_big_quiet_on) | (apply quiet_call; (· (intro _ _; go_simp; exact ⟨rfl, rfl⟩)); (· (intro _ hw; go_at_call 136; refine (cmp_at HR.out h a _).mono ?_; rintro e w2 ⟨rfl, rfl⟩; rw [HCZ.out]; exact ⟨rfl, hw⟩)); go_simp; go_big_quiet_on)))); refine wpQuiet_nil ?_; intro wq bq)
        go_wp2_with fail
        go_roundw
        case rel =>
          have hk : key (iget zs a) ≤ key (iget zs h) := Nat.le_of_not_lt fun e => absurd (HK.out.2 e) (by omega)
          refine ⟨i, h, hi, by omega, by omega, rfl, rfl, HLO.out, fun t t1 t2 => ?_, HO.out.below bq, grown_tr HG.out (grown_of_below bq _)⟩
          by_cases e : t = h
          · rw [e]; exact hk
          · exact Nat.le_trans hk (HB.out h t (by omega) (by omega) (by omega))
        case measure => simp [intOf]; omega
    · obtain rfl : i = j := by omega
      obtain ⟨q, hq⟩ : ∃ q, i = q + 1 := ⟨i - 1, by omega⟩
      have e2 : (i : Int) - 1 = (q : Int) := by omega
      have haq : a ≤ q := by omega
      have hqn : q < n := by omega
      have HQ := Lib.hid hq
      clear hq
      have HO0 := HO
      have HG0 := HG
      clear HO HG
      go_wp2_with fail
      go_loopw [13] (fun x wr' => ∃ (k : Nat) (cur : List Int), a ≤ k ∧ k ≤ q ∧ x = .int .i64 k ∧ Up zs cur a k ∧ Own wr' base 2 (some ⟨g, 0, none⟩) n c (cur.map (Value.int .i64)) ∧ w.grownBy wr' (some g)) (fun x _ => (n - intOf x).toNat)
      case atStart => exact ⟨a, zs, Nat.le_refl _, haq, rfl, Up.refl _ _, HO0.out, HG0.out⟩
      case round =>
        clear HO0 HG0
        rename_i wr
        obtain ⟨k, cur, hk1, hk2, rfl, hu, ho, hg⟩ := hrel
        have HU := Lib.hid hu
        have HO := Lib.hid ho
        have HG := Lib.hid hg
        clear hu ho hg
        by_cases hlt2 : k < q
        · obtain ⟨k1, hkk⟩ : ∃ k1, k + 1 = k1 := ⟨_, rfl⟩
          have e3 : (k : Int) + 1 = (k1 : Int) := by omega
          have e4 : k1 < n := by omega
          have HKK := Lib.hid hkk
          clear hkk
          have ho1 : Own wr.drew base 2 (some ⟨g, 0, none⟩) n c (cur.map (Value.int .i64)) := HO.out
          obtain ⟨s1, t1⟩ := ho1.stored (k) (.int .i64 (iget cur (k1)))
          obtain ⟨s2, t2⟩ := s1.stored (k1) (.int .i64 (iget cur (k)))
          have hin : k < n := by omega
          have hjn : k1 < n := by first | assumption | omega
          have hc1 := own_iget HO.out hin
          have hc2 := own_iget HO.out hjn
          have hf1 := HO.out.1.frozenAt (k)
          have hf2 := HO.out.1.frozenAt (k1)
          have S2 := Lib.hid s2
          have T1 := Lib.hid t1
          have T2 := Lib.hid t2
          clear s1 t1 s2 t2 ho1
          go_wp2_with fail
          go_region
          go_wp2
          go_roundw
          case rel =>
            obtain rfl := HKK.out
            refine ⟨k + 1, swp cur k (k + 1), by omega, by omega, by go_num, HU.out.step hk1 (by have := HL.out; omega), ?_, ?_⟩
            · unfold swp; rw [List.map_set, List.map_set]; exact S2.out
            · exact grown_tr HG.out (grown_tr (⟨rfl, rfl, rfl, Nat.le_refl _, fun _ _ _ => rfl⟩ : wr.grownBy wr.drew _) (grown_tr T1.out T2.out))
          case measure => simp [intOf]; omega
        · obtain rfl : k = q := by omega
          go_wp2_with fail
          refine bodyPost_ret (results_none rfl _ _ _) rfl ?_
          have hqq := HQ.out
          have hm := merge_up (i := i) HB'.out (by omega) hj (fun h h1 h2 => HLO.out h (by omega) h2) HHI.out (by rw [show i - 1 = k by omega]; exact HU.out)
          exact ⟨rfl, cur, hm, HO.out, HG.out⟩
end Go.Proofs.Ytnfkhgamnapgmaa

/- slices.symMergeCmpFunc at []int64: a part and one element behind it, in words. (gen_stbm.py) -/
namespace Go.Proofs.Ytnfkhgamnapgmaa
open Go.RowKit

set_option maxRecDepth 100000 in
set_option maxHeartbeats 3200000 in
theorem symR_any (key : Int → Nat) (g n c a m : Nat) (zs : List Int) (w : World) (base : Nat) (h : Own w base 2 (some ⟨g, 0, none⟩) n c (zs.map (Value.int .i64))) (hn : n ≤ 1000) (ham : a + 1 < m) (hb : m < n) (hr : Rng zs)
    (hA : Asc key zs a m) (hag : Agr key lessZ zs a m (m + 1)) :
    Calls Try.prog 204 #[.slice (some ⟨g, 0, none⟩) n c, .int .i64 a, .int .i64 m, .int .i64 (m + 1 : Nat), cmpF] w fun e w' => e = .returned (.tuple #[]) ∧ Merged key zs a (m + 1) (some ⟨g, 0, none⟩) n c base w w' := by
  have hl : zs.length = n := by have := h.len; simpa using this
  have HL := Lib.hid hl
  have HR := Lib.hid hr
  have HA := Lib.hid hA
  have HAG := Lib.hid hag
  clear hl hr hA hag
  obtain ⟨b, hmb⟩ : ∃ b, m + 1 = b := ⟨_, rfl⟩
  rw [hmb]
  have e0 : ((m : Int) - (a : Int) == 1) = false := by rw [beq_eq_false_iff_ne]; omega
  have e1 : (b : Int) - (m : Int) = 1 := by omega
  have HMB := Lib.hid hmb
  clear hmb
  go_enter Try.func204, Try.ntmps204
  go_wp2_with fail
  go_loopw [14, 15] (fun x y wr => ∃ (i j : Nat), a ≤ i ∧ i ≤ j ∧ j ≤ m ∧ x = .int .i64 i ∧ y = .int .i64 j ∧ (∀ h, a ≤ h → h < i → key (iget zs h) ≤ key (iget zs m)) ∧ (∀ h, j ≤ h → h < m → key (iget zs m) ≤ key (iget zs h)) ∧ Own wr base 2 (some ⟨g, 0, none⟩) n c (zs.map (Value.int .i64)) ∧ w.grownBy wr (some g)) (fun x y _ => (intOf y - intOf x).toNat)
  case atStart => exact ⟨a, m, Nat.le_refl _, by omega, Nat.le_refl _, rfl, rfl, fun h h1 h2 => by omega, fun h h1 h2 => by omega, h, World.grownBy.refl _ _⟩
  case round =>
    obtain ⟨i, j, hi, hij, hj, rfl, rfl, hlo, hhi, ho, hg⟩ := hrel
    have HLO := Lib.hid hlo
    have HHI := Lib.hid hhi
    have HO := Lib.hid ho
    have HG := Lib.hid hg
    clear hlo hhi ho hg e0 e1
    by_cases hlt : i < j
    · obtain ⟨h, hh⟩ : ∃ h, (i + j) / 2 = h := ⟨_, rfl⟩
      have hh1 : i ≤ h := by omega
      have hh2 : h < j := by omega
      have e1 : ((i : Int) + (j : Int)) / 2 = (h : Int) := by omega
      clear hh
      have hxn : m < n := by omega
      have hyn : h < n := by omega
      have hc1 := own_iget HO.out hxn
      have hc2 := own_iget HO.out hyn
      have hS : ∀ w', Below wr.heap.size wr w' → (w'.cell? ⟨g, m, none⟩ = some (.int .i64 (iget zs (m))) ∧ w'.cell? ⟨g, h, none⟩ = some (.int .i64 (iget zs (h)))) := fun w' hb => ⟨(hb.cell (p := ⟨g, m, none⟩) (World.block_lt_of_cell? wr _ hc1)).trans hc1, (hb.cell (p := ⟨g, h, none⟩) (World.block_lt_of_cell? wr _ hc2)).trans hc2⟩
      have HS := Lib.hid hS
      clear hS hc1 hc2
      obtain ⟨cz, hcz⟩ : ∃ cz, cmpZ (iget zs (m)) (iget zs (h)) = cz := ⟨_, rfl⟩
      have hlz : lessZ (iget zs (m)) (iget zs (h)) = decide (cz < 0) := by unfold lessZ; rw [hcz]
      have HCZ := Lib.hid hcz
      have HLZ := Lib.hid hlz
      clear hcz hlz
      have hk : (lessZ (iget zs m) (iget zs h) = true ↔ key (iget zs m) < key (iget zs h)) := HAG.out h m (by omega) (by omega) (Nat.le_refl _) (by omega)
      rw [HLZ.out, decide_eq_true_iff] at hk
      have HK := Lib.hid hk
      clear hk
      by_cases hlt2 : cz < 0
      · have hd : decide (cz < 0) = true := decide_eq_true hlt2
        go_wp2_with fail
        (refine wp_region_calm (by kernel_rfl) (by kernel_rfl) ?_; (repeat (first | go_big_quiet_skip | (go_big_quiet_want; first | (go_big_quiet_op; go_big_quiet_on) | (apply quiet_val; (· (intro _ hw; have f1 := (HS.out _ hw).1; have f0 := (HS.out _ hw).2; go_simp; exact rfl)); go_simp; go_big_quiet_on) | (apply quiet_call; (· (intro _ _; go_simp; exact ⟨rfl, rfl⟩)); (· (intro _ hw; go_at_call 136; refine (cmp_at HR.out m h _).mono ?_; rintro e w2 ⟨rfl, rfl⟩; rw [HCZ.out]; exact ⟨rfl, hw⟩)); go_simp; go_big_quiet_on)))); refine wpQuiet_nil ?_; intro wq bq)
        go_wp2_with fail
        go_roundw
        case rel =>
          have hk := HK.out.1 hlt2
          refine ⟨i, h, hi, by omega, by omega, rfl, rfl, HLO.out, fun t t1 t2 => ?_, HO.out.below bq, grown_tr HG.out (grown_of_below bq _)⟩
          by_cases e : t = h
          · rw [e]; omega
          · exact Nat.le_trans (Nat.le_of_lt hk) (HA.out h t (by omega) (by omega) (by omega))
        case measure => simp [intOf]; omega
      · have hd : decide (cz < 0) = false := decide_eq_false hlt2
        go_wp2_with fail
        (refine wp_region_calm (by kernel_rfl) (by kernel_rfl) ?_; (repeat (first | go_big_quiet_skip | (go_big_quiet_want; first | (go_big_quiet_op; go_big_quiet_on) | (apply quiet_val; (· (intro _ hw; have f1 := (HS.out _ hw).1; have f0 := (HS.out _ hw).2; go_simp; exact rfl)); go_simp; go_big_quiet_on) | (apply quiet_call; (· (intro _ _; go_simp; exact ⟨rfl, rfl⟩)); (· (intro _ hw; go_at_call 136; refine (cmp_at HR.out m h _).mono ?_; rintro e w2 ⟨rfl, rfl⟩; rw [HCZ.out]; exact ⟨rfl, hw⟩)); go_simp; go_big_quiet_on)))); refine wpQuiet_nil ?_; intro wq bq)
        go_wp2_with fail
        go_roundw
        case rel =>
          have hk : key (iget zs h) ≤ key (iget zs m) := Nat.le_of_not_lt fun e => absurd (HK.out.2 e) (by omega)
          refine ⟨h + 1, j, by omega, by omega, hj, by go_num, rfl, fun t t1 t2 => ?_, HHI.out, HO.out.below bq, grown_tr HG.out (grown_of_below bq _)⟩
          by_cases e : t = h
          · rw [e]; exact hk
          · exact Nat.le_trans (HA.out t h (by omega) (by omega) (by omega)) hk
        case measure => simp [intOf]; omega
    · obtain rfl : i = j := by omega
      have HO0 := HO
      have HG0 := HG
      clear HO HG
      go_wp2_with fail
      go_loopw [17] (fun x wr' => ∃ (k : Nat) (cur : List Int), i ≤ k ∧ k ≤ m ∧ x = .int .i64 k ∧ Dn zs cur k m ∧ Own wr' base 2 (some ⟨g, 0, none⟩) n c (cur.map (Value.int .i64)) ∧ w.grownBy wr' (some g)) (fun x _ => (intOf x).toNat)
      case atStart => exact ⟨m, zs, hj, Nat.le_refl _, rfl, Dn.refl _ _, HO0.out, HG0.out⟩
      case round =>
        clear HO0 HG0
        rename_i wr
        obtain ⟨k, cur, hk1, hk2, rfl, hu, ho, hg⟩ := hrel
        have HU := Lib.hid hu
        have HO := Lib.hid ho
        have HG := Lib.hid hg
        clear hu ho hg
        by_cases hlt2 : i < k
        · obtain ⟨k1, hkk⟩ : ∃ k1, k = k1 + 1 := ⟨k - 1, by omega⟩
          have e3 : (k : Int) - 1 = (k1 : Int) := by omega
          have e4 : k1 < n := by omega
          have HKK := Lib.hid hkk
          clear hkk
          have ho1 : Own wr.drew base 2 (some ⟨g, 0, none⟩) n c (cur.map (Value.int .i64)) := HO.out
          obtain ⟨s1, t1⟩ := ho1.stored (k) (.int .i64 (iget cur (k1)))
          obtain ⟨s2, t2⟩ := s1.stored (k1) (.int .i64 (iget cur (k)))
          have hin : k < n := by omega
          have hjn : k1 < n := by first | assumption | omega
          have hc1 := own_iget HO.out hin
          have hc2 := own_iget HO.out hjn
          have hf1 := HO.out.1.frozenAt (k)
          have hf2 := HO.out.1.frozenAt (k1)
          have S2 := Lib.hid s2
          have T1 := Lib.hid t1
          have T2 := Lib.hid t2
          clear s1 t1 s2 t2 ho1
          go_wp2_with fail
          go_region
          go_wp2
          go_roundw
          case rel =>
            obtain rfl := HKK.out
            refine ⟨k1, swp cur (k1 + 1) k1, by omega, by omega, by go_num, HU.out.step hk2 (by have := HL.out; omega), ?_, ?_⟩
            · unfold swp; rw [List.map_set, List.map_set]; exact S2.out
            · exact grown_tr HG.out (grown_tr (⟨rfl, rfl, rfl, Nat.le_refl _, fun _ _ _ => rfl⟩ : wr.grownBy wr.drew _) (grown_tr T1.out T2.out))
          case measure => have := HKK.out; simp [intOf]; omega
        · obtain rfl : k = i := by omega
          go_wp2_with fail
          refine bodyPost_ret (results_none rfl _ _ _) rfl ?_
          have hm := merge_dn HA.out hi hj HLO.out HHI.out HU.out
          rw [HMB.out] at hm
          exact ⟨rfl, cur, hm, HO.out, HG.out⟩
end Go.Proofs.Ytnfkhgamnapgmaa

/- Walks in names: shifts, bits, conversions between integers, three results. -/
namespace Go.Proofs.Ytnfkhgamnapgmaa
open Go.RowKit

theorem bits_and_i64 (a b : Nat) (ha : a < 1000000) (hb : b < 1000000) : bits .and .i64 (a : Int) (b : Int) = ((a &&& b : Nat) : Int) := by
  have hx : a &&& b < 2 ^ 20 := Nat.and_lt_two_pow _ (by omega)
  have h1 : (BitVec.ofInt 64 (a : Int)).toNat = a := by
    rw [BitVec.ofInt_natCast, BitVec.toNat_ofNat]; exact Nat.mod_eq_of_lt (by omega)
  have h2 : (BitVec.ofInt 64 (b : Int)).toNat = b := by
    rw [BitVec.ofInt_natCast, BitVec.toNat_ofNat]; exact Nat.mod_eq_of_lt (by omega)
  show IntKind.i64.wrap ((BitVec.ofInt 64 (a : Int) &&& BitVec.ofInt 64 (b : Int)).toNat : Int) = _
  rw [BitVec.toNat_and, h1, h2, IntKind.wrap_i64]
  omega
section
variable {P : Program} {nt : Nat} {S : St} {t : Nat} {ty : TypeId} {ps : String} {af : Array Edge} {gd : Option (Nat × Bool)} {x y : Operand}
theorem stp_andN {xt yt : TypeId} {a b : Nat} (ht : Nat.blt t nt = true) (hx : S.op x = some (vv (I6 (a : Int)))) (hy : S.op y = some (vv (I6 (b : Int)))) (ha : a < 1000000) (hb : b < 1000000) :
    Stp P nt ⟨some t, .binOp .and xt x y yt, ty, ps, af, gd⟩ S (S.put t (vv (I6 ((a &&& b : Nat) : Int)))) :=
  Stp.pure rfl ht fun _ _ η _ s w hs => by
    refine ⟨I6 ((a &&& b : Nat) : Int), ?_, rfl⟩
    have hb' := bits_and_i64 a b ha hb
    have e : Op.intBits .and .i64 (a : Int) (b : Int) = pure (I6 ((a &&& b : Nat) : Int)) := by rw [← hb']; rfl
    simp [execOp, hs.opV hx, hs.opV hy, eqGuard, binOp, e]
theorem stp_shrN {xt yt : TypeId} {kk : IntKind} {a g : Nat} (ht : Nat.blt t nt = true) (hx : S.op x = some (vv (I6 (a : Int)))) (hy : S.op y = some (vv (.int kk (g : Int)))) (hg : g ≤ 64) :
    Stp P nt ⟨some t, .binOp .shr xt x y yt, ty, ps, af, gd⟩ S (S.put t (vv (I6 ((a / 2 ^ g : Nat) : Int)))) :=
  Stp.pure rfl ht fun _ _ η _ s w hs => by
    refine ⟨I6 ((a / 2 ^ g : Nat) : Int), ?_, rfl⟩
    have e : Op.shift .shr .i64 (a : Int) kk (g : Int) = pure (I6 ((a / 2 ^ g : Nat) : Int)) := by
      rw [shift_shr_i64 (x := (a : Int)) (y := (g : Int)) (yk := kk) (Int.natCast_nonneg g) (by omega), Int.toNat_natCast]
      simp
    simp [execOp, hs.opV hx, hs.opV hy, eqGuard, binOp, e]
theorem stp_shl1 {xt yt : TypeId} {kk : IntKind} {g : Nat} (ht : Nat.blt t nt = true) (hx : S.op x = some (vv (I6 1))) (hy : S.op y = some (vv (.int kk (g : Int)))) (hg : g ≤ 5) :
    Stp P nt ⟨some t, .binOp .shl xt x y yt, ty, ps, af, gd⟩ S (S.put t (vv (I6 ((2 ^ g : Nat) : Int)))) :=
  Stp.pure rfl ht fun _ _ η _ s w hs => by
    refine ⟨I6 ((2 ^ g : Nat) : Int), ?_, rfl⟩
    have e : ∀ g : Nat, g ≤ 5 → Op.shift .shl .i64 1 kk (g : Int) = pure (I6 ((2 ^ g : Nat) : Int)) := fun g hg => by
      rw [shift_shl_i64 (x := 1) (y := (g : Int)) (yk := kk) (Int.natCast_nonneg g) (by omega), Int.toNat_natCast]
      match g, hg with
      | 0, _ => rfl
      | 1, _ => rfl
      | 2, _ => rfl
      | 3, _ => rfl
      | 4, _ => rfl
      | 5, _ => rfl
    have e := e g hg
    have hw : IntKind.i64.wrap (2 ^ g) = 2 ^ g := by
      match g, hg with
      | 0, _ => rfl
      | 1, _ => rfl
      | 2, _ => rfl
      | 3, _ => rfl
      | 4, _ => rfl
      | 5, _ => rfl
    simp [execOp, hs.opV hx, hs.opV hy, eqGuard, binOp, e, hw]
theorem stp_convN {src dst : TypeId} {kk k2 : IntKind} {m : Int} (ht : Nat.blt t nt = true) (hx : S.op x = some (vv (.int kk m))) (hs1 : (P.underlying src).isSome = true) (hd : P.underlying dst = some (.int k2)) (hw : k2.wrap m = m) :
    Stp P nt ⟨some t, .convert src dst x, ty, ps, af, gd⟩ S (S.put t (vv (.int k2 m))) :=
  Stp.pure rfl ht fun _ _ η _ s w hs => by
    refine ⟨.int k2 m, ?_, rfl⟩
    obtain ⟨d, hd'⟩ := Option.isSome_iff_exists.mp hs1
    simp [execOp, hs.opV hx, convert, run_underlying hd', run_underlying hd, Conv.intToInt, hw]
end
section
variable {P : Program} {w0 : World} {ω0 : Beg} {nt : Nat} {S : St}
theorem run_results3 {w : World} {fn : Func} {tmps : Array Value} {r r' r'' : ResultVar} {v v' v'' : Value} (h : fn.results = #[r, r', r'']) (h1 : (resSem tmps r).run P w = .ok v w) (h2 : (resSem tmps r').run P w = .ok v' w) (h3 : (resSem tmps r'').run P w = .ok v'' w) : (results fn tmps).run P w = .ok (.tuple #[v, v', v'']) w := by
  rw [results_eq, h]; simp [h1, h2, h3]
theorem fin_ret3 {fn : Func} {e : Exit} {r r' r'' : ResultVar} {b b' b'' : A2} {outs : List (Nm × Ch)} {back : List (Nat × AV)} (he : e = .ret ∨ e = .normal) (hf : fn.results = #[r, r', r'']) (hr : ResB P S r b) (hr' : ResB P S r' b') (hr'' : ResB P S r'' b'') (hc : allCh S outs) (hb : allPh S back) :
    Fin w0 ω0 nt S e (bodyPost P fn (Left w0 ω0.own ω0.ph outs (.tup [b, b', b'']) back)) := by
  refine ⟨fun a w ⟨η, ω, hs⟩ => ?_⟩
  obtain ⟨u, h1, h2⟩ := hs.res hr
  obtain ⟨u', h1', h2'⟩ := hs.res hr'
  obtain ⟨u'', h1'', h2''⟩ := hs.res hr''
  have hd : Den η (.tup [b, b', b'']) (.tuple #[u, u', u'']) := ⟨_, rfl, rfl, fun j c hj => by
    match j, hj with
    | 0, hj => simp at hj; subst hj; exact ⟨u, by simp, h2⟩
    | 1, hj => simp at hj; subst hj; exact ⟨u', by simp, h2'⟩
    | 2, hj => simp at hj; subst hj; exact ⟨u'', by simp, h2''⟩⟩
  have : a.defers = [] ∧ ∃ v, (results fn a.tmps).run P w = .ok v w ∧ Left w0 ω0.own ω0.ph outs (.tup [b, b', b'']) back (.returned v) w := ⟨hs.dfr, _, run_results3 hf h1 h1' h1'', hs.left hc hb hd⟩
  rcases he with rfl | rfl <;> exact this
end
end Go.Proofs.Ytnfkhgamnapgmaa

/- Lists of points and of marks; lists that lead points. No program in sight. -/
namespace Go.Proofs.Ytnfkhgamnapgmaa

/-- where a word leads a point -/
def leadL (qs : List (List Int)) (c : Int) (w : List Int) : Int := w.foldl (fun c g => iget (lget qs g.toNat) c.toNat) c
/-- each list holds m points, each leads within them -/
structure Leads (qs : List (List Int)) (m : Nat) : Prop where
  len : ∀ k, k < qs.length → (lget qs k).length = m
  within : ∀ k, k < qs.length → ∀ x, x < m → 0 ≤ iget (lget qs k) x ∧ iget (lget qs k) x < m
theorem Leads.lead {qs : List (List Int)} {m : Nat} (h : Leads qs m) {c : Int} (hc : 0 ≤ c ∧ c < m) {w : List Int} (hw : ∀ z ∈ w, 0 ≤ z ∧ z < qs.length) : 0 ≤ leadL qs c w ∧ leadL qs c w < m := by
  induction w generalizing c with
  | nil => exact hc
  | cons g r ih =>
    have h1 := hw g (List.mem_cons_self ..)
    have h2 := h.within g.toNat (by omega) c.toNat (by omega)
    exact ih h2 fun z hz => hw z (List.mem_cons_of_mem _ hz)

def bat (bs : List Bool) (k : Nat) : Bool := bs.getD k false
def bcnt (bs : List Bool) : Nat := (bs.filter fun b => b).length
theorem bcnt_le (bs : List Bool) : bcnt bs ≤ bs.length := List.length_filter_le _ _
def bTo (T : List (List Int)) (c g : Nat) : Nat := (iget (lget T g) c).toNat
end Go.Proofs.Ytnfkhgamnapgmaa

/- Cosets that some generators lead to, and the first fault of intersections, on lists. No program in sight. -/
namespace Go.Proofs.Ytnfkhgamnapgmaa

/-- whether a mask holds a generator -/
def mBit (mask g : Nat) : Bool := mask / 2 ^ g % 2 == 1
/-- which are met, the queue -/
abbrev MSt := List Bool × List Int
def mStep (T : List (List Int)) (mask c : Nat) (s : MSt) (g : Nat) : MSt := if mBit mask g = true ∧ bat s.1 (bTo T c g) = false then (s.1.set (bTo T c g) true, s.2 ++ [(bTo T c g : Int)]) else s
def mRow (T : List (List Int)) (mask ng c : Nat) (s : MSt) : MSt := (List.range ng).foldl (mStep T mask c) s
def mLoop (T : List (List Int)) (mask ng : Nat) : Nat → Nat → MSt → MSt
  | 0, _, s => s
  | f + 1, i, s => if i < s.2.length then mLoop T mask ng f (i + 1) (mRow T mask ng (iget s.2 i).toNat s) else s
def mStart (n : Nat) : MSt := ((List.replicate n false).set 0 true, [0])
def mem (T : List (List Int)) (ng n mask : Nat) : MSt := mLoop T mask ng (n + 1) 0 (mStart n)
structure MOK (n : Nat) (s : MSt) : Prop where
  l : s.1.length = n
  q : ∀ k, k < s.2.length → ∃ d : Nat, iget s.2 k = (d : Int) ∧ d < n ∧ bat s.1 d = true
  cnt : bcnt s.1 = s.2.length
  cov : ∀ d, d < n → bat s.1 d = true → ∃ k, k < s.2.length ∧ iget s.2 k = (d : Int)
theorem MOK.le {n : Nat} {s : MSt} (h : MOK n s) : s.2.length ≤ n := by
  have := bcnt_le s.1; rw [h.cnt, h.l] at this; exact this
structure MGrow (s s' : MSt) : Prop where
  len : s.2.length ≤ s'.2.length
  pre : ∀ k, k < s.2.length → iget s'.2 k = iget s.2 k
  met : ∀ d, bat s.1 d = true → bat s'.1 d = true
theorem MGrow.refl (s : MSt) : MGrow s s := ⟨Nat.le_refl _, fun _ _ => rfl, fun _ h => h⟩
theorem MGrow.trans {a b c : MSt} (h : MGrow a b) (k : MGrow b c) : MGrow a c :=
  ⟨Nat.le_trans h.len k.len, fun i hi => (k.pre i (Nat.lt_of_lt_of_le hi h.len)).trans (h.pre i hi), fun d hd => k.met d (h.met d hd)⟩
section
variable {T : List (List Int)} {ng n mask : Nat}
end
end Go.Proofs.Ytnfkhgamnapgmaa

/- Walks in names: bits of masks. No program in sight. -/
namespace Go.Proofs.Ytnfkhgamnapgmaa
open Go.RowKit

theorem mBit_of (mask g : Nat) : ((((mask / 2 ^ g) &&& 1 : Nat) : Int) == 1) = mBit mask g := by
  unfold mBit
  rw [Nat.and_one_is_mod]
  rcases Nat.mod_two_eq_zero_or_one (mask / 2 ^ g) with h | h <;> rw [h] <;> rfl
theorem stp_bit {P : Program} {nt : Nat} {S : St} {t : Nat} {ty : TypeId} {ps : String} {af : Array Edge} {gd : Option (Nat × Bool)} {x : Operand} {xt yt : TypeId} {mask g : Nat} (ht : Nat.blt t nt = true) (hx : S.op x = some (vv (I6 ((mask / 2 ^ g : Nat) : Int)))) (hm : mask < 1000000) :
    Stp P nt ⟨some t, .binOp .and xt x (.const (I6 1)) yt, ty, ps, af, gd⟩ S (S.put t (vv (I6 (((mask / 2 ^ g) &&& 1 : Nat) : Int)))) :=
  stp_andN ht hx rfl (Nat.lt_of_le_of_lt (Nat.div_le_self _ _) hm) (by decide)
theorem stp_eqBit {P : Program} {nt : Nat} {S : St} {t : Nat} {ty : TypeId} {ps : String} {af : Array Edge} {gd : Option (Nat × Bool)} {x : Operand} {xt yt : TypeId} {mask g : Nat} (ht : Nat.blt t nt = true) (hx : S.op x = some (vv (I6 (((mask / 2 ^ g) &&& 1 : Nat) : Int)))) :
    Stp P nt ⟨some t, .binOp .eql xt x (.const (I6 1)) yt, ty, ps, af, gd⟩ S (S.put t (vv (.bool (mBit mask g)))) := by
  rw [← mBit_of]
  exact stp_bin ht hx rfl rfl
theorem stp_eqBit0 {P : Program} {nt : Nat} {S : St} {t : Nat} {ty : TypeId} {ps : String} {af : Array Edge} {gd : Option (Nat × Bool)} {x : Operand} {xt yt : TypeId} {mask g : Nat} (ht : Nat.blt t nt = true) (hx : S.op x = some (vv (I6 (((mask / 2 ^ g) &&& 1 : Nat) : Int)))) :
    Stp P nt ⟨some t, .binOp .eql xt x (.const (I6 0)) yt, ty, ps, af, gd⟩ S (S.put t (vv (.bool (!mBit mask g)))) := by
  have h : (!mBit mask g) = ((((mask / 2 ^ g) &&& 1 : Nat) : Int) == 0) := by
    unfold mBit
    rw [Nat.and_one_is_mod]
    rcases Nat.mod_two_eq_zero_or_one (mask / 2 ^ g) with h | h <;> rw [h] <;> rfl
  rw [h]
  exact stp_bin ht hx rfl rfl
theorem bits_or_i64 (a b : Nat) (ha : a < 1000000) (hb : b < 1000000) : bits .or .i64 (a : Int) (b : Int) = ((a ||| b : Nat) : Int) := by
  have hx : a ||| b < 2 ^ 20 := Nat.or_lt_two_pow (by omega) (by omega)
  have h1 : (BitVec.ofInt 64 (a : Int)).toNat = a := by
    rw [BitVec.ofInt_natCast, BitVec.toNat_ofNat]; exact Nat.mod_eq_of_lt (by omega)
  have h2 : (BitVec.ofInt 64 (b : Int)).toNat = b := by
    rw [BitVec.ofInt_natCast, BitVec.toNat_ofNat]; exact Nat.mod_eq_of_lt (by omega)
  show IntKind.i64.wrap ((BitVec.ofInt 64 (a : Int) ||| BitVec.ofInt 64 (b : Int)).toNat : Int) = _
  rw [BitVec.toNat_or, h1, h2, IntKind.wrap_i64]
  omega
section
variable {P : Program} {nt : Nat} {S S' S2 : St} {t : Nat} {ty : TypeId} {ps : String} {af : Array Edge} {gd : Option (Nat × Bool)} {x y : Operand} {o : Oper}
theorem stp_orN {xt yt : TypeId} {a b : Nat} (ht : Nat.blt t nt = true) (hx : S.op x = some (vv (I6 (a : Int)))) (hy : S.op y = some (vv (I6 (b : Int)))) (ha : a < 1000000) (hb : b < 1000000) :
    Stp P nt ⟨some t, .binOp .or xt x y yt, ty, ps, af, gd⟩ S (S.put t (vv (I6 ((a ||| b : Nat) : Int)))) :=
  Stp.pure rfl ht fun _ _ η _ s w hs => by
    refine ⟨I6 ((a ||| b : Nat) : Int), ?_, rfl⟩
    have hb' := bits_or_i64 a b ha hb
    have e : Op.intBits .or .i64 (a : Int) (b : Int) = pure (I6 ((a ||| b : Nat) : Int)) := by rw [← hb']; rfl
    simp [execOp, hs.opV hx, hs.opV hy, eqGuard, binOp, e]
theorem stp_shl2 {xt yt : TypeId} {kk : IntKind} {g : Nat} (ht : Nat.blt t nt = true) (hx : S.op x = some (vv (I6 2))) (hy : S.op y = some (vv (.int kk (g : Int)))) (hg : g ≤ 5) :
    Stp P nt ⟨some t, .binOp .shl xt x y yt, ty, ps, af, gd⟩ S (S.put t (vv (I6 ((2 ^ (g + 1) : Nat) : Int)))) :=
  Stp.pure rfl ht fun _ _ η _ s w hs => by
    refine ⟨I6 ((2 ^ (g + 1) : Nat) : Int), ?_, rfl⟩
    have e : ∀ g : Nat, g ≤ 5 → Op.shift .shl .i64 2 kk (g : Int) = pure (I6 ((2 ^ (g + 1) : Nat) : Int)) := fun g hg => by
      rw [shift_shl_i64 (x := 2) (y := (g : Int)) (yk := kk) (Int.natCast_nonneg g) (by omega), Int.toNat_natCast]
      match g, hg with
      | 0, _ => rfl
      | 1, _ => rfl
      | 2, _ => rfl
      | 3, _ => rfl
      | 4, _ => rfl
      | 5, _ => rfl
    have e := e g hg
    have hw : IntKind.i64.wrap (2 * 2 ^ g) = 2 ^ (g + 1) := by
      match g, hg with
      | 0, _ => rfl
      | 1, _ => rfl
      | 2, _ => rfl
      | 3, _ => rfl
      | 4, _ => rfl
      | 5, _ => rfl
    simp [execOp, hs.opV hx, hs.opV hy, eqGuard, binOp, e, hw]
/-- a step behind a loss of knowledge -/
theorem Stp.pre (h : Wk S S') (k : Stp P nt o S' S2) : Stp P nt o S S2 :=
  ⟨fun w0 ω0 a w Q hs => k.go w0 ω0 a w Q (h.go _ _ _ _ _ hs)⟩
end
end Go.Proofs.Ytnfkhgamnapgmaa

/- A memory of names: a call that turns one vector of the caller's in place; quotients and remainders. No program in sight. -/
namespace Go.Proofs.Ytnfkhgamnapgmaa
open Go.RowKit

section
variable {P : Program} {nt : Nat} {S S' S2 : St} {t : Nat} {ty : TypeId} {ps : String} {af : Array Edge} {gd : Option (Nat × Bool)} {x y : Operand} {o : Oper}
theorem stp_turn {f : FuncId} {ts : Array TypeId} {n : Nm} {E len : Nat} {zs zs' : List Int} (ht : Nat.blt t nt = true) (hf : goFnB P f = true) (hx : S.op x = some (o1 (.sl n 0 len))) (hc : S.ch n = some ⟨true, E, 1, .vals (ivals zs)⟩) (hl : zs.length = len) (hl' : zs'.length = len) (hlen : len ≤ 4398046511104)
    (h : ∀ ao c (w : World), Own w 0 E ao len c (ivals zs) → Calls P f #[.slice ao len c] w fun e w' => e = .returned (.tuple #[]) ∧ Own w' 0 E ao len c (ivals zs') ∧ w.grownBy w' (bk ao)) :
    Stp P nt ⟨some t, .call { callee := .value (.func f), args := #[x], argTypes := ts }, ty, ps, af, gd⟩ S ((S.set n ⟨true, E, 1, .vals (ivals zs')⟩).put t (.tup [])) := by
  refine ⟨fun w0 ω0 a w Q ⟨η, ω, hs⟩ => ?_⟩
  obtain ⟨hd, e1, e2, e3⟩ := hs.chunk hc
  have e2 : hd.k = 1 := e2
  have e3 : VecO ω w (n, none) hd E (ivals zs).length (cellsOK η ω w true n (.vals (ivals zs))) := e3
  have hu : Den1 η (.sl n 0 len) (a.eval x) := hs.opv hx
  obtain ⟨ao, hev, q1, _⟩ := hu.2 hd e1
  have q1 := q1 rfl
  subst q1
  rw [Nat.sub_zero] at hev
  have hown := VecO.own (lo := 0) (xs := ivals zs) e2 e3 (fun b hb => absurd hb (by omega)) (by rw [ivals_len]; omega) rfl (fun j u hj ⟨b, o, f1, f2⟩ => by
    obtain ⟨b', o', u', g1, g2, g3⟩ := Vec.get (own := true) e3 hj
    rw [f1] at g1; injection g1 with g1; injection g1 with g1 g1'; subst g1 g1'
    rw [f2] at g2
    obtain rfl := Option.some.inj g2
    exact g3)
  rw [ivals_len, hl] at hown
  have hrun : (execOp a.eval ⟨some t, .call { callee := .value (.func f), args := #[x], argTypes := ts }, ty, ps, af, gd⟩).run P w = .ok (.enter f #[.slice hd.ao len hd.c]) w := by
    simp only [execOp]
    have hfe : a.eval (.func f) = .func (Fn.func f) #[] #[] := rfl
    simp [execOp, resolve, hfe, hev, Deferred.ofValue, invoke, goFnB_run hf]
  unfold Oper.wp
  rw [hrun, Oper.upon_enter]
  refine (h _ _ _ hown.1).mono ?_
  rintro e w' ⟨rfl, ho, hg⟩
  have hsz := hg.size
  have hw := hs.write (x := n) (c' := ⟨true, E, 1, .vals (ivals zs')⟩) (ω' := ω) (w' := w') e1 ⟨hg.os, hg.tape, hg.output, hsz, fun b hb hlv => ⟨hg.block b hb fun e => ?_, rfl⟩⟩ ⟨e2, ?_⟩
  · exact ⟨η, ω, hw.putV (by simpa using ht) ⟨#[], rfl, rfl, fun j b hj => by simp at hj⟩⟩
  · have h1 := (hown.2 b e.symm).2
    rcases hlv with h0 | ⟨y, i, c, h0, h2⟩
    · rw [h1] at h0; cases h0
    · rw [h1] at h0; simp at h0; rw [← h0.1, ch_rm, if_pos rfl] at h2; cases h2
  · have hv := vecO_of (ω' := ω) ho (x := (n, none)) fun g hg' => (hown.2 g hg').2
    have : hd = ⟨hd.ao, hd.c, 1⟩ := by rw [← e2]
    rw [this]
    exact hv
theorem stp_quoN {xt yt : TypeId} {a b : Nat} (ht : Nat.blt t nt = true) (hx : S.op x = some (vv (I6 (a : Int)))) (hy : S.op y = some (vv (I6 (b : Int)))) (hb : 0 < b) (ha : a < 1000000000000) :
    Stp P nt ⟨some t, .binOp .quo xt x y yt, ty, ps, af, gd⟩ S (S.put t (vv (I6 ((a / b : Nat) : Int)))) :=
  Stp.pure rfl ht fun _ _ η _ s w hs => by
    refine ⟨I6 ((a / b : Nat) : Int), ?_, rfl⟩
    have hle := Nat.div_le_self a b
    have e : Op.intDiv .quo .i64 (a : Int) (b : Int) = pure (I6 ((a / b : Nat) : Int)) := by
      have h1 : (a : Int).tdiv (b : Int) = ((a / b : Nat) : Int) := rfl
      have h2 : ∀ q : Nat, q ≤ a → IntKind.i64.wrap (q : Int) = (q : Int) := fun q hq => IntWalk.i64_in _ (by omega)
      have h3 : ¬ (b : Int) = 0 := by omega
      unfold Op.intDiv
      rw [if_neg h3]
      show pure (Value.int .i64 (IntKind.i64.wrap ((a : Int).tdiv (b : Int)))) = _
      rw [h1, h2 _ hle]
    simp [execOp, hs.opV hx, hs.opV hy, eqGuard, binOp, e]
theorem stp_remN {xt yt : TypeId} {a b : Nat} (ht : Nat.blt t nt = true) (hx : S.op x = some (vv (I6 (a : Int)))) (hy : S.op y = some (vv (I6 (b : Int)))) (hb : 0 < b) (ha : a < 1000000000000) :
    Stp P nt ⟨some t, .binOp .rem xt x y yt, ty, ps, af, gd⟩ S (S.put t (vv (I6 ((a % b : Nat) : Int)))) :=
  Stp.pure rfl ht fun _ _ η _ s w hs => by
    refine ⟨I6 ((a % b : Nat) : Int), ?_, rfl⟩
    have hle := Nat.mod_le a b
    have e : Op.intDiv .rem .i64 (a : Int) (b : Int) = pure (I6 ((a % b : Nat) : Int)) := by
      have h1 : (a : Int).tmod (b : Int) = ((a % b : Nat) : Int) := rfl
      have h3 : ¬ (b : Int) = 0 := by omega
      unfold Op.intDiv
      rw [if_neg h3]
      show pure (Value.int .i64 ((a : Int).tmod (b : Int))) = _
      rw [h1]
    simp [execOp, hs.opV hx, hs.opV hy, eqGuard, binOp, e]
/-- a slice held against nil -/
theorem stp_nilYes {xt yt : TypeId} {op : BinOp} {b : Bool} (ht : Nat.blt t nt = true) (hT : sliceB P xt = true) (hx : S.op x = some (vv (.slice none 0 0))) (hop : (op = .eql ∧ b = true) ∨ (op = .neq ∧ b = false)) :
    Stp P nt ⟨some t, .binOp op xt x (.const (.slice none 0 0)) yt, ty, ps, af, gd⟩ S (S.put t (vv (.bool b))) :=
  Stp.pure rfl ht fun _ _ η _ s w hs => by
    obtain ⟨e, he⟩ := sliceB_spec hT
    have hc : s.eval (.const (.slice none 0 0)) = .slice none 0 0 := rfl
    refine ⟨.bool b, ?_, rfl⟩
    rcases hop with ⟨rfl, rfl⟩ | ⟨rfl, rfl⟩
    · simp [execOp, hs.opV hx, hc, eqGuard, Lib.run_eql_slice_nil w xt e none 0 0 0 0 he]
    · simp [execOp, hs.opV hx, hc, eqGuard, Go.run_neq_slice_nil w xt e none 0 0 he]
theorem stp_nilNo {xt yt : TypeId} {op : BinOp} {b : Bool} {n : Nm} {len : Nat} {c : Ch} (ht : Nat.blt t nt = true) (hT : sliceB P xt = true) (hx : S.op x = some (o1 (.sl n 0 len))) (hc : S.ch n = some c) (hl : 0 < c.d.len) (hop : (op = .eql ∧ b = false) ∨ (op = .neq ∧ b = true)) :
    Stp P nt ⟨some t, .binOp op xt x (.const (.slice none 0 0)) yt, ty, ps, af, gd⟩ S (S.put t (vv (.bool b))) :=
  Stp.pure rfl ht fun _ _ η _ s w hs => by
    obtain ⟨e, he⟩ := sliceB_spec hT
    have hcc : s.eval (.const (.slice none 0 0)) = .slice none 0 0 := rfl
    obtain ⟨hd, h1, h2, h3⟩ := hs.chunk hc
    have hd1 : Den1 η (.sl n 0 len) (s.eval x) := hs.opv hx
    obtain ⟨ao, e1, e2, _⟩ := hd1.2 hd h1
    obtain ⟨b', o', u, f1, _, _⟩ := h3.get hl
    have hao : ao = some ⟨b', o', none⟩ := by rw [e2 rfl, f1]
    subst hao
    refine ⟨.bool b, ?_, rfl⟩
    rcases hop with ⟨rfl, rfl⟩ | ⟨rfl, rfl⟩
    · simp [execOp, e1, hcc, eqGuard, Lib.run_eql_slice_nil w xt e _ _ _ 0 0 he]
    · simp [execOp, e1, hcc, eqGuard, Go.run_neq_slice_nil w xt e _ _ _ he]
end
end Go.Proofs.Ytnfkhgamnapgmaa

/- A memory of names: mixed vectors: structs with slices in them, and rows of structs. No program in sight. -/
namespace Go.Proofs.Ytnfkhgamnapgmaa
open Go.RowKit

section
variable {P : Program} {nt : Nat} {S S1 S2 : St} {w0 w : World} {ω0 : Beg} {ω : Own?} {η : Env} {a : Act} {Q : Exit → Act → World → Prop} {ops : Array Oper} {rest : List Oper}
variable {t : Nat} {ty : TypeId} {ps : String} {af : Array Edge} {gd : Option (Nat × Bool)} {x y : Operand} {av : AV} {o : Oper}

theorem stp_loadM {T : TypeId} {n : Nm} {i : Nat} {c : Ch} {cs : List Cel} {v : Value} (ht : Nat.blt t nt = true) (hT : oneB P T = true) (hx : S.op x = some (o1 (.ptr n i))) (hc : S.ch n = some c) (hd : c.d = .mix cs) (hv : cs[i]? = some (.v v)) :
    Stp P nt ⟨some t, .load T x, ty, ps, af, gd⟩ S (S.put t (vv v)) := stp_load ht hT hx hc (by rw [hd]; simp only [Dat.at_, hv])
theorem stp_loadMR {T : TypeId} {n : Nm} {i F k m : Nat} {c : Ch} {cs : List Cel} {vs : List Value} (ht : Nat.blt t nt = true) (hT : oneB P T = true) (hx : S.op x = some (o1 (.ptr n i))) (hc : S.ch n = some c) (hd : c.d = .mix cs) (hv : cs[i]? = some (.r F k m vs)) :
    Stp P nt ⟨some t, .load T x, ty, ps, af, gd⟩ S (S.put t (o1 (.esl n i 0 m))) := stp_load ht hT hx hc (by rw [hd]; simp only [Dat.at_, hv])
/-- what cells of a chunk read xs0, one after the other -/
theorem stp_loadAggD {T : TypeId} {n : Nm} {i k : Nat} {c : Ch} {l : List A1} (ht : Nat.blt t nt = true) (hx : S.op x = some (o1 (.ptr n i))) (hc : S.ch n = some c) (hl : l.length = k) (hk0 : Nat.blt 0 k = true) (hT : aggB P T k = true)
    (ha : ∀ (j : Nat) (b : A1), l[j]? = some b → c.d.at_ n (i + j) = some b) : Stp P nt ⟨some t, .load T x, ty, ps, af, gd⟩ S (S.put t (.s (.agg l))) :=
  Stp.pure rfl ht fun _ _ η ω a w hs => by
    obtain ⟨h, e1, e2, e3⟩ := hs.chunk hc
    have hp : Den1 η (.ptr n i) (a.eval x) := hs.opv hx
    obtain ⟨b, o, g1, g2⟩ := hp.2 h e1
    have key : ∀ j (hj : j < k), ∃ u, w.cell? ⟨b, o + i + j, none⟩ = some u ∧ ∀ b1, l[j]? = some b1 → Den1 η b1 u := fun j hj => by
      have hlj : l[j]? = some l[j] := List.getElem?_eq_getElem (by omega)
      obtain ⟨b', o', u, f1, f2, f3⟩ := e3.get (j := i + j) (Dat.at_lt (ha j _ hlj))
      rw [g1] at f1; injection f1 with f1; injection f1 with f1 f1'; subst f1 f1'
      exact ⟨u, by rw [Nat.add_assoc]; exact f2, fun b1 hb1 => den_at f3 (ha j b1 hb1)⟩
    refine ⟨.agg ((List.range k).map fun j => (w.cell? ⟨b, o + i + j, none⟩).getD undef).toArray, ?_, ⟨_, rfl, by simp; omega, fun j b1 hb1 => ?_⟩⟩
    · have := run_loadAgg (P := P) (w := w) hT (b := b) (o := o + i) (us := (List.range k).map fun j => (w.cell? ⟨b, o + i + j, none⟩).getD undef) (by simp) fun j u hu => by
        rw [List.getElem?_map, Option.map_eq_some_iff] at hu
        obtain ⟨j', hj', rfl⟩ := hu
        have hjk : j < k := by have := (List.getElem?_eq_some_iff.1 hj').1; simpa using this
        rw [List.getElem?_range hjk] at hj'
        obtain rfl := Option.some.inj hj'
        obtain ⟨u, hu, _⟩ := key j hjk
        rw [hu]; rfl
      simp [execOp, g2, Instr.loadAt, Instr.sureAddr, this]
    · have hjk : j < k := by rw [← hl]; exact (List.getElem?_eq_some_iff.1 hb1).1
      obtain ⟨u, hu, hdu⟩ := key j hjk
      exact ⟨u, by simp [hjk, hu], hdu b1 hb1⟩

theorem stp_storeM {T : TypeId} {n : Nm} {i : Nat} {c : Ch} {cs : List Cel} {v v0 : Value} (hx : S.op x = some (o1 (.ptr n i))) (hy : S.op y = some (vv v)) (hc : S.ch n = some c) (hown : c.own = true) (hd : c.d = .mix cs) (hi : cs[i]? = some (.v v0)) (hT : sizeB P T 1 = true) (h1 : v.oneCell' = true) :
    Stp P nt ⟨none, .store T x y, ty, ps, af, gd⟩ S (S.set n { c with d := .mix (cs.set i (.v v)) }) :=
  have hil : i < cs.length := (List.getElem?_eq_some_iff.1 hi).1
  Stp.unit rfl fun w0 ω0 η ω a w hs => by
    have hb : a.eval y = v := hs.opV hy
    obtain ⟨w', k1, k2⟩ := hs.store1 (P := P) (T := T) (v := v) (d' := .mix (cs.set i (.v v))) (hs.opv hx) hc hown (by rw [hd]; exact hil) hT h1 (by rw [hd]; simp [Dat.len])
      (fun w' j u hj hk => by rw [hd] at hk; exact ⟨hk.1, fun c hc' => by rw [List.getElem?_set_ne (fun e => hj e.symm)] at hc'; exact hk.2 c hc'⟩)
      (fun w' => ⟨h1, fun c hc' => by rw [List.getElem?_set_self hil] at hc'; obtain rfl := Option.some.inj hc'; exact rfl⟩)
    exact ⟨w', by simp [execOp, hb, k1], _, _, k2⟩

/-- plain cells, of which a nil slice may be taken for an empty row -/
def celNew : Cel → Value → Prop
  | .v y, u => u = y
  | .r _ _ m vs, u => m = 0 ∧ vs = [] ∧ u = .slice none 0 0
  | .any, _ => True
def celK : Cel → Nat
  | .r _ k _ _ => k
  | _ => 1
theorem celNew.ok {own : Bool} {n : Nm} {j : Nat} {c : Cel} {u : Value} (hr : η.r n j = ⟨none, 0, celK c⟩) (h : celNew c u) : celOK η ω w true n j c u := by
  cases c with
  | v y => exact h
  | any => trivial
  | r F k m vs =>
    obtain ⟨rfl, rfl, rfl⟩ := h
    refine ⟨by simp, by rw [hr], by rw [hr]; rfl, ?_⟩
    rw [hr]
    exact .inl ⟨rfl, rfl, rfl⟩
/-- append of plain cells to a mixed vector -/
theorem stp_appendMx {T E k n len m : Nat} {cs cn : List Cel} {news : List Value} {b : A1} (ht : Nat.blt t nt = true) (hT : elZ P T E k = true) (hk0 : Nat.blt 0 k = true) (hx : S.op x = some (o1 (.sl n 0 len))) (hc : S.ch n = some ⟨true, E, k, .mix cs⟩) (hl : cs.length = len * k)
    (hy : S.op y = some (o1 b)) (hr : Reads S b m k news) (hm : 0 < m) (h1 : ∀ v ∈ news, v.oneCell' = true) (hcn : cn.length = news.length) (hcel : ∀ (j : Nat) c u, cn[j]? = some c → news[j]? = some u → celNew c u) (hb : len + m ≤ 2199023255552) :
    Stp P nt ⟨some t, .call { callee := .builtin .append, args := #[x, y], argTypes := #[T, T] }, ty, ps, af, gd⟩ S ((S.new n ⟨true, E, k, .mix (cs ++ cn)⟩).put t (o1 (.sl n 0 (len + m)))) :=
  Stp.of _ fun w0 ω0 η ω a w hs => by
    have hk0' : 0 < k := by simpa using hk0
    obtain ⟨hd, e1, e2, e3⟩ := hs.chunk hc
    have e3 : VecO ω w (n, none) hd E cs.length (cellsOK η ω w true n (.mix cs)) := e3
    have hu : Den1 η (.sl n 0 len) (a.eval x) := hs.opv hx
    obtain ⟨ad, cp, r1, r2⟩ := hr.go hs (hs.opv hy)
    have hnl := hr.len
    have hn0 : 0 < news.length := by rw [hnl]; exact Nat.mul_pos hm hk0'
    obtain ⟨bb, o, r3, _⟩ := r2 0 _ (List.getElem?_eq_getElem hn0)
    subst r3
    obtain ⟨h', w', k1, k2⟩ := run_appendO (P := P) (ty := ty) (c := cp) hT hk0' e2 e3 (hu.2 hd e1) rfl (by rw [Nat.zero_add]; exact hl.symm) hm hnl (a := ⟨bb, o, none⟩) (fun j v hj => by
      obtain ⟨b2, o2, h2, h3⟩ := r2 j v hj
      simp only [Option.some.injEq, Addr.mk.injEq, and_true] at h2
      obtain ⟨rfl, rfl⟩ := h2
      rw [Addr.add_lit]; exact h3) h1 hb
    refine ⟨.slice h'.ao (len + m) h'.c, w', by simp [execOp, resolve, invoke, builtin, r1, k1], ?_⟩
    have hlen : (cs ++ cn).length = len * k + news.length := by rw [List.length_append, hl, hcn]
    let r' : Nat → Hd := fun j => if j < cs.length then η.r n j else ⟨none, 0, celK (cn.getD (j - cs.length) .any)⟩
    have hS : (S.rm n).ch n = none := by simp [ch_rm]
    have := hs.renew (n := n) (c := ⟨true, E, k, .mix (cs ++ cn)⟩) (hd := h') (r := r') (calm_grown hS k2) ⟨k2.k_, by
      obtain ⟨b', o', cs', v1, v2, v3, v4, v5, v6, v7, v8⟩ := k2.vec
      refine .inr ⟨b', o', cs', v1, v2, v3, by rw [k2.k_]; exact v4, by rw [k2.k_]; show (cs ++ cn).length ≤ _; rw [hlen]; exact v5, v6, fun j hj => ?_⟩
      have hj : j < (cs ++ cn).length := hj
      rw [hlen] at hj
      by_cases hlt : j < len * k
      · obtain ⟨u, q1, q2⟩ := v7 j hlt
        rw [Nat.zero_mul, Nat.zero_add] at q2
        refine ⟨u, q1, q2.1, fun c hc => ?_⟩
        rw [List.getElem?_append_left (by omega)] at hc
        have hv : ∀ (F : TypeId) (vs : List Value), VecO ω w (n, some j) (η.r n j) F vs.length (fun i u => vs[i]? = some u) → VecO (Own?.new ω w.heap.size (n, none)) w' (n, some j) (η.r n j) F vs.length (fun i u => vs[i]? = some u) := fun F vs f3 =>
          VecO.same (fun b hb ho => ⟨k2.other b hb (by rw [ho]; simp), by simp [Own?.new, Nat.ne_of_lt hb, ho]⟩) (fun _ _ h => h) f3
        exact celOK.move (own := true) (own' := true) (by simp [Env.new, r', hl, hlt]) (fun F k m vs _ f3 => hv F vs f3) (q2.2 c hc)
      · have hj2 : j - len * k < news.length := by omega
        have hnj : news[j - len * k]? = some news[j - len * k] := List.getElem?_eq_getElem hj2
        refine ⟨news[j - len * k], ?_, h1 _ (List.getElem_mem hj2), fun c hc => ?_⟩
        · have := v8 (j - len * k) _ hnj
          rw [show o' + len * k + (j - len * k) = o' + j by omega] at this; exact this
        · rw [List.getElem?_append_right (by omega), hl] at hc
          refine celNew.ok (own := true) ?_ (hcel _ _ _ hc hnj)
          simp only [Env.new, if_true, r', hl, if_neg hlt, List.getD, hc, Option.getD_some]⟩
    exact ⟨_, _, this.putV (by simpa using ht) den_new⟩

/-- a row is taken out of a mixed vector: it is a vector of its own, and nothing is known of its cell -/
theorem wk_takeMx {n i z k kk m : Nat} {E F s : Nat} {cs : List Cel} {vs : List Value} (hc : S.ch n = some ⟨true, E, kk, .mix cs⟩) (hs0 : S.sl s = some (o1 (.esl n i 0 m))) (hi : cs[i]? = some (.r F k m vs)) (hzn : Nat.beq z n = false) :
    Wk S ((((S.cutE n).set n ⟨true, E, kk, .mix (cs.set i .any)⟩).new z ⟨true, F, k, .vals vs⟩).put s (o1 (.sl z 0 m))) := by
  have hne : z ≠ n := fun e => by rw [e] at hzn; simp at hzn
  refine ⟨fun w0 ω0 nt a w ⟨η, ω, h⟩ => ?_⟩
  obtain ⟨u, hu, hdu⟩ := h.slots s _ hs0
  have hdu : Den1 η (.esl n i 0 m) u := hdu
  obtain ⟨hd, e1, e2, e3⟩ := h.chunk hc
  have e3 : VecO ω w (n, none) hd E cs.length (cellsOK η ω w true n (.mix cs)) := e3
  obtain ⟨ao, rfl, q1, _⟩ := hdu.2 hd e1
  have hil : i < cs.length := (List.getElem?_eq_some_iff.1 hi).1
  obtain ⟨b0, o0, u0, _, _, g3⟩ := Vec.get (own := true) e3 hil
  obtain ⟨r0, r1, r2, r3⟩ := g3.2 _ hi
  have r3 : VecO ω w (n, some i) (η.r n i) F vs.length fun j u => vs[j]? = some u := r3
  let ω' : Own? := fun b => if ω b = some (n, some i) then some (z, none) else ω b
  have calm : Calm (S.rm n) ω w ω' w := ⟨rfl, rfl, rfl, Nat.le_refl _, fun b _ hl => ⟨rfl, by
    have h1 : ω b ≠ some (n, some i) := by
      rcases hl with h0 | ⟨y, j, c, h0, h1⟩
      · rw [h0]; simp
      · rw [h0]; intro e; simp at e; rw [e.1, ch_rm, if_pos rfl] at h1; cases h1
    exact if_neg h1⟩⟩
  have key : ChIs { η with r := fun y j => if y = n then η.r n j else η.r y j } ω' w n hd ⟨true, E, kk, .mix (cs.set i .any)⟩ := by
    refine ⟨e2, ?_⟩
    rcases e3 with h0 | ⟨b, o, xs0, f1, f2, f3, f4, f5, f6, f7⟩
    · exact .inl (by simpa [Dat.len] using h0)
    · refine .inr ⟨b, o, xs0, f1, (if_neg (by rw [f2]; simp)).trans f2, f3, f4, by simpa [Dat.len] using f5, f6, fun j hj => ?_⟩
      have hj : j < cs.length := by simpa [Dat.len] using hj
      obtain ⟨u', hu', hk⟩ := f7 j hj
      refine ⟨u', hu', hk.1, fun c hc' => ?_⟩
      by_cases e : j = i
      · subst e; rw [List.getElem?_set_self hil] at hc'; obtain rfl := Option.some.inj hc'; trivial
      · rw [List.getElem?_set_ne (fun e' => e e'.symm)] at hc'
        have hv : ∀ (F : TypeId) (vs : List Value), VecO ω w (n, some j) (η.r n j) F vs.length (fun i u => vs[i]? = some u) → VecO ω' w (n, some j) (η.r n j) F vs.length (fun i u => vs[i]? = some u) := fun F vs f3 =>
          VecO.same (fun b2 _ ho => ⟨rfl, by show (if ω b2 = some (n, some i) then some (z, none) else ω b2) = _; rw [if_neg (by rw [ho]; simpa using e)]; exact ho⟩) (fun _ _ h => h) f3
        exact celOK.move (own := true) (own' := true) (if_pos rfl) (fun F k m vs _ f3 => hv F vs f3) (hk.2 c hc')
  have h1 := h.rewrite (n := n) (r := η.r n) e1 calm key
  have h2 := h1.lay (x := z) (c := ⟨true, F, k, .vals vs⟩) (hd := η.r n i) (r := fun _ => ⟨none, 0, 1⟩) (Calm.refl _ _ _) ⟨r2, by
    show VecO ω' w (z, none) (η.r n i) F vs.length _
    rcases r3 with h0 | ⟨b, o, xs0, f1, f2, f3, f4, f5, f6, f7⟩
    · exact .inl h0
    · exact .inr ⟨b, o, xs0, f1, if_pos f2, f3, f4, f5, f6, f7⟩⟩
  refine ⟨_, ω', { h2 with slots := fun t' av ht' => ?_ }⟩
  rw [sl_put] at ht'
  by_cases e : t' = s
  · subst e
    rw [if_pos rfl] at ht'
    obtain rfl := Option.some.inj ht'
    refine ⟨_, hu, ⟨_, _, rfl⟩, fun hd' he => ?_⟩
    simp [Env.new] at he
    subst he
    exact ⟨_, rfl, fun _ => q1 rfl, fun h0 => absurd h0 (by omega)⟩
  · rw [if_neg e] at ht'
    exact h2.slots t' av ht'

/-- a vector of the call's own is laid into cell i of a mixed vector -/
theorem stp_storeMx {T E F n i z k kk m : Nat} {cs : List Cel} {vs : List Value} (hx : S.op x = some (o1 (.ptr n i))) (hc : S.ch n = some ⟨true, E, kk, .mix cs⟩) (hy : S.op y = some (o1 (.sl z 0 m))) (hz : S.ch z = some ⟨true, F, k, .vals vs⟩)
    (hm : vs.length = m * k) (hzn : Nat.beq z n = false) (hi : i < cs.length) (hT : sizeB P T 1 = true) : Stp P nt ⟨none, .store T x y, ty, ps, af, gd⟩ S (((S.rm z).cutE n).set n ⟨true, E, kk, .mix (cs.set i (.r F k m vs))⟩) :=
  Stp.unit rfl fun w0 ω0 η ω a w hs => by
    have hne : z ≠ n := fun e => by rw [e] at hzn; simp at hzn
    have hp : Den1 η (.ptr n i) (a.eval x) := hs.opv hx
    have hv : Den1 η (.sl z 0 m) (a.eval y) := hs.opv hy
    obtain ⟨h, e1, e2, e3⟩ := hs.chunk hc
    obtain ⟨hz', z1, z2, z3⟩ := hs.chunk hz
    have z2 : hz'.k = k := z2
    have z3 : VecO ω w (z, none) hz' F vs.length (cellsOK η ω w true z (.vals vs)) := z3
    obtain ⟨az, hav, q1, _⟩ := hv.2 hz' z1
    obtain ⟨b, o, g1, g2⟩ := hp.2 h e1
    have e3 : VecO ω w (n, none) h E cs.length (cellsOK η ω w true n (.mix cs)) := e3
    rcases e3 with ⟨_, _, h0⟩ | ⟨b', o', xs0, f1, f2, f3, f4, f5, f6, f7⟩
    · omega
    rw [g1] at f1; injection f1 with f1; injection f1 with f1 f1'; subst f1 f1'
    obtain ⟨u, hu, _⟩ := f7 i hi
    have hcell : w.cell? ⟨b, o + i, none⟩ = some u := by rw [cell_of_row w b (o + i) xs0 E (0, 0) f3]; exact hu
    have hsz : o + i < xs0.size := by
      rcases Nat.lt_or_ge (o + i) xs0.size with hlt | hge
      · exact hlt
      · rw [Array.getElem?_eq_none hge] at hu; cases hu
    have hS : ((S.rm z).rm n).ch n = none := by simp [ch_rm]
    have hSz : ((S.rm z).rm n).ch z = none := by simp [ch_rm, hne]
    have hsame := same_setCell (w := w) f2 ⟨b, o + i, none⟩ rfl (.slice az m (hz'.c - 0))
    have calm : Calm ((S.rm z).rm n) ω w (Own?.give ω z n i) (w.setCell ⟨b, o + i, none⟩ (.slice az m (hz'.c - 0))) := ⟨rfl, rfl, rfl, hsame.1, fun b2 hb2 hl => by
      have h1 : ω b2 ≠ some (n, none) ∧ ω b2 ≠ some (z, none) := by
        rcases hl with h0 | ⟨y, j, c, h0, h1⟩
        · rw [h0]; simp
        · rw [h0]
          refine ⟨fun e => ?_, fun e => ?_⟩
          · simp at e; rw [e.1, hS] at h1; cases h1
          · simp at e; rw [e.1, hSz] at h1; cases h1
      exact ⟨(hsame.2 b2 hb2 h1.1).1, if_neg h1.2⟩⟩
    have key : ChIs { η.drop z with r := fun y j => if y = n then (if j = i then hz' else η.r n j) else η.r y j } (Own?.give ω z n i) (w.setCell ⟨b, o + i, none⟩ (.slice az m (hz'.c - 0))) n h ⟨true, E, kk, .mix (cs.set i (.r F k m vs))⟩ := by
      refine ⟨e2, ?_⟩
      have hbz : ω b ≠ some (z, none) := by rw [f2]; simp; exact fun e => hne e.symm
      refine .inr ⟨b, o, _, g1, (if_neg hbz).trans f2, heap_set f3 _, by simpa using f4, by show (cs.set i _).length ≤ _; rw [List.length_set]; exact f5, f6, fun j hj => ?_⟩
      have hj : j < cs.length := by simpa [Dat.len] using hj
      by_cases e : j = i
      · subst e
        refine ⟨.slice az m (hz'.c - 0), by simp [hsz], rfl, fun c hc' => ?_⟩
        rw [List.getElem?_set_self hi] at hc'
        obtain rfl := Option.some.inj hc'
        unfold celOK
        simp only [if_true]
        refine ⟨hm, by rw [q1 rfl]; rfl, z2, VecO.give z3 fun b2 hb2 ho => ⟨(hsame.2 b2 hb2 (by rw [ho]; simp; exact fun e => absurd e hne)).1, if_pos ho⟩⟩
      · obtain ⟨u', hu', hk⟩ := f7 j hj
        refine ⟨u', by rw [Array.getElem?_setIfInBounds_ne (by omega)]; exact hu', hk.1, fun c hc' => ?_⟩
        rw [List.getElem?_set_ne (fun e' => e e'.symm)] at hc'
        have hv : ∀ (F : TypeId) (vs : List Value), VecO ω w (n, some j) (η.r n j) F vs.length (fun i u => vs[i]? = some u) → VecO (Own?.give ω z n i) (w.setCell ⟨b, o + i, none⟩ (.slice az m (hz'.c - 0))) (n, some j) (η.r n j) F vs.length (fun i u => vs[i]? = some u) := fun F vs r3 =>
          VecO.same (fun b2 hb2 ho => ⟨(hsame.2 b2 hb2 (by rw [ho]; simp)).1, by unfold Own?.give; rw [if_neg (by rw [ho]; simp)]; exact ho⟩) (fun _ _ h => h) r3
        exact celOK.move (own := true) (own' := true) (by simp only [if_true, if_neg e]) (fun F k m vs _ f3 => hv F vs f3) (hk.2 c hc')
    have hfin := (hs.drop z).rewrite (n := n) (r := fun j => if j = i then hz' else η.r n j) (hd := h) (by show (if n = z then none else η.h n) = some h; rw [if_neg (fun e => hne e.symm)]; exact e1) calm key
    have hst := run_store1 (P := P) hT hcell (frozen_of f3) (v := .slice az m (hz'.c - 0)) rfl
    simp only [Nat.sub_zero] at hst hfin
    refine ⟨_, by simp [execOp, hav, g2, hst], _, _, hfin⟩

/-- an index into a row of a mixed vector -/
theorem stp_ixM {T : TypeId} {n : Nm} {i0 len j k m : Nat} {c : Ch} {F : TypeId} {cs : List Cel} {vs : List Value} {ki : IntKind} {i : Int} (ht : Nat.blt t nt = true) (hx : S.op x = some (o1 (.esl n i0 0 len))) (hy : S.op y = some (vv (.int ki i))) (hc : S.ch n = some c) (hd : c.d = .mix cs) (hT : elemB P T k = true)
    (hi0 : cs[i0]? = some (.r F k m vs)) (hk0 : 0 < k) (hi : i = (j : Int)) (hj : j < len) (hl : len ≤ m) : Stp P nt ⟨some t, .indexAddr T x y, ty, ps, af, gd⟩ S (S.put t (o1 (.eptr n i0 (j * k)))) :=
  Stp.pure rfl ht fun _ _ η ω a w hs => by
    obtain ⟨hd', h1, h2, h3⟩ := hs.chunk hc
    have hd1 : Den1 η (.esl n i0 0 len) (a.eval x) := hs.opv hx
    obtain ⟨ao, e1, e2, e3⟩ := hd1.2 hd' h1
    rw [hd] at h3
    obtain ⟨_, _, _, _, _, k3⟩ := h3.get (j := i0) (List.getElem?_eq_some_iff.1 hi0).1
    obtain ⟨q0, _, q2, q3⟩ := k3.2 _ hi0
    have hm0 : 0 < vs.length := by rw [q0]; exact Nat.mul_pos (by omega) hk0
    obtain ⟨b', o', u, f1, f2, f3⟩ := q3.get hm0
    have hao : ao = some ⟨b', o', none⟩ := by rw [e2 rfl, f1]
    subst hao
    refine ⟨.pointer (some ⟨b', o' + j * k, none⟩), by simp only [execOp, e1, hs.opV hy]; simp [run_indexAddr hT hj hi], ⟨_, rfl⟩, fun hd' he => ?_⟩
    rw [h1] at he; obtain rfl := Option.some.inj he
    exact ⟨b', o', f1, rfl⟩
/-- cells of a row of a mixed vector -/
theorem stp_loadEM {T : TypeId} {n : Nm} {i j k m : Nat} {c : Ch} {F : TypeId} {cs : List Cel} {vs : List Value} {v : Value} (ht : Nat.blt t nt = true) (hT : oneB P T = true) (hx : S.op x = some (o1 (.eptr n i j))) (hc : S.ch n = some c)
    (hd : c.d = .mix cs) (hi : cs[i]? = some (.r F k m vs)) (hj : vs[j]? = some v) : Stp P nt ⟨some t, .load T x, ty, ps, af, gd⟩ S (S.put t (vv v)) :=
  Stp.pure rfl ht fun _ _ η ω a w hs => by
    obtain ⟨hq, h1, _, h3⟩ := hs.chunk hc
    have hd1 : Den1 η (.eptr n i j) (a.eval x) := hs.opv hx
    obtain ⟨bb, o, e1, e2⟩ := hd1.2 hq h1
    rw [hd] at h3
    obtain ⟨_, _, _, _, _, f3⟩ := h3.get (j := i) (List.getElem?_eq_some_iff.1 hi).1
    obtain ⟨_, _, _, g3⟩ := f3.2 _ hi
    obtain ⟨b'', o'', u', k1, k2, k3⟩ := g3.get (j := j) (List.getElem?_eq_some_iff.1 hj).1
    rw [e1] at k1; injection k1 with k1; injection k1 with k1 k1'; subst k1 k1'
    rw [hj] at k3
    obtain rfl := Option.some.inj k3
    exact ⟨v, by simp [execOp, e2, run_load1 hT k2], rfl⟩
/-- an index into a vector of elements of k cells -/
theorem stp_ixT {T : TypeId} {n : Nm} {len j k K : Nat} {c : Ch} {ki : IntKind} {i : Int} (ht : Nat.blt t nt = true) (hx : S.op x = some (o1 (.sl n 0 len))) (hy : S.op y = some (vv (.int ki i))) (hc : S.ch n = some c) (hk : c.k = k) (hT : elemB P T k = true)
    (hi : i = (j : Int)) (hj : j < len) (hl : len * k ≤ c.d.len) (hk0 : 0 < k) (hK : j * k = K) : Stp P nt ⟨some t, .indexAddr T x y, ty, ps, af, gd⟩ S (S.put t (o1 (.ptr n K))) := by
  have := stp_indexAddr (P := P) (nt := nt) (t := t) (ty := ty) (ps := ps) (af := af) (gd := gd) ht hx hy hc hk hT hi hj (by rw [Nat.zero_add]; exact hl) hk0
  rwa [Nat.zero_add, hK] at this
/-- a struct of which one plain field is told -/
theorem stp_build1V {T : TypeId} {x0 : Operand} {v0 : Value} {vs : List Value} (ht : Nat.blt t nt = true) (hx0 : S.op x0 = some (vv v0)) (hb : P.built T [(0, v0)] = some vs.toArray) :
    Stp P nt ⟨some t, .build T #[(0, x0)], ty, ps, af, gd⟩ S (S.put t (.s (.agg (vs.map .val)))) :=
  Stp.of _ fun w0 ω0 η ω a w hs => by
    refine ⟨.agg vs.toArray, w, ?_, η, ω, hs.putV (by simpa using ht) (⟨_, rfl, by simp, fun j b hb => ?_⟩ : Den2 η (.agg (vs.map .val)) _)⟩
    · simp only [execOp]
      simp [hs.opV hx0, run_build w T #[(0, v0)] _ hb]
    · rw [List.getElem?_map, Option.map_eq_some_iff] at hb
      obtain ⟨v, hv, rfl⟩ := hb
      exact ⟨v, by simpa using hv, rfl⟩
/-- a literal of one struct of two plain cells -/
theorem stp_lit2V {T E : Nat} {x0 : Operand} {v0 v1 : Value} (ht : Nat.blt t nt = true) (hT : elZ P T E 2 = true) (hx : S.op x0 = some (.s (.agg [.val v0, .val v1]))) :
    Stp P nt ⟨some t, .buildSlice T 1 #[(0, x0)], ty, ps, af, gd⟩ S ((S.new t ⟨true, E, 2, .vals [v0, v1]⟩).put t (o1 (.sl t 0 1))) :=
  Stp.of _ fun w0 ω0 η ω a w hs => by
    obtain ⟨i, z, k1, k2, k3, k4, k5, k6⟩ := elZ_spec hT
    obtain ⟨us, hu, hul, hua⟩ : Den2 η (.agg [.val v0, .val v1]) (a.eval x0) := hs.opv hx
    obtain ⟨u0, g0, d0⟩ := hua 0 _ rfl
    obtain ⟨u1, g1, d1⟩ := hua 1 _ rfl
    have d0 : u0 = v0 := d0
    have d1 : u1 = v1 := d1
    subst d0 d1
    obtain rfl : us = #[u0, u1] := by
      have : us.size = 2 := hul
      match us with
      | ⟨[p, q]⟩ => simp at g0 g1; rw [g0, g1]
    refine ⟨.slice (some ⟨w.heap.size, 0, none⟩) 1 1, w.alloc (.cells #[u0, u1] E), ?_, ?_⟩
    · have hc : (Value.agg #[u0, u1]).cells = #[u0, u1] := rfl
      simp [execOp, Instr.buildSlice, run_underlying k1, sizeOf, typeInfo, k2, k3, zeroValue, k5, Instr.fill, newRow, hu, hc, range2]
    · have hal := hs.alloc (x := t) (c := ⟨true, E, 2, .vals [u0, u1]⟩) (cs := #[u0, u1]) (r := fun _ => ⟨none, 0, 1⟩) (n := 1) rfl (by simp) (by simp [Dat.len]) (by simp [maxLen]) fun j hj => by
        have hj : j < 2 := hj
        match j, hj with
        | 0, _ => exact ⟨_, by simp, rfl⟩
        | 1, _ => exact ⟨_, by simp, rfl⟩
      exact ⟨_, _, hal.putV (by simpa using ht) den_newsl⟩
theorem range3 (f : Nat → Value) : Array.map f (Array.range 3) = #[f 0, f 1, f 2] := by apply Array.ext'; simp [Array.toList_range, List.range_succ]
theorem range4 (f : Nat → Value) : Array.map f (Array.range 4) = #[f 0, f 1, f 2, f 3] := by apply Array.ext'; simp [Array.toList_range, List.range_succ]
theorem stp_lit3I {T E : Nat} {x0 x1 x2 : Operand} {z0 z1 z2 : Int} (ht : Nat.blt t nt = true) (hT : elZ P T E 1 = true) (hx0 : S.op x0 = some (vv (I6 z0))) (hx1 : S.op x1 = some (vv (I6 z1))) (hx2 : S.op x2 = some (vv (I6 z2))) :
    Stp P nt ⟨some t, .buildSlice T 3 #[(0, x0), (1, x1), (2, x2)], ty, ps, af, gd⟩ S ((S.new t ⟨true, E, 1, .vals (ivals [z0, z1, z2])⟩).put t (o1 (.sl t 0 3))) :=
  Stp.of _ fun w0 ω0 η ω a w hs => by
    obtain ⟨i, z, k1, k2, k3, k4, k5, k6⟩ := elZ_spec hT
    have h0 := hs.opV hx0
    have h1 := hs.opV hx1
    have h2 := hs.opV hx2
    refine ⟨.slice (some ⟨w.heap.size, 0, none⟩) 3 3, w.alloc (.cells #[I6 z0, I6 z1, I6 z2] E), ?_, ?_⟩
    · simp [execOp, Instr.buildSlice, run_underlying k1, sizeOf, typeInfo, k2, k3, zeroValue, k5, Instr.fill, newRow, h0, h1, h2, Value.cells, range3]
    · have hal := hs.alloc (x := t) (c := ⟨true, E, 1, .vals (ivals [z0, z1, z2])⟩) (cs := #[I6 z0, I6 z1, I6 z2]) (r := fun _ => ⟨none, 0, 1⟩) (n := 3) rfl (by simp) (by simp [Dat.len, ivals]) (by simp [maxLen]) fun j hj => by
        match j, hj with
        | 0, _ => exact ⟨I6 z0, by simp, rfl⟩
        | 1, _ => exact ⟨I6 z1, by simp, rfl⟩
        | 2, _ => exact ⟨I6 z2, by simp, rfl⟩
        | j + 3, hj => exact absurd hj (by simp [Dat.len, ivals])
      exact ⟨_, _, hal.putV (by simpa using ht) den_newsl⟩
theorem stp_lit4I {T E : Nat} {x0 x1 x2 x3 : Operand} {z0 z1 z2 z3 : Int} (ht : Nat.blt t nt = true) (hT : elZ P T E 1 = true) (hx0 : S.op x0 = some (vv (I6 z0))) (hx1 : S.op x1 = some (vv (I6 z1))) (hx2 : S.op x2 = some (vv (I6 z2))) (hx3 : S.op x3 = some (vv (I6 z3))) :
    Stp P nt ⟨some t, .buildSlice T 4 #[(0, x0), (1, x1), (2, x2), (3, x3)], ty, ps, af, gd⟩ S ((S.new t ⟨true, E, 1, .vals (ivals [z0, z1, z2, z3])⟩).put t (o1 (.sl t 0 4))) :=
  Stp.of _ fun w0 ω0 η ω a w hs => by
    obtain ⟨i, z, k1, k2, k3, k4, k5, k6⟩ := elZ_spec hT
    have h0 := hs.opV hx0
    have h1 := hs.opV hx1
    have h2 := hs.opV hx2
    have h3 := hs.opV hx3
    refine ⟨.slice (some ⟨w.heap.size, 0, none⟩) 4 4, w.alloc (.cells #[I6 z0, I6 z1, I6 z2, I6 z3] E), ?_, ?_⟩
    · simp [execOp, Instr.buildSlice, run_underlying k1, sizeOf, typeInfo, k2, k3, zeroValue, k5, Instr.fill, newRow, h0, h1, h2, h3, Value.cells, range4]
    · have hal := hs.alloc (x := t) (c := ⟨true, E, 1, .vals (ivals [z0, z1, z2, z3])⟩) (cs := #[I6 z0, I6 z1, I6 z2, I6 z3]) (r := fun _ => ⟨none, 0, 1⟩) (n := 4) rfl (by simp) (by simp [Dat.len, ivals]) (by simp [maxLen]) fun j hj => by
        match j, hj with
        | 0, _ => exact ⟨I6 z0, by simp, rfl⟩
        | 1, _ => exact ⟨I6 z1, by simp, rfl⟩
        | 2, _ => exact ⟨I6 z2, by simp, rfl⟩
        | 3, _ => exact ⟨I6 z3, by simp, rfl⟩
        | j + 4, hj => exact absurd hj (by simp [Dat.len, ivals])
      exact ⟨_, _, hal.putV (by simpa using ht) den_newsl⟩
end
end Go.Proofs.Ytnfkhgamnapgmaa
