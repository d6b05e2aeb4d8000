/- The presentation of a diagram: the data, and how one relator more is laid. -/
import Derived.Test.Ytdkmihnpobobiaa12Cox
namespace Go.Proofs.Ytdkmihnpobobiaa
open Go.RowKit

/-- the label between nodes i and j -/
def coxLab (zs : List Int) (i j : Nat) : Int := if j = i + 1 then iget zs i else 2
/-- the relators of nodes i and j: one, or none for label 0 -/
def coxOne (zs : List Int) (i j : Nat) : List (List Int) := if 0 < coxLab zs i j then [repL [(i : Int), (j : Int)] (coxLab zs i j).toNat] else []
/-- the relators of node i and the d nodes behind it -/
def coxRow (zs : List Int) (i : Nat) : Nat → List (List Int)
  | 0 => []
  | d + 1 => coxRow zs i d ++ coxOne zs i (i + 1 + d)
/-- the relators of the first k of N nodes -/
def coxUp (zs : List Int) (N : Nat) : Nat → List (List Int)
  | 0 => []
  | k + 1 => coxUp zs N k ++ coxRow zs k (N - (k + 1))
/-- the presentation of a diagram -/
def coxPres (zs : List Int) : PresD := (((zs.length + 1 : Nat) : Int), coxUp zs (zs.length + 1) (zs.length + 1))

theorem coxOne_len (zs : List Int) (i j : Nat) : (coxOne zs i j).length ≤ 1 := by unfold coxOne; split <;> simp
theorem coxRow_len (zs : List Int) (i d : Nat) : (coxRow zs i d).length ≤ d := by
  induction d with
  | zero => simp [coxRow]
  | succ d ih => have := coxOne_len zs i (i + 1 + d); simp [coxRow]; omega
theorem coxUp_len (zs : List Int) (N k : Nat) : (coxUp zs N k).length ≤ N * k := by
  induction k with
  | zero => simp [coxUp]
  | succ k ih => have := coxRow_len zs k (N - (k + 1)); simp [coxUp, Nat.mul_succ]; omega

/-- one element more, at the end of a row of the call's own, in a region that draws its order -/
theorem step_ap1 {P : Program} {S E : TypeId} {z : Value} {bytes : Nat} (et : ET P S E z bytes) {ops : Array Oper} {o : Oper} {a : Act} {Q : Exit → Act → World → Prop} {w : World} {K : Act → World → Prop} {X : Prop} (hg : o.guard = none) (s x : Operand) (ho : o.op = .call { callee := .builtin .append, args := #[s, x], argTypes := #[S, S] })
    (base : Nat) (ao : Option Addr) (n c : Nat) (xs : List Value) (hs : a.eval s = .slice ao n c) (hown : Own w base E ao n c xs) (u : Value) (xb xc : Nat)
    (hx : a.eval x = .slice (some ⟨xb, 0, none⟩) 1 xc) (hc : w.cell? ⟨xb, 0, none⟩ = some u) (hu : u.oneCell' = true) (hn : n + 1 ≤ 4398046511104) (hbase : base ≤ w.heap.size)
    (h : ∀ ao' c' w', Own w' base E ao' (n + 1) c' (xs ++ [u]) → w.grownBy w' (bk ao) → (bk ao' = bk ao ∨ bk ao' = some w.heap.size) → K (a.put o.dst (.slice ao' (n + 1) c')) w') : if Region.wanted o (yielded ops a.tmps) = true then Oper.wp P o a w K Q else X := by
  obtain ⟨i, hi, hz, hsz, hby⟩ := info_parts et.info
  have hw : Region.wanted o (yielded ops a.tmps) = true := by simp [Region.wanted, hg]
  rw [if_pos hw]
  obtain ⟨v', w', hr, h2, h3, h4, h5⟩ := run_append_own_at (P := P) w base S o.type E i z 1 bytes et.und hi hz hsz hby (by rw [et.one]; rfl) (by omega) (.slice ao n c) n xs hown.1 ⟨xb, 0, none⟩ 1 xc [u] rfl
    (by
      intro j u' hu'
      match j, hu' with
      | 0, hu' => simp at hu'; subst hu'; rw [Addr.add_lit]; exact hc)
    (by intro v hv; simp at hv; subst hv; exact hu) (by simp [maxLen]; omega) (by have := et.small; have : (n + 1) * bytes ≤ (n + 1) * 32 := Nat.mul_le_mul_left _ this; omega) hbase
  unfold Oper.wp execOp
  simp only [ho, resolve, invoke, builtin, Sem.run_bind, Sem.run_pure, Result.andThen_ok, List.map_toArray, List.map_cons, List.map_nil, hs, hx, hr]
  obtain ⟨g, cap, rfl, hb, hlt⟩ := h2.form (by omega)
  rw [ownBlock_slice] at h3
  refine h _ _ _ ⟨h2, hn⟩ h3 ?_
  rw [ownBlock_slice, ownBlock_slice] at h5
  exact h5

/-- a list of the call's own, just made, is laid at the end of a row of lists -/
theorem rows_push {T1 E lo : Nat} {wr w2 w3 w4 : World} {ao ao' ao2 : Option Addr} {m c n' c' c2 : Nat} {us : List Value} {ds : List (List Int)} {zs : List Int}
    (hR : OwR (OwS T1) wr lo wr.heap.size E ao m c us ds) (hlo : lo ≤ wr.heap.size) (hb : Below wr.heap.size wr w2) (hu : Own w2 wr.heap.size T1 ao' n' c' (zs.map (Value.int .i64))) (hb3 : Below w2.heap.size w2 w3)
    (hown : Own w4 lo E ao2 (m + 1) c2 (us ++ [.slice ao' n' c'])) (hg : w3.grownBy w4 (bk ao)) (hat : bk ao2 = bk ao ∨ bk ao2 = some w3.heap.size) :
    OwR (OwS T1) w4 lo w4.heap.size E ao2 (m + 1) c2 (us ++ [.slice ao' n' c']) (ds ++ [zs]) := by
  have hR3 : OwR (OwS T1) w3 lo wr.heap.size E ao m c us ds := hR.below (innerS _) (hb.trans (hb3.mono hb.size))
  have s1 := hb.size
  have s2 := hb3.size
  have s3 := hg.size
  have hub : ∀ g, bk ao' = some g → wr.heap.size ≤ g ∧ g < w2.heap.size := hu.lt
  have hne : ∀ g, bk ao' = some g → bk ao ≠ some g := fun g h1 h2 => by have := hub g h1; have := hR.top g h2; omega
  have hu4 : OwS T1 w4 (.slice ao' n' c') zs := (innerS T1).loc (w := w2) ⟨ao', n', c', rfl, hu.mono (Nat.zero_le _)⟩ fun g h => by
    rw [ownBlock_slice] at h
    have := hub g h
    rw [hg.block g (by omega) (fun e => hne g h e.symm)]
    exact hb3.block g this.2
  refine hR3.push (innerS _) hown hg hu4 (in_slice fun g h => ⟨by have := hub g h; omega, by have := hub g h; omega⟩) (fun g h => (hown.lt g h).2) (by omega) ?_ ?_
  · intro g h
    rcases hat with h1 | h1
    · exact .inl (h1 ▸ h)
    · refine .inr fun j u hj e => ?_
      rw [h1] at h; obtain rfl := Option.some.inj h
      have := (hR3.rng j u hj _ e).2
      omega
  · intro g h
    rw [ownBlock_slice] at h
    have hh := hub g h
    refine ⟨fun e => ?_, fun j v hj e => ?_⟩
    · rcases hat with h1 | h1
      · exact hne g h (h1 ▸ e)
      · rw [h1] at e; have := Option.some.inj e; omega
    · have := (hR3.rng j v hj _ e).2; omega
end Go.Proofs.Ytdkmihnpobobiaa
