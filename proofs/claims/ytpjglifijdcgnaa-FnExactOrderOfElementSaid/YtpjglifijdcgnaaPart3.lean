/- A memory of names: everyday forms of alloc and append. No program in sight. -/
import Derived.Test.YtpjglifijdcgnaaPart2
import Derived.Test.YtpjglifijdcgnaaProg
namespace Go.Proofs.Ytpjglifijdcgnaa
open Go.RowKit


section
variable {P : Program} {nt : Nat} {S S' : St} {w0 w : World} {ω0 : Beg} {ω : Own?} {η : Env} {a : Act}
variable {t : Nat} {ty : TypeId} {ps : String} {af : Array Edge} {gd : Option (Nat × Bool)} {x y : Operand} {av : AV}
theorem stp_allocZ {T : TypeId} (zs : List Value) (ht : Nat.blt t nt = true) (hz : ((P.info? T).bind (·.zero)).map (fun v => v.cells.toList) = some zs) :
    Stp P nt ⟨some t, .alloc T, ty, ps, af, gd⟩ S ((S.new t ⟨true, T, zs.length, .flat (zs.map .val)⟩).put t (o1 (.ptr t 0))) := by

  simp only [Option.map_eq_some_iff, Option.bind_eq_some_iff] at hz
  obtain ⟨z, ⟨i, hi, hz⟩, rfl⟩ := hz
  have := stp_alloc (P := P) (nt := nt) (S := S) (t := t) (ty := ty) (ps := ps) (af := af) (gd := gd) ht hi hz
  simpa using this
theorem stp_lit0R {T E F : Nat} (ht : Nat.blt t nt = true) (hT : elZ P T E 1 = true) :
    Stp P nt ⟨some t, .buildSlice T 0 #[], ty, ps, af, gd⟩ S ((S.new t ⟨true, E, 1, .rows F (irows []) []⟩).put t (o1 (.sl t 0 0))) :=
  Stp.of _ fun w0 ω0 η ω a w hs => by
    obtain ⟨i, z, h1, h2, h3, h4, h5, h6⟩ := elZ_spec hT
    refine ⟨.slice (some ⟨w.heap.size, 0, none⟩) 0 0, w.alloc (.cells #[] E), by simp [execOp, Instr.buildSlice, run_underlying h1, sizeOf, typeInfo, h2, Instr.fill, newRow, range0], ?_⟩
    have hal := hs.alloc (x := t) (c := ⟨true, E, 1, .rows F (irows []) []⟩) (cs := #[]) (r := fun _ => ⟨none, 0, 1⟩) (n := 0) rfl (by simp) (by simp [Dat.len, irows]) (by simp [maxLen]) fun j hj => absurd hj (by simp [Dat.len, irows])
    exact ⟨_, _, hal.putV (by simpa using ht) den_newsl⟩
theorem stp_lit1I {T E : Nat} {x0 : Operand} {z0 : Int} (ht : Nat.blt t nt = true) (hT : elZ P T E 1 = true) (hx : S.op x0 = some (vv (I6 z0))) :
    Stp P nt ⟨some t, .buildSlice T 1 #[(0, x0)], ty, ps, af, gd⟩ S ((S.new t ⟨true, E, 1, .vals (ivals [z0])⟩).put t (o1 (.sl t 0 1))) :=
  Stp.of _ fun w0 ω0 η ω a w hs => by
    obtain ⟨i, z, k1, k2, k3, k4, k5, k6⟩ := elZ_spec hT
    have h0 := hs.opV hx
    refine ⟨.slice (some ⟨w.heap.size, 0, none⟩) 1 1, w.alloc (.cells #[I6 z0] E), ?_, ?_⟩
    · simp [execOp, Instr.buildSlice, run_underlying k1, sizeOf, typeInfo, k2, k3, zeroValue, k5, Instr.fill, newRow, h0, Value.cells, range1]
    · have hal := hs.alloc (x := t) (c := ⟨true, E, 1, .vals (ivals [z0])⟩) (cs := #[I6 z0]) (r := fun _ => ⟨none, 0, 1⟩) (n := 1) rfl (by simp) (by simp [Dat.len, ivals]) (by simp [maxLen]) fun j hj => by
        have hj0 : j = 0 := by simp [Dat.len, ivals] at hj; omega
        subst hj0
        exact ⟨I6 z0, by simp, rfl⟩
      exact ⟨_, _, hal.putV (by simpa using ht) den_newsl⟩
theorem stp_lit2I {T E : Nat} {x0 x1 : Operand} {z0 z1 : Int} (ht : Nat.blt t nt = true) (hT : elZ P T E 1 = true) (hx0 : S.op x0 = some (vv (I6 z0))) (hx1 : S.op x1 = some (vv (I6 z1))) :
    Stp P nt ⟨some t, .buildSlice T 2 #[(0, x0), (1, x1)], ty, ps, af, gd⟩ S ((S.new t ⟨true, E, 1, .vals (ivals [z0, z1])⟩).put t (o1 (.sl t 0 2))) :=
  Stp.of _ fun w0 ω0 η ω a w hs => by
    obtain ⟨i, z, k1, k2, k3, k4, k5, k6⟩ := elZ_spec hT
    have h0 := hs.opV hx0
    have h1 := hs.opV hx1
    refine ⟨.slice (some ⟨w.heap.size, 0, none⟩) 2 2, w.alloc (.cells #[I6 z0, I6 z1] E), ?_, ?_⟩
    · simp [execOp, Instr.buildSlice, run_underlying k1, sizeOf, typeInfo, k2, k3, zeroValue, k5, Instr.fill, newRow, h0, h1, Value.cells, range2]
    · have hal := hs.alloc (x := t) (c := ⟨true, E, 1, .vals (ivals [z0, z1])⟩) (cs := #[I6 z0, I6 z1]) (r := fun _ => ⟨none, 0, 1⟩) (n := 2) rfl (by simp) (by simp [Dat.len, ivals]) (by simp [maxLen]) fun j hj => by
        match j, hj with
        | 0, _ => exact ⟨I6 z0, by simp, rfl⟩
        | 1, _ => exact ⟨I6 z1, by simp, rfl⟩
        | j + 2, hj => exact absurd hj (by simp [Dat.len, ivals])
      exact ⟨_, _, hal.putV (by simpa using ht) den_newsl⟩
/-- append of one integer -/
theorem stp_appI {T E n q len : Nat} {c : Ch} {zs : List Int} {z : Int} (ht : Nat.blt t nt = true) (hT : elZ P T E 1 = true) (hx : S.op x = some (o1 (.sl n 0 len))) (hc : S.ch n = some c) (hce : c = ⟨true, E, 1, .vals (ivals zs)⟩) (hl : zs.length = len)
    (hy : S.op y = some (o1 (.sl q 0 1))) (hq : S.ch q = some ⟨true, E, 1, .vals (ivals [z])⟩) (hb : len + 1 ≤ 2199023255552) :
    Stp P nt ⟨some t, .call { callee := .builtin .append, args := #[x, y], argTypes := #[T, T] }, ty, ps, af, gd⟩ S ((S.new n ⟨true, E, 1, .vals (ivals (zs ++ [z]))⟩).put t (o1 (.sl n 0 (len + 1)))) := by
  have := stp_append (P := P) (nt := nt) (ty := ty) (ps := ps) (af := af) (gd := gd) (vs := ivals zs) (news := ivals [z]) (m := 1) (k := 1) ht hT rfl hx hc hce rfl (by rw [ivals_len]; omega) hy (reads_all hq rfl rfl rfl) (by omega) (by intro v hv; simp [ivals] at hv; subst hv; rfl) hb
  rw [Nat.zero_mul, List.drop_zero, show ivals zs ++ ivals [z] = ivals (zs ++ [z]) from ivals_app zs z] at this
  exact this
/-- append of a row of integers -/
theorem stp_appR {T E F n z q len m : Nat} {zss : List (List Int)} {zs : List Int} (ht : Nat.blt t nt = true) (hT : elZ P T E 1 = true) (hx : S.op x = some (o1 (.sl n 0 len))) (hc : S.ch n = some ⟨true, E, 1, .rows F (irows zss) []⟩) (hl : zss.length = len)
    (hy : S.op y = some (o1 (.sl q 0 1))) (hq : S.ch q = some ⟨true, E, 1, .flat [.sl z 0 m]⟩) (hz : S.ch z = some ⟨true, F, 1, .vals (ivals zs)⟩) (hm : zs.length = m) (hzn : Nat.beq z n = false) (hb : len + 1 ≤ 2199023255552) :
    Stp P nt ⟨some t, .call { callee := .builtin .append, args := #[x, y], argTypes := #[T, T] }, ty, ps, af, gd⟩ S (((S.rm z).new n ⟨true, E, 1, .rows F (irows (zss ++ [zs])) []⟩).put t (o1 (.sl n 0 (len + 1)))) := by
  have := stp_appendRow (P := P) (nt := nt) (ty := ty) (ps := ps) (af := af) (gd := gd) ht hT hx hc (by rw [irows_len]; exact hl) hy hq hz (by rw [ivals_len]; exact hm) hzn hb
  rwa [irows_app] at this
theorem stp_stI {T : TypeId} {n : Nm} {i : Nat} {c : Ch} {zs : List Int} {z : Int} (hx : S.op x = some (o1 (.ptr n i))) (hy : S.op y = some (vv (I6 z))) (hc : S.ch n = some c) (hown : c.own = true) (hd : c.d = .vals (ivals zs)) (hi : i < zs.length) (hT : sizeB P T 1 = true) :
    Stp P nt ⟨none, .store T x y, ty, ps, af, gd⟩ S (S.set n { c with d := .vals (ivals (zs.set i z)) }) := by
  have := stp_storeV (P := P) (nt := nt) (ty := ty) (ps := ps) (af := af) (gd := gd) hx hy hc hown hd (by rw [ivals_len]; exact hi) hT rfl
  rwa [ivals_set] at this
/-- element j of row i -/
def rset (zss : List (List Int)) (i j : Nat) (z : Int) : List (List Int) := zss.set i ((lget zss i).set j z)
theorem stp_stE {T : TypeId} {n : Nm} {i j : Nat} {c : Ch} {E : TypeId} {zss : List (List Int)} {z : Int} (hx : S.op x = some (o1 (.eptr n i j))) (hy : S.op y = some (vv (I6 z))) (hc : S.ch n = some c) (hown : c.own = true)
    (hd : c.d = .rows E (irows zss) []) (hi : i < zss.length) (hj : j < (lget zss i).length) (hT : sizeB P T 1 = true) : Stp P nt ⟨none, .store T x y, ty, ps, af, gd⟩ S (S.set n { c with d := .rows E (irows (rset zss i j z)) [] }) := by
  have := stp_storeE (P := P) (nt := nt) (ty := ty) (ps := ps) (af := af) (gd := gd) hx hy hc hown hd (by simp) (irows_get hi) (by rw [ivals_len]; exact hj) hT rfl
  rwa [ivals_set, irows_set] at this
end
section
variable {P : Program} {nt : Nat} {w0 : World} {ω0 : Beg} {S S1 S' : St} {Q : Exit → Act → World → Prop}
/-- the ways of a test meet again -/
theorem goes_join (S' : St) {c : Operand} {x y : Code} {b : Bool} (hc : S.op c = some (vv (.bool b))) (ht : b = true → Goes P w0 ω0 nt S x (fun e a w => e = .normal ∧ Sat w0 ω0 nt S' a w)) (hf : b = false → Goes P w0 ω0 nt S y (fun e a w => e = .normal ∧ Sat w0 ω0 nt S' a w)) (k : Fin w0 ω0 nt S' .normal Q) :
    Goes P w0 ω0 nt S (.cond c x y) Q := goes_cond hc (fun h => ⟨fun a w hs => Code.wp_mono (fun e a w he => by obtain ⟨rfl, h2⟩ := he; exact k.go a w h2) ((ht h).go a w hs)⟩) (fun h => ⟨fun a w hs => Code.wp_mono (fun e a w he => by obtain ⟨rfl, h2⟩ := he; exact k.go a w h2) ((hf h).go a w hs)⟩)
end
end Go.Proofs.Ytpjglifijdcgnaa

/- Coset enumeration: what it computes, on lists. No program in sight. -/
namespace Go.Proofs.Ytpjglifijdcgnaa

/-- where a coset is after all identifications -/
def toRoot (less : List Int) : Nat → Nat → Nat
  | 0, c => c
  | f + 1, c => if iget less c = c then c else toRoot less f (iget less c).toNat
/-- each coset points to itself or to a lesser one -/
def Down (less : List Int) : Prop := ∀ c, c < less.length → 0 ≤ iget less c ∧ iget less c ≤ c
def root (less : List Int) (c : Nat) : Nat := toRoot less (c + 1) c
theorem toRoot_more {less : List Int} (hd : Down less) : ∀ (f f' c : Nat), c < less.length → c < f → c < f' → toRoot less f c = toRoot less f' c := by
  intro f
  induction f with
  | zero => intro f' c _ h; omega
  | succ f ih =>
    intro f' c hc h h'
    cases f' with
    | zero => omega
    | succ f' =>
      unfold toRoot
      by_cases e : iget less c = c
      · rw [if_pos e, if_pos e]
      · rw [if_neg e, if_neg e]
        have h1 := hd c hc
        exact ih f' _ (by omega) (by omega) (by omega)
theorem root_of {less : List Int} {c : Nat} (h : iget less c = c) : root less c = c := by unfold root toRoot; rw [if_pos h]
theorem root_step {less : List Int} (hd : Down less) {c : Nat} (hc : c < less.length) (h : iget less c ≠ c) : root less c = root less (iget less c).toNat := by
  have h1 := hd c hc
  unfold root
  rw [show toRoot less (c + 1) c = toRoot less c (iget less c).toNat by rw [toRoot, if_neg h]]
  exact toRoot_more hd _ _ _ (by omega) (by omega) (by omega)
theorem root_fix {less : List Int} (hd : Down less) : ∀ c, c < less.length → iget less (root less c) = root less c ∧ root less c ≤ c := by
  intro c
  induction c using Nat.strongRecOn with
  | _ c ih =>
    intro hc
    by_cases e : iget less c = c
    · rw [root_of e]; exact ⟨e, Nat.le_refl _⟩
    · have h1 := hd c hc
      rw [root_step hd hc e]
      have := ih (iget less c).toNat (by omega) (by omega)
      exact ⟨this.1, by omega⟩
theorem root_lt {less : List Int} (hd : Down less) {c : Nat} (hc : c < less.length) : root less c < less.length := Nat.lt_of_le_of_lt (root_fix hd c hc).2 hc

def ent (im : List (List Int)) (c g : Nat) : Int := iget (lget im c) g
def image (im : List (List Int)) (less : List Int) (c g : Nat) : Int := if ent im c g < 0 then -1 else root less (ent im c g).toNat

theorem iget_set {zs : List Int} {i j : Nat} {z : Int} : iget (zs.set i z) j = if i = j ∧ i < zs.length then z else iget zs j := by
  simp only [iget, List.getD_eq_getElem?_getD, List.getElem?_set]
  by_cases h : i = j
  · subst h
    by_cases h2 : i < zs.length
    · simp [h2]
    · simp [h2]
  · simp [h]
theorem lget_set {zss : List (List Int)} {i j : Nat} {z : List Int} : lget (zss.set i z) j = if i = j ∧ i < zss.length then z else lget zss j := by
  simp only [lget, List.getD_eq_getElem?_getD, List.getElem?_set]
  by_cases h : i = j
  · subst h
    by_cases h2 : i < zss.length
    · simp [h2]
    · simp [h2]
  · simp [h]
theorem rset_len (im : List (List Int)) (c g : Nat) (z : Int) : (rset im c g z).length = im.length := by simp [rset]
theorem rset_row (im : List (List Int)) (c g : Nat) (z : Int) (k : Nat) : (lget (rset im c g z) k).length = (lget im k).length := by
  unfold rset
  rw [lget_set]
  split
  · rename_i h; rw [← h.1]; simp
  · rfl
theorem ent_rset {im : List (List Int)} {c g k j : Nat} {z : Int} (hc : c < im.length) (hg : g < (lget im c).length) : ent (rset im c g z) k j = if c = k ∧ g = j then z else ent im k j := by
  unfold ent rset
  rw [lget_set]
  by_cases h : c = k
  · subst h
    rw [if_pos ⟨rfl, hc⟩, iget_set]
    by_cases h2 : g = j
    · subst h2; rw [if_pos ⟨rfl, hg⟩, if_pos ⟨rfl, rfl⟩]
    · rw [if_neg (fun e => h2 e.1), if_neg (fun e => h2 e.2)]
  · rw [if_neg (fun e => h e.1), if_neg (fun e => h e.1)]

/-- one generator of two cosets that are identified -/
def stepG (lo hi g : Nat) (s : List (List Int) × List (Int × Int)) : List (List Int) × List (Int × Int) :=
  if ent s.1 hi g < 0 then s else if 0 ≤ ent s.1 lo g then (s.1, s.2 ++ [(ent s.1 hi g, ent s.1 lo g)]) else (rset s.1 lo g (ent s.1 hi g), s.2)
def mergeUp (lo hi : Nat) (s : List (List Int) × List (Int × Int)) : Nat → List (List Int) × List (Int × Int)
  | 0 => s
  | g + 1 => stepG lo hi g (mergeUp lo hi s g)

structure WF (ng : Nat) (im : List (List Int)) (less : List Int) : Prop where
  len : im.length = less.length
  row : ∀ c, c < im.length → (lget im c).length = ng
  down : Down less
  ent : ∀ c g, c < im.length → g < ng → ent im c g < less.length
def QOK (n : Nat) (q : List (Int × Int)) : Prop := ∀ p ∈ q, (0 ≤ p.1 ∧ p.1 < n) ∧ 0 ≤ p.2 ∧ p.2 < n
theorem WF.set_im {ng : Nat} {im : List (List Int)} {less : List Int} (h : WF ng im less) {c g : Nat} {z : Int} (hc : c < im.length) (hg : g < ng) (hz : z < less.length) : WF ng (rset im c g z) less :=
  { len := by rw [rset_len]; exact h.len
    row := fun k hk => by rw [rset_row]; exact h.row k (by rwa [rset_len] at hk)
    down := h.down
    ent := fun k j hk hj => by
      rw [ent_rset hc (by rw [h.row c hc]; exact hg)]
      split
      · exact hz
      · exact h.ent k j (by rwa [rset_len] at hk) hj }
theorem down_set {less : List Int} (h : Down less) {lo hi : Nat} (hlt : lo ≤ hi) : Down (less.set hi (lo : Int)) := fun c hc => by
  rw [List.length_set] at hc
  rw [iget_set]
  split
  · rename_i e; rw [← e.1]; omega
  · exact h c hc
theorem WF.set_less {ng : Nat} {im : List (List Int)} {less : List Int} (h : WF ng im less) {lo hi : Nat} (hlt : lo ≤ hi) : WF ng im (less.set hi (lo : Int)) :=
  { len := by rw [List.length_set]; exact h.len
    row := h.row, down := down_set h.down hlt
    ent := fun c g hc hg => by rw [List.length_set]; exact h.ent c g hc hg }
/-- what a round over the generators keeps -/
theorem mergeUp_ok {ng lo hi : Nat} {im : List (List Int)} {less : List Int} {q : List (Int × Int)} (h : WF ng im less) (hlo : lo < im.length) (hhi : hi < im.length) (hq : QOK less.length q) :
    ∀ g, g ≤ ng → WF ng (mergeUp lo hi (im, q) g).1 less ∧ QOK less.length (mergeUp lo hi (im, q) g).2 ∧ (mergeUp lo hi (im, q) g).2.length ≤ q.length + g ∧ (mergeUp lo hi (im, q) g).1.length = im.length
  | 0, _ => ⟨h, hq, by simp [mergeUp], rfl⟩
  | g + 1, hg => by
    obtain ⟨h1, h2, h3, h4⟩ := mergeUp_ok h hlo hhi hq g (by omega)
    simp only [mergeUp, stepG]
    split
    · exact ⟨h1, h2, by omega, h4⟩
    · rename_i hn
      have e1 := h1.ent hi g (by omega) (by omega)
      split
      · rename_i hp
        have e2 := h1.ent lo g (by omega) (by omega)
        refine ⟨h1, fun p hp' => ?_, by simp; omega, h4⟩
        rcases List.mem_append.1 hp' with h5 | h5
        · exact h2 p h5
        · simp at h5; subst h5; exact ⟨⟨by omega, e1⟩, hp, e2⟩
      · exact ⟨h1.set_im (by omega) (by omega) e1, h2, by dsimp only; omega, by rw [rset_len]; exact h4⟩

/-- the identifications, one after the other -/
def identLoop (ng : Nat) : Nat → List (List Int) → List Int → List (Int × Int) → List (List Int) × List Int
  | 0, im, less, _ => (im, less)
  | _ + 1, im, less, [] => (im, less)
  | f + 1, im, less, p :: q =>
    let c := root less p.1.toNat
    let d := root less p.2.toNat
    if c = d then identLoop ng f im less q
    else identLoop ng f (mergeUp (min c d) (max c d) (im, q) ng).1 (less.set (max c d) (min c d : Nat)) (mergeUp (min c d) (max c d) (im, q) ng).2
def alive (less : List Int) : Nat := ((List.range less.length).filter fun c => iget less c == (c : Int)).length
def fuel (ng : Nat) (less : List Int) (q : List (Int × Int)) : Nat := alive less * (ng + 1) + q.length
theorem alive_set {less : List Int} {lo hi : Nat} (h : hi < less.length) (hlt : lo < hi) (hfix : iget less hi = hi) : alive (less.set hi (lo : Int)) + 1 = alive less := by
  unfold alive
  rw [List.length_set]
  have key : ∀ n, hi < n → ((List.range n).filter fun c => iget (less.set hi (lo : Int)) c == (c : Int)).length + 1 = ((List.range n).filter fun c => iget less c == (c : Int)).length := by
    intro n
    induction n with
    | zero => intro h; omega
    | succ n ih =>
      intro hn
      rw [List.range_succ, List.filter_append, List.filter_append, List.length_append, List.length_append]
      by_cases e : hi = n
      · subst e
        have h0 : ∀ k, k ≤ hi → ((List.range k).filter fun c => iget (less.set hi (lo : Int)) c == (c : Int)) = (List.range k).filter fun c => iget less c == (c : Int) := fun k hk => by
          apply List.filter_congr
          intro c hc
          rw [iget_set, if_neg (by have := List.mem_range.1 hc; omega)]
        rw [h0 hi (Nat.le_refl _)]
        have h1 : (iget (less.set hi (lo : Int)) hi == (hi : Int)) = false := by
          rw [iget_set, if_pos ⟨rfl, h⟩]; simp; omega
        have h2 : (iget less hi == (hi : Int)) = true := by simp [hfix]
        simp [h1, h2]
      · have := ih (by omega)
        have h1 : iget (less.set hi (lo : Int)) n = iget less n := by rw [iget_set, if_neg (fun e' => e e'.1)]
        simp only [List.filter_cons, List.filter_nil, h1]
        omega
  exact key less.length h
theorem identLoop_more {ng : Nat} : ∀ (f f' : Nat) (im : List (List Int)) (less : List Int) (q : List (Int × Int)), WF ng im less → QOK less.length q → fuel ng less q ≤ f → fuel ng less q ≤ f' → identLoop ng f im less q = identLoop ng f' im less q
  | 0, f', im, less, q, _, _, h, h' => by
    have hq : q = [] := List.eq_nil_of_length_eq_zero (by unfold fuel at h; omega)
    subst hq
    cases f' <;> rfl
  | f + 1, 0, im, less, q, _, _, h, h' => by
    have hq : q = [] := List.eq_nil_of_length_eq_zero (by unfold fuel at h'; omega)
    subst hq
    rfl
  | f + 1, f' + 1, im, less, [], _, _, _, _ => rfl
  | f + 1, f' + 1, im, less, p :: q, hw, hq, h, h' => by
    have hp := hq p (by simp)
    have hq' : QOK less.length q := fun x hx => hq x (by simp [hx])
    have hr1 := root_lt hw.down (c := p.1.toNat) (by omega)
    have hr2 := root_lt hw.down (c := p.2.toNat) (by omega)
    have hf : fuel ng less (p :: q) = fuel ng less q + 1 := by unfold fuel; simp; omega
    simp only [identLoop]
    split
    · exact identLoop_more f f' im less q hw hq' (by omega) (by omega)
    · rename_i hne
      have hlt : min (root less p.1.toNat) (root less p.2.toNat) < max (root less p.1.toNat) (root less p.2.toNat) := by omega
      have hhi : max (root less p.1.toNat) (root less p.2.toNat) < less.length := by omega
      obtain ⟨h1, h2, h3, h4⟩ := mergeUp_ok hw (lo := min (root less p.1.toNat) (root less p.2.toNat)) (hi := max (root less p.1.toNat) (root less p.2.toNat)) (by rw [hw.len]; omega) (by rw [hw.len]; omega) hq' ng (Nat.le_refl _)
      have hfix : iget less (max (root less p.1.toNat) (root less p.2.toNat)) = (max (root less p.1.toNat) (root less p.2.toNat) : Nat) := by
        rcases Nat.le_total (root less p.1.toNat) (root less p.2.toNat) with h5 | h5
        · rw [Nat.max_eq_right h5]; exact (root_fix hw.down _ (by omega)).1
        · rw [Nat.max_eq_left h5]; exact (root_fix hw.down _ (by omega)).1
      have ha := alive_set hhi hlt hfix
      have hfu : fuel ng (less.set (max (root less p.1.toNat) (root less p.2.toNat)) ((min (root less p.1.toNat) (root less p.2.toNat) : Nat) : Int)) (mergeUp (min (root less p.1.toNat) (root less p.2.toNat)) (max (root less p.1.toNat) (root less p.2.toNat)) (im, q) ng).2 + 1 ≤ fuel ng less (p :: q) := by
        unfold fuel
        rw [← ha, Nat.add_mul, List.length_cons]
        omega
      exact identLoop_more f f' _ _ _ (h1.set_less (by omega)) (by rw [List.length_set]; exact h2) (by omega) (by omega)
def ident (ng : Nat) (im : List (List Int)) (less : List Int) (q : List (Int × Int)) : List (List Int) × List Int := identLoop ng (fuel ng less q) im less q
theorem ident_nil (ng : Nat) (im : List (List Int)) (less : List Int) : ident ng im less [] = (im, less) := by unfold ident; cases fuel ng less [] <;> rfl
theorem ident_same {ng : Nat} {im : List (List Int)} {less : List Int} {p : Int × Int} {q : List (Int × Int)} (hw : WF ng im less) (hq : QOK less.length (p :: q)) (h : root less p.1.toNat = root less p.2.toNat) : ident ng im less (p :: q) = ident ng im less q := by
  unfold ident
  have hf : fuel ng less (p :: q) = fuel ng less q + 1 := by unfold fuel; simp; omega
  rw [hf]
  simp only [identLoop, if_pos h]
/-- the state and the queue behind a true identification -/
def mergeSt (ng : Nat) (im : List (List Int)) (q : List (Int × Int)) (c d : Nat) : List (List Int) × List (Int × Int) := mergeUp (min c d) (max c d) (im, q) ng
theorem ident_merge {ng : Nat} {im : List (List Int)} {less : List Int} {p : Int × Int} {q : List (Int × Int)} (hw : WF ng im less) (hq : QOK less.length (p :: q)) (h : root less p.1.toNat ≠ root less p.2.toNat) :
    ident ng im less (p :: q) = ident ng (mergeSt ng im q (root less p.1.toNat) (root less p.2.toNat)).1 (less.set (max (root less p.1.toNat) (root less p.2.toNat)) ((min (root less p.1.toNat) (root less p.2.toNat) : Nat) : Int)) (mergeSt ng im q (root less p.1.toNat) (root less p.2.toNat)).2 ∧
    WF ng (mergeSt ng im q (root less p.1.toNat) (root less p.2.toNat)).1 (less.set (max (root less p.1.toNat) (root less p.2.toNat)) ((min (root less p.1.toNat) (root less p.2.toNat) : Nat) : Int)) ∧
    QOK less.length (mergeSt ng im q (root less p.1.toNat) (root less p.2.toNat)).2 ∧
    fuel ng (less.set (max (root less p.1.toNat) (root less p.2.toNat)) ((min (root less p.1.toNat) (root less p.2.toNat) : Nat) : Int)) (mergeSt ng im q (root less p.1.toNat) (root less p.2.toNat)).2 < fuel ng less (p :: q) := by
  have hp := hq p (by simp)
  have hq' : QOK less.length q := fun x hx => hq x (by simp [hx])
  have hr1 := root_lt hw.down (c := p.1.toNat) (by omega)
  have hr2 := root_lt hw.down (c := p.2.toNat) (by omega)
  have hlt : min (root less p.1.toNat) (root less p.2.toNat) < max (root less p.1.toNat) (root less p.2.toNat) := by omega
  have hhi : max (root less p.1.toNat) (root less p.2.toNat) < less.length := by omega
  obtain ⟨h1, h2, h3, h4⟩ := mergeUp_ok hw (lo := min (root less p.1.toNat) (root less p.2.toNat)) (hi := max (root less p.1.toNat) (root less p.2.toNat)) (by rw [hw.len]; omega) (by rw [hw.len]; omega) hq' ng (Nat.le_refl _)
  have hfix : iget less (max (root less p.1.toNat) (root less p.2.toNat)) = (max (root less p.1.toNat) (root less p.2.toNat) : Nat) := by
    rcases Nat.le_total (root less p.1.toNat) (root less p.2.toNat) with h5 | h5
    · rw [Nat.max_eq_right h5]; exact (root_fix hw.down _ (by omega)).1
    · rw [Nat.max_eq_left h5]; exact (root_fix hw.down _ (by omega)).1
  have ha := alive_set hhi hlt hfix
  have hfu : fuel ng (less.set (max (root less p.1.toNat) (root less p.2.toNat)) ((min (root less p.1.toNat) (root less p.2.toNat) : Nat) : Int)) (mergeSt ng im q (root less p.1.toNat) (root less p.2.toNat)).2 + 1 ≤ fuel ng less (p :: q) := by
    unfold fuel mergeSt
    rw [← ha, Nat.add_mul, List.length_cons]
    omega
  refine ⟨?_, h1.set_less (by omega), h2, by omega⟩
  obtain ⟨f, hf⟩ : ∃ f, fuel ng less (p :: q) = f + 1 := ⟨fuel ng less (p :: q) - 1, by omega⟩
  unfold ident
  rw [hf]
  simp only [identLoop, if_neg h]
  exact identLoop_more f _ _ _ _ (h1.set_less (by omega)) (by rw [List.length_set]; exact h2) (by unfold mergeSt at hfu; omega) (Nat.le_refl _)
end Go.Proofs.Ytpjglifijdcgnaa

/- Coset enumeration: new cosets and words that are closed, on lists. No program in sight. -/
namespace Go.Proofs.Ytpjglifijdcgnaa

/-- a new coset, the image of c under g -/
def addC (ng : Nat) (im : List (List Int)) (n c g : Nat) : List (List Int) := rset (rset (im ++ [List.replicate ng (-1)]) c g n) n g c
/-- the image of c under g, which is defined if there is none; whether it fails -/
def nextC (ng : Nat) (im : List (List Int)) (less : List Int) (c g : Nat) : List (List Int) × List Int × Bool × Nat :=
  if 0 ≤ ent im c g then (im, less, false, root less (ent im c g).toNat)
  else if less.length = 2000 then (im, less, true, 0)
  else (addC ng im less.length c g, less ++ [(less.length : Int)], false, less.length)

theorem iget_app_lt {zs : List Int} {z : Int} {j : Nat} (h : j < zs.length) : iget (zs ++ [z]) j = iget zs j := by
  simp [iget, List.getElem?_append_left h]
theorem iget_app_eq {zs : List Int} {z : Int} : iget (zs ++ [z]) zs.length = z := by simp [iget]
theorem lget_app_lt {zss : List (List Int)} {z : List Int} {j : Nat} (h : j < zss.length) : lget (zss ++ [z]) j = lget zss j := by
  simp [lget, List.getElem?_append_left h]
theorem lget_app_eq {zss : List (List Int)} {z : List Int} : lget (zss ++ [z]) zss.length = z := by simp [lget]
theorem iget_rep {n j : Nat} {z : Int} (h : j < n) : iget (List.replicate n z) j = z := by simp [iget, h]

theorem WF.app {ng : Nat} {im : List (List Int)} {less : List Int} (h : WF ng im less) : WF ng (im ++ [List.replicate ng (-1)]) (less ++ [(less.length : Int)]) :=
  { len := by simp [h.len]
    row := fun c hc => by
      by_cases e : c < im.length
      · rw [lget_app_lt e]; exact h.row c e
      · obtain rfl : c = im.length := by simp at hc; omega
        rw [lget_app_eq]; simp
    down := fun c hc => by
      by_cases e : c < less.length
      · rw [iget_app_lt e]; exact h.down c e
      · obtain rfl : c = less.length := by simp at hc; omega
        rw [iget_app_eq]; omega
    ent := fun c g hc hg => by
      unfold Proofs.Ytpjglifijdcgnaa.ent
      by_cases e : c < im.length
      · rw [lget_app_lt e]
        have := h.ent c g e hg
        unfold Proofs.Ytpjglifijdcgnaa.ent at this
        simp; omega
      · obtain rfl : c = im.length := by simp at hc; omega
        rw [lget_app_eq, iget_rep hg]; omega }
theorem WF.addC {ng : Nat} {im : List (List Int)} {less : List Int} {c g : Nat} (h : WF ng im less) (hc : c < less.length) (hg : g < ng) : WF ng (addC ng im less.length c g) (less ++ [(less.length : Int)]) := by
  have h1 := h.app
  have hl := h.len
  unfold Proofs.Ytpjglifijdcgnaa.addC
  refine (h1.set_im (c := c) (g := g) (z := (less.length : Int)) (by simp; omega) hg (by simp; omega)).set_im (c := less.length) (g := g) (z := (c : Int)) ?_ hg ?_
  · rw [rset_len]; simp; omega
  · simp; omega
theorem addC_len {ng : Nat} (im : List (List Int)) (n c g : Nat) : (addC ng im n c g).length = im.length + 1 := by unfold addC; rw [rset_len, rset_len]; simp
/-- what is kept by a step -/
theorem nextC_ok {ng : Nat} {im : List (List Int)} {less : List Int} {c g : Nat} (h : WF ng im less) (hc : c < less.length) (hg : g < ng) (hn : less.length ≤ 2000) :
    WF ng (nextC ng im less c g).1 (nextC ng im less c g).2.1 ∧ less.length ≤ (nextC ng im less c g).2.1.length ∧ (nextC ng im less c g).2.1.length ≤ 2000 ∧ (nextC ng im less c g).2.2.2 < (nextC ng im less c g).2.1.length ∧ ((nextC ng im less c g).2.2.1 = true → (nextC ng im less c g).2.1.length = 2000) := by
  unfold nextC
  split
  · rename_i h1
    have := h.ent c g (by rw [h.len]; exact hc) hg
    exact ⟨h, Nat.le_refl _, hn, root_lt h.down (by omega), by simp⟩
  · split
    · rename_i h2; exact ⟨h, Nat.le_refl _, hn, by dsimp only; omega, fun _ => h2⟩
    · exact ⟨h.addC hc hg, by simp, by simp; omega, by simp, by simp⟩

/-- the letters of a word, one after the other: the state, whether it failed, the coset -/
def goC (ng : Nat) (s : List (List Int) × List Int × Bool × Nat) : List Nat → List (List Int) × List Int × Bool × Nat
  | [] => s
  | g :: r => if s.2.2.1 = true then s else goC ng (nextC ng s.1 s.2.1 s.2.2.2 g) r
/-- a word w (its letters) is closed at c -/
def closeC (ng : Nat) (im : List (List Int)) (less : List Int) (c : Nat) (w : List Nat) : List (List Int) × List Int × Bool :=
  match w.getLast? with
  | none => (im, less, false)
  | some g =>
    let s := goC ng (im, less, false, c) w.dropLast
    if s.2.2.1 = true then (s.1, s.2.1, true)
    else
      let e := image s.1 s.2.1 s.2.2.2 g
      let f := image s.1 s.2.1 c g
      if 0 ≤ e then ((ident ng s.1 s.2.1 [(e, (c : Int))]).1, (ident ng s.1 s.2.1 [(e, (c : Int))]).2, false)
      else if 0 ≤ f then ((ident ng s.1 s.2.1 [(f, (s.2.2.2 : Int))]).1, (ident ng s.1 s.2.1 [(f, (s.2.2.2 : Int))]).2, false)
      else (rset (rset s.1 s.2.2.2 g c) c g s.2.2.2, s.2.1, false)
theorem goC_failed {ng : Nat} {s : List (List Int) × List Int × Bool × Nat} (h : s.2.2.1 = true) : ∀ w, goC ng s w = s
  | [] => rfl
  | g :: r => by unfold goC; rw [if_pos h]
theorem goC_app {ng : Nat} : ∀ (a b : List Nat) (s : List (List Int) × List Int × Bool × Nat), goC ng s (a ++ b) = goC ng (goC ng s a) b
  | [], b, s => rfl
  | g :: r, b, s => by
    simp only [List.cons_append, goC]
    split
    · rename_i h; rw [goC_failed h]
    · exact goC_app r b _
structure GoOK (ng n0 : Nat) (s : List (List Int) × List Int × Bool × Nat) : Prop where
  wf : WF ng s.1 s.2.1
  lo : n0 ≤ s.2.1.length
  hi : s.2.1.length ≤ 2000
  d : s.2.2.2 < s.2.1.length
theorem goC_ok {ng n0 : Nat} : ∀ (w : List Nat) (s : List (List Int) × List Int × Bool × Nat), GoOK ng n0 s → (∀ g ∈ w, g < ng) → GoOK ng n0 (goC ng s w)
  | [], s, h, _ => h
  | g :: r, s, h, hg => by
    unfold goC
    split
    · exact h
    · obtain ⟨h1, h2, h3, h4, _⟩ := nextC_ok h.wf h.d (hg g (by simp)) h.hi
      exact goC_ok r _ ⟨h1, Nat.le_trans h.lo h2, h3, h4⟩ fun x hx => hg x (by simp [hx])
theorem identLoop_ok {ng n : Nat} : ∀ (f : Nat) (im : List (List Int)) (less : List Int) (q : List (Int × Int)), WF ng im less → less.length = n → QOK n q → WF ng (identLoop ng f im less q).1 (identLoop ng f im less q).2 ∧ (identLoop ng f im less q).2.length = n
  | 0, im, less, q, h, hn, _ => ⟨h, hn⟩
  | f + 1, im, less, [], h, hn, _ => ⟨h, hn⟩
  | f + 1, im, less, p :: q, h, hn, hq => by
    have hp := hq p (by simp)
    have hq' : QOK less.length q := fun x hx => hn ▸ hq x (by simp [hx])
    have hr1 := root_lt h.down (c := p.1.toNat) (by omega)
    have hr2 := root_lt h.down (c := p.2.toNat) (by omega)
    simp only [identLoop]
    split
    · exact identLoop_ok f im less q h hn fun x hx => hq x (by simp [hx])
    · obtain ⟨h1, h2, h3, h4⟩ := mergeUp_ok h (lo := min (root less p.1.toNat) (root less p.2.toNat)) (hi := max (root less p.1.toNat) (root less p.2.toNat)) (by rw [h.len]; omega) (by rw [h.len]; omega) hq' ng (Nat.le_refl _)
      exact identLoop_ok f _ _ _ (h1.set_less (by omega)) (by rw [List.length_set]; exact hn) (hn ▸ h2)
theorem ident_ok {ng n : Nat} {im : List (List Int)} {less : List Int} {q : List (Int × Int)} (h : WF ng im less) (hn : less.length = n) (hq : QOK n q) : WF ng (ident ng im less q).1 (ident ng im less q).2 ∧ (ident ng im less q).2.length = n := identLoop_ok _ _ _ _ h hn hq
theorem image_lt {ng : Nat} {im : List (List Int)} {less : List Int} {c g : Nat} (h : WF ng im less) (hc : c < less.length) (hg : g < ng) : image im less c g < less.length := by
  unfold image
  split
  · omega
  · have := h.ent c g (by rw [h.len]; exact hc) hg
    have := root_lt h.down (c := (ent im c g).toNat) (by omega)
    omega
structure CloseOK (ng n0 : Nat) (s : List (List Int) × List Int × Bool) : Prop where
  wf : WF ng s.1 s.2.1
  lo : n0 ≤ s.2.1.length
  hi : s.2.1.length ≤ 2000
theorem closeC_ok {ng : Nat} {im : List (List Int)} {less : List Int} {c : Nat} {w : List Nat} (h : WF ng im less) (hc : c < less.length) (hn : less.length ≤ 2000) (hg : ∀ g ∈ w, g < ng) : CloseOK ng less.length (closeC ng im less c w) := by
  unfold closeC
  cases hw : w.getLast? with
  | none => exact ⟨h, Nat.le_refl _, hn⟩
  | some g =>
    have hgl : g < ng := hg g (List.mem_of_getLast? hw)
    have ok := goC_ok (n0 := less.length) w.dropLast (im, less, false, c) ⟨h, Nat.le_refl _, hn, hc⟩ fun x hx => hg x (List.dropLast_subset _ hx)
    generalize goC ng (im, less, false, c) w.dropLast = s at *
    have hcs : c < s.2.1.length := Nat.lt_of_lt_of_le hc ok.lo
    dsimp only
    split
    · exact ⟨ok.wf, ok.lo, ok.hi⟩
    · have e1 := image_lt ok.wf ok.d hgl
      have e2 := image_lt ok.wf hcs hgl
      have hd := ok.d
      split
      · rename_i he
        have := ident_ok (q := [(image s.1 s.2.1 s.2.2.2 g, (c : Int))]) ok.wf rfl (fun p hp => by simp at hp; subst hp; exact ⟨⟨he, e1⟩, by omega, by dsimp only; omega⟩)
        exact ⟨this.1, by dsimp only; rw [this.2]; exact ok.lo, by dsimp only; rw [this.2]; exact ok.hi⟩
      · split
        · rename_i hf
          have := ident_ok (q := [(image s.1 s.2.1 c g, (s.2.2.2 : Int))]) ok.wf rfl (fun p hp => by simp at hp; subst hp; exact ⟨⟨hf, e2⟩, by omega, by dsimp only; omega⟩)
          exact ⟨this.1, by dsimp only; rw [this.2]; exact ok.lo, by dsimp only; rw [this.2]; exact ok.hi⟩
        · have hl := ok.wf.len
          exact ⟨(ok.wf.set_im (c := s.2.2.2) (g := g) (z := (c : Int)) (by omega) hgl (by omega)).set_im (c := c) (g := g) (z := (s.2.2.2 : Int)) (by rw [rset_len]; omega) hgl (by omega), ok.lo, ok.hi⟩
end Go.Proofs.Ytpjglifijdcgnaa

/- Coset enumeration: the whole procedure, on lists. No program in sight. -/
namespace Go.Proofs.Ytpjglifijdcgnaa

/-- images, the smaller cosets, whether it has failed -/
abbrev CSt := List (List Int) × List Int × Bool
def liveC (s : CSt) (c : Nat) : Bool := decide (iget s.2.1 c = (c : Int)) && !s.2.2
def close0 (ng : Nat) (s : CSt) (w : List Int) : CSt := if s.2.2 = true then s else closeC ng s.1 s.2.1 0 (w.map Int.toNat)
def close1 (ng c : Nat) (s : CSt) (w : List Int) : CSt := if liveC s c = true then closeC ng s.1 s.2.1 c (w.map Int.toNat) else s
def next1 (ng c : Nat) (s : CSt) (g : Nat) : CSt := if liveC s c = true then ((nextC ng s.1 s.2.1 c g).1, (nextC ng s.1 s.2.1 c g).2.1, (nextC ng s.1 s.2.1 c g).2.2.1) else s
def coset1 (ng : Nat) (rels : List (List Int)) (c : Nat) (s : CSt) : CSt := (List.range ng).foldl (next1 ng c) (rels.foldl (close1 ng c) s)
def outer (ng : Nat) (rels : List (List Int)) : Nat → Nat → CSt → CSt
  | 0, _, s => s
  | f + 1, c, s => if c < s.2.1.length ∧ s.2.2 = false then outer ng rels f (c + 1) (coset1 ng rels c s) else s
def startC (ng : Nat) : CSt := ([List.replicate ng (-1)], [0], false)
def runC (ng : Nat) (rels words : List (List Int)) : CSt := outer ng rels 2001 0 (words.foldl (close0 ng) (startC ng))

theorem CloseOK.refl {ng : Nat} {s : CSt} (h : WF ng s.1 s.2.1) (hi : s.2.1.length ≤ 2000) : CloseOK ng s.2.1.length s := ⟨h, Nat.le_refl _, hi⟩
theorem CloseOK.le {ng n m : Nat} {s : CSt} (h : CloseOK ng n s) (hm : m ≤ n) : CloseOK ng m s := ⟨h.wf, Nat.le_trans hm h.lo, h.hi⟩
def Letters (ng : Nat) (w : List Int) : Prop := ∀ z ∈ w, 0 ≤ z ∧ z < ng
theorem Letters.nat {ng : Nat} {w : List Int} (h : Letters ng w) : ∀ g ∈ w.map Int.toNat, g < ng := fun g hg => by
  obtain ⟨z, hz, rfl⟩ := List.mem_map.1 hg
  have := h z hz; omega
theorem close0_ok {ng n : Nat} {s : CSt} {w : List Int} (h : CloseOK ng n s) (hn : 0 < n) (hw : Letters ng w) : CloseOK ng n (close0 ng s w) := by
  unfold close0
  split
  · exact h
  · exact (closeC_ok h.wf (Nat.lt_of_lt_of_le hn h.lo) h.hi hw.nat).le h.lo
theorem close1_ok {ng n c : Nat} {s : CSt} {w : List Int} (h : CloseOK ng n s) (hn : c < n) (hw : Letters ng w) : CloseOK ng n (close1 ng c s w) := by
  unfold close1
  split
  · exact (closeC_ok h.wf (Nat.lt_of_lt_of_le hn h.lo) h.hi hw.nat).le h.lo
  · exact h
theorem next1_ok {ng n c g : Nat} {s : CSt} (h : CloseOK ng n s) (hn : c < n) (hg : g < ng) : CloseOK ng n (next1 ng c s g) := by
  unfold next1
  split
  · obtain ⟨h1, h2, h3, _⟩ := nextC_ok h.wf (Nat.lt_of_lt_of_le hn h.lo) hg h.hi
    exact ⟨h1, Nat.le_trans h.lo h2, h3⟩
  · exact h
theorem foldl_ok {α : Type} {ng n : Nat} {f : CSt → α → CSt} {p : α → Prop} (hf : ∀ s x, CloseOK ng n s → p x → CloseOK ng n (f s x)) : ∀ (l : List α) (s : CSt), CloseOK ng n s → (∀ x ∈ l, p x) → CloseOK ng n (l.foldl f s)
  | [], s, h, _ => h
  | x :: r, s, h, hp => foldl_ok hf r _ (hf s x h (hp x (by simp))) fun y hy => hp y (by simp [hy])
theorem coset1_ok {ng n c : Nat} {rels : List (List Int)} {s : CSt} (h : CloseOK ng n s) (hn : c < n) (hr : ∀ w ∈ rels, Letters ng w) : CloseOK ng n (coset1 ng rels c s) :=
  foldl_ok (p := fun g => g < ng) (fun s g h hg => next1_ok h hn hg) _ _ (foldl_ok (p := Letters ng) (fun s w h hw => close1_ok h hn hw) _ _ h hr) fun g hg => List.mem_range.1 hg
theorem outer_ok {ng n : Nat} {rels : List (List Int)} (hr : ∀ w ∈ rels, Letters ng w) : ∀ (f c : Nat) (s : CSt), CloseOK ng n s → CloseOK ng n (outer ng rels f c s)
  | 0, _, s, h => h
  | f + 1, c, s, h => by
    unfold outer
    split
    · rename_i hc
      exact outer_ok hr f _ _ ((coset1_ok (n := s.2.1.length) ⟨h.wf, Nat.le_refl _, h.hi⟩ hc.1 hr).le h.lo)
    · exact h
theorem startC_ok (ng : Nat) : CloseOK ng 1 (startC ng) :=
  ⟨{ len := rfl
     row := fun c hc => by obtain rfl : c = 0 := by simp [startC] at hc; omega
                           simp [startC, lget]
     down := fun c hc => by obtain rfl : c = 0 := by simp [startC] at hc; omega
                            simp [startC, iget]
     ent := fun c g hc hg => by
       obtain rfl : c = 0 := by simp [startC] at hc; omega
       simp [startC, ent, lget, iget, hg] }, Nat.le_refl _, by simp [startC]⟩
theorem runC_ok {ng : Nat} {rels words : List (List Int)} (hr : ∀ w ∈ rels, Letters ng w) (hw : ∀ w ∈ words, Letters ng w) : CloseOK ng 1 (runC ng rels words) :=
  outer_ok hr _ _ _ (foldl_ok (p := Letters ng) (fun s w h hw => close0_ok h (by omega) hw) _ _ (startC_ok ng) hw)
theorem foldl_same {α : Type} {f : CSt → α → CSt} {s : CSt} (h : ∀ x, f s x = s) : ∀ l : List α, l.foldl f s = s
  | [] => rfl
  | x :: r => by rw [List.foldl_cons, h, foldl_same h r]
theorem close0_failed {ng : Nat} {s : CSt} (h : s.2.2 = true) (w : List Int) : close0 ng s w = s := if_pos h
theorem close1_dead {ng c : Nat} {s : CSt} (h : liveC s c = false) (w : List Int) : close1 ng c s w = s := if_neg (by simp [h])
theorem next1_dead {ng c : Nat} {s : CSt} (h : liveC s c = false) (g : Nat) : next1 ng c s g = s := if_neg (by simp [h])
theorem range_dead {ng c g : Nat} {s s' : CSt} (h : (List.range g).foldl (next1 ng c) s = s') (hl : liveC s' c = false) : ∀ n, g ≤ n → (List.range n).foldl (next1 ng c) s = s'
  | 0, hn => by obtain rfl : g = 0 := by omega
                exact h
  | n + 1, hn => by
    by_cases e : g = n + 1
    · subst e; exact h
    · rw [List.range_succ, List.foldl_append, range_dead h hl n (by omega)]
      exact next1_dead hl n
theorem fold_dead {ng c j : Nat} {rels : List (List Int)} {s s' : CSt} (h : (rels.take j).foldl (close1 ng c) s = s') (hl : liveC s' c = false) : rels.foldl (close1 ng c) s = s' := by
  conv => lhs; rw [← List.take_append_drop j rels, List.foldl_append, h]
  exact foldl_same (close1_dead hl) _
theorem fold_failed {ng j : Nat} {words : List (List Int)} {s s' : CSt} (h : (words.take j).foldl (close0 ng) s = s') (hl : s'.2.2 = true) : words.foldl (close0 ng) s = s' := by
  conv => lhs; rw [← List.take_append_drop j words, List.foldl_append, h]
  exact foldl_same (close0_failed hl) _
end Go.Proofs.Ytpjglifijdcgnaa

/- Coset enumeration: images are never lost; the table is complete at the end. No program in sight. -/
namespace Go.Proofs.Ytpjglifijdcgnaa

structure Grow (ng : Nat) (im : List (List Int)) (less : List Int) (im' : List (List Int)) (less' : List Int) : Prop where
  len : less.length ≤ less'.length
  ent : ∀ c g, c < less.length → g < ng → 0 ≤ ent im c g → 0 ≤ ent im' c g
  dead : ∀ c, c < less.length → iget less c ≠ c → iget less' c ≠ c
theorem Grow.refl (ng : Nat) (im : List (List Int)) (less : List Int) : Grow ng im less im less := ⟨Nat.le_refl _, fun _ _ _ _ h => h, fun _ _ h => h⟩
theorem Grow.trans {ng : Nat} {a b c : List (List Int)} {x y z : List Int} (h : Grow ng a x b y) (k : Grow ng b y c z) : Grow ng a x c z :=
  ⟨Nat.le_trans h.len k.len, fun i g hi hg h1 => k.ent i g (Nat.lt_of_lt_of_le hi h.len) hg (h.ent i g hi hg h1), fun i hi h1 => k.dead i (Nat.lt_of_lt_of_le hi h.len) (h.dead i hi h1)⟩
theorem WF.grow_set {ng : Nat} {im : List (List Int)} {less : List Int} (h : WF ng im less) {c g : Nat} {z : Int} (hc : c < im.length) (hg : g < ng) (hz : 0 ≤ z) : Grow ng im less (rset im c g z) less :=
  ⟨Nat.le_refl _, fun i j _ _ h1 => by
    rw [ent_rset hc (by rw [h.row c hc]; exact hg)]
    split
    · exact hz
    · exact h1, fun _ _ h => h⟩
theorem WF.grow_app {ng : Nat} {im : List (List Int)} {less : List Int} (h : WF ng im less) (r : List Int) (z : Int) : Grow ng im less (im ++ [r]) (less ++ [z]) :=
  ⟨by simp, fun i j hi _ h1 => by
    have hi' : i < im.length := by rw [h.len]; exact hi
    unfold Proofs.Ytpjglifijdcgnaa.ent at h1 ⊢
    rw [lget_app_lt hi']; exact h1, fun i hi h1 => by rw [iget_app_lt hi]; exact h1⟩
theorem nextC_grow {ng : Nat} {im : List (List Int)} {less : List Int} {c g : Nat} (h : WF ng im less) (hc : c < less.length) (hg : g < ng) : Grow ng im less (nextC ng im less c g).1 (nextC ng im less c g).2.1 := by
  unfold nextC
  split
  · exact Grow.refl _ _ _
  · split
    · exact Grow.refl _ _ _
    · have h1 := h.app
      have hl := h.len
      have g1 := h.grow_app (List.replicate ng (-1)) (less.length : Int)
      have h2 := h1.set_im (c := c) (g := g) (z := (less.length : Int)) (by simp; omega) hg (by simp; omega)
      have g2 := h1.grow_set (c := c) (g := g) (z := (less.length : Int)) (by simp; omega) hg (by omega)
      have g3 := h2.grow_set (c := less.length) (g := g) (z := (c : Int)) (by rw [rset_len]; simp; omega) hg (by omega)
      exact (g1.trans g2).trans g3
theorem nextC_ent {ng : Nat} {im : List (List Int)} {less : List Int} {c g : Nat} (h : WF ng im less) (hc : c < less.length) (hg : g < ng) (hf : (nextC ng im less c g).2.2.1 = false) : 0 ≤ ent (nextC ng im less c g).1 c g := by
  unfold nextC at hf ⊢
  split
  · rename_i h0; exact h0
  · rename_i h0
    rw [if_neg h0] at hf
    split
    · rename_i h1; rw [if_pos h1] at hf; cases hf
    · have h1 := h.app
      have hl := h.len
      have h2 := h1.set_im (c := c) (g := g) (z := (less.length : Int)) (by simp; omega) hg (by simp; omega)
      unfold addC
      dsimp only
      rw [ent_rset (by rw [rset_len]; simp; omega) (by rw [h2.row _ (by rw [rset_len]; simp; omega)]; exact hg)]
      split
      · omega
      · rw [ent_rset (by simp; omega) (by rw [h1.row _ (by simp; omega)]; exact hg), if_pos ⟨rfl, rfl⟩]; omega
theorem goC_grow {ng n0 : Nat} : ∀ (w : List Nat) (s : List (List Int) × List Int × Bool × Nat), GoOK ng n0 s → (∀ g ∈ w, g < ng) → Grow ng s.1 s.2.1 (goC ng s w).1 (goC ng s w).2.1
  | [], s, _, _ => Grow.refl _ _ _
  | g :: r, s, h, hg => by
    unfold goC
    split
    · exact Grow.refl _ _ _
    · have k := nextC_grow h.wf h.d (hg g (by simp))
      obtain ⟨h1, h2, h3, h4, _⟩ := nextC_ok h.wf h.d (hg g (by simp)) h.hi
      exact k.trans (goC_grow (n0 := n0) r _ ⟨h1, Nat.le_trans h.lo h2, h3, h4⟩ fun x hx => hg x (by simp [hx]))
theorem mergeUp_grow {ng lo hi : Nat} {im : List (List Int)} {less : List Int} {q : List (Int × Int)} (h : WF ng im less) (hlo : lo < im.length) (hhi : hi < im.length) (hq : QOK less.length q) : ∀ g, g ≤ ng → Grow ng im less (mergeUp lo hi (im, q) g).1 less
  | 0, _ => Grow.refl _ _ _
  | g + 1, hg => by
    have ih := mergeUp_grow h hlo hhi hq g (by omega)
    obtain ⟨h1, _, _, h4⟩ := mergeUp_ok h hlo hhi hq g (by omega)
    simp only [mergeUp, stepG]
    split
    · exact ih
    · rename_i hn
      split
      · exact ih
      · exact ih.trans (h1.grow_set (by omega) (by omega) (by omega))
theorem grow_less {ng : Nat} {im : List (List Int)} {less : List Int} {lo hi : Nat} (h : lo < hi) : Grow ng im less im (less.set hi (lo : Int)) :=
  ⟨by simp, fun _ _ _ _ h => h, fun c hc h1 => by
    rw [iget_set]
    split
    · rename_i e; rw [← e.1]; omega
    · exact h1⟩
theorem identLoop_grow {ng n : Nat} : ∀ (f : Nat) (im : List (List Int)) (less : List Int) (q : List (Int × Int)), WF ng im less → less.length = n → QOK n q → Grow ng im less (identLoop ng f im less q).1 (identLoop ng f im less q).2
  | 0, im, less, q, h, hn, _ => Grow.refl _ _ _
  | f + 1, im, less, [], h, hn, _ => Grow.refl _ _ _
  | f + 1, im, less, p :: q, h, hn, hq => by
    have hp := hq p (by simp)
    have hq' : QOK less.length q := fun x hx => hn ▸ hq x (by simp [hx])
    have hr1 := root_lt h.down (c := p.1.toNat) (by omega)
    have hr2 := root_lt h.down (c := p.2.toNat) (by omega)
    simp only [identLoop]
    split
    · exact identLoop_grow f im less q h hn fun x hx => hq x (by simp [hx])
    · rename_i hne
      obtain ⟨h1, h2, h3, h4⟩ := mergeUp_ok h (lo := min (root less p.1.toNat) (root less p.2.toNat)) (hi := max (root less p.1.toNat) (root less p.2.toNat)) (by rw [h.len]; omega) (by rw [h.len]; omega) hq' ng (Nat.le_refl _)
      have g1 := mergeUp_grow h (lo := min (root less p.1.toNat) (root less p.2.toNat)) (hi := max (root less p.1.toNat) (root less p.2.toNat)) (by rw [h.len]; omega) (by rw [h.len]; omega) hq' ng (Nat.le_refl _)
      refine (g1.trans (grow_less (by omega))).trans (identLoop_grow f _ _ _ (h1.set_less (by omega)) (by rw [List.length_set]; exact hn) (hn ▸ h2))
theorem closeC_grow {ng : Nat} {im : List (List Int)} {less : List Int} {c : Nat} {w : List Nat} (h : WF ng im less) (hc : c < less.length) (hn : less.length ≤ 2000) (hg : ∀ g ∈ w, g < ng) : Grow ng im less (closeC ng im less c w).1 (closeC ng im less c w).2.1 := by
  unfold closeC
  cases hw : w.getLast? with
  | none => exact Grow.refl _ _ _
  | some g =>
    have hgl : g < ng := hg g (List.mem_of_getLast? hw)
    have ok := goC_ok (n0 := less.length) w.dropLast (im, less, false, c) ⟨h, Nat.le_refl _, hn, hc⟩ fun x hx => hg x (List.dropLast_subset _ hx)
    have gr := goC_grow (n0 := less.length) w.dropLast (im, less, false, c) ⟨h, Nat.le_refl _, hn, hc⟩ fun x hx => hg x (List.dropLast_subset _ hx)
    generalize goC ng (im, less, false, c) w.dropLast = s at *
    have hcs : c < s.2.1.length := Nat.lt_of_lt_of_le hc ok.lo
    have gr : Grow ng im less s.1 s.2.1 := gr
    dsimp only
    split
    · exact gr
    · have e1 := image_lt ok.wf ok.d hgl
      have e2 := image_lt ok.wf hcs hgl
      have hd := ok.d
      have hl := ok.wf.len
      split
      · rename_i he
        exact gr.trans (identLoop_grow _ _ _ _ ok.wf rfl (fun p hp => by simp at hp; subst hp; exact ⟨⟨he, e1⟩, by omega, by dsimp only; omega⟩))
      · split
        · rename_i hf
          exact gr.trans (identLoop_grow _ _ _ _ ok.wf rfl (fun p hp => by simp at hp; subst hp; exact ⟨⟨hf, e2⟩, by omega, by dsimp only; omega⟩))
        · have k1 := ok.wf.set_im (c := s.2.2.2) (g := g) (z := (c : Int)) (by omega) hgl (by omega)
          exact (gr.trans (ok.wf.grow_set (c := s.2.2.2) (g := g) (z := (c : Int)) (by omega) hgl (by omega))).trans (k1.grow_set (c := c) (g := g) (z := (s.2.2.2 : Int)) (by rw [rset_len]; omega) hgl (by omega))

/-- a coset is spent, or has all its images -/
def Dn (ng : Nat) (s : CSt) (c : Nat) : Prop := iget s.2.1 c ≠ (c : Int) ∨ ∀ g, g < ng → 0 ≤ ent s.1 c g
abbrev GrowC (ng : Nat) (s s' : CSt) : Prop := Grow ng s.1 s.2.1 s'.1 s'.2.1
theorem Grow.dn {ng : Nat} {s s' : CSt} {c : Nat} (h : GrowC ng s s') (hc : c < s.2.1.length) (hd : Dn ng s c) : Dn ng s' c :=
  hd.imp (h.dead c hc) fun hd g hg => h.ent c g hc hg (hd g hg)
theorem close0_grow {ng n : Nat} {s : CSt} {w : List Int} (h : CloseOK ng n s) (hn : 0 < n) (hw : Letters ng w) : GrowC ng s (close0 ng s w) := by
  unfold close0
  split
  · exact Grow.refl _ _ _
  · exact closeC_grow h.wf (Nat.lt_of_lt_of_le hn h.lo) h.hi hw.nat
theorem close1_grow {ng n c : Nat} {s : CSt} {w : List Int} (h : CloseOK ng n s) (hn : c < n) (hw : Letters ng w) : GrowC ng s (close1 ng c s w) := by
  unfold close1
  split
  · exact closeC_grow h.wf (Nat.lt_of_lt_of_le hn h.lo) h.hi hw.nat
  · exact Grow.refl _ _ _
theorem next1_grow {ng n c g : Nat} {s : CSt} (h : CloseOK ng n s) (hn : c < n) (hg : g < ng) : GrowC ng s (next1 ng c s g) := by
  unfold next1
  split
  · exact nextC_grow h.wf (Nat.lt_of_lt_of_le hn h.lo) hg
  · exact Grow.refl _ _ _
theorem foldl_grow {α : Type} {ng n : Nat} {f : CSt → α → CSt} {p : α → Prop} (hf : ∀ s x, CloseOK ng n s → p x → CloseOK ng n (f s x)) (hg : ∀ s x, CloseOK ng n s → p x → GrowC ng s (f s x)) : ∀ (l : List α) (s : CSt), CloseOK ng n s → (∀ x ∈ l, p x) → GrowC ng s (l.foldl f s)
  | [], s, _, _ => Grow.refl _ _ _
  | x :: r, s, h, hp => (hg s x h (hp x (by simp))).trans (foldl_grow hf hg r _ (hf s x h (hp x (by simp))) fun y hy => hp y (by simp [hy]))
theorem gens_done {ng n c : Nat} {s : CSt} (h : CloseOK ng n s) (hn : c < n) : ∀ m, m ≤ ng → CloseOK ng n ((List.range m).foldl (next1 ng c) s) ∧ GrowC ng s ((List.range m).foldl (next1 ng c) s) ∧ (((List.range m).foldl (next1 ng c) s).2.2 = false →
    iget ((List.range m).foldl (next1 ng c) s).2.1 c ≠ (c : Int) ∨ ∀ g, g < m → 0 ≤ ent ((List.range m).foldl (next1 ng c) s).1 c g)
  | 0, _ => ⟨h, Grow.refl _ _ _, fun _ => .inr fun g hg => by omega⟩
  | m + 1, hm => by
    obtain ⟨h1, h2, h3⟩ := gens_done h hn m (by omega)
    rw [List.range_succ, List.foldl_append]
    generalize (List.range m).foldl (next1 ng c) s = t at *
    show CloseOK ng n (next1 ng c t m) ∧ GrowC ng s (next1 ng c t m) ∧ ((next1 ng c t m).2.2 = false → iget (next1 ng c t m).2.1 c ≠ (c : Int) ∨ ∀ g, g < m + 1 → 0 ≤ ent (next1 ng c t m).1 c g)
    have g1 := next1_grow (g := m) h1 hn (by omega)
    refine ⟨next1_ok h1 hn (by omega), h2.trans g1, fun hf => ?_⟩
    have hct : c < t.2.1.length := Nat.lt_of_lt_of_le hn h1.lo
    cases hl : liveC t c with
    | false =>
      rw [next1_dead hl] at hf ⊢
      left
      unfold liveC at hl
      rw [hf] at hl
      simpa using hl
    | true =>
      have hlv : iget t.2.1 c = (c : Int) ∧ t.2.2 = false := by unfold liveC at hl; simpa using hl
      rcases h3 hlv.2 with h4 | h4
      · exact absurd hlv.1 h4
      · by_cases e : iget (next1 ng c t m).2.1 c = (c : Int)
        · right
          intro g hg
          by_cases e2 : g = m
          · subst e2
            unfold next1 at hf ⊢
            rw [if_pos hl] at hf ⊢
            exact nextC_ent h1.wf hct (by omega) hf
          · exact g1.ent c g hct (by omega) (h4 g (by omega))
        · exact .inl e
theorem coset1_done {ng n c : Nat} {rels : List (List Int)} {s : CSt} (h : CloseOK ng n s) (hn : c < n) (hr : ∀ w ∈ rels, Letters ng w) : GrowC ng s (coset1 ng rels c s) ∧ ((coset1 ng rels c s).2.2 = false → Dn ng (coset1 ng rels c s) c) := by
  have h1 := foldl_ok (p := Letters ng) (fun s w h hw => close1_ok h hn hw) rels s h hr
  have g1 := foldl_grow (p := Letters ng) (fun s w h hw => close1_ok h hn hw) (fun s w h hw => close1_grow h hn hw) rels s h hr
  obtain ⟨_, g2, h3⟩ := gens_done h1 hn ng (Nat.le_refl _)
  exact ⟨g1.trans g2, h3⟩
theorem outer_failed {ng : Nat} {rels : List (List Int)} {s : CSt} (h : s.2.2 = true) : ∀ f c, outer ng rels f c s = s
  | 0, _ => rfl
  | f + 1, c => by unfold outer; rw [if_neg (by rw [h]; simp)]
theorem outer_done {ng : Nat} {rels : List (List Int)} (hr : ∀ w ∈ rels, Letters ng w) : ∀ (f c : Nat) (s : CSt), CloseOK ng 1 s → 2001 ≤ f + c → c ≤ s.2.1.length → (∀ i, i < c → Dn ng s i) → (outer ng rels f c s).2.2 = false → ∀ i, i < (outer ng rels f c s).2.1.length → Dn ng (outer ng rels f c s) i
  | 0, c, s, h, hf, hc, _, _ => by have := h.hi; omega
  | f + 1, c, s, h, hf, hc, hd, hnf => by
    unfold outer at hnf ⊢
    by_cases hcond : c < s.2.1.length ∧ s.2.2 = false
    · rw [if_pos hcond] at hnf ⊢
      have hk := coset1_ok (n := s.2.1.length) ⟨h.wf, Nat.le_refl _, h.hi⟩ hcond.1 hr
      obtain ⟨g1, d1⟩ := coset1_done (n := s.2.1.length) ⟨h.wf, Nat.le_refl _, h.hi⟩ hcond.1 hr
      have hnf1 : (coset1 ng rels c s).2.2 = false := by
        cases e : (coset1 ng rels c s).2.2 with
        | false => rfl
        | true => rw [outer_failed e, e] at hnf; cases hnf
      refine outer_done hr f (c + 1) _ (hk.le h.lo) (by omega) (by have := g1.len; omega) (fun i hi => ?_) hnf
      by_cases e : i = c
      · subst e; exact d1 hnf1
      · exact g1.dn (by omega) (hd i (by omega))
    · rw [if_neg hcond] at hnf ⊢
      intro i hi
      refine hd i ?_
      by_cases e : c < s.2.1.length
      · exact absurd ⟨e, hnf⟩ hcond
      · omega
/-- the procedure that does not fail leaves a complete table -/
theorem runC_done {ng : Nat} {rels words : List (List Int)} (hr : ∀ w ∈ rels, Letters ng w) (hw : ∀ w ∈ words, Letters ng w) (hnf : (runC ng rels words).2.2 = false) : ∀ c, c < (runC ng rels words).2.1.length → Dn ng (runC ng rels words) c :=
  outer_done hr _ _ _ (foldl_ok (p := Letters ng) (fun s w h hw => close0_ok h (by omega) hw) _ _ (startC_ok ng) hw) (Nat.le_refl _) (Nat.zero_le _) (fun i hi => by omega) hnf
end Go.Proofs.Ytpjglifijdcgnaa

/- Coset enumeration: cosets numbered anew, and the table. No program in sight. -/
namespace Go.Proofs.Ytpjglifijdcgnaa

/-- the order in which cosets are met, and the number of each (-1: not met) -/
abbrev NSt := List Int × List Int
def visit (s : NSt) (d : Nat) : NSt := if iget s.2 d < 0 then (s.1 ++ [(d : Int)], s.2.set d (s.1.length : Int)) else s
def visitG (im : List (List Int)) (less : List Int) (i : Nat) (s : NSt) (g : Nat) : NSt := visit s (image im less (iget s.1 i).toNat g).toNat
def tabRow (ng : Nat) (im : List (List Int)) (less : List Int) (i : Nat) (s : NSt) : NSt := (List.range ng).foldl (visitG im less i) s
def tabLoop (ng : Nat) (im : List (List Int)) (less : List Int) : Nat → Nat → NSt → NSt
  | 0, _, s => s
  | f + 1, i, s => if i < s.1.length then tabLoop ng im less f (i + 1) (tabRow ng im less i s) else s
def tabStart (n : Nat) : NSt := ([0], (List.replicate n (-1)).set 0 0)
def numbered (ng : Nat) (im : List (List Int)) (less : List Int) : NSt := tabLoop ng im less (less.length + 1) 0 (tabStart less.length)
def tableC (ng : Nat) (im : List (List Int)) (less : List Int) : List (List Int) :=
  (List.range ng).map fun g => (numbered ng im less).1.map fun c => iget (numbered ng im less).2 (image im less c.toNat g).toNat

/-- how many have a number -/
def cnt (l : List Int) : Nat := (l.filter fun z => decide (0 ≤ z)).length
theorem cnt_le (l : List Int) : cnt l ≤ l.length := List.length_filter_le _ _
theorem cnt_set : ∀ (l : List Int) (d : Nat) (z : Int), d < l.length → iget l d < 0 → 0 ≤ z → cnt (l.set d z) = cnt l + 1
  | [], d, z, h, _, _ => by simp at h
  | x :: r, 0, z, _, h, hz => by
    have h : x < 0 := by simpa [iget] using h
    simp [cnt, show ¬ 0 ≤ x by omega, hz]
  | x :: r, d + 1, z, hd, h, hz => by
    have ih := cnt_set r d z (by simpa using hd) (by simpa [iget] using h) hz
    unfold cnt at ih ⊢
    simp only [List.set_cons_succ, List.filter_cons]
    split
    · simp only [List.length_cons]; omega
    · exact ih

/-- complete: live cosets have all images -/
structure Full (ng : Nat) (im : List (List Int)) (less : List Int) : Prop where
  wf : WF ng im less
  pos : 0 < less.length
  full : ∀ c, c < less.length → iget less c = (c : Int) → ∀ g, g < ng → 0 ≤ ent im c g
theorem Full.zero {ng : Nat} {im : List (List Int)} {less : List Int} (h : Full ng im less) : iget less 0 = ((0 : Nat) : Int) := by
  have := h.wf.down 0 h.pos; omega
theorem Full.image {ng : Nat} {im : List (List Int)} {less : List Int} (h : Full ng im less) {c g : Nat} (hc : c < less.length) (hl : iget less c = (c : Int)) (hg : g < ng) :
    ∃ d : Nat, image im less c g = (d : Int) ∧ d < less.length ∧ iget less d = (d : Int) := by
  have h1 := h.full c hc hl g hg
  have h2 := h.wf.ent c g (by rw [h.wf.len]; exact hc) hg
  refine ⟨root less (ent im c g).toNat, by unfold Proofs.Ytpjglifijdcgnaa.image; rw [if_neg (by omega)], root_lt h.wf.down (by omega), ?_⟩
  exact (root_fix h.wf.down _ (by omega)).1

structure TOK (n : Nat) (less : List Int) (s : NSt) : Prop where
  len : s.2.length = n
  cnt : cnt s.2 = s.1.length
  live : ∀ k, k < s.1.length → ∃ d : Nat, iget s.1 k = (d : Int) ∧ d < n ∧ iget less d = (d : Int) ∧ iget s.2 d = (k : Int)
  num : ∀ d, d < n → 0 ≤ iget s.2 d → iget s.2 d < s.1.length
theorem TOK.le {n : Nat} {less : List Int} {s : NSt} (h : TOK n less s) : s.1.length ≤ n := by
  have := cnt_le s.2; rw [h.cnt, h.len] at this; exact this
theorem visit_ok {n : Nat} {less : List Int} {s : NSt} {d : Nat} (h : TOK n less s) (hd : d < n) (hl : iget less d = (d : Int)) : TOK n less (visit s d) := by
  unfold visit
  split
  · rename_i hn
    refine ⟨by rw [List.length_set]; exact h.len, ?_, fun k hk => ?_, fun e he h0 => ?_⟩
    · dsimp only; rw [cnt_set _ _ _ (by rw [h.len]; exact hd) hn (by omega), h.cnt]; simp
    · dsimp only at hk ⊢
      by_cases e : k < s.1.length
      · obtain ⟨d', h1, h2, h3, h4⟩ := h.live k e
        refine ⟨d', by rw [iget_app_lt e]; exact h1, h2, h3, ?_⟩
        rw [iget_set]
        split
        · rename_i e2; rw [e2.1] at hn; omega
        · exact h4
      · obtain rfl : k = s.1.length := by simp at hk; omega
        exact ⟨d, iget_app_eq, hd, hl, by rw [iget_set, if_pos ⟨rfl, by rw [h.len]; exact hd⟩]⟩
    · dsimp only at h0 ⊢
      rw [iget_set] at h0 ⊢
      rw [List.length_append]
      split
      · simp; omega
      · rename_i hne
        rw [if_neg hne] at h0
        have := h.num e he h0
        simp; omega
  · exact h
/-- numbers are kept -/
structure NGrow (s s' : NSt) : Prop where
  pre : ∀ k, k < s.1.length → iget s'.1 k = iget s.1 k
  len : s.1.length ≤ s'.1.length
  num : ∀ d, 0 ≤ iget s.2 d → iget s'.2 d = iget s.2 d
theorem NGrow.refl (s : NSt) : NGrow s s := ⟨fun _ _ => rfl, Nat.le_refl _, fun _ _ => rfl⟩
theorem NGrow.trans {a b c : NSt} (h : NGrow a b) (k : NGrow b c) : NGrow a c :=
  ⟨fun i hi => (k.pre i (Nat.lt_of_lt_of_le hi h.len)).trans (h.pre i hi), Nat.le_trans h.len k.len, fun d hd => (k.num d (by rw [h.num d hd]; exact hd)).trans (h.num d hd)⟩
theorem visit_grow (s : NSt) (d : Nat) : NGrow s (visit s d) := by
  unfold visit
  split
  · rename_i hn
    refine ⟨fun k hk => iget_app_lt hk, by simp, fun e he => ?_⟩
    dsimp only
    rw [iget_set, if_neg]
    rintro ⟨rfl, _⟩
    omega
  · exact NGrow.refl s
theorem visit_num {n : Nat} {less : List Int} {s : NSt} {d : Nat} (h : TOK n less s) (hd : d < n) : 0 ≤ iget (visit s d).2 d := by
  unfold visit
  split
  · dsimp only; rw [iget_set, if_pos ⟨rfl, by rw [h.len]; exact hd⟩]; omega
  · rename_i hn; omega
theorem visitG_ok {ng : Nat} {im : List (List Int)} {less : List Int} (hF : Full ng im less) {i g : Nat} {s : NSt} (h : TOK less.length less s) (hi : i < s.1.length) (hg : g < ng) :
    TOK less.length less (visitG im less i s g) ∧ NGrow s (visitG im less i s g) ∧ 0 ≤ iget (visitG im less i s g).2 (image im less (iget s.1 i).toNat g).toNat := by
  obtain ⟨d, h1, h2, h3, _⟩ := h.live i hi
  obtain ⟨e, e1, e2, e3⟩ := hF.image h2 h3 hg
  unfold visitG
  rw [h1, Int.toNat_natCast, e1, Int.toNat_natCast]
  exact ⟨visit_ok h e2 e3, visit_grow s e, visit_num h e2⟩
theorem tabRow_ok {ng : Nat} {im : List (List Int)} {less : List Int} (hF : Full ng im less) {i : Nat} {s : NSt} (h : TOK less.length less s) (hi : i < s.1.length) : ∀ m, m ≤ ng →
    TOK less.length less ((List.range m).foldl (visitG im less i) s) ∧ NGrow s ((List.range m).foldl (visitG im less i) s) ∧ ∀ g, g < m → 0 ≤ iget ((List.range m).foldl (visitG im less i) s).2 (image im less (iget s.1 i).toNat g).toNat
  | 0, _ => ⟨h, NGrow.refl s, fun g hg => by omega⟩
  | m + 1, hm => by
    obtain ⟨h1, h2, h3⟩ := tabRow_ok hF h hi m (by omega)
    rw [List.range_succ, List.foldl_append]
    generalize (List.range m).foldl (visitG im less i) s = t at *
    obtain ⟨k1, k2, k3⟩ := visitG_ok hF (i := i) (g := m) h1 (Nat.lt_of_lt_of_le hi h2.len) (by omega)
    rw [h2.pre i hi] at k3
    refine ⟨k1, h2.trans k2, fun g hg => ?_⟩
    by_cases e : g = m
    · subst e; exact k3
    · have := h3 g (by omega)
      show 0 ≤ iget (visitG im less i t m).2 _
      rw [k2.num _ this]; exact this
/-- all images of the first i cosets have numbers -/
def Seen (ng : Nat) (im : List (List Int)) (less : List Int) (i : Nat) (s : NSt) : Prop := ∀ k, k < i → ∀ g, g < ng → 0 ≤ iget s.2 (image im less (iget s.1 k).toNat g).toNat
theorem Seen.row {ng : Nat} {im : List (List Int)} {less : List Int} (hF : Full ng im less) {i : Nat} {s : NSt} (h : TOK less.length less s) (hi : i < s.1.length) (hs : Seen ng im less i s) : Seen ng im less (i + 1) (tabRow ng im less i s) := by
  obtain ⟨_, h2, h3⟩ := tabRow_ok hF h hi ng (Nat.le_refl _)
  intro k hk g hg
  show 0 ≤ iget (tabRow ng im less i s).2 _
  have e : iget (tabRow ng im less i s).1 k = iget s.1 k := h2.pre k (by omega)
  rw [e]
  by_cases e2 : k = i
  · subst e2; exact h3 g hg
  · have := hs k (by omega) g hg
    have e3 := h2.num _ this
    unfold tabRow
    rw [e3]; exact this
theorem tabLoop_ok {ng : Nat} {im : List (List Int)} {less : List Int} (hF : Full ng im less) : ∀ (f i : Nat) (s : NSt), TOK less.length less s → Seen ng im less i s → i ≤ s.1.length → less.length + 1 ≤ f + i →
    TOK less.length less (tabLoop ng im less f i s) ∧ Seen ng im less (tabLoop ng im less f i s).1.length (tabLoop ng im less f i s)
  | 0, i, s, h, hs, hi, hf => by have := h.le; omega
  | f + 1, i, s, h, hs, hi, hf => by
    unfold tabLoop
    split
    · rename_i hlt
      obtain ⟨h1, h2, _⟩ := tabRow_ok hF h hlt ng (Nat.le_refl _)
      exact tabLoop_ok hF f (i + 1) _ h1 (hs.row hF h hlt) (Nat.le_trans hlt h2.len) (by omega)
    · rename_i hlt
      obtain rfl : i = s.1.length := by omega
      exact ⟨h, hs⟩
theorem cnt_rep : ∀ n, cnt (List.replicate n (-1)) = 0
  | 0 => rfl
  | n + 1 => by have := cnt_rep n; unfold cnt at this ⊢; rw [List.replicate_succ, List.filter_cons, if_neg (by decide)]; exact this
theorem tabStart_ok {ng : Nat} {im : List (List Int)} {less : List Int} (hF : Full ng im less) : TOK less.length less (tabStart less.length) := by
  have hp := hF.pos
  have hr : ∀ d, d < less.length → iget (List.replicate less.length (-1)) d = -1 := fun d hd => iget_rep hd
  refine ⟨by simp [tabStart], ?_, fun k hk => ?_, fun d hd h0 => ?_⟩
  · show cnt ((List.replicate less.length (-1)).set 0 0) = 1
    rw [cnt_set _ _ _ (by simpa using hp) (by rw [hr 0 hp]; decide) (by decide), cnt_rep]
  · obtain rfl : k = 0 := by simp [tabStart] at hk; omega
    exact ⟨0, rfl, hp, hF.zero, by show iget ((List.replicate less.length (-1)).set 0 0) 0 = _; rw [iget_set, if_pos ⟨rfl, by simpa using hp⟩]; rfl⟩
  · have h0 : 0 ≤ iget ((List.replicate less.length (-1)).set 0 0) d := h0
    show iget ((List.replicate less.length (-1)).set 0 0) d < ((1 : Nat) : Int)
    rw [iget_set] at h0 ⊢
    split
    · decide
    · rename_i hne; rw [if_neg hne, hr d hd] at h0; omega
theorem numbered_ok {ng : Nat} {im : List (List Int)} {less : List Int} (hF : Full ng im less) : TOK less.length less (numbered ng im less) ∧ Seen ng im less (numbered ng im less).1.length (numbered ng im less) :=
  tabLoop_ok hF _ _ _ (tabStart_ok hF) (fun k hk => by omega) (Nat.zero_le _) (by omega)
theorem full_run {ng : Nat} {rels words : List (List Int)} (hr : ∀ w ∈ rels, Letters ng w) (hw : ∀ w ∈ words, Letters ng w) (hnf : (runC ng rels words).2.2 = false) : Full ng (runC ng rels words).1 (runC ng rels words).2.1 :=
  ⟨(runC_ok hr hw).wf, (runC_ok hr hw).lo, fun c hc hl g hg => (runC_done hr hw hnf c hc).elim (fun h => absurd hl h) fun h => h g hg⟩
theorem tableC_entry {ng : Nat} {im : List (List Int)} {less : List Int} (hF : Full ng im less) {k g : Nat} (hk : k < (numbered ng im less).1.length) (hg : g < ng) :
    0 ≤ iget (numbered ng im less).2 (image im less (iget (numbered ng im less).1 k).toNat g).toNat ∧ iget (numbered ng im less).2 (image im less (iget (numbered ng im less).1 k).toNat g).toNat < (numbered ng im less).1.length := by
  obtain ⟨h, hs⟩ := numbered_ok hF
  have h0 := hs k hk g hg
  obtain ⟨d, h1, h2, h3, _⟩ := h.live k hk
  obtain ⟨e, e1, e2, _⟩ := hF.image h2 h3 hg
  rw [h1, Int.toNat_natCast, e1, Int.toNat_natCast] at h0 ⊢
  exact ⟨h0, h.num e e2 h0⟩
end Go.Proofs.Ytpjglifijdcgnaa

/- Coset enumeration: each generator leads back; words lead back after some times. No program in sight. -/
namespace Go.Proofs.Ytpjglifijdcgnaa

theorem root_root {less : List Int} (h : Down less) {c : Nat} (hc : c < less.length) : root less (root less c) = root less c := root_of (root_fix h c hc).1
theorem root_set {less : List Int} (h : Down less) {lo hi : Nat} (hlt : lo < hi) (hh : hi < less.length) (hl0 : iget less lo = (lo : Int)) (hh0 : iget less hi = (hi : Int)) : ∀ c, c < less.length → root (less.set hi (lo : Int)) c = if root less c = hi then lo else root less c := by
  have hd := down_set h (lo := lo) (hi := hi) (by omega)
  have hlo : iget (less.set hi (lo : Int)) lo = (lo : Int) := by rw [iget_set, if_neg (by omega)]; exact hl0
  intro c
  induction c using Nat.strongRecOn with
  | _ c ih =>
    intro hc
    by_cases e : iget less c = (c : Int)
    · rw [root_of e]
      by_cases e2 : c = hi
      · subst e2
        rw [if_pos rfl]
        have h1 : iget (less.set c (lo : Int)) c = (lo : Int) := by rw [iget_set, if_pos ⟨rfl, hh⟩]
        rw [root_step hd (by rw [List.length_set]; exact hc) (by rw [h1]; omega), h1, Int.toNat_natCast]
        exact root_of hlo
      · rw [if_neg e2]
        exact root_of (by rw [iget_set, if_neg (by omega)]; exact e)
    · have hb := h c hc
      have hne : c ≠ hi := fun e2 => by subst e2; exact e hh0
      have h1 : iget (less.set hi (lo : Int)) c = iget less c := by rw [iget_set, if_neg (by omega)]
      rw [root_step hd (by rw [List.length_set]; exact hc) (by rw [h1]; exact e), h1, root_step h hc e]
      exact ih _ (by omega) (by omega)
theorem root_app {less : List Int} (h : Down less) : ∀ c, c < less.length → root (less ++ [(less.length : Int)]) c = root less c := by
  have hd : Down (less ++ [(less.length : Int)]) := fun c hc => by
    by_cases e : c < less.length
    · rw [iget_app_lt e]; exact h c e
    · obtain rfl : c = less.length := by simp at hc; omega
      rw [iget_app_eq]; omega
  intro c
  induction c using Nat.strongRecOn with
  | _ c ih =>
    intro hc
    have h1 : iget (less ++ [(less.length : Int)]) c = iget less c := iget_app_lt hc
    by_cases e : iget less c = (c : Int)
    · rw [root_of e, root_of (h1.trans e)]
    · have hb := h c hc
      rw [root_step hd (by simp; omega) (by rw [h1]; exact e), h1, root_step h hc e]
      exact ih _ (by omega) (by omega)

/-- equal, as far as the identifications and the queue say -/
inductive Eqv (less : List Int) (q : List (Int × Int)) : Nat → Nat → Prop where
  | refl (a : Nat) : Eqv less q a a
  | symm {a b : Nat} (h : Eqv less q a b) : Eqv less q b a
  | trans {a b c : Nat} (h : Eqv less q a b) (k : Eqv less q b c) : Eqv less q a c
  | root (a : Nat) (h : a < less.length) : Eqv less q a (root less a)
  | pair (p : Int × Int) (h : p ∈ q) : Eqv less q p.1.toNat p.2.toNat
theorem Eqv.mono {less less' : List Int} {q q' : List (Int × Int)} (h1 : ∀ a, a < less.length → Eqv less' q' a (Proofs.Ytpjglifijdcgnaa.root less a)) (h2 : ∀ p ∈ q, Eqv less' q' p.1.toNat p.2.toNat) {a b : Nat} (h : Eqv less q a b) : Eqv less' q' a b := by
  induction h with
  | refl a => exact .refl a
  | symm _ ih => exact .symm ih
  | trans _ _ ih1 ih2 => exact .trans ih1 ih2
  | root a h => exact h1 a h
  | pair p h => exact h2 p h
theorem Eqv.root_eq {less : List Int} (hd : Down less) {a b : Nat} (h : Eqv less [] a b) : Proofs.Ytpjglifijdcgnaa.root less a = Proofs.Ytpjglifijdcgnaa.root less b := by
  induction h with
  | refl a => rfl
  | symm _ ih => exact ih.symm
  | trans _ _ ih1 ih2 => exact ih1.trans ih2
  | root a h => exact (root_root hd h).symm
  | pair p h => simp at h
/-- where a live coset leads, there its generator leads back -/
def Back (ng : Nat) (im : List (List Int)) (less : List Int) (q : List (Int × Int)) : Prop :=
  ∀ c g, c < less.length → iget less c = (c : Int) → g < ng → 0 ≤ ent im c g → 0 ≤ ent im (root less (ent im c g).toNat) g ∧ Eqv less q (ent im (root less (ent im c g).toNat) g).toNat c
theorem mergeUp_spec {ng lo hi : Nat} {im : List (List Int)} {less : List Int} {q : List (Int × Int)} (h : WF ng im less) (hlo : lo < im.length) (hne : lo ≠ hi) : ∀ g, g ≤ ng →
    (∀ c k, (c ≠ lo ∨ g ≤ k) → ent (mergeUp lo hi (im, q) g).1 c k = ent im c k) ∧ (∀ k, k < g → ent (mergeUp lo hi (im, q) g).1 lo k = if ent im hi k < 0 then ent im lo k else if 0 ≤ ent im lo k then ent im lo k else ent im hi k) ∧
    (∀ p ∈ q, p ∈ (mergeUp lo hi (im, q) g).2) ∧ (∀ k, k < g → 0 ≤ ent im hi k → 0 ≤ ent im lo k → (ent im hi k, ent im lo k) ∈ (mergeUp lo hi (im, q) g).2) ∧ ((mergeUp lo hi (im, q) g).1.length = im.length ∧ ∀ c, (lget (mergeUp lo hi (im, q) g).1 c).length = (lget im c).length)
  | 0, _ => ⟨fun _ _ _ => rfl, fun k hk => by omega, fun _ h => h, fun k hk => by omega, rfl, fun _ => rfl⟩
  | g + 1, hg => by
    obtain ⟨h1, h2, h3, h4, h5, h6⟩ := mergeUp_spec h hlo hne g (by omega) (q := q)
    have ehi : ent (mergeUp lo hi (im, q) g).1 hi g = ent im hi g := h1 hi g (.inl (fun e => hne e.symm))
    have elo : ent (mergeUp lo hi (im, q) g).1 lo g = ent im lo g := h1 lo g (.inr (Nat.le_refl _))
    simp only [mergeUp, stepG, ehi, elo]
    split
    · rename_i hn
      refine ⟨fun c k hk => h1 c k (hk.imp id fun h => by omega), fun k hk => ?_, h3, fun k hk a b => ?_, h5, h6⟩
      · by_cases e : k = g
        · subst e; rw [elo, if_pos hn]
        · exact h2 k (by omega)
      · by_cases e : k = g
        · subst e; omega
        · exact h4 k (by omega) a b
    · rename_i hn
      split
      · rename_i hp
        refine ⟨fun c k hk => h1 c k (hk.imp id fun h => by omega), fun k hk => ?_, fun p hp' => by simp [h3 p hp'], fun k hk a b => ?_, h5, h6⟩
        · by_cases e : k = g
          · subst e; rw [elo, if_neg hn, if_pos hp]
          · exact h2 k (by omega)
        · by_cases e : k = g
          · subst e; simp
          · simp [h4 k (by omega) a b]
      · rename_i hp
        have hlen : lo < (mergeUp lo hi (im, q) g).1.length := by rw [h5]; exact hlo
        have hrow : g < (lget (mergeUp lo hi (im, q) g).1 lo).length := by rw [h6, h.row lo hlo]; omega
        refine ⟨fun c k hk => ?_, fun k hk => ?_, h3, fun k hk a b => ?_, by rw [rset_len]; exact h5, fun c => by rw [rset_row]; exact h6 c⟩
        · dsimp only
          rw [ent_rset hlen hrow, if_neg (by rcases hk with hk | hk <;> omega)]
          exact h1 c k (hk.imp id fun h => by omega)
        · dsimp only
          rw [ent_rset hlen hrow]
          by_cases e : k = g
          · subst e; rw [if_pos ⟨rfl, rfl⟩, if_neg hn, if_neg hp]
          · rw [if_neg (by omega)]; exact h2 k (by omega)
        · by_cases e : k = g
          · subst e; omega
          · exact h4 k (by omega) a b
theorem Back.merge {ng lo hi : Nat} {im : List (List Int)} {less : List Int} {p : Int × Int} {q : List (Int × Int)} (h : WF ng im less) (hB : Back ng im less (p :: q)) (hp : p.1.toNat < less.length ∧ p.2.toNat < less.length) (hlt : lo < hi) (hhi : hi < less.length) (hl0 : iget less lo = (lo : Int)) (hh0 : iget less hi = (hi : Int))
    (hr : (root less p.1.toNat = lo ∧ root less p.2.toNat = hi) ∨ (root less p.1.toNat = hi ∧ root less p.2.toNat = lo)) : Back ng (mergeUp lo hi (im, q) ng).1 (less.set hi (lo : Int)) (mergeUp lo hi (im, q) ng).2 := by
  have hil : lo < im.length := by rw [h.len]; omega
  obtain ⟨m1, m2, m3, m4, _⟩ := mergeUp_spec (q := q) h hil (by omega : lo ≠ hi) ng (Nat.le_refl _)
  have hrs := root_set h.down hlt hhi hl0 hh0
  have hd := down_set h.down (lo := lo) (hi := hi) (by omega)
  generalize (mergeUp lo hi (im, q) ng).1 = im' at *
  generalize (mergeUp lo hi (im, q) ng).2 = q' at *
  have hlh : Eqv (less.set hi (lo : Int)) q' hi lo := by
    have := Eqv.root (less := less.set hi (lo : Int)) (q := q') hi (by rw [List.length_set]; exact hhi)
    rwa [hrs hi hhi, root_of hh0, if_pos rfl] at this
  have hroot : ∀ a, a < less.length → Eqv (less.set hi (lo : Int)) q' a (root less a) := fun a ha => by
    have := Eqv.root (less := less.set hi (lo : Int)) (q := q') a (by rw [List.length_set]; exact ha)
    rw [hrs a ha] at this
    by_cases e : root less a = hi
    · rw [if_pos e] at this; rw [e]; exact this.trans hlh.symm
    · rwa [if_neg e] at this
  have hmono : ∀ {a b : Nat}, Eqv less (p :: q) a b → Eqv (less.set hi (lo : Int)) q' a b := fun hab => by
    refine Eqv.mono hroot (fun x hx => ?_) hab
    rcases List.mem_cons.1 hx with rfl | hx
    · have k1 := hroot _ hp.1
      have k2 := hroot _ hp.2
      rcases hr with ⟨r1, r2⟩ | ⟨r1, r2⟩
      · rw [r1] at k1; rw [r2] at k2; exact k1.trans (hlh.symm.trans k2.symm)
      · rw [r1] at k1; rw [r2] at k2; exact k1.trans (hlh.trans k2.symm)
    · exact .pair x (m3 x hx)
  -- the row of lo now
  have elo : ∀ g, g < ng → (0 ≤ ent im lo g → ent im' lo g = ent im lo g) ∧ (0 ≤ ent im hi g → 0 ≤ ent im' lo g ∧ Eqv (less.set hi (lo : Int)) q' (ent im' lo g).toNat (ent im hi g).toNat) := fun g hg => by
    have e := m2 g hg
    refine ⟨fun h0 => ?_, fun h0 => ?_⟩
    · rw [e]; split <;> first | rfl | rw [if_pos h0]
    · by_cases h1 : 0 ≤ ent im lo g
      · rw [e, if_neg (by omega), if_pos h1]
        exact ⟨h1, (Eqv.pair _ (m4 g hg h0 h1)).symm⟩
      · rw [e, if_neg (by omega), if_neg h1]
        exact ⟨h0, .refl _⟩
  -- where a root's entry is now
  have key : ∀ r g, r < less.length → g < ng → 0 ≤ ent im r g → 0 ≤ ent im' (if r = hi then lo else r) g ∧ Eqv (less.set hi (lo : Int)) q' (ent im' (if r = hi then lo else r) g).toNat (ent im r g).toNat := fun r g hr' hg h0 => by
    by_cases e : r = hi
    · subst e; rw [if_pos rfl]; exact (elo g hg).2 h0
    · rw [if_neg e]
      by_cases e2 : r = lo
      · subst e2; rw [(elo g hg).1 h0]; exact ⟨h0, .refl _⟩
      · rw [m1 r g (.inl e2)]; exact ⟨h0, .refl _⟩
  intro c g hc hlive hg h0
  rw [List.length_set] at hc
  have hch : c ≠ hi := fun e => by subst e; rw [iget_set, if_pos ⟨rfl, hhi⟩] at hlive; omega
  have hlv : iget less c = (c : Int) := by rw [iget_set, if_neg (fun e => hch e.1.symm)] at hlive; exact hlive
  -- the entry comes of c itself, or of hi
  have src : (0 ≤ ent im c g ∧ ent im' c g = ent im c g) ∨ (c = lo ∧ ent im c g < 0 ∧ 0 ≤ ent im hi g ∧ ent im' c g = ent im hi g) := by
    by_cases e : c = lo
    · subst e
      have e' := m2 g hg
      by_cases h1 : 0 ≤ ent im c g
      · exact .inl ⟨h1, (elo g hg).1 h1⟩
      · right
        rw [e'] at h0 ⊢
        split at h0
        · omega
        · rename_i h2
          rw [if_neg h2, if_neg h1]
          exact ⟨rfl, by omega, by omega, rfl⟩
    · rw [m1 c g (.inl e)] at h0
      exact .inl ⟨h0, m1 c g (.inl e)⟩
  have hcl : c < im.length := by rw [h.len]; exact hc
  rcases src with ⟨h1, h2⟩ | ⟨rfl, h1, h2, h3⟩
  · rw [h2]
    obtain ⟨k1, k2⟩ := hB c g hc hlv hg h1
    have hel := h.ent c g hcl hg
    have hrl := root_lt h.down (c := (ent im c g).toNat) (by omega)
    rw [hrs _ (by omega)]
    obtain ⟨k3, k4⟩ := key _ g hrl hg k1
    exact ⟨k3, k4.trans (hmono k2)⟩
  · rw [h3]
    obtain ⟨k1, k2⟩ := hB hi g hhi hh0 hg h2
    have hel := h.ent hi g (by rw [h.len]; exact hhi) hg
    have hrl := root_lt h.down (c := (ent im hi g).toNat) (by omega)
    rw [hrs _ (by omega)]
    obtain ⟨k3, k4⟩ := key _ g hrl hg k1
    exact ⟨k3, (k4.trans (hmono k2)).trans hlh⟩
theorem Back.less_q {ng : Nat} {im : List (List Int)} {less : List Int} {q q' : List (Int × Int)} (hB : Back ng im less q) (hq : ∀ p ∈ q, Eqv less q' p.1.toNat p.2.toNat) : Back ng im less q' := fun c g hc hl hg h0 => by
  obtain ⟨k1, k2⟩ := hB c g hc hl hg h0
  exact ⟨k1, k2.mono (fun a ha => .root a ha) hq⟩
theorem identLoop_back {ng n : Nat} : ∀ (f : Nat) (im : List (List Int)) (less : List Int) (q : List (Int × Int)), WF ng im less → less.length = n → QOK n q → fuel ng less q ≤ f → Back ng im less q → Back ng (identLoop ng f im less q).1 (identLoop ng f im less q).2 []
  | 0, im, less, q, h, hn, hq, hf, hB => by
    have : q = [] := List.eq_nil_of_length_eq_zero (by unfold fuel at hf; omega)
    subst this; exact hB
  | f + 1, im, less, [], h, hn, hq, hf, hB => hB
  | f + 1, im, less, p :: q, h, hn, hq, hf, hB => by
    have hp := hq p (by simp)
    have hq' : QOK less.length q := fun x hx => hn ▸ hq x (by simp [hx])
    have hr1 := root_fix h.down p.1.toNat (by omega)
    have hr2 := root_fix h.down p.2.toNat (by omega)
    have hfu : fuel ng less (p :: q) = fuel ng less q + 1 := by unfold fuel; simp; omega
    simp only [identLoop]
    split
    · rename_i he
      refine identLoop_back f im less q h hn (fun x hx => hq x (by simp [hx])) (by omega) (hB.less_q fun x hx => ?_)
      rcases List.mem_cons.1 hx with rfl | hx
      · have k1 := Eqv.root (less := less) (q := q) x.1.toNat (by omega)
        have k2 := Eqv.root (less := less) (q := q) x.2.toNat (by omega)
        rw [he] at k1; exact k1.trans k2.symm
      · exact .pair x hx
    · rename_i hne
      have hid := ident_merge h (hn ▸ hq) hne
      unfold mergeSt at hid
      obtain ⟨_, w1, w2, w3⟩ := hid
      have hroots : iget less (min (root less p.1.toNat) (root less p.2.toNat)) = ((min (root less p.1.toNat) (root less p.2.toNat) : Nat) : Int) ∧ iget less (max (root less p.1.toNat) (root less p.2.toNat)) = ((max (root less p.1.toNat) (root less p.2.toNat) : Nat) : Int) := by
        rcases Nat.le_total (root less p.1.toNat) (root less p.2.toNat) with h5 | h5
        · rw [Nat.min_eq_left h5, Nat.max_eq_right h5]; exact ⟨hr1.1, hr2.1⟩
        · rw [Nat.min_eq_right h5, Nat.max_eq_left h5]; exact ⟨hr2.1, hr1.1⟩
      have hbk := hB.merge h (by omega) (lo := min (root less p.1.toNat) (root less p.2.toNat)) (hi := max (root less p.1.toNat) (root less p.2.toNat)) (by omega) (by omega) hroots.1 hroots.2 (by
        rcases Nat.le_total (root less p.1.toNat) (root less p.2.toNat) with h5 | h5
        · left; rw [Nat.min_eq_left h5, Nat.max_eq_right h5]; exact ⟨rfl, rfl⟩
        · right; rw [Nat.min_eq_right h5, Nat.max_eq_left h5]; exact ⟨rfl, rfl⟩)
      exact identLoop_back f _ _ _ w1 (by rw [List.length_set]; exact hn) (hn ▸ w2) (by omega) hbk
theorem ident_back {ng : Nat} {im : List (List Int)} {less : List Int} {p : Int × Int} (h : WF ng im less) (hq : QOK less.length [p]) (hB : Back ng im less []) : Back ng (ident ng im less [p]).1 (ident ng im less [p]).2 [] :=
  identLoop_back _ im less [p] h rfl hq (Nat.le_refl _) (hB.less_q fun x hx => by simp at hx)

section
variable {ng : Nat} {im : List (List Int)} {less : List Int}
theorem Back.fix (hB : Back ng im less []) (h : WF ng im less) {c g : Nat} (hc : c < less.length) (hl : iget less c = (c : Int)) (hg : g < ng) (h0 : 0 ≤ ent im c g) : 0 ≤ ent im (root less (ent im c g).toNat) g ∧ root less (ent im (root less (ent im c g).toNat) g).toNat = c := by
  obtain ⟨k1, k2⟩ := hB c g hc hl hg h0
  exact ⟨k1, (k2.root_eq h.down).trans (root_of hl)⟩
theorem Back.of (h : ∀ c g, c < less.length → iget less c = (c : Int) → g < ng → 0 ≤ ent im c g → 0 ≤ ent im (root less (ent im c g).toNat) g ∧ root less (ent im (root less (ent im c g).toNat) g).toNat = c) (hw : WF ng im less) : Back ng im less [] := fun c g hc hl hg h0 => by
  obtain ⟨k1, k2⟩ := h c g hc hl hg h0
  refine ⟨k1, ?_⟩
  have he := hw.ent c g (by rw [hw.len]; exact hc) hg
  have hrl := root_lt hw.down (c := (ent im c g).toNat) (by omega)
  have he2 := hw.ent (root less (ent im c g).toNat) g (by rw [hw.len]; exact hrl) hg
  have := Eqv.root (less := less) (q := []) (ent im (root less (ent im c g).toNat) g).toNat (by omega)
  rwa [k2] at this
/-- two cosets become images of each other -/
theorem Back.link (hB : Back ng im less []) (hw : WF ng im less) {c d g : Nat} (hc : c < less.length) (hd : d < less.length) (hlc : iget less c = (c : Int)) (hld : iget less d = (d : Int)) (hg : g < ng) (h1 : ent im c g < 0) (h2 : ent im d g < 0) : Back ng (rset (rset im d g (c : Int)) c g (d : Int)) less [] := by
  have hl := hw.len
  have w1 := hw.set_im (c := d) (g := g) (z := (c : Int)) (by omega) hg (by omega)
  have w2 := w1.set_im (c := c) (g := g) (z := (d : Int)) (by rw [rset_len]; omega) hg (by omega)
  have ee : ∀ a k, ent (rset (rset im d g (c : Int)) c g (d : Int)) a k = if c = a ∧ g = k then (d : Int) else if d = a ∧ g = k then (c : Int) else ent im a k := fun a k => by
    rw [ent_rset (by rw [rset_len]; omega) (by rw [rset_row, hw.row c (by omega)]; exact hg), ent_rset (by omega) (by rw [hw.row d (by omega)]; exact hg)]
  refine Back.of (fun a k ha hla hk h0 => ?_) w2
  have e0 := ee a k
  by_cases e1 : c = a ∧ g = k
  · obtain ⟨rfl, rfl⟩ := e1
    rw [if_pos ⟨rfl, rfl⟩] at e0
    rw [e0, Int.toNat_natCast, root_of hld]
    have e3 := ee d g
    by_cases e2 : c = d
    · subst e2; rw [if_pos ⟨rfl, rfl⟩] at e3; rw [e3, Int.toNat_natCast]; exact ⟨by omega, root_of hlc⟩
    · rw [if_neg (fun h => e2 h.1), if_pos ⟨rfl, rfl⟩] at e3; rw [e3, Int.toNat_natCast]; exact ⟨by omega, root_of hlc⟩
  · rw [if_neg e1] at e0
    by_cases e2 : d = a ∧ g = k
    · obtain ⟨rfl, rfl⟩ := e2
      rw [if_pos ⟨rfl, rfl⟩] at e0
      rw [e0, Int.toNat_natCast, root_of hlc]
      have e3 := ee c g
      rw [if_pos ⟨rfl, rfl⟩] at e3
      rw [e3, Int.toNat_natCast]; exact ⟨by omega, root_of hld⟩
    · rw [if_neg e2] at e0
      rw [e0] at h0 ⊢
      obtain ⟨k1, k2⟩ := hB.fix hw ha hla hk h0
      have n1 : ¬ (c = root less (ent im a k).toNat ∧ g = k) := fun h => by rw [← h.1, ← h.2] at k1; omega
      have n2 : ¬ (d = root less (ent im a k).toNat ∧ g = k) := fun h => by rw [← h.1, ← h.2] at k1; omega
      have e3 := ee (root less (ent im a k).toNat) k
      rw [if_neg n1, if_neg n2] at e3
      rw [e3]
      exact ⟨k1, k2⟩
theorem Back.app (hB : Back ng im less []) (hw : WF ng im less) : Back ng (im ++ [List.replicate ng (-1)]) (less ++ [(less.length : Int)]) [] := by
  have hl := hw.len
  have hra := root_app hw.down
  refine Back.of (fun a k ha hla hk h0 => ?_) hw.app
  by_cases e : a < less.length
  · have e1 : ∀ b, b < less.length → ent (im ++ [List.replicate ng (-1)]) b k = ent im b k := fun b hb => by unfold ent; rw [lget_app_lt (by omega)]
    rw [e1 a e] at h0 ⊢
    rw [iget_app_lt e] at hla
    obtain ⟨k1, k2⟩ := hB.fix hw e hla hk h0
    have he := hw.ent a k (by omega) hk
    have hrl := root_lt hw.down (c := (ent im a k).toNat) (by omega)
    have he2 := hw.ent (root less (ent im a k).toNat) k (by omega) hk
    rw [hra _ (by omega), e1 _ hrl, hra _ (by omega)]
    exact ⟨k1, k2⟩
  · obtain rfl : a = less.length := by simp at ha; omega
    exfalso
    unfold ent at h0
    rw [← hl, lget_app_eq, iget_rep hk] at h0
    omega
theorem Back.next (hB : Back ng im less []) (hw : WF ng im less) {c g : Nat} (hc : c < less.length) (hlc : iget less c = (c : Int)) (hg : g < ng) (hn : less.length ≤ 2000) :
    Back ng (nextC ng im less c g).1 (nextC ng im less c g).2.1 [] ∧ ((nextC ng im less c g).2.2.1 = false → iget (nextC ng im less c g).2.1 (nextC ng im less c g).2.2.2 = ((nextC ng im less c g).2.2.2 : Int)) ∧ (∀ a, a < less.length → iget (nextC ng im less c g).2.1 a = iget less a) := by
  unfold nextC
  split
  · rename_i h0
    have he := hw.ent c g (by rw [hw.len]; exact hc) hg
    exact ⟨hB, fun _ => (root_fix hw.down _ (by omega)).1, fun _ _ => rfl⟩
  · rename_i h0
    split
    · exact ⟨hB, (fun h => nomatch h), fun _ _ => rfl⟩
    · have hl := hw.len
      have b1 := hB.app hw
      have w1 := hw.app
      refine ⟨?_, fun _ => iget_app_eq, fun a ha => iget_app_lt ha⟩
      have hcc : c < (less ++ [(less.length : Int)]).length := by simp; omega
      have := b1.link w1 (c := less.length) (d := c) (g := g) (by simp) hcc iget_app_eq (by rw [iget_app_lt hc]; exact hlc) hg (by unfold ent; rw [← hl, lget_app_eq, iget_rep hg]; omega) (by unfold ent at h0 ⊢; rw [lget_app_lt (by omega)]; omega)
      exact this
end
theorem goC_back {ng n0 : Nat} : ∀ (w : List Nat) (s : List (List Int) × List Int × Bool × Nat), GoOK ng n0 s → Back ng s.1 s.2.1 [] → (s.2.2.1 = false → iget s.2.1 s.2.2.2 = (s.2.2.2 : Int)) → (∀ g ∈ w, g < ng) →
    Back ng (goC ng s w).1 (goC ng s w).2.1 [] ∧ ((goC ng s w).2.2.1 = false → iget (goC ng s w).2.1 (goC ng s w).2.2.2 = ((goC ng s w).2.2.2 : Int)) ∧ (∀ a, a < s.2.1.length → iget (goC ng s w).2.1 a = iget s.2.1 a)
  | [], s, h, hB, hl, _ => ⟨hB, hl, fun _ _ => rfl⟩
  | g :: r, s, h, hB, hl, hg => by
    unfold goC
    split
    · exact ⟨hB, hl, fun _ _ => rfl⟩
    · rename_i hf
      obtain ⟨b1, b2, b3⟩ := hB.next h.wf h.d (hl (by simpa using hf)) (hg g (by simp)) h.hi
      obtain ⟨h1, h2, h3, h4, _⟩ := nextC_ok h.wf h.d (hg g (by simp)) h.hi
      obtain ⟨c1, c2, c3⟩ := goC_back (n0 := n0) r _ ⟨h1, Nat.le_trans h.lo h2, h3, h4⟩ b1 b2 fun x hx => hg x (by simp [hx])
      exact ⟨c1, c2, fun a ha => (c3 a (by omega)).trans (b3 a ha)⟩
theorem closeC_back {ng : Nat} {im : List (List Int)} {less : List Int} {c : Nat} {w : List Nat} (h : WF ng im less) (hB : Back ng im less []) (hc : c < less.length) (hl : iget less c = (c : Int)) (hn : less.length ≤ 2000) (hg : ∀ g ∈ w, g < ng) : Back ng (closeC ng im less c w).1 (closeC ng im less c w).2.1 [] := by
  unfold closeC
  cases hw : w.getLast? with
  | none => exact hB
  | some g =>
    have hgl : g < ng := hg g (List.mem_of_getLast? hw)
    have ok := goC_ok (n0 := less.length) w.dropLast (im, less, false, c) ⟨h, Nat.le_refl _, hn, hc⟩ fun x hx => hg x (List.dropLast_subset _ hx)
    obtain ⟨b1, b2, b3⟩ := goC_back (n0 := less.length) w.dropLast (im, less, false, c) ⟨h, Nat.le_refl _, hn, hc⟩ hB (fun _ => hl) fun x hx => hg x (List.dropLast_subset _ hx)
    generalize goC ng (im, less, false, c) w.dropLast = s at *
    have hcs : c < s.2.1.length := Nat.lt_of_lt_of_le hc ok.lo
    have hlc : iget s.2.1 c = (c : Int) := (b3 c hc).trans hl
    dsimp only
    split
    · exact b1
    · rename_i hf
      have e1 := image_lt ok.wf ok.d hgl
      have e2 := image_lt ok.wf hcs hgl
      have hd := ok.d
      split
      · rename_i he
        exact ident_back ok.wf (fun p hp => by simp at hp; subst hp; exact ⟨⟨he, e1⟩, by omega, by dsimp only; omega⟩) b1
      · rename_i he
        split
        · rename_i hf
          exact ident_back ok.wf (fun p hp => by simp at hp; subst hp; exact ⟨⟨hf, e2⟩, by omega, by dsimp only; omega⟩) b1
        · rename_i hf2
          refine b1.link ok.wf hcs hd hlc (b2 (by simpa using hf)) hgl ?_ ?_
          · unfold image at hf2; split at hf2 <;> omega
          · unfold image at he; split at he <;> omega
/-- well formed, and generators lead back -/
def BK (ng n : Nat) (s : CSt) : Prop := CloseOK ng n s ∧ Back ng s.1 s.2.1 []
theorem close0_back {ng n : Nat} {s : CSt} {w : List Int} (h : BK ng n s) (hn : 0 < n) (hw : Letters ng w) : BK ng n (close0 ng s w) := by
  refine ⟨close0_ok h.1 hn hw, ?_⟩
  have h0 : 0 < s.2.1.length := Nat.lt_of_lt_of_le hn h.1.lo
  unfold close0
  split
  · exact h.2
  · exact closeC_back h.1.wf h.2 h0 (by have := h.1.wf.down 0 h0; omega) h.1.hi hw.nat
theorem close1_back {ng n c : Nat} {s : CSt} {w : List Int} (h : BK ng n s) (hn : c < n) (hw : Letters ng w) : BK ng n (close1 ng c s w) := by
  refine ⟨close1_ok h.1 hn hw, ?_⟩
  unfold close1
  split
  · rename_i hl
    exact closeC_back h.1.wf h.2 (Nat.lt_of_lt_of_le hn h.1.lo) (by unfold liveC at hl; simp at hl; exact hl.1) h.1.hi hw.nat
  · exact h.2
theorem next1_back {ng n c g : Nat} {s : CSt} (h : BK ng n s) (hn : c < n) (hg : g < ng) : BK ng n (next1 ng c s g) := by
  refine ⟨next1_ok h.1 hn hg, ?_⟩
  unfold next1
  split
  · rename_i hl
    exact (h.2.next h.1.wf (Nat.lt_of_lt_of_le hn h.1.lo) (by unfold liveC at hl; simp at hl; exact hl.1) hg h.1.hi).1
  · exact h.2
theorem foldl_back {α : Type} {ng n : Nat} {f : CSt → α → CSt} {p : α → Prop} (hf : ∀ s x, BK ng n s → p x → BK ng n (f s x)) : ∀ (l : List α) (s : CSt), BK ng n s → (∀ x ∈ l, p x) → BK ng n (l.foldl f s)
  | [], s, h, _ => h
  | x :: r, s, h, hp => foldl_back hf r _ (hf s x h (hp x (by simp))) fun y hy => hp y (by simp [hy])
theorem coset1_back {ng n c : Nat} {rels : List (List Int)} {s : CSt} (h : BK ng n s) (hn : c < n) (hr : ∀ w ∈ rels, Letters ng w) : BK ng n (coset1 ng rels c s) :=
  foldl_back (p := fun g => g < ng) (fun s g h hg => next1_back h hn hg) _ _ (foldl_back (p := Letters ng) (fun s w h hw => close1_back h hn hw) _ _ h hr) fun g hg => List.mem_range.1 hg
theorem outer_back {ng n : Nat} {rels : List (List Int)} (hr : ∀ w ∈ rels, Letters ng w) : ∀ (f c : Nat) (s : CSt), BK ng n s → BK ng n (outer ng rels f c s)
  | 0, _, s, h => h
  | f + 1, c, s, h => by
    unfold outer
    split
    · rename_i hc
      have := coset1_back (n := s.2.1.length) ⟨⟨h.1.wf, Nat.le_refl _, h.1.hi⟩, h.2⟩ hc.1 hr
      exact outer_back hr f _ _ ⟨this.1.le h.1.lo, this.2⟩
    · exact h
theorem startC_back (ng : Nat) : BK ng 1 (startC ng) := ⟨startC_ok ng, fun c g hc _ hg h0 => by
  exfalso
  obtain rfl : c = 0 := by simp [startC] at hc; omega
  simp [startC, ent, lget, iget, hg] at h0⟩
theorem runC_back {ng : Nat} {rels words : List (List Int)} (hr : ∀ w ∈ rels, Letters ng w) (hw : ∀ w ∈ words, Letters ng w) : BK ng 1 (runC ng rels words) :=
  outer_back hr _ _ _ (foldl_back (p := Letters ng) (fun s w h hw => close0_back h (by omega) hw) _ _ (startC_back ng) hw)
theorem image_back {ng : Nat} {im : List (List Int)} {less : List Int} (hF : Full ng im less) (hB : Back ng im less []) {c g : Nat} (hc : c < less.length) (hl : iget less c = (c : Int)) (hg : g < ng) : image im less (image im less c g).toNat g = (c : Int) := by
  have h0 := hF.full c hc hl g hg
  obtain ⟨k1, k2⟩ := hB.fix hF.wf hc hl hg h0
  have e : image im less c g = (root less (ent im c g).toNat : Nat) := by unfold image; rw [if_neg (by omega)]
  rw [e, Int.toNat_natCast]
  unfold image
  rw [if_neg (by omega), k2]

/-- the numbers lead back to the cosets -/
def NBack (n : Nat) (s : NSt) : Prop := ∀ d, d < n → 0 ≤ iget s.2 d → iget s.1 (iget s.2 d).toNat = (d : Int)
theorem visit_nback {n : Nat} {less : List Int} {s : NSt} {d : Nat} (h : TOK n less s) (hb : NBack n s) (hd : d < n) : NBack n (visit s d) := by
  unfold visit
  split
  · rename_i hn
    intro e he h0
    dsimp only at h0 ⊢
    rw [iget_set] at h0 ⊢
    split
    · rename_i h1; rw [Int.toNat_natCast, iget_app_eq, h1.1]
    · rename_i h1
      rw [if_neg h1] at h0
      rw [iget_app_lt (by have := h.num e he h0; omega)]
      exact hb e he h0
  · exact hb
theorem row_nback {ng : Nat} {im : List (List Int)} {less : List Int} (hF : Full ng im less) {i : Nat} {s : NSt} (h : TOK less.length less s) (hb : NBack less.length s) (hi : i < s.1.length) : ∀ m, m ≤ ng → NBack less.length ((List.range m).foldl (visitG im less i) s)
  | 0, _ => hb
  | m + 1, hm => by
    have ih := row_nback hF h hb hi m (by omega)
    obtain ⟨h1, h2, _⟩ := tabRow_ok hF h hi m (by omega)
    rw [List.range_succ, List.foldl_append]
    generalize (List.range m).foldl (visitG im less i) s = t at *
    obtain ⟨d, k1, k2, k3, _⟩ := h1.live i (Nat.lt_of_lt_of_le hi h2.len)
    obtain ⟨e, e1, e2, _⟩ := hF.image k2 k3 (g := m) (by omega)
    show NBack less.length (visitG im less i t m)
    unfold visitG
    rw [k1, Int.toNat_natCast, e1, Int.toNat_natCast]
    exact visit_nback h1 ih e2
theorem loop_nback {ng : Nat} {im : List (List Int)} {less : List Int} (hF : Full ng im less) : ∀ (f i : Nat) (s : NSt), TOK less.length less s → NBack less.length s → NBack less.length (tabLoop ng im less f i s)
  | 0, i, s, _, hb => hb
  | f + 1, i, s, h, hb => by
    unfold tabLoop
    split
    · rename_i hlt
      exact loop_nback hF f (i + 1) _ (tabRow_ok hF h hlt ng (Nat.le_refl _)).1 (row_nback hF h hb hlt ng (Nat.le_refl _))
    · exact hb
theorem numbered_nback {ng : Nat} {im : List (List Int)} {less : List Int} (hF : Full ng im less) : NBack less.length (numbered ng im less) :=
  loop_nback hF _ _ _ (tabStart_ok hF) fun d hd h0 => by
    have hp := hF.pos
    have h0 : 0 ≤ iget ((List.replicate less.length (-1)).set 0 0) d := h0
    show iget [0] (iget ((List.replicate less.length (-1)).set 0 0) d).toNat = _
    rw [iget_set] at h0 ⊢
    split
    · rename_i h1; rw [← h1.1]; rfl
    · rename_i h1; rw [if_neg h1, iget_rep hd] at h0; omega
/-- the entry of the table -/
def tEnt (ng : Nat) (im : List (List Int)) (less : List Int) (k g : Nat) : Int := iget (numbered ng im less).2 (image im less (iget (numbered ng im less).1 k).toNat g).toNat
theorem tEnt_back {ng : Nat} {im : List (List Int)} {less : List Int} (hF : Full ng im less) (hB : Back ng im less []) {k g : Nat} (hk : k < (numbered ng im less).1.length) (hg : g < ng) : tEnt ng im less (tEnt ng im less k g).toNat g = (k : Int) := by
  obtain ⟨h, hs⟩ := numbered_ok hF
  obtain ⟨d, h1, h2, h3, h4⟩ := h.live k hk
  obtain ⟨e, e1, e2, e3⟩ := hF.image h2 h3 hg
  have h0 := hs k hk g hg
  have hn := numbered_nback hF e e2
  have hi := image_back hF hB h2 h3 hg
  unfold tEnt
  rw [h1, Int.toNat_natCast, e1, Int.toNat_natCast] at h0 ⊢
  rw [e1, Int.toNat_natCast] at hi
  rw [hn h0, Int.toNat_natCast, hi, Int.toNat_natCast, h4]
end Go.Proofs.Ytpjglifijdcgnaa

/- Coset enumeration: l11Find. -/
namespace Go.Proofs.Ytpjglifijdcgnaa
open Go.RowKit

theorem l11Find_fc (less : List Int) (n c : Nat) (b : Bool) (hn : less.length = n) (hd : Down less) (hc : c < less.length) :
    FC Try.prog 95 [(1001, ⟨false, 2, 1, .vals (ivals less)⟩)] [.s (.agg [.any, .sl 1001 0 n, .val (.bool b)]), vv (I6 c)] [] (vv (I6 (root less c))) [] := by
  subst hn
  refine fc_enter (nt := 18) Try.func95 rfl rfl (by simp) fun w0 ω0 => ?_
  (refine goes_seq ?_; refine goes_region ?_; apply run_step rfl; (exact stp_box rfl rfl rfl rfl); apply run_step rfl; (exact stp_assign rfl rfl); refine run_nil ?_; refine fin_seq ?_; refine goes_seq ?_; refine goes_block ?_)
  refine goes_loop (fun k : Nat => St.of [(1, vv (I6 k)), (2, o1 (.ptr 2 0))] [(1001, ⟨false, 2, 1, .vals (ivals less)⟩), (2, ⟨true, 87, 3, .flat [.any, .sl 1001 0 less.length, .val (.bool b)]⟩)]) (fun k => k < less.length ∧ root less k = root less c) (fun k => k) c ⟨hc, rfl⟩ (Wk.of ⟨rfl, rfl, trivial⟩ ⟨rfl, rfl, trivial⟩ trivial) ?_
  rintro k ⟨hk, hr⟩
  (refine goes_seq ?_; refine goes_seq ?_; refine goes_region ?_; apply run_step rfl; (exact stp_fieldAddr (d := 1) rfl rfl rfl (by as_aux_lemma => kernel_rfl)); apply run_step rfl; (exact stp_loadF rfl (by as_aux_lemma => kernel_rfl) rfl rfl rfl rfl); apply run_step rfl; (exact stp_move rfl rfl); apply run_step rfl; (exact stp_ix rfl rfl rfl rfl rfl (by as_aux_lemma => kernel_rfl) (by first | rfl | exact (Int.toNat_of_nonneg (by omega)).symm) (by first | assumption | omega | (simp; omega)) (by first | exact Nat.le_refl _ | exact Nat.le_of_eq (ivals_len _).symm | exact Nat.le_of_eq (irows_len _).symm | (refine Nat.le_trans ?_ (Nat.le_of_eq (ivals_len _).symm); (first | omega | (simp; done) | (simp; omega))) | (refine Nat.le_trans ?_ (Nat.le_of_eq (irows_len _).symm); (first | omega | (simp; done) | (simp; omega))))); apply run_step rfl; (exact stp_loadV rfl (by as_aux_lemma => kernel_rfl) rfl rfl rfl (by first | assumption | exact ivals_get (by assumption) | exact irows_get (by assumption) | exact ivals_get (by omega) | exact irows_get (by omega) | rfl)); apply run_step rfl; (exact stp_move rfl rfl); apply run_step rfl; (exact stp_bin rfl rfl rfl rfl); refine run_nil ?_; refine fin_seq ?_)
  have hk2 := hd k hk
  refine goes_cond rfl (fun h => ?_) (fun h => ?_)
  · have hne : iget less k ≠ k := by simpa using h
    have hz : iget less k = (((iget less k).toNat : Nat) : Int) := (Int.toNat_of_nonneg hk2.1).symm
    (refine goes_skip ?_; refine fin_seq ?_; refine goes_block ?_; refine goes_region ?_; apply run_step rfl; (exact stp_fieldAddr (d := 1) rfl rfl rfl (by as_aux_lemma => kernel_rfl)); apply run_step rfl; (exact stp_loadF rfl (by as_aux_lemma => kernel_rfl) rfl rfl rfl rfl); apply run_step rfl; (exact stp_move rfl rfl); apply run_step rfl; (exact stp_ix rfl rfl rfl rfl rfl (by as_aux_lemma => kernel_rfl) (by first | rfl | exact (Int.toNat_of_nonneg (by omega)).symm) (by first | assumption | omega | (simp; omega)) (by first | exact Nat.le_refl _ | exact Nat.le_of_eq (ivals_len _).symm | exact Nat.le_of_eq (irows_len _).symm | (refine Nat.le_trans ?_ (Nat.le_of_eq (ivals_len _).symm); (first | omega | (simp; done) | (simp; omega))) | (refine Nat.le_trans ?_ (Nat.le_of_eq (irows_len _).symm); (first | omega | (simp; done) | (simp; omega))))); apply run_step rfl; (exact stp_loadV rfl (by as_aux_lemma => kernel_rfl) rfl rfl rfl (by first | assumption | exact ivals_get (by assumption) | exact irows_get (by assumption) | exact ivals_get (by omega) | exact irows_get (by omega) | rfl)); apply run_step rfl; (exact stp_assign rfl rfl); refine run_nil ?_; refine fin_block ?_)
    exact fin_round (iget less k).toNat ⟨by omega, (root_step hd hk hne).symm.trans hr⟩ (by omega) (Wk.of ⟨congrArg (fun z => some (vv (I6 z))) hz, rfl, trivial⟩ ⟨rfl, rfl, trivial⟩ trivial)
  · have he : iget less k = k := by simpa using h
    have e : k = root less c := by rw [← hr, root_of he]
    (refine goes_exit ?_; refine fin_exit_then ?_; refine fin_exit_then ?_; refine fin_exit_eq ?_; refine fin_seq ?_; refine goes_seq ?_; refine goes_region ?_; apply run_step rfl; (exact stp_move rfl rfl); apply run_step rfl; (exact stp_assign rfl rfl); refine run_nil ?_; refine fin_seq ?_; refine goes_ret ?_)
    exact fin_ret1 (.inl rfl) rfl (.tmp (congrArg (fun z : Nat => some (vv (I6 z))) e)) trivial trivial

abbrev imRo (im : List (List Int)) : Ch := ⟨false, 37, 1, .rows 2 (irows im) []⟩
abbrev leRo (less : List Int) : Ch := ⟨false, 2, 1, .vals (ivals less)⟩
abbrev imOw (im : List (List Int)) : Ch := ⟨true, 37, 1, .rows 2 (irows im) []⟩
abbrev leOw (less : List Int) : Ch := ⟨true, 2, 1, .vals (ivals less)⟩
abbrev stAV (m n : Nat) (b : Bool) : AV := .s (.agg [.sl 1000 0 m, .sl 1001 0 n, .val (.bool b)])
theorem toI {z : Int} (h : 0 ≤ z) : some (vv (I6 z)) = some (vv (I6 ((z.toNat : Nat) : Int))) := by rw [Int.toNat_of_nonneg h]
theorem toV {z : Int} (h : 0 ≤ z) : vv (I6 z) = vv (I6 ((z.toNat : Nat) : Int)) := by rw [Int.toNat_of_nonneg h]
theorem l11Image_fc (im : List (List Int)) (less : List Int) (m n c g : Nat) (b : Bool) (hm : im.length = m) (hn : less.length = n) (hd : Down less) (hc : c < im.length) (hg : g < (lget im c).length) (he : ent im c g < less.length) :
    FC Try.prog 79 [(1000, imRo im), (1001, leRo less)] [stAV m n b, vv (I6 c), vv (I6 g)] [] (vv (I6 (image im less c g))) [] := by
  subst hm hn
  refine fc_enter (nt := 21) Try.func79 rfl rfl (by simp) fun w0 ω0 => ?_
  (refine goes_seq ?_; refine goes_region ?_; apply run_step rfl; (exact stp_box rfl rfl rfl rfl); apply run_step rfl; (exact stp_assign rfl rfl); refine run_nil ?_; refine fin_seq ?_; refine goes_seq ?_; refine goes_region ?_; apply run_step rfl; (exact stp_fieldAddr (d := 0) rfl rfl rfl (by as_aux_lemma => kernel_rfl)); apply run_step rfl; (exact stp_loadF rfl (by as_aux_lemma => kernel_rfl) rfl rfl rfl rfl); apply run_step rfl; (exact stp_move rfl rfl); apply run_step rfl; (exact stp_ix rfl rfl rfl rfl rfl (by as_aux_lemma => kernel_rfl) (by first | rfl | exact (Int.toNat_of_nonneg (by omega)).symm) (by first | assumption | omega | (simp; omega)) (by first | exact Nat.le_refl _ | exact Nat.le_of_eq (ivals_len _).symm | exact Nat.le_of_eq (irows_len _).symm | (refine Nat.le_trans ?_ (Nat.le_of_eq (ivals_len _).symm); (first | omega | (simp; done) | (simp; omega))) | (refine Nat.le_trans ?_ (Nat.le_of_eq (irows_len _).symm); (first | omega | (simp; done) | (simp; omega))))); apply run_step rfl; (exact stp_loadR rfl (by as_aux_lemma => kernel_rfl) rfl rfl rfl (by first | assumption | exact ivals_get (by assumption) | exact irows_get (by assumption) | exact ivals_get (by omega) | exact irows_get (by omega) | rfl) (by first | exact ivals_len _ | assumption | rfl)); apply run_step rfl; (exact stp_move rfl rfl); apply run_step rfl; (exact stp_ixE rfl rfl rfl rfl rfl (by as_aux_lemma => kernel_rfl) (by first | assumption | exact ivals_get (by assumption) | exact irows_get (by assumption) | exact ivals_get (by omega) | exact irows_get (by omega) | rfl) (by first | rfl | exact (Int.toNat_of_nonneg (by omega)).symm) (by first | assumption | omega | (simp; omega)) (by first | exact Nat.le_refl _ | exact Nat.le_of_eq (ivals_len _).symm | exact Nat.le_of_eq (irows_len _).symm | (refine Nat.le_trans ?_ (Nat.le_of_eq (ivals_len _).symm); (first | omega | (simp; done) | (simp; omega))) | (refine Nat.le_trans ?_ (Nat.le_of_eq (irows_len _).symm); (first | omega | (simp; done) | (simp; omega))))); apply run_step rfl; (exact stp_loadE' rfl (by as_aux_lemma => kernel_rfl) rfl rfl rfl (by first | assumption | exact ivals_get (by assumption) | exact irows_get (by assumption) | exact ivals_get (by omega) | exact irows_get (by omega) | rfl) (by first | assumption | exact ivals_get (by assumption) | exact irows_get (by assumption) | exact ivals_get (by omega) | exact irows_get (by omega) | rfl)); apply run_step rfl; (exact stp_assign rfl rfl); refine run_nil ?_; refine fin_seq ?_; refine goes_seq ?_; refine goes_seq ?_; refine goes_region ?_; apply run_step rfl; (exact stp_move rfl rfl); apply run_step rfl; (exact stp_bin rfl rfl rfl rfl); refine run_nil ?_; refine fin_seq ?_)
  refine goes_if rfl (fun h => ?_) (fun h => ?_)
  · have e : image im less c g = -1 := if_pos h
    (refine goes_seq ?_; refine goes_region ?_; apply run_step rfl; (exact stp_assign rfl rfl); refine run_nil ?_; refine fin_seq ?_; refine goes_ret ?_; refine fin_ret_then ?_)
    exact fin_ret1 (.inl rfl) rfl (.tmp (congrArg (fun z => some (vv (I6 z))) e.symm)) trivial trivial
  · have h : ¬ ent im c g < 0 := h
    have e : image im less c g = root less (ent im c g).toNat := if_neg h
    (refine goes_skip ?_; refine fin_seq ?_; refine goes_seq ?_; refine goes_region ?_; apply run_step rfl; (exact stp_loadAgg rfl rfl rfl rfl rfl rfl (by as_aux_lemma => kernel_rfl)); apply run_step rfl; (exact stp_move rfl rfl); apply run_step rfl; (exact stp_callR (l11Find_fc less _ (ent im c g).toNat b rfl hd (by omega)) (by as_aux_lemma => kernel_rfl) rfl rfl ⟨⟨.inr ⟨rfl, rfl⟩, .inl rfl, .inl rfl, trivial⟩, toV (by omega), trivial⟩ ⟨⟨_, rfl, .inl rfl⟩, trivial⟩ rfl rfl); apply run_step rfl; (exact stp_assign rfl rfl); refine run_nil ?_; refine fin_seq ?_; refine goes_ret ?_)
    exact fin_ret1 (.inl rfl) rfl (.tmp (congrArg (fun z => some (vv (I6 z))) e.symm)) trivial trivial
end Go.Proofs.Ytpjglifijdcgnaa

/- Coset enumeration: l11Define. -/
namespace Go.Proofs.Ytpjglifijdcgnaa
open Go.RowKit

theorem l11Define_full (im : List (List Int)) (less : List Int) (m n g : Nat) (b : Bool) (hm : im.length = m) (hn : less.length = n) (h : less.length = 2000) :
    FC Try.prog 92 [(1000, imOw im), (1001, leOw less)] [stAV m n b, vv (I6 g)] [(1000, imOw im), (1001, leOw less)] (.tup [.agg [.sl 1000 0 m, .sl 1001 0 n, .val (.bool true)], .one (.val (I6 0))]) [] := by
  subst hm hn
  refine fc_enter (nt := 39) Try.func92 rfl rfl (by simp) fun w0 ω0 => ?_
  (refine goes_seq ?_; refine goes_region ?_; apply run_step rfl; (exact stp_box rfl rfl rfl rfl); apply run_step rfl; (exact stp_allocZ [.slice none 0 0, .slice none 0 0, .bool false] rfl (by as_aux_lemma => kernel_rfl)); apply run_step rfl; (exact stp_assign rfl rfl); refine run_nil ?_; refine fin_seq ?_; refine goes_seq ?_; refine goes_region ?_; apply run_step rfl; (exact stp_fieldAddr (d := 1) rfl rfl rfl (by as_aux_lemma => kernel_rfl)); apply run_step rfl; (exact stp_loadF rfl (by as_aux_lemma => kernel_rfl) rfl rfl rfl rfl); apply run_step rfl; (exact stp_len rfl rfl rfl (by as_aux_lemma => kernel_rfl)); apply run_step rfl; (exact stp_assign rfl rfl); refine run_nil ?_; refine fin_seq ?_; refine goes_seq ?_; refine goes_seq ?_; refine goes_region ?_; apply run_step rfl; (exact stp_move rfl rfl); apply run_step rfl; (exact stp_bin rfl rfl rfl rfl); refine run_nil ?_; refine fin_seq ?_)
  refine goes_cond rfl (fun e => ?_) (fun e => ?_)
  · (refine goes_seq ?_; refine goes_region ?_; apply run_step rfl; (exact stp_fieldAddr (d := 2) rfl rfl rfl (by as_aux_lemma => kernel_rfl)); apply run_step rfl; (exact stp_storeF rfl rfl rfl rfl rfl rfl (by as_aux_lemma => kernel_rfl) rfl); refine run_nil ?_; refine fin_seq ?_; refine goes_seq ?_; refine goes_region ?_; apply run_step rfl; (exact stp_loadAgg rfl rfl rfl rfl rfl rfl (by as_aux_lemma => kernel_rfl)); apply run_step rfl; (exact stp_storeAgg rfl rfl rfl rfl rfl rfl rfl rfl (by as_aux_lemma => kernel_rfl) rfl); apply run_step rfl; (exact stp_assign rfl rfl); refine run_nil ?_; refine fin_seq ?_; refine goes_ret ?_; refine fin_ret_then ?_)
    exact fin_ret2 (.inl rfl) rfl (.cell rfl rfl rfl rfl rfl (by kernel_rfl)) (.tmp rfl) ⟨rfl, rfl, trivial⟩ trivial
  · rw [h] at e; cases e
theorem l11Define_fc (im : List (List Int)) (less : List Int) (m n g : Nat) (b : Bool) (hm : im.length = m) (hn : less.length = n) (h : less.length < 2000) (hg : g ≤ 1000) (hi : im.length ≤ 10000) :
    FC Try.prog 92 [(1000, imOw im), (1001, leOw less)] [stAV m n b, vv (I6 g)] [(1000, imOw (im ++ [List.replicate g (-1)])), (1001, leOw (less ++ [(n : Int)]))] (.tup [.agg [.sl 1000 0 (m + 1), .sl 1001 0 (n + 1), .val (.bool b)], .one (.val (I6 n))]) [] := by
  subst hm hn
  refine fc_enter (nt := 39) Try.func92 rfl rfl (by simp) fun w0 ω0 => ?_
  (refine goes_seq ?_; refine goes_region ?_; apply run_step rfl; (exact stp_box rfl rfl rfl rfl); apply run_step rfl; (exact stp_allocZ [.slice none 0 0, .slice none 0 0, .bool false] rfl (by as_aux_lemma => kernel_rfl)); apply run_step rfl; (exact stp_assign rfl rfl); refine run_nil ?_; refine fin_seq ?_; refine goes_seq ?_; refine goes_region ?_; apply run_step rfl; (exact stp_fieldAddr (d := 1) rfl rfl rfl (by as_aux_lemma => kernel_rfl)); apply run_step rfl; (exact stp_loadF rfl (by as_aux_lemma => kernel_rfl) rfl rfl rfl rfl); apply run_step rfl; (exact stp_len rfl rfl rfl (by as_aux_lemma => kernel_rfl)); apply run_step rfl; (exact stp_assign rfl rfl); refine run_nil ?_; refine fin_seq ?_; refine goes_seq ?_; refine goes_seq ?_; refine goes_region ?_; apply run_step rfl; (exact stp_move rfl rfl); apply run_step rfl; (exact stp_bin rfl rfl rfl rfl); refine run_nil ?_; refine fin_seq ?_)
  refine goes_cond rfl (fun e => ?_) (fun e => ?_)
  · exfalso; simp at e; omega
  · (refine goes_skip ?_; refine fin_seq ?_; refine goes_seq ?_; refine goes_region ?_; apply run_step rfl; (exact stp_lit0 (E := 2) (k := 1) rfl (by as_aux_lemma => kernel_rfl)); apply run_step rfl; (exact stp_assign rfl rfl); refine run_nil ?_; refine fin_seq ?_; refine goes_seq ?_; refine goes_seq ?_; refine goes_region ?_; apply run_step rfl; (exact stp_assign rfl rfl); refine run_nil ?_; refine fin_seq ?_; refine goes_block ?_)
    refine goes_loop (fun k : Nat => St.of [(1, vv (I6 g)), (2, o1 (.ptr 2 0)), (4, o1 (.ptr 4 0)), (6, vv (I6 less.length)), (7, o1 (.sl 16 0 k)), (8, vv (I6 k))] [(1000, imOw im), (1001, leOw less), (2, ⟨true, 87, 3, .flat [.sl 1000 0 im.length, .sl 1001 0 less.length, .val (.bool b)]⟩), (4, ⟨true, 87, 3, .flat [.val (.slice none 0 0), .val (.slice none 0 0), .val (.bool false)]⟩), (16, ⟨true, 2, 1, .vals (ivals (List.replicate k (-1)))⟩)]) (fun k => k ≤ g) (fun k => g - k) 0 (Nat.zero_le _) (Wk.of ⟨rfl, rfl, rfl, rfl, rfl, rfl, trivial⟩ ⟨rfl, rfl, rfl, rfl, rfl, trivial⟩ trivial) ?_
    intro k hk
    (refine goes_seq ?_; refine goes_seq ?_; refine goes_region ?_; apply run_step rfl; (exact stp_move rfl rfl); apply run_step rfl; (exact stp_move rfl rfl); apply run_step rfl; (exact stp_bin rfl rfl rfl rfl); refine run_nil ?_; refine fin_seq ?_)
    refine goes_if rfl (fun h => ?_) (fun h => ?_)
    · (refine goes_skip ?_; refine fin_seq ?_; refine goes_seq ?_; refine goes_block ?_; refine goes_region ?_; apply run_step rfl; (exact stp_move rfl rfl); apply run_step rfl; (exact stp_lit1I (E := 2) rfl (by as_aux_lemma => kernel_rfl) rfl); apply run_step rfl; (exact stp_appI rfl (by as_aux_lemma => kernel_rfl) rfl rfl rfl (by first | rfl | assumption | (simp; done)) rfl rfl (by omega)); apply run_step rfl; (exact stp_assign rfl rfl); refine run_nil ?_; refine fin_block ?_; refine fin_seq ?_; refine goes_region ?_; apply run_step rfl; (exact stp_move rfl rfl); apply run_step rfl; (exact stp_add rfl rfl rfl (by first | exact IntWalk.i64_in _ (by omega) | rfl)); apply run_step rfl; (exact stp_assign rfl rfl); refine run_nil ?_)
      exact fin_round (k + 1) (by omega) (by omega) (Wk.of ⟨rfl, rfl, rfl, rfl, rfl, rfl, trivial⟩ ⟨rfl, rfl, rfl, rfl, by rw [List.replicate_succ']; rfl, trivial⟩ trivial)
    · obtain rfl : k = g := by omega
      (refine goes_exit ?_; refine fin_exit_then ?_; refine fin_exit_then ?_; refine fin_exit_eq ?_; refine fin_seq ?_; refine goes_seq ?_; refine goes_region ?_; apply run_step rfl; (exact stp_fieldAddr (d := 0) rfl rfl rfl (by as_aux_lemma => kernel_rfl)); apply run_step rfl; (exact stp_loadF rfl (by as_aux_lemma => kernel_rfl) rfl rfl rfl rfl); apply run_step rfl; (exact stp_move rfl rfl); apply run_step rfl; (exact stp_lit1 (E := 37) rfl (by as_aux_lemma => kernel_rfl) rfl rfl rfl); apply run_step rfl; (exact stp_appR rfl (by as_aux_lemma => kernel_rfl) rfl rfl (by first | rfl | assumption | (simp; done)) rfl rfl rfl (by first | rfl | assumption | (simp; done)) rfl (by omega)); apply run_step rfl; (exact stp_fieldAddr (d := 0) rfl rfl rfl (by as_aux_lemma => kernel_rfl)); apply run_step rfl; (exact stp_storeF rfl rfl rfl rfl rfl rfl (by as_aux_lemma => kernel_rfl) rfl); refine run_nil ?_; refine fin_seq ?_; refine goes_seq ?_; refine goes_region ?_; apply run_step rfl; (exact stp_fieldAddr (d := 1) rfl rfl rfl (by as_aux_lemma => kernel_rfl)); apply run_step rfl; (exact stp_loadF rfl (by as_aux_lemma => kernel_rfl) rfl rfl rfl rfl); apply run_step rfl; (exact stp_move rfl rfl); apply run_step rfl; (exact stp_lit1I (E := 2) rfl (by as_aux_lemma => kernel_rfl) rfl); apply run_step rfl; (exact stp_appI rfl (by as_aux_lemma => kernel_rfl) rfl rfl rfl (by first | rfl | assumption | (simp; done)) rfl rfl (by omega)); apply run_step rfl; (exact stp_fieldAddr (d := 1) rfl rfl rfl (by as_aux_lemma => kernel_rfl)); apply run_step rfl; (exact stp_storeF rfl rfl rfl rfl rfl rfl (by as_aux_lemma => kernel_rfl) rfl); refine run_nil ?_; refine fin_seq ?_; refine goes_seq ?_; refine goes_region ?_; apply run_step rfl; (exact stp_loadAgg rfl rfl rfl rfl rfl rfl (by as_aux_lemma => kernel_rfl)); apply run_step rfl; (exact stp_move rfl rfl); apply run_step rfl; (exact stp_storeAgg rfl rfl rfl rfl rfl rfl rfl rfl (by as_aux_lemma => kernel_rfl) rfl); apply run_step rfl; (exact stp_assign rfl rfl); refine run_nil ?_; refine fin_seq ?_; refine goes_ret ?_)
      exact fin_ret2 (.inl rfl) rfl (.cell rfl rfl rfl rfl rfl (by kernel_rfl)) (.tmp rfl) ⟨rfl, rfl, trivial⟩ trivial
end Go.Proofs.Ytpjglifijdcgnaa

/- Coset enumeration: l11Identify. -/
namespace Go.Proofs.Ytpjglifijdcgnaa
open Go.RowKit

theorem len_snoc {α : Type} (l : List α) (x : α) : l.length + 1 = (l ++ [x]).length := by simp
theorem mergeUp_app (lo hi : Nat) (im : List (List Int)) (h : List (Int × Int)) : ∀ g, mergeUp lo hi (im, h) g = ((mergeUp lo hi (im, []) g).1, h ++ (mergeUp lo hi (im, []) g).2)
  | 0 => by simp [mergeUp]
  | g + 1 => by
    simp only [mergeUp]
    rw [mergeUp_app lo hi im h g]
    unfold stepG
    dsimp only
    split
    · rfl
    · split
      · simp
      · rfl

set_option maxRecDepth 100000 in
set_option maxHeartbeats 1000000 in
theorem l11Identify_fc (ng n : Nat) (im : List (List Int)) (less : List Int) (c d : Nat) (b : Bool) (hnn : less.length = n) (hw : WF ng im less) (hc : c < less.length) (hd : d < less.length) (hn : less.length ≤ 2000) (hng : ng ≤ 1000) :
    FC Try.prog 100 [(1000, imOw im), (1001, leOw less)] [stAV n n b, vv (I6 c), vv (I6 d)] [(1000, imOw (ident ng im less [((c : Int), (d : Int))]).1), (1001, leOw (ident ng im less [((c : Int), (d : Int))]).2)] (.s (.agg [.sl 1000 0 n, .sl 1001 0 n, .val (.bool b)])) [] := by
  refine fc_enter (nt := 97) Try.func100 rfl rfl (by simp) fun w0 ω0 => ?_
  generalize hR : ident ng im less [((c : Int), (d : Int))] = R
  (refine goes_seq ?_; refine goes_region ?_; apply run_step rfl; (exact stp_box rfl rfl rfl rfl); apply run_step rfl; (exact stp_allocZ [.slice none 0 0, .slice none 0 0, .bool false] rfl (by as_aux_lemma => kernel_rfl)); refine run_nil ?_; refine fin_seq ?_; refine goes_seq ?_; refine goes_region ?_; apply run_step rfl; (exact stp_move rfl rfl); apply run_step rfl; (exact stp_lit1I (E := 2) rfl (by as_aux_lemma => kernel_rfl) rfl); apply run_step rfl; (exact stp_move rfl rfl); apply run_step rfl; (exact stp_lit1I (E := 2) rfl (by as_aux_lemma => kernel_rfl) rfl); apply run_step rfl; (exact stp_assign rfl rfl); apply run_step rfl; (exact stp_assign rfl rfl); refine run_nil ?_; refine fin_seq ?_; refine goes_seq ?_; refine goes_seq ?_; refine goes_region ?_; apply run_step rfl; (exact stp_assign rfl rfl); refine run_nil ?_; refine fin_seq ?_; refine goes_block ?_)
  have hB : fuel ng less [((c : Int), (d : Int))] ≤ 2100000 := by
    unfold fuel
    have h1 : alive less ≤ less.length := by unfold alive; exact Nat.le_trans (List.length_filter_le _ _) (by simp)
    have h2 : alive less * (ng + 1) ≤ 2000 * 1001 := Nat.mul_le_mul (by omega) (by omega)
    simp; omega
  have hq0 : QOK less.length [((c : Int), (d : Int))] := fun p hp => by simp at hp; subst hp; exact ⟨by omega, by omega⟩
  have hnm : im.length = n := hw.len.trans hnn
  refine goes_loop (fun j : List (List Int) × List Int × List (Int × Int) × Nat => St.of [(3, o1 (.ptr 3 0)), (6, o1 (.ptr 6 0)), (7, o1 (.sl 16 0 j.2.2.1.length)), (8, o1 (.sl 18 0 j.2.2.1.length)), (9, vv (I6 j.2.2.2))]
      [(1000, imOw j.1), (1001, leOw j.2.1), (3, ⟨true, 87, 3, .flat [.sl 1000 0 n, .sl 1001 0 n, .val (.bool b)]⟩), (6, ⟨true, 87, 3, .flat [.val (.slice none 0 0), .val (.slice none 0 0), .val (.bool false)]⟩), (16, ⟨true, 2, 1, .vals (ivals (j.2.2.1.map (·.1)))⟩), (18, ⟨true, 2, 1, .vals (ivals (j.2.2.1.map (·.2)))⟩)])
    (fun j => WF ng j.1 j.2.1 ∧ j.2.1.length = n ∧ j.2.2.2 ≤ j.2.2.1.length ∧ QOK n (j.2.2.1.drop j.2.2.2) ∧ j.2.2.2 + fuel ng j.2.1 (j.2.2.1.drop j.2.2.2) ≤ 2100000 ∧ ident ng j.1 j.2.1 (j.2.2.1.drop j.2.2.2) = R)
    (fun j => fuel ng j.2.1 (j.2.2.1.drop j.2.2.2)) (im, less, [((c : Int), (d : Int))], 0) ⟨hw, hnn, Nat.zero_le _, hnn ▸ hq0, by simpa using hB, hR⟩ (Wk.of ⟨rfl, rfl, rfl, rfl, rfl, trivial⟩ ⟨rfl, rfl, rfl, rfl, rfl, rfl, trivial⟩ trivial) ?_
  rintro ⟨im1, less1, h, i⟩ ⟨hw1, hn1, hi, hq, hb, hr⟩
  dsimp only at hw1 hn1 hi hq hb hr ⊢
  have hm1 := hw1.len
  (refine goes_seq ?_; refine goes_seq ?_; refine goes_region ?_; apply run_step rfl; (exact stp_move rfl rfl); apply run_step rfl; (exact stp_move rfl rfl); apply run_step rfl; (exact stp_len rfl rfl rfl (by as_aux_lemma => kernel_rfl)); apply run_step rfl; (exact stp_bin rfl rfl rfl rfl); refine run_nil ?_; refine fin_seq ?_)
  refine goes_if rfl (fun hlt => ?_) (fun hlt => ?_)
  · have hlt' : i < h.length := by omega
    obtain ⟨p, hp⟩ : ∃ p, h[i]? = some p := ⟨h[i], List.getElem?_eq_getElem hlt'⟩
    obtain ⟨q, hqq⟩ : ∃ q, h.drop (i + 1) = q := ⟨_, rfl⟩
    have hpq : h.drop i = p :: q := by rw [List.drop_eq_getElem_cons hlt', hqq]; congr 1; rw [List.getElem?_eq_getElem hlt'] at hp; exact Option.some.inj hp
    rw [hpq] at hq hb hr
    have hpp := hq p (by simp)
    have hqn : QOK n q := fun x hx => hq x (by simp [hx])
    have g1 : (ivals (h.map (·.1)))[i]? = some (I6 p.1) := by simp [ivals, hp]
    have g2 : (ivals (h.map (·.2)))[i]? = some (I6 p.2) := by simp [ivals, hp]
    (refine goes_skip ?_; refine fin_seq ?_; refine goes_seq ?_; refine goes_block ?_; refine goes_seq ?_)
    apply goes_draw 12 [] [[], [], [], [1, 2], [1, 2, 3], [0, 1, 2, 3, 4], [], [], [], [7, 8], [7, 8, 9], [0, 1, 2, 3, 4, 5, 6, 7, 8, 9, 10], [0, 1, 2, 3, 4, 5, 6, 7, 8, 9, 10, 11], [0, 1, 2, 3, 4, 5, 6, 7, 8, 9, 10, 11, 12]] [25, 26, 27, 28, 29, 30, 31, 32, 33, 34, 35, 36] [] (by kernel_rfl) (by kernel_rfl)
    · (apply draw_put rfl; (intro S1 hS; exact stp_loadAgg rfl (hS.op rfl) (hS.ch _ _ rfl) rfl rfl rfl (by as_aux_lemma => kernel_rfl)); apply draw_put rfl; (intro S1 hS; exact stp_move rfl (hS.op rfl)); apply draw_put rfl; (intro S1 hS; exact stp_move rfl (hS.op rfl)); apply draw_put rfl; (intro S1 hS; exact stp_ix rfl (hS.op rfl) (hS.op rfl) (hS.ch _ _ rfl) rfl (by as_aux_lemma => kernel_rfl) (by first | rfl | exact (Int.toNat_of_nonneg (by omega)).symm) (by first | assumption | omega | (simp; omega)) (by first | exact Nat.le_refl _ | exact Nat.le_of_eq (ivals_len _).symm | exact Nat.le_of_eq (irows_len _).symm | (refine Nat.le_trans ?_ (Nat.le_of_eq (ivals_len _).symm); (first | omega | (simp; done) | (simp; omega))) | (refine Nat.le_trans ?_ (Nat.le_of_eq (irows_len _).symm); (first | omega | (simp; done) | (simp; omega))))); apply draw_put rfl; (intro S1 hS; exact stp_loadV rfl (by as_aux_lemma => kernel_rfl) (hS.op rfl) (hS.ch _ _ rfl) rfl (by first | assumption | exact ivals_get (by assumption) | exact irows_get (by assumption) | exact ivals_get (by omega) | exact irows_get (by omega) | rfl)); (apply draw_put rfl; (focus (intro S1 hS; refine call_gate 95 ?_; first | exact stp_callR (l11Find_fc less1 n p.1.toNat b hn1 hw1.down (by omega)) (by as_aux_lemma => kernel_rfl) rfl (opL_le hS rfl) ⟨⟨.inr ⟨rfl, rfl⟩, .inl rfl, .inl rfl, trivial⟩, toV (by omega), trivial⟩ (allIn_le hS ⟨⟨_, rfl, .inr rfl⟩, trivial⟩) rfl rfl | exact stp_callR (l11Find_fc less1 n p.2.toNat b hn1 hw1.down (by omega)) (by as_aux_lemma => kernel_rfl) rfl (opL_le hS rfl) ⟨⟨.inr ⟨rfl, rfl⟩, .inl rfl, .inl rfl, trivial⟩, toV (by omega), trivial⟩ (allIn_le hS ⟨⟨_, rfl, .inr rfl⟩, trivial⟩) rfl rfl))); apply draw_put rfl; (intro S1 hS; exact stp_loadAgg rfl (hS.op rfl) (hS.ch _ _ rfl) rfl rfl rfl (by as_aux_lemma => kernel_rfl)); apply draw_put rfl; (intro S1 hS; exact stp_move rfl (hS.op rfl)); apply draw_put rfl; (intro S1 hS; exact stp_move rfl (hS.op rfl)); apply draw_put rfl; (intro S1 hS; exact stp_ix rfl (hS.op rfl) (hS.op rfl) (hS.ch _ _ rfl) rfl (by as_aux_lemma => kernel_rfl) (by first | rfl | exact (Int.toNat_of_nonneg (by omega)).symm) (by first | assumption | omega | (simp; omega)) (by first | exact Nat.le_refl _ | exact Nat.le_of_eq (ivals_len _).symm | exact Nat.le_of_eq (irows_len _).symm | (refine Nat.le_trans ?_ (Nat.le_of_eq (ivals_len _).symm); (first | omega | (simp; done) | (simp; omega))) | (refine Nat.le_trans ?_ (Nat.le_of_eq (irows_len _).symm); (first | omega | (simp; done) | (simp; omega))))); apply draw_put rfl; (intro S1 hS; exact stp_loadV rfl (by as_aux_lemma => kernel_rfl) (hS.op rfl) (hS.ch _ _ rfl) rfl (by first | assumption | exact ivals_get (by assumption) | exact irows_get (by assumption) | exact ivals_get (by omega) | exact irows_get (by omega) | rfl)); (apply draw_put rfl; (focus (intro S1 hS; refine call_gate 95 ?_; first | exact stp_callR (l11Find_fc less1 n p.1.toNat b hn1 hw1.down (by omega)) (by as_aux_lemma => kernel_rfl) rfl (opL_le hS rfl) ⟨⟨.inr ⟨rfl, rfl⟩, .inl rfl, .inl rfl, trivial⟩, toV (by omega), trivial⟩ (allIn_le hS ⟨⟨_, rfl, .inr rfl⟩, trivial⟩) rfl rfl | exact stp_callR (l11Find_fc less1 n p.2.toNat b hn1 hw1.down (by omega)) (by as_aux_lemma => kernel_rfl) rfl (opL_le hS rfl) ⟨⟨.inr ⟨rfl, rfl⟩, .inl rfl, .inl rfl, trivial⟩, toV (by omega), trivial⟩ (allIn_le hS ⟨⟨_, rfl, .inr rfl⟩, trivial⟩) rfl rfl))); exact Draw.nil)
    · rfl
    ((apply rest_one 12 rfl (by as_aux_lemma => kernel_rfl) rfl rfl; (exact stp_assign rfl rfl)); (apply rest_one 13 rfl (by as_aux_lemma => kernel_rfl) rfl rfl; (exact stp_assign rfl rfl)); (refine rest_done (by as_aux_lemma => kernel_rfl) ?_; skip))
    have hr1 := root_lt hw1.down (c := p.1.toNat) (by omega)
    have hr2 := root_lt hw1.down (c := p.2.toNat) (by omega)
    (refine fin_seq ?_; refine goes_seq ?_; refine goes_seq ?_; refine goes_region ?_; apply run_step rfl; (exact stp_move rfl rfl); apply run_step rfl; (exact stp_move rfl rfl); apply run_step rfl; (exact stp_bin rfl rfl rfl rfl); refine run_nil ?_; refine fin_seq ?_)
    refine goes_cond rfl (fun he => ?_) (fun he => ?_)
    · have he' : root less1 p.1.toNat = root less1 p.2.toNat := by have := he; simp at this; omega
      have hfu : fuel ng less1 (p :: q) = fuel ng less1 q + 1 := by unfold fuel; simp; omega
      (refine goes_exit ?_; refine fin_exit_then ?_; refine fin_exit_eq ?_; refine fin_seq ?_; refine goes_region ?_; apply run_step rfl; (exact stp_move rfl rfl); apply run_step rfl; (exact stp_add rfl rfl rfl (by first | exact IntWalk.i64_in _ (by omega) | rfl)); apply run_step rfl; (exact stp_assign rfl rfl); refine run_nil ?_)
      exact fin_round (im1, less1, h, i + 1) ⟨hw1, hn1, hlt', by rw [hqq]; exact hqn, by show i + 1 + fuel ng less1 (h.drop (i + 1)) ≤ 2100000; rw [hqq]; omega, by rw [hqq, ← ident_same hw1 (hn1 ▸ hq) he']; exact hr⟩ (by show fuel ng less1 (h.drop (i + 1)) < fuel ng less1 (h.drop i); rw [hqq, hpq]; omega) (Wk.of ⟨rfl, rfl, rfl, rfl, rfl, trivial⟩ ⟨rfl, rfl, rfl, rfl, rfl, rfl, trivial⟩ trivial)
    · have he' : root less1 p.1.toNat ≠ root less1 p.2.toNat := by have := he; simp at this; omega
      obtain ⟨hm1, hm2, hm3, hm4⟩ := ident_merge hw1 (hn1 ▸ hq) he'
      generalize hcc : root less1 p.1.toNat = cc at *
      generalize hdd : root less1 p.2.toNat = dd at *
      obtain ⟨lo, hlo⟩ : ∃ lo, min cc dd = lo := ⟨_, rfl⟩
      obtain ⟨hi, hhi⟩ : ∃ hi, max cc dd = hi := ⟨_, rfl⟩
      have hll : lo < hi ∧ hi < n := by omega
      unfold mergeSt at hm1 hm2 hm3 hm4
      rw [hlo, hhi] at hm1 hm2 hm3 hm4
      (refine goes_skip ?_; refine fin_seq ?_; refine goes_seq ?_; refine goes_seq ?_; refine goes_region ?_; apply run_step rfl; (exact stp_move rfl rfl); apply run_step rfl; (exact stp_move rfl rfl); apply run_step rfl; (exact stp_bin rfl rfl rfl rfl); refine run_nil ?_; refine fin_seq ?_)
      refine goes_join (St.of [(3, o1 (.ptr 3 0)), (6, o1 (.ptr 6 0)), (7, o1 (.sl 16 0 h.length)), (8, o1 (.sl 18 0 h.length)), (9, vv (I6 i)), (10, vv (I6 lo)), (11, vv (I6 hi))] [(1000, imOw im1), (1001, leOw less1), (3, ⟨true, 87, 3, .flat [.sl 1000 0 n, .sl 1001 0 n, .val (.bool b)]⟩), (6, ⟨true, 87, 3, .flat [.val (.slice none 0 0), .val (.slice none 0 0), .val (.bool false)]⟩), (16, ⟨true, 2, 1, .vals (ivals (h.map (·.1)))⟩), (18, ⟨true, 2, 1, .vals (ivals (h.map (·.2)))⟩)]) rfl (fun hg => ?_) (fun hg => ?_) ?_
      · have hg : (cc : Int) > dd := of_decide_eq_true hg
        obtain ⟨rfl, rfl⟩ : lo = dd ∧ hi = cc := by omega
        (refine goes_region ?_; apply run_step rfl; (exact stp_move rfl rfl); apply run_step rfl; (exact stp_move rfl rfl); apply run_step rfl; (exact stp_assign rfl rfl); apply run_step rfl; (exact stp_assign rfl rfl); refine run_nil ?_)
        exact fin_join (Wk.of ⟨rfl, rfl, rfl, rfl, rfl, rfl, rfl, trivial⟩ ⟨rfl, rfl, rfl, rfl, rfl, rfl, trivial⟩ trivial)
      · have hg : ¬ (cc : Int) > dd := of_decide_eq_false hg
        obtain ⟨rfl, rfl⟩ : lo = cc ∧ hi = dd := by omega
        (refine goes_skip ?_)
        exact fin_join (Wk.of ⟨rfl, rfl, rfl, rfl, rfl, rfl, rfl, trivial⟩ ⟨rfl, rfl, rfl, rfl, rfl, rfl, trivial⟩ trivial)
      have hhl : hi < less1.length := by omega
      (refine fin_seq ?_; refine goes_seq ?_; refine goes_region ?_; apply run_step rfl; (exact stp_fieldAddr (d := 1) rfl rfl rfl (by as_aux_lemma => kernel_rfl)); apply run_step rfl; (exact stp_loadF rfl (by as_aux_lemma => kernel_rfl) rfl rfl rfl rfl); apply run_step rfl; (exact stp_move rfl rfl); apply run_step rfl; (exact stp_move rfl rfl); apply run_step rfl; (exact stp_ix rfl rfl rfl rfl rfl (by as_aux_lemma => kernel_rfl) (by first | rfl | exact (Int.toNat_of_nonneg (by omega)).symm) (by first | assumption | omega | (simp; omega)) (by first | exact Nat.le_refl _ | exact Nat.le_of_eq (ivals_len _).symm | exact Nat.le_of_eq (irows_len _).symm | (refine Nat.le_trans ?_ (Nat.le_of_eq (ivals_len _).symm); (first | omega | (simp; done) | (simp; omega))) | (refine Nat.le_trans ?_ (Nat.le_of_eq (irows_len _).symm); (first | omega | (simp; done) | (simp; omega))))); apply run_step rfl; (exact stp_stI rfl rfl rfl rfl rfl (by first | assumption | omega | (simp; omega)) (by as_aux_lemma => kernel_rfl)); refine run_nil ?_; refine fin_seq ?_; refine goes_seq ?_; refine goes_region ?_; apply run_step rfl; (exact stp_assign rfl rfl); refine run_nil ?_; refine fin_seq ?_; refine goes_block ?_)
      refine goes_loop (fun g : Nat => St.of [(3, o1 (.ptr 3 0)), (6, o1 (.ptr 6 0)), (7, o1 (.sl 16 0 (mergeUp lo hi (im1, h) g).2.length)), (8, o1 (.sl 18 0 (mergeUp lo hi (im1, h) g).2.length)), (9, vv (I6 i)), (10, vv (I6 lo)), (11, vv (I6 hi)), (12, vv (I6 g))] [(1000, imOw (mergeUp lo hi (im1, h) g).1), (1001, leOw (less1.set hi (lo : Int))), (3, ⟨true, 87, 3, .flat [.sl 1000 0 n, .sl 1001 0 n, .val (.bool b)]⟩), (6, ⟨true, 87, 3, .flat [.val (.slice none 0 0), .val (.slice none 0 0), .val (.bool false)]⟩), (16, ⟨true, 2, 1, .vals (ivals ((mergeUp lo hi (im1, h) g).2.map (·.1)))⟩), (18, ⟨true, 2, 1, .vals (ivals ((mergeUp lo hi (im1, h) g).2.map (·.2)))⟩)]) (fun g => g ≤ ng) (fun g => ng - g) 0 (Nat.zero_le _) (Wk.of ⟨rfl, rfl, rfl, rfl, rfl, rfl, rfl, rfl, trivial⟩ ⟨rfl, rfl, rfl, rfl, rfl, rfl, trivial⟩ trivial) ?_
      intro g hg
      obtain ⟨M, N, hMN⟩ : ∃ M N, mergeUp lo hi (im1, []) g = (M, N) := ⟨_, _, rfl⟩
      have hA := mergeUp_app lo hi im1 h g
      have hAq := mergeUp_app lo hi im1 q g
      obtain ⟨k1, k2, k3, k4⟩ := mergeUp_ok hw1 (lo := lo) (hi := hi) (q := []) (by omega) (by omega) (fun x hx => by simp at hx) g hg
      rw [hMN] at hA hAq k1 k2 k3 k4
      dsimp only at hA hAq k1 k2 k3 k4
      rw [hA]
      dsimp only
      have hMl : M.length = n := k1.len.trans hn1
      have hrow := k1.row hi (by omega)
      have hrowl := k1.row lo (by omega)
      have hNl : (h ++ N).length ≤ 2200000 := by
        have h1 : i + (p :: q).length ≤ 2100000 := by unfold fuel at hb; omega
        have h2 : h.length = i + (p :: q).length := by have := congrArg List.length hpq; rw [List.length_drop] at this; omega
        rw [List.length_append]; simp at k3; omega
      (refine goes_seq ?_; refine goes_seq ?_; refine goes_region ?_; apply run_step rfl; (exact stp_move rfl rfl); apply run_step rfl; (exact stp_fieldAddr (d := 0) rfl rfl rfl (by as_aux_lemma => kernel_rfl)); apply run_step rfl; (exact stp_loadF rfl (by as_aux_lemma => kernel_rfl) rfl rfl rfl rfl); apply run_step rfl; (exact stp_move rfl rfl); apply run_step rfl; (exact stp_ix rfl rfl rfl rfl rfl (by as_aux_lemma => kernel_rfl) (by first | rfl | exact (Int.toNat_of_nonneg (by omega)).symm) (by first | assumption | omega | (simp; omega)) (by first | exact Nat.le_refl _ | exact Nat.le_of_eq (ivals_len _).symm | exact Nat.le_of_eq (irows_len _).symm | (refine Nat.le_trans ?_ (Nat.le_of_eq (ivals_len _).symm); (first | omega | (simp; done) | (simp; omega))) | (refine Nat.le_trans ?_ (Nat.le_of_eq (irows_len _).symm); (first | omega | (simp; done) | (simp; omega))))); apply run_step rfl; (exact stp_loadR rfl (by as_aux_lemma => kernel_rfl) rfl rfl rfl (by first | assumption | exact ivals_get (by assumption) | exact irows_get (by assumption) | exact ivals_get (by omega) | exact irows_get (by omega) | rfl) (by first | exact ivals_len _ | assumption | rfl)); apply run_step rfl; (exact stp_len rfl rfl rfl (by as_aux_lemma => kernel_rfl)); apply run_step rfl; (exact stp_bin rfl rfl rfl rfl); refine run_nil ?_; refine fin_seq ?_)
      refine goes_if rfl (fun hgl => ?_) (fun hgl => ?_)
      · have hgl : (g : Int) < ((lget M hi).length : Nat) := hgl
        have hg' : g < ng := by omega
        have e1 := k1.ent hi g (by omega) hg'
        have e2 := k1.ent lo g (by omega) hg'
        (refine goes_skip ?_; refine fin_seq ?_; refine goes_seq ?_; refine goes_block ?_; refine goes_seq ?_; refine goes_region ?_; apply run_step rfl; (exact stp_fieldAddr (d := 0) rfl rfl rfl (by as_aux_lemma => kernel_rfl)); apply run_step rfl; (exact stp_loadF rfl (by as_aux_lemma => kernel_rfl) rfl rfl rfl rfl); apply run_step rfl; (exact stp_move rfl rfl); apply run_step rfl; (exact stp_ix rfl rfl rfl rfl rfl (by as_aux_lemma => kernel_rfl) (by first | rfl | exact (Int.toNat_of_nonneg (by omega)).symm) (by first | assumption | omega | (simp; omega)) (by first | exact Nat.le_refl _ | exact Nat.le_of_eq (ivals_len _).symm | exact Nat.le_of_eq (irows_len _).symm | (refine Nat.le_trans ?_ (Nat.le_of_eq (ivals_len _).symm); (first | omega | (simp; done) | (simp; omega))) | (refine Nat.le_trans ?_ (Nat.le_of_eq (irows_len _).symm); (first | omega | (simp; done) | (simp; omega))))); apply run_step rfl; (exact stp_loadR rfl (by as_aux_lemma => kernel_rfl) rfl rfl rfl (by first | assumption | exact ivals_get (by assumption) | exact irows_get (by assumption) | exact ivals_get (by omega) | exact irows_get (by omega) | rfl) (by first | exact ivals_len _ | assumption | rfl)); apply run_step rfl; (exact stp_move rfl rfl); apply run_step rfl; (exact stp_ixE rfl rfl rfl rfl rfl (by as_aux_lemma => kernel_rfl) (by first | assumption | exact ivals_get (by assumption) | exact irows_get (by assumption) | exact ivals_get (by omega) | exact irows_get (by omega) | rfl) (by first | rfl | exact (Int.toNat_of_nonneg (by omega)).symm) (by first | assumption | omega | (simp; omega)) (by first | exact Nat.le_refl _ | exact Nat.le_of_eq (ivals_len _).symm | exact Nat.le_of_eq (irows_len _).symm | (refine Nat.le_trans ?_ (Nat.le_of_eq (ivals_len _).symm); (first | omega | (simp; done) | (simp; omega))) | (refine Nat.le_trans ?_ (Nat.le_of_eq (irows_len _).symm); (first | omega | (simp; done) | (simp; omega))))); apply run_step rfl; (exact stp_loadE' rfl (by as_aux_lemma => kernel_rfl) rfl rfl rfl (by first | assumption | exact ivals_get (by assumption) | exact irows_get (by assumption) | exact ivals_get (by omega) | exact irows_get (by omega) | rfl) (by first | assumption | exact ivals_get (by assumption) | exact irows_get (by assumption) | exact ivals_get (by omega) | exact irows_get (by omega) | rfl)); apply run_step rfl; (exact stp_assign rfl rfl); refine run_nil ?_; refine fin_seq ?_; refine goes_seq ?_; refine goes_seq ?_; refine goes_region ?_; apply run_step rfl; (exact stp_move rfl rfl); apply run_step rfl; (exact stp_bin rfl rfl rfl rfl); refine run_nil ?_; refine fin_seq ?_)
        refine goes_if rfl (fun he => ?_) (fun he => ?_)
        · have he : ent M hi g < 0 := he
          have hstep : mergeUp lo hi (im1, h) (g + 1) = (M, h ++ N) := by rw [mergeUp, hA]; exact if_pos he
          (refine goes_exit ?_; refine fin_exit_then ?_; refine fin_exit_eq ?_; refine fin_seq ?_; refine goes_region ?_; apply run_step rfl; (exact stp_move rfl rfl); apply run_step rfl; (exact stp_add rfl rfl rfl (by first | exact IntWalk.i64_in _ (by omega) | rfl)); apply run_step rfl; (exact stp_assign rfl rfl); refine run_nil ?_)
          exact fin_round (g + 1) (by omega) (by omega) (Wk.of (by rw [hstep]; exact ⟨rfl, rfl, rfl, rfl, rfl, rfl, rfl, rfl, trivial⟩) (by rw [hstep]; exact ⟨rfl, rfl, rfl, rfl, rfl, rfl, trivial⟩) trivial)
        · have he : ¬ ent M hi g < 0 := he
          (refine goes_skip ?_; refine fin_seq ?_; refine goes_seq ?_; refine goes_region ?_; apply run_step rfl; (exact stp_fieldAddr (d := 0) rfl rfl rfl (by as_aux_lemma => kernel_rfl)); apply run_step rfl; (exact stp_loadF rfl (by as_aux_lemma => kernel_rfl) rfl rfl rfl rfl); apply run_step rfl; (exact stp_move rfl rfl); apply run_step rfl; (exact stp_ix rfl rfl rfl rfl rfl (by as_aux_lemma => kernel_rfl) (by first | rfl | exact (Int.toNat_of_nonneg (by omega)).symm) (by first | assumption | omega | (simp; omega)) (by first | exact Nat.le_refl _ | exact Nat.le_of_eq (ivals_len _).symm | exact Nat.le_of_eq (irows_len _).symm | (refine Nat.le_trans ?_ (Nat.le_of_eq (ivals_len _).symm); (first | omega | (simp; done) | (simp; omega))) | (refine Nat.le_trans ?_ (Nat.le_of_eq (irows_len _).symm); (first | omega | (simp; done) | (simp; omega))))); apply run_step rfl; (exact stp_loadR rfl (by as_aux_lemma => kernel_rfl) rfl rfl rfl (by first | assumption | exact ivals_get (by assumption) | exact irows_get (by assumption) | exact ivals_get (by omega) | exact irows_get (by omega) | rfl) (by first | exact ivals_len _ | assumption | rfl)); apply run_step rfl; (exact stp_move rfl rfl); apply run_step rfl; (exact stp_ixE rfl rfl rfl rfl rfl (by as_aux_lemma => kernel_rfl) (by first | assumption | exact ivals_get (by assumption) | exact irows_get (by assumption) | exact ivals_get (by omega) | exact irows_get (by omega) | rfl) (by first | rfl | exact (Int.toNat_of_nonneg (by omega)).symm) (by first | assumption | omega | (simp; omega)) (by first | exact Nat.le_refl _ | exact Nat.le_of_eq (ivals_len _).symm | exact Nat.le_of_eq (irows_len _).symm | (refine Nat.le_trans ?_ (Nat.le_of_eq (ivals_len _).symm); (first | omega | (simp; done) | (simp; omega))) | (refine Nat.le_trans ?_ (Nat.le_of_eq (irows_len _).symm); (first | omega | (simp; done) | (simp; omega))))); apply run_step rfl; (exact stp_loadE' rfl (by as_aux_lemma => kernel_rfl) rfl rfl rfl (by first | assumption | exact ivals_get (by assumption) | exact irows_get (by assumption) | exact ivals_get (by omega) | exact irows_get (by omega) | rfl) (by first | assumption | exact ivals_get (by assumption) | exact irows_get (by assumption) | exact ivals_get (by omega) | exact irows_get (by omega) | rfl)); apply run_step rfl; (exact stp_assign rfl rfl); refine run_nil ?_; refine fin_seq ?_; refine goes_seq ?_; refine goes_region ?_; apply run_step rfl; (exact stp_move rfl rfl); apply run_step rfl; (exact stp_bin rfl rfl rfl rfl); refine run_nil ?_; refine fin_seq ?_)
          refine goes_if rfl (fun hf => ?_) (fun hf => ?_)
          · have hf : ent M lo g ≥ 0 := hf
            have hstep : mergeUp lo hi (im1, h) (g + 1) = (M, (h ++ N) ++ [(ent M hi g, ent M lo g)]) := by rw [mergeUp, hA]; exact (if_neg he).trans (if_pos hf)
            (refine goes_seq ?_; refine goes_region ?_; apply run_step rfl; (exact stp_move rfl rfl); apply run_step rfl; (exact stp_move rfl rfl); apply run_step rfl; (exact stp_lit1I (E := 2) rfl (by as_aux_lemma => kernel_rfl) rfl); apply run_step rfl; (exact stp_appI rfl (by as_aux_lemma => kernel_rfl) rfl rfl rfl (by first | rfl | assumption | (simp; done)) rfl rfl (by omega)); apply run_step rfl; (exact stp_assign rfl rfl); refine run_nil ?_; refine fin_seq ?_; refine goes_region ?_; apply run_step rfl; (exact stp_move rfl rfl); apply run_step rfl; (exact stp_move rfl rfl); apply run_step rfl; (exact stp_lit1I (E := 2) rfl (by as_aux_lemma => kernel_rfl) rfl); apply run_step rfl; (exact stp_appI rfl (by as_aux_lemma => kernel_rfl) rfl rfl rfl (by first | rfl | assumption | (simp; done)) rfl rfl (by omega)); apply run_step rfl; (exact stp_assign rfl rfl); refine run_nil ?_; refine fin_block ?_; refine fin_seq ?_; refine goes_region ?_; apply run_step rfl; (exact stp_move rfl rfl); apply run_step rfl; (exact stp_add rfl rfl rfl (by first | exact IntWalk.i64_in _ (by omega) | rfl)); apply run_step rfl; (exact stp_assign rfl rfl); refine run_nil ?_)
            exact fin_round (g + 1) (by omega) (by omega) (Wk.of (by rw [hstep]; exact ⟨rfl, rfl, congrArg (fun x => some (o1 (.sl 16 0 x))) (len_snoc (h ++ N) (ent M hi g, ent M lo g)), congrArg (fun x => some (o1 (.sl 18 0 x))) (len_snoc (h ++ N) (ent M hi g, ent M lo g)), rfl, rfl, rfl, rfl, trivial⟩) (by rw [hstep]; exact ⟨rfl, rfl, rfl, rfl, congrArg (fun x => some (⟨true, 2, 1, .vals (ivals x)⟩ : Ch)) (show (h ++ N).map (fun p => p.1) ++ [ent M hi g] = ((h ++ N) ++ [(ent M hi g, ent M lo g)]).map (fun p => p.1) by simp), congrArg (fun x => some (⟨true, 2, 1, .vals (ivals x)⟩ : Ch)) (show (h ++ N).map (fun p => p.2) ++ [ent M lo g] = ((h ++ N) ++ [(ent M hi g, ent M lo g)]).map (fun p => p.2) by simp), trivial⟩) trivial)
          · have hf : ¬ ent M lo g ≥ 0 := hf
            have hstep : mergeUp lo hi (im1, h) (g + 1) = (rset M lo g (ent M hi g), h ++ N) := by rw [mergeUp, hA]; exact (if_neg he).trans (if_neg hf)
            (refine goes_region ?_; apply run_step rfl; (exact stp_fieldAddr (d := 0) rfl rfl rfl (by as_aux_lemma => kernel_rfl)); apply run_step rfl; (exact stp_loadF rfl (by as_aux_lemma => kernel_rfl) rfl rfl rfl rfl); apply run_step rfl; (exact stp_move rfl rfl); apply run_step rfl; (exact stp_ix rfl rfl rfl rfl rfl (by as_aux_lemma => kernel_rfl) (by first | rfl | exact (Int.toNat_of_nonneg (by omega)).symm) (by first | assumption | omega | (simp; omega)) (by first | exact Nat.le_refl _ | exact Nat.le_of_eq (ivals_len _).symm | exact Nat.le_of_eq (irows_len _).symm | (refine Nat.le_trans ?_ (Nat.le_of_eq (ivals_len _).symm); (first | omega | (simp; done) | (simp; omega))) | (refine Nat.le_trans ?_ (Nat.le_of_eq (irows_len _).symm); (first | omega | (simp; done) | (simp; omega))))); apply run_step rfl; (exact stp_loadR rfl (by as_aux_lemma => kernel_rfl) rfl rfl rfl (by first | assumption | exact ivals_get (by assumption) | exact irows_get (by assumption) | exact ivals_get (by omega) | exact irows_get (by omega) | rfl) (by first | exact ivals_len _ | assumption | rfl)); apply run_step rfl; (exact stp_move rfl rfl); apply run_step rfl; (exact stp_move rfl rfl); apply run_step rfl; (exact stp_ixE rfl rfl rfl rfl rfl (by as_aux_lemma => kernel_rfl) (by first | assumption | exact ivals_get (by assumption) | exact irows_get (by assumption) | exact ivals_get (by omega) | exact irows_get (by omega) | rfl) (by first | rfl | exact (Int.toNat_of_nonneg (by omega)).symm) (by first | assumption | omega | (simp; omega)) (by first | exact Nat.le_refl _ | exact Nat.le_of_eq (ivals_len _).symm | exact Nat.le_of_eq (irows_len _).symm | (refine Nat.le_trans ?_ (Nat.le_of_eq (ivals_len _).symm); (first | omega | (simp; done) | (simp; omega))) | (refine Nat.le_trans ?_ (Nat.le_of_eq (irows_len _).symm); (first | omega | (simp; done) | (simp; omega))))); apply run_step rfl; (exact stp_stE rfl rfl rfl rfl rfl (by first | assumption | omega | (simp; omega)) (by first | assumption | omega | (simp; omega)) (by as_aux_lemma => kernel_rfl)); refine run_nil ?_; refine fin_block ?_; refine fin_seq ?_; refine goes_region ?_; apply run_step rfl; (exact stp_move rfl rfl); apply run_step rfl; (exact stp_add rfl rfl rfl (by first | exact IntWalk.i64_in _ (by omega) | rfl)); apply run_step rfl; (exact stp_assign rfl rfl); refine run_nil ?_)
            exact fin_round (g + 1) (by omega) (by omega) (Wk.of (by rw [hstep]; exact ⟨rfl, rfl, rfl, rfl, rfl, rfl, rfl, rfl, trivial⟩) (by rw [hstep]; exact ⟨rfl, rfl, rfl, rfl, rfl, rfl, trivial⟩) trivial)
      · have hgl : ¬ (g : Int) < ((lget M hi).length : Nat) := hgl
        obtain rfl : g = ng := by omega
        rw [hAq] at hm1 hm2 hm3 hm4
        dsimp only at hm1 hm2 hm3 hm4
        have hdr : (h ++ N).drop (i + 1) = q ++ N := by rw [List.drop_append_of_le_length (by omega), hqq]
        (refine goes_exit ?_; refine fin_exit_then ?_; refine fin_exit_then ?_; refine fin_exit_eq ?_; refine fin_block ?_; refine fin_seq ?_; refine goes_region ?_; apply run_step rfl; (exact stp_move rfl rfl); apply run_step rfl; (exact stp_add rfl rfl rfl (by first | exact IntWalk.i64_in _ (by omega) | rfl)); apply run_step rfl; (exact stp_assign rfl rfl); refine run_nil ?_)
        exact fin_round (M, less1.set hi (lo : Int), h ++ N, i + 1) ⟨hm2, by rw [List.length_set]; exact hn1, by show i + 1 ≤ (h ++ N).length; rw [List.length_append]; omega, by show QOK n ((h ++ N).drop (i + 1)); rw [hdr, ← hn1]; exact hm3, by show i + 1 + fuel _ (less1.set hi (lo : Int)) ((h ++ N).drop (i + 1)) ≤ 2100000; rw [hdr]; omega, by show ident _ _ _ ((h ++ N).drop (i + 1)) = R; rw [hdr, ← hm1]; exact hr⟩ (by show fuel _ _ ((h ++ N).drop (i + 1)) < fuel _ less1 (h.drop i); rw [hdr, hpq]; exact hm4) (Wk.of ⟨rfl, rfl, rfl, rfl, rfl, trivial⟩ ⟨rfl, rfl, rfl, rfl, rfl, rfl, trivial⟩ trivial)
  · have hie : h.drop i = [] := List.drop_of_length_le (by omega)
    rw [hie, ident_nil] at hr
    subst hr
    (refine goes_exit ?_; refine fin_exit_then ?_; refine fin_exit_then ?_; refine fin_exit_eq ?_; refine fin_seq ?_; refine goes_seq ?_; refine goes_region ?_; apply run_step rfl; (exact stp_loadAgg rfl rfl rfl rfl rfl rfl (by as_aux_lemma => kernel_rfl)); apply run_step rfl; (exact stp_storeAgg rfl rfl rfl rfl rfl rfl rfl rfl (by as_aux_lemma => kernel_rfl) rfl); refine run_nil ?_; refine fin_seq ?_; refine goes_ret ?_)
    exact fin_ret1 (.inl rfl) rfl (.cell rfl rfl rfl rfl rfl (by kernel_rfl)) ⟨rfl, rfl, trivial⟩ trivial
end Go.Proofs.Ytpjglifijdcgnaa

/- Coset enumeration: l11Next. -/
namespace Go.Proofs.Ytpjglifijdcgnaa
open Go.RowKit

set_option maxRecDepth 100000 in
set_option maxHeartbeats 1000000 in
theorem l11Next_fc (ng n : Nat) (im : List (List Int)) (less : List Int) (c g : Nat) (hn : less.length = n) (hw : WF ng im less) (hc : c < n) (hg : g < ng) (h2 : n ≤ 2000) (hng : ng ≤ 1000) :
    FC Try.prog 94 [(1000, imOw im), (1001, leOw less)] [stAV n n false, vv (I6 c), vv (I6 g)] [(1000, imOw (nextC ng im less c g).1), (1001, leOw (nextC ng im less c g).2.1)]
      (.tup [.agg [.sl 1000 0 (nextC ng im less c g).2.1.length, .sl 1001 0 (nextC ng im less c g).2.1.length, .val (.bool (nextC ng im less c g).2.2.1)], .one (.val (I6 (nextC ng im less c g).2.2.2))]) [] := by
  have hm : im.length = n := hw.len.trans hn
  have hrow := hw.row c (by omega)
  have hrow0 := hw.row 0 (by omega)
  have hent := hw.ent c g (by omega) hg
  have h0im : 0 < im.length := by omega
  refine fc_enter (nt := 49) Try.func94 rfl rfl (by simp) fun w0 ω0 => ?_
  have hF := l11Image_fc im less n n c g false hm hn hw.down (by omega) (by omega) (by omega)
  (refine goes_seq ?_; refine goes_region ?_; apply run_step rfl; (exact stp_box rfl rfl rfl rfl); apply run_step rfl; (exact stp_allocZ [.slice none 0 0, .slice none 0 0, .bool false] rfl (by as_aux_lemma => kernel_rfl)); apply run_step rfl; (exact stp_assign rfl rfl); refine run_nil ?_; refine fin_seq ?_; refine goes_seq ?_; refine goes_seq ?_; refine goes_region ?_; apply run_step rfl; (exact stp_loadAgg rfl rfl rfl rfl rfl rfl (by as_aux_lemma => kernel_rfl)); apply run_step rfl; (exact stp_move rfl rfl); apply run_step rfl; (exact stp_move rfl rfl); apply run_step rfl; (apply call_gate 79; exact stp_callR hF (by as_aux_lemma => kernel_rfl) rfl rfl ⟨⟨.inl rfl, .inl rfl, .inl rfl, trivial⟩, rfl, rfl, trivial⟩ ⟨⟨_, rfl, .inr rfl⟩, ⟨_, rfl, .inr rfl⟩, trivial⟩ rfl rfl); apply run_step rfl; (exact stp_assign rfl rfl); refine run_nil ?_; refine fin_seq ?_; refine goes_seq ?_; refine goes_region ?_; apply run_step rfl; (exact stp_move rfl rfl); apply run_step rfl; (exact stp_bin rfl rfl rfl rfl); refine run_nil ?_; refine fin_seq ?_)
  by_cases h0 : 0 ≤ ent im c g
  · have hi : image im less c g = root less (ent im c g).toNat := if_neg (by omega)
    have hx : nextC ng im less c g = (im, less, false, root less (ent im c g).toNat) := if_pos h0
    rw [hx, hi]
    dsimp only
    rw [hn]
    refine goes_if rfl (fun h => ?_) (fun h => absurd (show (root less (ent im c g).toNat : Int) ≥ 0 by omega) h)
    (refine goes_seq ?_; refine goes_region ?_; apply run_step rfl; (exact stp_loadAgg rfl rfl rfl rfl rfl rfl (by as_aux_lemma => kernel_rfl)); apply run_step rfl; (exact stp_move rfl rfl); apply run_step rfl; (exact stp_storeAgg rfl rfl rfl rfl rfl rfl rfl rfl (by as_aux_lemma => kernel_rfl) rfl); apply run_step rfl; (exact stp_assign rfl rfl); refine run_nil ?_; refine fin_seq ?_; refine goes_ret ?_; refine fin_ret_then ?_)
    exact fin_ret2 (.inl rfl) rfl (.cell rfl rfl rfl rfl rfl (by kernel_rfl)) (.tmp rfl) ⟨rfl, rfl, trivial⟩ trivial
  · have hi : image im less c g = -1 := if_pos (by omega)
    rw [hi]
    refine goes_if rfl (fun h => absurd h (by show ¬ (-1 : Int) ≥ 0; omega)) (fun h => ?_)
    (refine goes_skip ?_; refine fin_seq ?_; refine goes_seq ?_)
    by_cases hf : less.length = 2000
    · have hx : nextC ng im less c g = (im, less, true, 0) := (if_neg h0).trans (if_pos hf)
      rw [hx]
      dsimp only
      rw [hn]
      have hD := l11Define_full im less n n (lget im 0).length false hm hn hf
      apply goes_draw 6 [] [[], [], [1], [1, 2], [1, 2, 3], [1, 2, 3, 4], [0, 1, 2, 3, 4, 5], [0, 1, 2, 3, 4, 5, 6], [0, 1, 2, 3, 4, 5, 6, 7], [0, 1, 2, 3, 4, 5, 6, 7], [0, 1, 2, 3, 4, 5, 6, 7, 8], [0, 1, 2, 3, 4, 5, 6, 7, 8, 9, 10]] [19, 20, 21, 22, 23, 24] [] (by kernel_rfl) (by kernel_rfl)
      · (apply draw_put rfl; (intro S1 hS; exact stp_loadAgg rfl (hS.op rfl) (hS.ch _ _ rfl) rfl rfl rfl (by as_aux_lemma => kernel_rfl)); apply draw_put rfl; (intro S1 hS; exact stp_fieldAddr (d := 0) rfl (hS.op rfl) (hS.ch _ _ rfl) (by as_aux_lemma => kernel_rfl)); apply draw_put rfl; (intro S1 hS; exact stp_loadF rfl (by as_aux_lemma => kernel_rfl) (hS.op rfl) (hS.ch _ _ rfl) rfl rfl); apply draw_put rfl; (intro S1 hS; exact stp_ix rfl (hS.op rfl) (hS.op rfl) (hS.ch _ _ rfl) rfl (by as_aux_lemma => kernel_rfl) (by first | rfl | exact (Int.toNat_of_nonneg (by omega)).symm) (by first | assumption | omega | (simp; omega)) (by first | exact Nat.le_refl _ | exact Nat.le_of_eq (ivals_len _).symm | exact Nat.le_of_eq (irows_len _).symm | (refine Nat.le_trans ?_ (Nat.le_of_eq (ivals_len _).symm); (first | omega | (simp; done) | (simp; omega))) | (refine Nat.le_trans ?_ (Nat.le_of_eq (irows_len _).symm); (first | omega | (simp; done) | (simp; omega))))); apply draw_put rfl; (intro S1 hS; exact stp_loadR rfl (by as_aux_lemma => kernel_rfl) (hS.op rfl) (hS.ch _ _ rfl) rfl (by first | assumption | exact ivals_get (by assumption) | exact irows_get (by assumption) | exact ivals_get (by omega) | exact irows_get (by omega) | rfl) (by first | exact ivals_len _ | assumption | rfl)); apply draw_put rfl; (intro S1 hS; exact stp_len rfl (hS.op rfl) rfl (by as_aux_lemma => kernel_rfl)); exact Draw.nil)
      · rfl
      refine rest_join (St.of [(1, vv (I6 c)), (2, vv (I6 g)), (3, o1 (.ptr 3 0)), (6, o1 (.ptr 6 0)), (9, vv (I6 0))] [(1000, imOw im), (1001, leOw less), (3, ⟨true, 87, 3, .flat [.sl 1000 0 n, .sl 1001 0 n, .val (.bool true)]⟩), (6, ⟨true, 87, 3, .flat [.val (.slice none 0 0), .val (.slice none 0 0), .val (.bool false)]⟩)]) ?_ ?_
      · ((apply rest_one 6 rfl (by as_aux_lemma => kernel_rfl) rfl rfl; (apply call_gate 92; exact stp_call [] hD (by as_aux_lemma => kernel_rfl) rfl rfl ⟨⟨.inl rfl, .inl rfl, .inl rfl, trivial⟩, rfl, trivial⟩ ⟨⟨_, rfl, .inl rfl⟩, ⟨_, rfl, .inl rfl⟩, trivial⟩ trivial rfl rfl)); (apply rest_one 7 rfl (by as_aux_lemma => kernel_rfl) rfl rfl; (exact stp_move rfl rfl)); (apply rest_two 8 9 rfl (by as_aux_lemma => kernel_rfl) rfl rfl rfl rfl; (exact stp_extract rfl rfl rfl); (exact stp_extract rfl rfl rfl); (focus ((apply rest_two 9 10 rfl (by as_aux_lemma => kernel_rfl) rfl rfl rfl rfl; (exact stp_extract rfl rfl rfl); (exact stp_storeAgg rfl rfl rfl rfl rfl rfl rfl rfl (by as_aux_lemma => kernel_rfl) rfl); (focus ((apply rest_one 10 rfl (by as_aux_lemma => kernel_rfl) rfl rfl; (exact stp_storeAgg rfl rfl rfl rfl rfl rfl rfl rfl (by as_aux_lemma => kernel_rfl) rfl)); (apply rest_one 11 rfl (by as_aux_lemma => kernel_rfl) rfl rfl; (exact stp_assign rfl rfl)); (refine rest_done (by as_aux_lemma => kernel_rfl) ?_; exact fin_join (Wk.of ⟨rfl, rfl, rfl, rfl, rfl, trivial⟩ ⟨rfl, rfl, rfl, rfl, trivial⟩ trivial)))); (focus ((apply rest_one 9 rfl (by as_aux_lemma => kernel_rfl) rfl rfl; (exact stp_extract rfl rfl rfl)); (apply rest_one 11 rfl (by as_aux_lemma => kernel_rfl) rfl rfl; (exact stp_assign rfl rfl)); (refine rest_done (by as_aux_lemma => kernel_rfl) ?_; exact fin_join (Wk.of ⟨rfl, rfl, rfl, rfl, rfl, trivial⟩ ⟨rfl, rfl, rfl, rfl, trivial⟩ trivial))))))); (focus ((apply rest_one 8 rfl (by as_aux_lemma => kernel_rfl) rfl rfl; (exact stp_extract rfl rfl rfl)); (apply rest_one 10 rfl (by as_aux_lemma => kernel_rfl) rfl rfl; (exact stp_storeAgg rfl rfl rfl rfl rfl rfl rfl rfl (by as_aux_lemma => kernel_rfl) rfl)); (apply rest_one 11 rfl (by as_aux_lemma => kernel_rfl) rfl rfl; (exact stp_assign rfl rfl)); (refine rest_done (by as_aux_lemma => kernel_rfl) ?_; exact fin_join (Wk.of ⟨rfl, rfl, rfl, rfl, rfl, trivial⟩ ⟨rfl, rfl, rfl, rfl, trivial⟩ trivial))))))
      (refine fin_seq ?_; refine goes_seq ?_; refine goes_seq ?_; refine goes_region ?_; apply run_step rfl; (exact stp_fieldAddr (d := 2) rfl rfl rfl (by as_aux_lemma => kernel_rfl)); apply run_step rfl; (exact stp_loadF rfl (by as_aux_lemma => kernel_rfl) rfl rfl rfl rfl); refine run_nil ?_; refine fin_seq ?_)
      refine goes_cond rfl (fun _ => ?_) (fun e => by cases e)
      (refine goes_seq ?_; refine goes_region ?_; apply run_step rfl; (exact stp_loadAgg rfl rfl rfl rfl rfl rfl (by as_aux_lemma => kernel_rfl)); apply run_step rfl; (exact stp_storeAgg rfl rfl rfl rfl rfl rfl rfl rfl (by as_aux_lemma => kernel_rfl) rfl); apply run_step rfl; (exact stp_assign rfl rfl); refine run_nil ?_; refine fin_seq ?_; refine goes_ret ?_; refine fin_ret_then ?_)
      exact fin_ret2 (.inl rfl) rfl (.cell rfl rfl rfl rfl rfl (by kernel_rfl)) (.tmp rfl) ⟨rfl, rfl, trivial⟩ trivial
    · have hx : nextC ng im less c g = (addC ng im n c g, less ++ [(n : Int)], false, n) := by rw [← hn]; exact (if_neg h0).trans (if_neg hf)
      rw [hx]
      dsimp only
      rw [List.length_append, hn]
      have hD := l11Define_fc im less n n ng false hm hn (by omega) hng (by omega)
      apply goes_draw 6 [] [[], [], [1], [1, 2], [1, 2, 3], [1, 2, 3, 4], [0, 1, 2, 3, 4, 5], [0, 1, 2, 3, 4, 5, 6], [0, 1, 2, 3, 4, 5, 6, 7], [0, 1, 2, 3, 4, 5, 6, 7], [0, 1, 2, 3, 4, 5, 6, 7, 8], [0, 1, 2, 3, 4, 5, 6, 7, 8, 9, 10]] [19, 20, 21, 22, 23, 24] [] (by kernel_rfl) (by kernel_rfl)
      · (apply draw_put rfl; (intro S1 hS; exact stp_loadAgg rfl (hS.op rfl) (hS.ch _ _ rfl) rfl rfl rfl (by as_aux_lemma => kernel_rfl)); apply draw_put rfl; (intro S1 hS; exact stp_fieldAddr (d := 0) rfl (hS.op rfl) (hS.ch _ _ rfl) (by as_aux_lemma => kernel_rfl)); apply draw_put rfl; (intro S1 hS; exact stp_loadF rfl (by as_aux_lemma => kernel_rfl) (hS.op rfl) (hS.ch _ _ rfl) rfl rfl); apply draw_put rfl; (intro S1 hS; exact stp_ix rfl (hS.op rfl) (hS.op rfl) (hS.ch _ _ rfl) rfl (by as_aux_lemma => kernel_rfl) (by first | rfl | exact (Int.toNat_of_nonneg (by omega)).symm) (by first | assumption | omega | (simp; omega)) (by first | exact Nat.le_refl _ | exact Nat.le_of_eq (ivals_len _).symm | exact Nat.le_of_eq (irows_len _).symm | (refine Nat.le_trans ?_ (Nat.le_of_eq (ivals_len _).symm); (first | omega | (simp; done) | (simp; omega))) | (refine Nat.le_trans ?_ (Nat.le_of_eq (irows_len _).symm); (first | omega | (simp; done) | (simp; omega))))); apply draw_put rfl; (intro S1 hS; exact stp_loadR rfl (by as_aux_lemma => kernel_rfl) (hS.op rfl) (hS.ch _ _ rfl) rfl (by first | assumption | exact ivals_get (by assumption) | exact irows_get (by assumption) | exact ivals_get (by omega) | exact irows_get (by omega) | rfl) (by first | exact ivals_len _ | assumption | rfl)); apply draw_put rfl; (intro S1 hS; exact stp_len rfl (hS.op rfl) rfl (by as_aux_lemma => kernel_rfl)); exact Draw.nil)
      · rfl
      refine rest_join (St.of [(1, vv (I6 c)), (2, vv (I6 g)), (3, o1 (.ptr 3 0)), (6, o1 (.ptr 6 0)), (9, vv (I6 n))] [(1000, imOw (im ++ [List.replicate ng (-1)])), (1001, leOw (less ++ [(n : Int)])), (3, ⟨true, 87, 3, .flat [.sl 1000 0 (n + 1), .sl 1001 0 (n + 1), .val (.bool false)]⟩), (6, ⟨true, 87, 3, .flat [.val (.slice none 0 0), .val (.slice none 0 0), .val (.bool false)]⟩)]) ?_ ?_
      · ((apply rest_one 6 rfl (by as_aux_lemma => kernel_rfl) rfl rfl; (apply call_gate 92; exact stp_call [] hD (by as_aux_lemma => kernel_rfl) rfl rfl ⟨⟨.inl rfl, .inl rfl, .inl rfl, trivial⟩, congrArg (fun k : Nat => vv (I6 k)) hrow0, trivial⟩ ⟨⟨_, rfl, .inl rfl⟩, ⟨_, rfl, .inl rfl⟩, trivial⟩ trivial rfl rfl)); (apply rest_one 7 rfl (by as_aux_lemma => kernel_rfl) rfl rfl; (exact stp_move rfl rfl)); (apply rest_two 8 9 rfl (by as_aux_lemma => kernel_rfl) rfl rfl rfl rfl; (exact stp_extract rfl rfl rfl); (exact stp_extract rfl rfl rfl); (focus ((apply rest_two 9 10 rfl (by as_aux_lemma => kernel_rfl) rfl rfl rfl rfl; (exact stp_extract rfl rfl rfl); (exact stp_storeAgg rfl rfl rfl rfl rfl rfl rfl rfl (by as_aux_lemma => kernel_rfl) rfl); (focus ((apply rest_one 10 rfl (by as_aux_lemma => kernel_rfl) rfl rfl; (exact stp_storeAgg rfl rfl rfl rfl rfl rfl rfl rfl (by as_aux_lemma => kernel_rfl) rfl)); (apply rest_one 11 rfl (by as_aux_lemma => kernel_rfl) rfl rfl; (exact stp_assign rfl rfl)); (refine rest_done (by as_aux_lemma => kernel_rfl) ?_; exact fin_join (Wk.of ⟨rfl, rfl, rfl, rfl, rfl, trivial⟩ ⟨rfl, rfl, rfl, rfl, trivial⟩ trivial)))); (focus ((apply rest_one 9 rfl (by as_aux_lemma => kernel_rfl) rfl rfl; (exact stp_extract rfl rfl rfl)); (apply rest_one 11 rfl (by as_aux_lemma => kernel_rfl) rfl rfl; (exact stp_assign rfl rfl)); (refine rest_done (by as_aux_lemma => kernel_rfl) ?_; exact fin_join (Wk.of ⟨rfl, rfl, rfl, rfl, rfl, trivial⟩ ⟨rfl, rfl, rfl, rfl, trivial⟩ trivial))))))); (focus ((apply rest_one 8 rfl (by as_aux_lemma => kernel_rfl) rfl rfl; (exact stp_extract rfl rfl rfl)); (apply rest_one 10 rfl (by as_aux_lemma => kernel_rfl) rfl rfl; (exact stp_storeAgg rfl rfl rfl rfl rfl rfl rfl rfl (by as_aux_lemma => kernel_rfl) rfl)); (apply rest_one 11 rfl (by as_aux_lemma => kernel_rfl) rfl rfl; (exact stp_assign rfl rfl)); (refine rest_done (by as_aux_lemma => kernel_rfl) ?_; exact fin_join (Wk.of ⟨rfl, rfl, rfl, rfl, rfl, trivial⟩ ⟨rfl, rfl, rfl, rfl, trivial⟩ trivial))))))
      have h1 := (hw.app).row c (by simp; omega)
      have hlc : (lget (im ++ [List.replicate ng (-1)]) c).length = ng := h1
      have hl : (im ++ [List.replicate ng (-1)]).length = n + 1 := by simp [hm]
      have hln : (lget (rset (im ++ [List.replicate ng (-1)]) c g n) n).length = ng := by rw [rset_row, ← hm, lget_app_eq]; simp
      have hl2 : (rset (im ++ [List.replicate ng (-1)]) c g n).length = n + 1 := by rw [rset_len]; exact hl
      (refine fin_seq ?_; refine goes_seq ?_; refine goes_seq ?_; refine goes_region ?_; apply run_step rfl; (exact stp_fieldAddr (d := 2) rfl rfl rfl (by as_aux_lemma => kernel_rfl)); apply run_step rfl; (exact stp_loadF rfl (by as_aux_lemma => kernel_rfl) rfl rfl rfl rfl); refine run_nil ?_; refine fin_seq ?_)
      refine goes_cond rfl (fun e => by cases e) (fun _ => ?_)
      (refine goes_skip ?_; refine fin_seq ?_; refine goes_seq ?_; refine goes_region ?_; apply run_step rfl; (exact stp_fieldAddr (d := 0) rfl rfl rfl (by as_aux_lemma => kernel_rfl)); apply run_step rfl; (exact stp_loadF rfl (by as_aux_lemma => kernel_rfl) rfl rfl rfl rfl); apply run_step rfl; (exact stp_move rfl rfl); apply run_step rfl; (exact stp_ix rfl rfl rfl rfl rfl (by as_aux_lemma => kernel_rfl) (by first | rfl | exact (Int.toNat_of_nonneg (by omega)).symm) (by first | assumption | omega | (simp; omega)) (by first | exact Nat.le_refl _ | exact Nat.le_of_eq (ivals_len _).symm | exact Nat.le_of_eq (irows_len _).symm | (refine Nat.le_trans ?_ (Nat.le_of_eq (ivals_len _).symm); (first | omega | (simp; done) | (simp; omega))) | (refine Nat.le_trans ?_ (Nat.le_of_eq (irows_len _).symm); (first | omega | (simp; done) | (simp; omega))))); apply run_step rfl; (exact stp_loadR rfl (by as_aux_lemma => kernel_rfl) rfl rfl rfl (by first | assumption | exact ivals_get (by assumption) | exact irows_get (by assumption) | exact ivals_get (by omega) | exact irows_get (by omega) | rfl) (by first | exact ivals_len _ | assumption | rfl)); apply run_step rfl; (exact stp_move rfl rfl); apply run_step rfl; (exact stp_move rfl rfl); apply run_step rfl; (exact stp_ixE rfl rfl rfl rfl rfl (by as_aux_lemma => kernel_rfl) (by first | assumption | exact ivals_get (by assumption) | exact irows_get (by assumption) | exact ivals_get (by omega) | exact irows_get (by omega) | rfl) (by first | rfl | exact (Int.toNat_of_nonneg (by omega)).symm) (by first | assumption | omega | (simp; omega)) (by first | exact Nat.le_refl _ | exact Nat.le_of_eq (ivals_len _).symm | exact Nat.le_of_eq (irows_len _).symm | (refine Nat.le_trans ?_ (Nat.le_of_eq (ivals_len _).symm); (first | omega | (simp; done) | (simp; omega))) | (refine Nat.le_trans ?_ (Nat.le_of_eq (irows_len _).symm); (first | omega | (simp; done) | (simp; omega))))); apply run_step rfl; (exact stp_stE rfl rfl rfl rfl rfl (by first | assumption | omega | (simp; omega)) (by first | assumption | omega | (simp; omega)) (by as_aux_lemma => kernel_rfl)); refine run_nil ?_; refine fin_seq ?_; refine goes_seq ?_; refine goes_region ?_; apply run_step rfl; (exact stp_fieldAddr (d := 0) rfl rfl rfl (by as_aux_lemma => kernel_rfl)); apply run_step rfl; (exact stp_loadF rfl (by as_aux_lemma => kernel_rfl) rfl rfl rfl rfl); apply run_step rfl; (exact stp_move rfl rfl); apply run_step rfl; (exact stp_ix rfl rfl rfl rfl rfl (by as_aux_lemma => kernel_rfl) (by first | rfl | exact (Int.toNat_of_nonneg (by omega)).symm) (by first | assumption | omega | (simp; omega)) (by first | exact Nat.le_refl _ | exact Nat.le_of_eq (ivals_len _).symm | exact Nat.le_of_eq (irows_len _).symm | (refine Nat.le_trans ?_ (Nat.le_of_eq (ivals_len _).symm); (first | omega | (simp; done) | (simp; omega))) | (refine Nat.le_trans ?_ (Nat.le_of_eq (irows_len _).symm); (first | omega | (simp; done) | (simp; omega))))); apply run_step rfl; (exact stp_loadR rfl (by as_aux_lemma => kernel_rfl) rfl rfl rfl (by first | assumption | exact ivals_get (by assumption) | exact irows_get (by assumption) | exact ivals_get (by omega) | exact irows_get (by omega) | rfl) (by first | exact ivals_len _ | assumption | rfl)); apply run_step rfl; (exact stp_move rfl rfl); apply run_step rfl; (exact stp_move rfl rfl); apply run_step rfl; (exact stp_ixE rfl rfl rfl rfl rfl (by as_aux_lemma => kernel_rfl) (by first | assumption | exact ivals_get (by assumption) | exact irows_get (by assumption) | exact ivals_get (by omega) | exact irows_get (by omega) | rfl) (by first | rfl | exact (Int.toNat_of_nonneg (by omega)).symm) (by first | assumption | omega | (simp; omega)) (by first | exact Nat.le_refl _ | exact Nat.le_of_eq (ivals_len _).symm | exact Nat.le_of_eq (irows_len _).symm | (refine Nat.le_trans ?_ (Nat.le_of_eq (ivals_len _).symm); (first | omega | (simp; done) | (simp; omega))) | (refine Nat.le_trans ?_ (Nat.le_of_eq (irows_len _).symm); (first | omega | (simp; done) | (simp; omega))))); apply run_step rfl; (exact stp_stE rfl rfl rfl rfl rfl (by first | assumption | omega | (simp; omega)) (by first | assumption | omega | (simp; omega)) (by as_aux_lemma => kernel_rfl)); refine run_nil ?_; refine fin_seq ?_; refine goes_seq ?_; refine goes_region ?_; apply run_step rfl; (exact stp_loadAgg rfl rfl rfl rfl rfl rfl (by as_aux_lemma => kernel_rfl)); apply run_step rfl; (exact stp_move rfl rfl); apply run_step rfl; (exact stp_storeAgg rfl rfl rfl rfl rfl rfl rfl rfl (by as_aux_lemma => kernel_rfl) rfl); apply run_step rfl; (exact stp_assign rfl rfl); refine run_nil ?_; refine fin_seq ?_; refine goes_ret ?_)
      exact fin_ret2 (.inl rfl) rfl (.cell rfl rfl rfl rfl rfl (by kernel_rfl)) (.tmp rfl) ⟨rfl, rfl, trivial⟩ trivial
end Go.Proofs.Ytpjglifijdcgnaa
