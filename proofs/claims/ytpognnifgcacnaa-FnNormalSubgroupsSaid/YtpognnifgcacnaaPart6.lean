/- A memory of names: a region that draws its order and holds guards, walked once. No program in sight. -/
import Derived.Test.YtpognnifgcacnaaPart5
import Derived.Test.YtpognnifgcacnaaPart3
import Derived.Maps.OwnSet
import Derived.Maps.Views
namespace Go.Proofs.Ytpognnifgcacnaa
open Go.RowKit

section
variable {P : Program} {nt : Nat} {w0 w : World} {ω0 : Beg} {S S1 : St} {Q : Exit → Act → World → Prop} {a : Act}
/-- an operation, run or passed over, as its guard says -/
inductive GSt (P : Program) (nt : Nat) (ops : Array Oper) (o : Oper) (S1 : St) (A : Add) : Prop where
  | run (hg : o.guard = none) (h : Stp P nt o S1 (S1.add A))
  | yes {j d : Nat} {want : Bool} (hg : o.guard = some (j, want)) (hj : (ops[j]?).bind (·.dst) = some d) (hb : S1.sl d = some (vv (.bool want))) (h : Stp P nt o S1 (S1.add A))
  | no {j d : Nat} {want : Bool} (hg : o.guard = some (j, want)) (hj : (ops[j]?).bind (·.dst) = some d) (hb : S1.sl d = some (vv (.bool (!want)))) (ht : o.dst = some A.t) (hn : Nat.blt A.t nt = true) (ha : A.av = vv undef) (hx : A.news = none)
/-- the operations, one behind the other in the text's order: each may look at what it depends on alone -/
inductive DrawG (P : Program) (nt : Nat) (ops0 : Array Oper) (S : St) (cls : List (List Nat)) (sk : List Nat) : List Oper → List Add → List Add → Prop where
  | nil {done : List Add} : DrawG P nt ops0 S cls sk [] done done
  | skip {o : Oper} {rest : List Oper} {done all : List Add} (A : Add) (hs : memN sk done.length = true) (k : DrawG P nt ops0 S cls sk rest (A :: done) all) : DrawG P nt ops0 S cls sk (o :: rest) done all
  | cons {o : Oper} {rest : List Oper} {done all : List Add} (A : Add)
      (h : ∀ S1, (S.partR (memN (cls.getD done.length [])) done).le S1 → GSt P nt ops0 o S1 A) (k : DrawG P nt ops0 S cls sk rest (A :: done) all) : DrawG P nt ops0 S cls sk (o :: rest) done all
theorem DrawG.spec {ops0 : Array Oper} {cls : List (List Nat)} {sk : List Nat} {ops : List Oper} {done all : List Add} (h : DrawG P nt ops0 S cls sk ops done all) : (∃ r, all.reverse = done.reverse ++ r ∧ r.length = ops.length) ∧ ∀ (i : Nat) (o : Oper), ops[i]? = some o → memN sk (done.length + i) = false →
    ∃ A, all.reverse[done.length + i]? = some A ∧ ∀ S1, (S.partR (memN (cls.getD (done.length + i) [])) (all.reverse.take (done.length + i)).reverse).le S1 → GSt P nt ops0 o S1 A := by
  induction h with
  | nil => exact ⟨⟨[], by simp⟩, fun i o h => by simp at h⟩
  | @skip o rest done all A hs k ih =>
    obtain ⟨⟨r, hr, hl⟩, h2⟩ := ih
    refine ⟨⟨A :: r, by rw [hr]; simp, by simp [hl]⟩, fun i o' hi hsk => ?_⟩
    cases i with
    | zero => rw [Nat.add_zero, hs] at hsk; cases hsk
    | succ i =>
      have e : (A :: done).length + i = done.length + (i + 1) := by simp; omega
      rw [← e] at hsk ⊢
      exact h2 i o' (by simpa using hi) hsk
  | @cons o rest done all A h k ih =>
    obtain ⟨⟨r, hr, hl⟩, h2⟩ := ih
    refine ⟨⟨A :: r, by rw [hr]; simp, by simp [hl]⟩, fun i o' hi hsk => ?_⟩
    cases i with
    | zero =>
      simp at hi; subst hi
      refine ⟨A, by rw [hr]; simp, fun S1 hS => h S1 ?_⟩
      have : (all.reverse.take (done.length + 0)).reverse = done := by rw [hr]; simp
      rw [this] at hS
      exact hS
    | succ i =>
      have e : (A :: done).length + i = done.length + (i + 1) := by simp; omega
      rw [← e] at hsk ⊢
      exact h2 i o' (by simpa using hi) hsk

end
section
variable {P : Program} {nt : Nat} {S : St} {cls : List (List Nat)} {sk : List Nat} {o : Oper} {rest : List Oper} {done all : List Add} {ops0 : Array Oper} {t : Nat} {ty : TypeId} {ps : String} {af : Array Edge} {gd : Option (Nat × Bool)} {x y : Operand}
end
end Go.Proofs.Ytpognnifgcacnaa

/- A memory of names: rows as words; vectors cut short. No program in sight. -/
namespace Go.Proofs.Ytpognnifgcacnaa
open Go.RowKit

section
variable {η : Env} {ω : Own?} {w : World} {ins : List (Nm × Ch)}
end
section
variable {P : Program} {nt : Nat} {S : St} {t : Nat} {ty : TypeId} {ps : String} {af : Array Edge} {gd : Option (Nat × Bool)} {x y : Operand}
theorem stp_minN {ts : Array TypeId} {m n : Nat} (ht : Nat.blt t nt = true) (hx : S.op x = some (vv (I6 (m : Int)))) (hy : S.op y = some (vv (I6 (n : Int)))) :
    Stp P nt ⟨some t, .call { callee := .builtin .min, args := #[x, y], argTypes := ts }, ty, ps, af, gd⟩ S (S.put t (vv (I6 ((min m n : Nat) : Int)))) := by
  have := stp_min (P := P) (nt := nt) (ty := ty) (ps := ps) (af := af) (gd := gd) (ts := ts) ht hx hy
  rwa [show (if (n : Int) < m then (n : Int) else m) = ((min m n : Nat) : Int) by split <;> omega] at this
theorem stp_maxN {ts : Array TypeId} {m n : Nat} (ht : Nat.blt t nt = true) (hx : S.op x = some (vv (I6 (m : Int)))) (hy : S.op y = some (vv (I6 (n : Int)))) :
    Stp P nt ⟨some t, .call { callee := .builtin .max, args := #[x, y], argTypes := ts }, ty, ps, af, gd⟩ S (S.put t (vv (I6 ((max m n : Nat) : Int)))) := by
  have := stp_max (P := P) (nt := nt) (ty := ty) (ps := ps) (af := af) (gd := gd) (ts := ts) ht hx hy
  rwa [show (if (n : Int) > m then (n : Int) else m) = ((max m n : Nat) : Int) by split <;> omega] at this
end
end Go.Proofs.Ytpognnifgcacnaa

/- The program's coset enumeration: identify. -/
namespace Go.Proofs.Ytpognnifgcacnaa
open Go.RowKit

abbrev prCh (l : List Int) : Ch := ⟨true, 171, 2, .vals (ivals l)⟩
theorem prLen {pre : List Int} {o : Nat} (h : pre.length = 2 * o) (q : List (Int × Int)) : (o + q.length) * 2 = (ivals (pre ++ pflat q)).length := by
  rw [ivals_len, List.length_append, h, pflat_len]; omega
theorem prGet0 {pre : List Int} {o : Nat} (h : pre.length = 2 * o) (p : Int × Int) (q : List (Int × Int)) : (ivals (pre ++ pflat (p :: q)))[(o + 0) * 2 + 0 * 1]? = some (I6 p.1) := by
  apply iget_at
  rw [List.getElem?_append_right (by omega), show (o + 0) * 2 + 0 * 1 - pre.length = 0 by omega]; rfl
theorem prGet1 {pre : List Int} {o : Nat} (h : pre.length = 2 * o) (p : Int × Int) (q : List (Int × Int)) : (ivals (pre ++ pflat (p :: q)))[(o + 0) * 2 + 1 * 1]? = some (I6 p.2) := by
  apply iget_at
  rw [List.getElem?_append_right (by omega), show (o + 0) * 2 + 1 * 1 - pre.length = 1 by omega]; rfl
theorem ident_bound {ng : Nat} {less : List Int} {p : Int × Int} (hn : less.length ≤ 2000) (hng : ng ≤ 1000) : fuel ng less [p] ≤ 2100000 := by
  unfold fuel
  have h1 : alive less ≤ less.length := by unfold alive; exact Nat.le_trans (List.length_filter_le _ _) (by simp)
  have h2 : alive less * (ng + 1) ≤ 2000 * 1001 := Nat.mul_le_mul (by omega) (by omega)
  simp; omega
theorem prApp2 (pre : List Int) (q r : List (Int × Int)) (x y : Int) : ivals (pre ++ pflat (q ++ r)) ++ ((ivals [x, y]).drop (0 * 2)).take (1 * 2) = ivals (pre ++ pflat (q ++ (r ++ [(x, y)]))) := by
  simp [ivals, pflat]
theorem prApp1 {pre : List Int} {o : Nat} (h : pre.length = 2 * o) (q r : List (Int × Int)) (x y : Int) : (ivals (pre ++ pflat (q ++ r))).drop (o * 2) ++ ((ivals [x, y]).drop (0 * 2)).take (1 * 2) = ivals ([] ++ pflat (q ++ (r ++ [(x, y)]))) := by
  have h1 : (ivals (pre ++ pflat (q ++ r))).drop (o * 2) = ivals (pflat (q ++ r)) := by
    rw [show ivals (pre ++ pflat (q ++ r)) = ivals pre ++ ivals (pflat (q ++ r)) by simp [ivals], List.drop_append_of_le_length (by rw [ivals_len]; omega), List.drop_of_length_le (by rw [ivals_len]; omega), List.nil_append]
  rw [h1]
  simp [ivals, pflat]

set_option maxRecDepth 100000 in
set_option maxHeartbeats 2000000 in
theorem iIdentify_fc (ng n : Nat) (im : List (List Int)) (less : List Int) (c d : Nat) (b : Bool) (hnn : less.length = n) (hw : WF ng im less) (hc : c < less.length) (hd : d < less.length) (hn : less.length ≤ 2000) (hng : ng ≤ 1000) :
    FC Try.prog 217 [(1010, coOw n n b), (1000, imOw im), (1001, leOw less)] [o1 (.ptr 1010 0), vv (I6 c), vv (I6 d)] [(1010, coOw n n b), (1000, imOw (ident ng im less [((c : Int), (d : Int))]).1), (1001, leOw (ident ng im less [((c : Int), (d : Int))]).2)] (.tup []) [(0, o1 (.ptr 1010 0))] := by
  refine fc_enter (nt := 93) Try.func217 rfl rfl (by simp) fun w0 ω0 => ?_
  generalize hR : ident ng im less [((c : Int), (d : Int))] = R
  (refine goes_seq ?_; refine goes_region ?_; apply run_step rfl; (exact stp_move rfl rfl); apply run_step rfl; (exact stp_move rfl rfl); apply run_step rfl; (first | exact stp_build2 rfl rfl rfl (by as_aux_lemma => kernel_rfl) | exact stp_litP (E := 171) rfl (by as_aux_lemma => kernel_rfl) rfl); apply run_step rfl; (first | exact stp_build2 rfl rfl rfl (by as_aux_lemma => kernel_rfl) | exact stp_litP (E := 171) rfl (by as_aux_lemma => kernel_rfl) rfl); apply run_step rfl; (exact stp_assign rfl rfl); refine run_nil ?_; refine fin_seq ?_; refine goes_block ?_)
  have hB := ident_bound (p := ((c : Int), (d : Int))) hn hng
  have hq0 : QOK less.length [((c : Int), (d : Int))] := fun p hp => by simp at hp; subst hp; exact ⟨by omega, by omega⟩
  have hnm : im.length = n := hw.len.trans hnn
  refine goes_loop (fun j : List (List Int) × List Int × List (Int × Int) × List Int × Nat => St.of [(0, o1 (.ptr 1010 0)), (6, o1 (.sl 15 j.2.2.2.2 j.2.2.1.length))]
      [(1010, coOw n n b), (1000, imOw j.1), (1001, leOw j.2.1), (15, prCh (j.2.2.2.1 ++ pflat j.2.2.1))] [(0, o1 (.ptr 1010 0))])
    (fun j => WF ng j.1 j.2.1 ∧ j.2.1.length = n ∧ QOK n j.2.2.1 ∧ fuel ng j.2.1 j.2.2.1 ≤ 2100000 ∧ ident ng j.1 j.2.1 j.2.2.1 = R ∧ j.2.2.2.1.length = 2 * j.2.2.2.2)
    (fun j => fuel ng j.2.1 j.2.2.1) (im, less, [((c : Int), (d : Int))], [], 0) ⟨hw, hnn, hnn ▸ hq0, hB, hR, rfl⟩ (Wk.of ⟨rfl, rfl, trivial⟩ ⟨rfl, rfl, rfl, rfl, trivial⟩ ⟨rfl, trivial⟩) ?_
  rintro ⟨im1, less1, qq, pre, o⟩ ⟨hw1, hn1, hq, hb, hr, hpre⟩
  dsimp only at hw1 hn1 hq hb hr hpre ⊢
  have hm1 := hw1.len
  (refine goes_seq ?_; refine goes_seq ?_; refine goes_region ?_; apply run_step rfl; (exact stp_move rfl rfl); apply run_step rfl; (exact stp_len rfl rfl rfl (by as_aux_lemma => kernel_rfl)); apply run_step rfl; (exact stp_bin rfl rfl rfl rfl); refine run_nil ?_; refine fin_seq ?_)
  refine goes_cond rfl (fun hlt => ?_) (fun hlt => ?_)
  · obtain ⟨p, q, rfl⟩ : ∃ p q, qq = p :: q := by
      cases qq with
      | nil => simp at hlt
      | cons p q => exact ⟨p, q, rfl⟩
    have hpp := hq p (by simp)
    have hqn : QOK n q := fun x hx => hq x (by simp [hx])
    have g1 := prGet0 hpre p q
    have g2 := prGet1 hpre p q
    have gl : (o + (p :: q).length) * 2 ≤ (ivals (pre ++ pflat (p :: q))).length := Nat.le_of_eq (prLen hpre (p :: q))
    have hF1 : FC Try.prog 219 [(1010, coRo n n b), (1000, imRo im1), (1001, leRo less1)] [o1 (.ptr 1010 0), vv (I6 p.1)] [] (vv (I6 (root less1 p.1.toNat))) [] := by
      have := iFind_fc im1 less1 n n p.1.toNat b hn1 hw1.down (by omega)
      rwa [Int.toNat_of_nonneg hpp.1.1] at this
    have hF2 : FC Try.prog 219 [(1010, coRo n n b), (1000, imRo im1), (1001, leRo less1)] [o1 (.ptr 1010 0), vv (I6 p.2)] [] (vv (I6 (root less1 p.2.toNat))) [] := by
      have := iFind_fc im1 less1 n n p.2.toNat b hn1 hw1.down (by omega)
      rwa [Int.toNat_of_nonneg hpp.2.1] at this
    (refine goes_skip ?_; refine fin_seq ?_; refine goes_seq ?_; refine goes_block ?_; refine goes_seq ?_)
    apply goes_draw 12 [] [[], [], [1], [1, 2], [1, 2, 3], [0, 1, 2, 3, 4], [], [], [7], [7, 8], [7, 8, 9], [0, 1, 2, 3, 4, 5, 6, 7, 8, 9, 10], [0, 1, 2, 3, 4, 5, 6, 7, 8, 9, 10, 11], [0, 1, 2, 3, 4, 5, 6, 7, 8, 9, 10, 11, 12]] [21, 22, 23, 24, 25, 26, 27, 28, 29, 30, 31, 32] [] (by kernel_rfl) (by kernel_rfl)
    · (apply draw_put rfl; (intro S1 hS; exact stp_move rfl (hS.op rfl)); apply draw_put rfl; (intro S1 hS; exact stp_move rfl (hS.op rfl)); (apply draw_put rfl; (focus (intro S1 hS; first | exact stp_indexAddr (k := 2) (j := 0) rfl (hS.op rfl) (hS.op rfl) (hS.ch _ _ rfl) rfl (by as_aux_lemma => kernel_rfl) rfl (by simp) gl (by omega) | exact stp_indexArr (k := 1) (len := 2) (j := 0) rfl (hS.op rfl) (hS.op rfl) (hS.ch _ _ rfl) (by as_aux_lemma => kernel_rfl) rfl (by omega) | exact stp_indexArr (k := 1) (len := 2) (j := 1) rfl (hS.op rfl) (hS.op rfl) (hS.ch _ _ rfl) (by as_aux_lemma => kernel_rfl) rfl (by omega) | (apply call_gate 219; first | exact stp_callR hF1 (by as_aux_lemma => kernel_rfl) rfl (opL_le hS rfl) ⟨rfl, rfl, trivial⟩ (allIn_le hS ⟨⟨_, rfl, .inr rfl⟩, ⟨_, rfl, .inr rfl⟩, ⟨_, rfl, .inr rfl⟩, trivial⟩) rfl rfl | exact stp_callR hF2 (by as_aux_lemma => kernel_rfl) rfl (opL_le hS rfl) ⟨rfl, rfl, trivial⟩ (allIn_le hS ⟨⟨_, rfl, .inr rfl⟩, ⟨_, rfl, .inr rfl⟩, ⟨_, rfl, .inr rfl⟩, trivial⟩) rfl rfl)))); (apply draw_put rfl; (focus (intro S1 hS; first | exact stp_indexAddr (k := 2) (j := 0) rfl (hS.op rfl) (hS.op rfl) (hS.ch _ _ rfl) rfl (by as_aux_lemma => kernel_rfl) rfl (by simp) gl (by omega) | exact stp_indexArr (k := 1) (len := 2) (j := 0) rfl (hS.op rfl) (hS.op rfl) (hS.ch _ _ rfl) (by as_aux_lemma => kernel_rfl) rfl (by omega) | exact stp_indexArr (k := 1) (len := 2) (j := 1) rfl (hS.op rfl) (hS.op rfl) (hS.ch _ _ rfl) (by as_aux_lemma => kernel_rfl) rfl (by omega) | (apply call_gate 219; first | exact stp_callR hF1 (by as_aux_lemma => kernel_rfl) rfl (opL_le hS rfl) ⟨rfl, rfl, trivial⟩ (allIn_le hS ⟨⟨_, rfl, .inr rfl⟩, ⟨_, rfl, .inr rfl⟩, ⟨_, rfl, .inr rfl⟩, trivial⟩) rfl rfl | exact stp_callR hF2 (by as_aux_lemma => kernel_rfl) rfl (opL_le hS rfl) ⟨rfl, rfl, trivial⟩ (allIn_le hS ⟨⟨_, rfl, .inr rfl⟩, ⟨_, rfl, .inr rfl⟩, ⟨_, rfl, .inr rfl⟩, trivial⟩) rfl rfl)))); apply draw_put rfl; (intro S1 hS; exact stp_loadV rfl (by as_aux_lemma => kernel_rfl) (hS.op rfl) (hS.ch _ _ rfl) rfl (by first | assumption | exact ivals_get (by assumption) | exact irows_get (by assumption) | exact ivals_get (by omega) | exact irows_get (by omega) | rfl)); (apply draw_put rfl; (focus (intro S1 hS; first | exact stp_indexAddr (k := 2) (j := 0) rfl (hS.op rfl) (hS.op rfl) (hS.ch _ _ rfl) rfl (by as_aux_lemma => kernel_rfl) rfl (by simp) gl (by omega) | exact stp_indexArr (k := 1) (len := 2) (j := 0) rfl (hS.op rfl) (hS.op rfl) (hS.ch _ _ rfl) (by as_aux_lemma => kernel_rfl) rfl (by omega) | exact stp_indexArr (k := 1) (len := 2) (j := 1) rfl (hS.op rfl) (hS.op rfl) (hS.ch _ _ rfl) (by as_aux_lemma => kernel_rfl) rfl (by omega) | (apply call_gate 219; first | exact stp_callR hF1 (by as_aux_lemma => kernel_rfl) rfl (opL_le hS rfl) ⟨rfl, rfl, trivial⟩ (allIn_le hS ⟨⟨_, rfl, .inr rfl⟩, ⟨_, rfl, .inr rfl⟩, ⟨_, rfl, .inr rfl⟩, trivial⟩) rfl rfl | exact stp_callR hF2 (by as_aux_lemma => kernel_rfl) rfl (opL_le hS rfl) ⟨rfl, rfl, trivial⟩ (allIn_le hS ⟨⟨_, rfl, .inr rfl⟩, ⟨_, rfl, .inr rfl⟩, ⟨_, rfl, .inr rfl⟩, trivial⟩) rfl rfl)))); apply draw_put rfl; (intro S1 hS; exact stp_move rfl (hS.op rfl)); apply draw_put rfl; (intro S1 hS; exact stp_move rfl (hS.op rfl)); (apply draw_put rfl; (focus (intro S1 hS; first | exact stp_indexAddr (k := 2) (j := 0) rfl (hS.op rfl) (hS.op rfl) (hS.ch _ _ rfl) rfl (by as_aux_lemma => kernel_rfl) rfl (by simp) gl (by omega) | exact stp_indexArr (k := 1) (len := 2) (j := 0) rfl (hS.op rfl) (hS.op rfl) (hS.ch _ _ rfl) (by as_aux_lemma => kernel_rfl) rfl (by omega) | exact stp_indexArr (k := 1) (len := 2) (j := 1) rfl (hS.op rfl) (hS.op rfl) (hS.ch _ _ rfl) (by as_aux_lemma => kernel_rfl) rfl (by omega) | (apply call_gate 219; first | exact stp_callR hF1 (by as_aux_lemma => kernel_rfl) rfl (opL_le hS rfl) ⟨rfl, rfl, trivial⟩ (allIn_le hS ⟨⟨_, rfl, .inr rfl⟩, ⟨_, rfl, .inr rfl⟩, ⟨_, rfl, .inr rfl⟩, trivial⟩) rfl rfl | exact stp_callR hF2 (by as_aux_lemma => kernel_rfl) rfl (opL_le hS rfl) ⟨rfl, rfl, trivial⟩ (allIn_le hS ⟨⟨_, rfl, .inr rfl⟩, ⟨_, rfl, .inr rfl⟩, ⟨_, rfl, .inr rfl⟩, trivial⟩) rfl rfl)))); (apply draw_put rfl; (focus (intro S1 hS; first | exact stp_indexAddr (k := 2) (j := 0) rfl (hS.op rfl) (hS.op rfl) (hS.ch _ _ rfl) rfl (by as_aux_lemma => kernel_rfl) rfl (by simp) gl (by omega) | exact stp_indexArr (k := 1) (len := 2) (j := 0) rfl (hS.op rfl) (hS.op rfl) (hS.ch _ _ rfl) (by as_aux_lemma => kernel_rfl) rfl (by omega) | exact stp_indexArr (k := 1) (len := 2) (j := 1) rfl (hS.op rfl) (hS.op rfl) (hS.ch _ _ rfl) (by as_aux_lemma => kernel_rfl) rfl (by omega) | (apply call_gate 219; first | exact stp_callR hF1 (by as_aux_lemma => kernel_rfl) rfl (opL_le hS rfl) ⟨rfl, rfl, trivial⟩ (allIn_le hS ⟨⟨_, rfl, .inr rfl⟩, ⟨_, rfl, .inr rfl⟩, ⟨_, rfl, .inr rfl⟩, trivial⟩) rfl rfl | exact stp_callR hF2 (by as_aux_lemma => kernel_rfl) rfl (opL_le hS rfl) ⟨rfl, rfl, trivial⟩ (allIn_le hS ⟨⟨_, rfl, .inr rfl⟩, ⟨_, rfl, .inr rfl⟩, ⟨_, rfl, .inr rfl⟩, trivial⟩) rfl rfl)))); apply draw_put rfl; (intro S1 hS; exact stp_loadV rfl (by as_aux_lemma => kernel_rfl) (hS.op rfl) (hS.ch _ _ rfl) rfl (by first | assumption | exact ivals_get (by assumption) | exact irows_get (by assumption) | exact ivals_get (by omega) | exact irows_get (by omega) | rfl)); (apply draw_put rfl; (focus (intro S1 hS; first | exact stp_indexAddr (k := 2) (j := 0) rfl (hS.op rfl) (hS.op rfl) (hS.ch _ _ rfl) rfl (by as_aux_lemma => kernel_rfl) rfl (by simp) gl (by omega) | exact stp_indexArr (k := 1) (len := 2) (j := 0) rfl (hS.op rfl) (hS.op rfl) (hS.ch _ _ rfl) (by as_aux_lemma => kernel_rfl) rfl (by omega) | exact stp_indexArr (k := 1) (len := 2) (j := 1) rfl (hS.op rfl) (hS.op rfl) (hS.ch _ _ rfl) (by as_aux_lemma => kernel_rfl) rfl (by omega) | (apply call_gate 219; first | exact stp_callR hF1 (by as_aux_lemma => kernel_rfl) rfl (opL_le hS rfl) ⟨rfl, rfl, trivial⟩ (allIn_le hS ⟨⟨_, rfl, .inr rfl⟩, ⟨_, rfl, .inr rfl⟩, ⟨_, rfl, .inr rfl⟩, trivial⟩) rfl rfl | exact stp_callR hF2 (by as_aux_lemma => kernel_rfl) rfl (opL_le hS rfl) ⟨rfl, rfl, trivial⟩ (allIn_le hS ⟨⟨_, rfl, .inr rfl⟩, ⟨_, rfl, .inr rfl⟩, ⟨_, rfl, .inr rfl⟩, trivial⟩) rfl rfl)))); exact Draw.nil)
    · rfl
    ((apply rest_one 12 rfl (by as_aux_lemma => kernel_rfl) rfl rfl; (exact stp_assign rfl rfl)); (apply rest_one 13 rfl (by as_aux_lemma => kernel_rfl) rfl rfl; (exact stp_assign rfl rfl)); (refine rest_done (by as_aux_lemma => kernel_rfl) ?_; skip))
    have hr1 := root_lt hw1.down (c := p.1.toNat) (by omega)
    have hr2 := root_lt hw1.down (c := p.2.toNat) (by omega)
    (refine fin_seq ?_; refine goes_seq ?_; refine goes_seq ?_; refine goes_region ?_; apply run_step rfl; (exact stp_move rfl rfl); apply run_step rfl; (exact stp_move rfl rfl); apply run_step rfl; (exact stp_bin rfl rfl rfl rfl); refine run_nil ?_; refine fin_seq ?_)
    refine goes_cond rfl (fun he => ?_) (fun he => ?_)
    · have he' : root less1 p.1.toNat = root less1 p.2.toNat := by have := he; simp at this; omega
      have hfu : fuel ng less1 (p :: q) = fuel ng less1 q + 1 := by unfold fuel; simp; omega
      (refine goes_exit ?_; refine fin_exit_then ?_; refine fin_exit_eq ?_; refine fin_seq ?_; refine goes_region ?_; apply run_step rfl; (exact stp_move rfl rfl); apply run_step rfl; (exact stp_slice (k := 2) (l := 1) rfl rfl rfl rfl (by as_aux_lemma => kernel_rfl) (by omega) (bnd_some rfl rfl) bnd_none (by simp) (Nat.le_refl _) gl); apply run_step rfl; (exact stp_assign rfl rfl); refine run_nil ?_)
      exact fin_round (im1, less1, q, pre ++ [p.1, p.2], o + 1) ⟨hw1, hn1, hqn, by show fuel ng less1 q ≤ _; omega, by rw [← ident_same hw1 (hn1 ▸ hq) he']; exact hr, by simp; omega⟩ (by show fuel ng less1 q < fuel ng less1 (p :: q); omega) (Wk.of ⟨rfl, rfl, trivial⟩ ⟨rfl, rfl, rfl, congrArg (fun l => some (prCh l)) (show pre ++ pflat (p :: q) = (pre ++ [p.1, p.2]) ++ pflat q by simp [pflat]), trivial⟩ ⟨rfl, trivial⟩)
    · have he' : root less1 p.1.toNat ≠ root less1 p.2.toNat := by have := he; simp at this; omega
      obtain ⟨hm1, hm2, hm3, hm4⟩ := ident_merge hw1 (hn1 ▸ hq) he'
      generalize hcc : root less1 p.1.toNat = cc at *
      generalize hdd : root less1 p.2.toNat = dd at *
      unfold mergeSt at hm1 hm2 hm3 hm4
      have hhl : max cc dd < less1.length := by omega
      have him : max cc dd < im1.length := by omega
      have hrw : (lget im1 (max cc dd)).length = ng := hw1.row _ him
      (refine goes_skip ?_; refine fin_seq ?_; refine goes_seq ?_; refine goes_region ?_; apply run_step rfl; (exact stp_move rfl rfl); apply run_step rfl; (exact stp_move rfl rfl); apply run_step rfl; (first | exact stp_minN rfl rfl rfl | exact stp_maxN rfl rfl rfl); apply run_step rfl; (exact stp_move rfl rfl); apply run_step rfl; (exact stp_move rfl rfl); apply run_step rfl; (first | exact stp_minN rfl rfl rfl | exact stp_maxN rfl rfl rfl); apply run_step rfl; (exact stp_assign rfl rfl); apply run_step rfl; (exact stp_assign rfl rfl); refine run_nil ?_; refine fin_seq ?_; refine goes_seq ?_; refine goes_region ?_; apply run_step rfl; (exact stp_move rfl rfl); apply run_step rfl; (exact stp_nilCheck rfl rfl rfl); apply run_step rfl; (exact stp_fieldAddr (d := 1) rfl rfl rfl (by as_aux_lemma => kernel_rfl)); apply run_step rfl; (exact stp_loadF rfl (by as_aux_lemma => kernel_rfl) rfl rfl rfl rfl); apply run_step rfl; (exact stp_move rfl rfl); apply run_step rfl; (exact stp_move rfl rfl); apply run_step rfl; (exact stp_ix rfl rfl rfl rfl rfl (by as_aux_lemma => kernel_rfl) (by first | rfl | exact (Int.toNat_of_nonneg (by omega)).symm) (by first | assumption | omega | (simp; omega)) (by first | exact Nat.le_refl _ | exact Nat.le_of_eq (ivals_len _).symm | exact Nat.le_of_eq (irows_len _).symm | (refine Nat.le_trans ?_ (Nat.le_of_eq (ivals_len _).symm); (first | omega | (simp; done) | (simp; omega))) | (refine Nat.le_trans ?_ (Nat.le_of_eq (irows_len _).symm); (first | omega | (simp; done) | (simp; omega))))); apply run_step rfl; (exact stp_stI rfl rfl rfl rfl rfl (by first | assumption | omega | (simp; omega)) (by as_aux_lemma => kernel_rfl)); refine run_nil ?_; refine fin_seq ?_; refine goes_seq ?_; refine goes_region ?_; apply run_step rfl; (exact stp_move rfl rfl); apply run_step rfl; (exact stp_nilCheck rfl rfl rfl); apply run_step rfl; (exact stp_fieldAddr (d := 0) rfl rfl rfl (by as_aux_lemma => kernel_rfl)); apply run_step rfl; (exact stp_loadF rfl (by as_aux_lemma => kernel_rfl) rfl rfl rfl rfl); apply run_step rfl; (exact stp_move rfl rfl); apply run_step rfl; (exact stp_ix rfl rfl rfl rfl rfl (by as_aux_lemma => kernel_rfl) (by first | rfl | exact (Int.toNat_of_nonneg (by omega)).symm) (by first | assumption | omega | (simp; omega)) (by first | exact Nat.le_refl _ | exact Nat.le_of_eq (ivals_len _).symm | exact Nat.le_of_eq (irows_len _).symm | (refine Nat.le_trans ?_ (Nat.le_of_eq (ivals_len _).symm); (first | omega | (simp; done) | (simp; omega))) | (refine Nat.le_trans ?_ (Nat.le_of_eq (irows_len _).symm); (first | omega | (simp; done) | (simp; omega))))); apply run_step rfl; (exact stp_loadR rfl (by as_aux_lemma => kernel_rfl) rfl rfl rfl (by first | assumption | exact ivals_get (by assumption) | exact irows_get (by assumption) | exact ivals_get (by omega) | exact irows_get (by omega) | rfl) (by first | exact ivals_len _ | assumption | rfl)); apply run_step rfl; (exact stp_len rfl rfl rfl (by as_aux_lemma => kernel_rfl)); apply run_step rfl; (exact stp_move rfl rfl); refine run_nil ?_; refine fin_seq ?_; refine goes_block ?_)
      have hll : min cc dd < max cc dd ∧ max cc dd < n := by omega
      generalize min cc dd = lo at *
      generalize max cc dd = hi at *
      have hfb : (p :: q).length ≤ 2100000 := by unfold fuel at hb; omega
      clear g1 g2 gl hF1 hF2
      refine goes_loop (fun j : Nat × List Int × Nat => St.of [(0, o1 (.ptr 1010 0)), (6, o1 (.sl 15 j.2.2 ((p :: q) ++ (mergeUp lo hi (im1, []) j.1).2).length)), (7, vv (I6 lo)), (8, vv (I6 hi)), (55, o1 (.esl 1000 hi 0 ng)), (56, vv (I6 ng)), (57, vv (I6 j.1))] [(1010, coOw n n b), (1000, imOw (mergeUp lo hi (im1, []) j.1).1), (1001, leOw (less1.set hi (lo : Int))), (15, prCh (j.2.1 ++ pflat ((p :: q) ++ (mergeUp lo hi (im1, []) j.1).2)))] [(0, o1 (.ptr 1010 0))]) (fun j => j.1 ≤ ng ∧ j.2.1.length = 2 * j.2.2) (fun j => ng - j.1) (0, pre, o) ⟨Nat.zero_le _, hpre⟩ (Wk.of ⟨rfl, congrArg (fun l : List (Int × Int) => some (o1 (.sl 15 o l.length))) (List.append_nil (p :: q)).symm, rfl, rfl, by rw [← hrw]; rfl, by rw [← hrw]; rfl, rfl, trivial⟩ ⟨rfl, rfl, rfl, congrArg (fun l : List (Int × Int) => some (prCh (pre ++ pflat l))) (List.append_nil (p :: q)).symm, trivial⟩ ⟨rfl, trivial⟩) ?_
      clear hpre
      rintro ⟨g, pre2, o2⟩ ⟨hg, hpre⟩
      dsimp only at hg hpre ⊢
      obtain ⟨M, N, hMN⟩ : ∃ M N, mergeUp lo hi (im1, []) g = (M, N) := ⟨_, _, rfl⟩
      have hAq := mergeUp_app lo hi im1 q g
      obtain ⟨k1, k2, k3, k4⟩ := mergeUp_ok hw1 (lo := lo) (hi := hi) (q := []) (by omega) (by omega) (fun x hx => by simp at hx) g hg
      rw [hMN] at hAq k1 k2 k3 k4
      dsimp only at hAq k1 k2 k3 k4
      rw [hMN]
      dsimp only
      have hMl : M.length = n := k1.len.trans hn1
      have hrow := k1.row hi (by omega)
      have hrowl := k1.row lo (by omega)
      have hNl : ((p :: q) ++ N).length ≤ 2200000 := by rw [List.length_append]; simp at k3 hfb ⊢; omega
      (refine goes_seq ?_; refine goes_region ?_; apply run_step rfl; (exact stp_bin rfl rfl rfl rfl); refine run_nil ?_; refine fin_seq ?_; refine goes_seq ?_)
      refine goes_if rfl (fun hgl => ?_) (fun hgl => ?_)
      · have hg' : g < ng := by omega
        have e1 := k1.ent hi g (by omega) hg'
        have e2 := k1.ent lo g (by omega) hg'
        (refine goes_skip ?_; refine fin_seq ?_; refine goes_seq ?_; refine goes_block ?_; refine goes_seq ?_; refine goes_region ?_; apply run_step rfl; (exact stp_move rfl rfl); apply run_step rfl; (exact stp_ixE rfl rfl rfl rfl rfl (by as_aux_lemma => kernel_rfl) (by first | assumption | exact ivals_get (by assumption) | exact irows_get (by assumption) | exact ivals_get (by omega) | exact irows_get (by omega) | rfl) (by first | rfl | exact (Int.toNat_of_nonneg (by omega)).symm) (by first | assumption | omega | (simp; omega)) (by first | exact Nat.le_refl _ | exact Nat.le_of_eq (ivals_len _).symm | exact Nat.le_of_eq (irows_len _).symm | (refine Nat.le_trans ?_ (Nat.le_of_eq (ivals_len _).symm); (first | omega | (simp; done) | (simp; omega))) | (refine Nat.le_trans ?_ (Nat.le_of_eq (irows_len _).symm); (first | omega | (simp; done) | (simp; omega))))); apply run_step rfl; (exact stp_loadE' rfl (by as_aux_lemma => kernel_rfl) rfl rfl rfl (by first | assumption | exact ivals_get (by assumption) | exact irows_get (by assumption) | exact ivals_get (by omega) | exact irows_get (by omega) | rfl) (by first | assumption | exact ivals_get (by assumption) | exact irows_get (by assumption) | exact ivals_get (by omega) | exact irows_get (by omega) | rfl)); apply run_step rfl; (exact stp_assign rfl rfl); apply run_step rfl; (exact stp_assign rfl rfl); refine run_nil ?_; refine fin_seq ?_; refine goes_seq ?_; refine goes_seq ?_; refine goes_region ?_; apply run_step rfl; (exact stp_move rfl rfl); apply run_step rfl; (exact stp_bin rfl rfl rfl rfl); refine run_nil ?_; refine fin_seq ?_)
        refine goes_if rfl (fun he => ?_) (fun he => ?_)
        · have he : ent M hi g < 0 := he
          have hstep : mergeUp lo hi (im1, []) (g + 1) = (M, N) := by rw [mergeUp, hMN]; exact if_pos he
          (refine goes_exit ?_; refine fin_exit_then ?_; refine fin_exit_eq ?_; refine fin_seq ?_; refine goes_region ?_; apply run_step rfl; (exact stp_add rfl rfl rfl (by first | exact IntWalk.i64_in _ (by omega) | rfl)); apply run_step rfl; (exact stp_move rfl rfl); refine run_nil ?_)
          exact fin_round (g + 1, pre2, o2) ⟨hg', hpre⟩ (by show ng - (g + 1) < ng - g; omega) (Wk.of (by rw [hstep]; exact ⟨rfl, rfl, rfl, rfl, rfl, rfl, rfl, trivial⟩) (by rw [hstep]; exact ⟨rfl, rfl, rfl, rfl, trivial⟩) ⟨rfl, trivial⟩)
        · have he : ¬ ent M hi g < 0 := he
          (refine goes_skip ?_; refine fin_seq ?_; refine goes_seq ?_; refine goes_region ?_; apply run_step rfl; (exact stp_move rfl rfl); apply run_step rfl; (exact stp_nilCheck rfl rfl rfl); apply run_step rfl; (exact stp_fieldAddr (d := 0) rfl rfl rfl (by as_aux_lemma => kernel_rfl)); apply run_step rfl; (exact stp_loadF rfl (by as_aux_lemma => kernel_rfl) rfl rfl rfl rfl); apply run_step rfl; (exact stp_move rfl rfl); apply run_step rfl; (exact stp_ix rfl rfl rfl rfl rfl (by as_aux_lemma => kernel_rfl) (by first | rfl | exact (Int.toNat_of_nonneg (by omega)).symm) (by first | assumption | omega | (simp; omega)) (by first | exact Nat.le_refl _ | exact Nat.le_of_eq (ivals_len _).symm | exact Nat.le_of_eq (irows_len _).symm | (refine Nat.le_trans ?_ (Nat.le_of_eq (ivals_len _).symm); (first | omega | (simp; done) | (simp; omega))) | (refine Nat.le_trans ?_ (Nat.le_of_eq (irows_len _).symm); (first | omega | (simp; done) | (simp; omega))))); apply run_step rfl; (exact stp_loadR rfl (by as_aux_lemma => kernel_rfl) rfl rfl rfl (by first | assumption | exact ivals_get (by assumption) | exact irows_get (by assumption) | exact ivals_get (by omega) | exact irows_get (by omega) | rfl) (by first | exact ivals_len _ | assumption | rfl)); apply run_step rfl; (exact stp_move rfl rfl); apply run_step rfl; (exact stp_ixE rfl rfl rfl rfl rfl (by as_aux_lemma => kernel_rfl) (by first | assumption | exact ivals_get (by assumption) | exact irows_get (by assumption) | exact ivals_get (by omega) | exact irows_get (by omega) | rfl) (by first | rfl | exact (Int.toNat_of_nonneg (by omega)).symm) (by first | assumption | omega | (simp; omega)) (by first | exact Nat.le_refl _ | exact Nat.le_of_eq (ivals_len _).symm | exact Nat.le_of_eq (irows_len _).symm | (refine Nat.le_trans ?_ (Nat.le_of_eq (ivals_len _).symm); (first | omega | (simp; done) | (simp; omega))) | (refine Nat.le_trans ?_ (Nat.le_of_eq (irows_len _).symm); (first | omega | (simp; done) | (simp; omega))))); apply run_step rfl; (exact stp_loadE' rfl (by as_aux_lemma => kernel_rfl) rfl rfl rfl (by first | assumption | exact ivals_get (by assumption) | exact irows_get (by assumption) | exact ivals_get (by omega) | exact irows_get (by omega) | rfl) (by first | assumption | exact ivals_get (by assumption) | exact irows_get (by assumption) | exact ivals_get (by omega) | exact irows_get (by omega) | rfl)); apply run_step rfl; (exact stp_assign rfl rfl); refine run_nil ?_; refine fin_seq ?_; refine goes_seq ?_; refine goes_region ?_; apply run_step rfl; (exact stp_move rfl rfl); apply run_step rfl; (exact stp_bin rfl rfl rfl rfl); refine run_nil ?_; refine fin_seq ?_)
          refine goes_if rfl (fun hf => ?_) (fun hf => ?_)
          · have hf : ent M lo g ≥ 0 := hf
            have hstep : mergeUp lo hi (im1, []) (g + 1) = (M, N ++ [(ent M hi g, ent M lo g)]) := by rw [mergeUp, hMN]; exact (if_neg he).trans (if_pos hf)
            have hln : (o2 + ((p :: q) ++ N).length) * 2 = (ivals (pre2 ++ pflat ((p :: q) ++ N))).length := prLen hpre _
            (refine goes_region ?_; apply run_step rfl; (exact stp_move rfl rfl); apply run_step rfl; (exact stp_move rfl rfl); apply run_step rfl; (exact stp_move rfl rfl); apply run_step rfl; (first | exact stp_build2 rfl rfl rfl (by as_aux_lemma => kernel_rfl) | exact stp_litP (t := 80) (E := 171) rfl (by as_aux_lemma => kernel_rfl) rfl); apply run_step rfl; (first | exact stp_build2 rfl rfl rfl (by as_aux_lemma => kernel_rfl) | exact stp_litP (t := 80) (E := 171) rfl (by as_aux_lemma => kernel_rfl) rfl))
            refine run_or rfl (stpor_append (k := 2) (m := 1) (E := 171) rfl (by as_aux_lemma => kernel_rfl) rfl rfl rfl hln rfl (reads_vals (k := 2) rfl rfl rfl rfl (Nat.le_refl _)) (by omega) (by intro v hv; simp [ivals] at hv; rcases hv with rfl | rfl <;> rfl) (by omega)) ?_ ?_
            · (apply run_step rfl; (exact stp_assign rfl rfl); refine run_nil ?_; refine fin_block ?_; refine fin_seq ?_; refine goes_region ?_; apply run_step rfl; (exact stp_add rfl rfl rfl (by first | exact IntWalk.i64_in _ (by omega) | rfl)); apply run_step rfl; (exact stp_move rfl rfl); refine run_nil ?_)
              exact fin_round (g + 1, [], 0) ⟨hg', rfl⟩ (by show ng - (g + 1) < ng - g; omega) (Wk.of (by rw [hstep]; exact ⟨rfl, congrArg (fun x => some (o1 (.sl 15 0 x))) (by simp; omega), rfl, rfl, rfl, rfl, rfl, trivial⟩) (by rw [hstep]; exact ⟨rfl, rfl, rfl, congrArg (fun l => some (⟨true, 171, 2, .vals l⟩ : Ch)) (prApp1 hpre (p :: q) N (ent M hi g) (ent M lo g)), trivial⟩) ⟨rfl, trivial⟩)
            · (apply run_step rfl; (exact stp_assign rfl rfl); refine run_nil ?_; refine fin_block ?_; refine fin_seq ?_; refine goes_region ?_; apply run_step rfl; (exact stp_add rfl rfl rfl (by first | exact IntWalk.i64_in _ (by omega) | rfl)); apply run_step rfl; (exact stp_move rfl rfl); refine run_nil ?_)
              exact fin_round (g + 1, pre2, o2) ⟨hg', hpre⟩ (by show ng - (g + 1) < ng - g; omega) (Wk.of (by rw [hstep]; exact ⟨rfl, congrArg (fun x => some (o1 (.sl 15 o2 x))) (by simp; omega), rfl, rfl, rfl, rfl, rfl, trivial⟩) (by rw [hstep]; exact ⟨rfl, rfl, rfl, congrArg (fun l => some (⟨true, 171, 2, .vals l⟩ : Ch)) (prApp2 pre2 (p :: q) N (ent M hi g) (ent M lo g)), trivial⟩) ⟨rfl, trivial⟩)
          · have hf : ¬ ent M lo g ≥ 0 := hf
            have hstep : mergeUp lo hi (im1, []) (g + 1) = (rset M lo g (ent M hi g), N) := by rw [mergeUp, hMN]; exact (if_neg he).trans (if_neg hf)
            (refine goes_region ?_; apply run_step rfl; (exact stp_move rfl rfl); apply run_step rfl; (exact stp_nilCheck rfl rfl rfl); apply run_step rfl; (exact stp_fieldAddr (d := 0) rfl rfl rfl (by as_aux_lemma => kernel_rfl)); apply run_step rfl; (exact stp_loadF rfl (by as_aux_lemma => kernel_rfl) rfl rfl rfl rfl); apply run_step rfl; (exact stp_move rfl rfl); apply run_step rfl; (exact stp_ix rfl rfl rfl rfl rfl (by as_aux_lemma => kernel_rfl) (by first | rfl | exact (Int.toNat_of_nonneg (by omega)).symm) (by first | assumption | omega | (simp; omega)) (by first | exact Nat.le_refl _ | exact Nat.le_of_eq (ivals_len _).symm | exact Nat.le_of_eq (irows_len _).symm | (refine Nat.le_trans ?_ (Nat.le_of_eq (ivals_len _).symm); (first | omega | (simp; done) | (simp; omega))) | (refine Nat.le_trans ?_ (Nat.le_of_eq (irows_len _).symm); (first | omega | (simp; done) | (simp; omega))))); apply run_step rfl; (exact stp_loadR rfl (by as_aux_lemma => kernel_rfl) rfl rfl rfl (by first | assumption | exact ivals_get (by assumption) | exact irows_get (by assumption) | exact ivals_get (by omega) | exact irows_get (by omega) | rfl) (by first | exact ivals_len _ | assumption | rfl)); apply run_step rfl; (exact stp_move rfl rfl); apply run_step rfl; (exact stp_move rfl rfl); apply run_step rfl; (exact stp_ixE rfl rfl rfl rfl rfl (by as_aux_lemma => kernel_rfl) (by first | assumption | exact ivals_get (by assumption) | exact irows_get (by assumption) | exact ivals_get (by omega) | exact irows_get (by omega) | rfl) (by first | rfl | exact (Int.toNat_of_nonneg (by omega)).symm) (by first | assumption | omega | (simp; omega)) (by first | exact Nat.le_refl _ | exact Nat.le_of_eq (ivals_len _).symm | exact Nat.le_of_eq (irows_len _).symm | (refine Nat.le_trans ?_ (Nat.le_of_eq (ivals_len _).symm); (first | omega | (simp; done) | (simp; omega))) | (refine Nat.le_trans ?_ (Nat.le_of_eq (irows_len _).symm); (first | omega | (simp; done) | (simp; omega))))); apply run_step rfl; (exact stp_stE rfl rfl rfl rfl rfl (by first | assumption | omega | (simp; omega)) (by first | assumption | omega | (simp; omega)) (by as_aux_lemma => kernel_rfl)); refine run_nil ?_; refine fin_block ?_; refine fin_seq ?_; refine goes_region ?_; apply run_step rfl; (exact stp_add rfl rfl rfl (by first | exact IntWalk.i64_in _ (by omega) | rfl)); apply run_step rfl; (exact stp_move rfl rfl); refine run_nil ?_)
            exact fin_round (g + 1, pre2, o2) ⟨hg', hpre⟩ (by show ng - (g + 1) < ng - g; omega) (Wk.of (by rw [hstep]; exact ⟨rfl, rfl, rfl, rfl, rfl, rfl, rfl, trivial⟩) (by rw [hstep]; exact ⟨rfl, rfl, rfl, rfl, trivial⟩) ⟨rfl, trivial⟩)
      · obtain rfl : g = ng := by omega
        rw [hAq] at hm1 hm2 hm3 hm4
        dsimp only at hm1 hm2 hm3 hm4
        have gl : (o2 + ((p :: q) ++ N).length) * 2 ≤ (ivals (pre2 ++ pflat ((p :: q) ++ N))).length := Nat.le_of_eq (prLen hpre _)
        (refine goes_exit ?_; refine fin_exit_then ?_; refine fin_exit_then ?_; refine fin_exit_eq ?_; refine fin_block ?_; refine fin_seq ?_; refine goes_region ?_; apply run_step rfl; (exact stp_move rfl rfl); apply run_step rfl; (exact stp_slice (k := 2) (l := 1) rfl rfl rfl rfl (by as_aux_lemma => kernel_rfl) (by omega) (bnd_some rfl rfl) bnd_none (by simp) (Nat.le_refl _) gl); apply run_step rfl; (exact stp_assign rfl rfl); refine run_nil ?_)
        exact fin_round (M, less1.set hi (lo : Int), q ++ N, pre2 ++ [p.1, p.2], o2 + 1) ⟨hm2, by rw [List.length_set]; exact hn1, by rw [← hn1]; exact hm3, by show fuel _ (less1.set hi (lo : Int)) (q ++ N) ≤ 2100000; omega, by show ident _ _ _ (q ++ N) = R; rw [← hm1]; exact hr, by simp; omega⟩ (by show fuel _ _ (q ++ N) < fuel _ less1 (p :: q); exact hm4) (Wk.of ⟨rfl, rfl, trivial⟩ ⟨rfl, rfl, rfl, congrArg (fun l => some (prCh l)) (show pre2 ++ pflat ((p :: q) ++ N) = (pre2 ++ [p.1, p.2]) ++ pflat (q ++ N) by simp [pflat]), trivial⟩ ⟨rfl, trivial⟩)
  · obtain rfl : qq = [] := by
      cases qq with
      | nil => rfl
      | cons p q => simp at hlt
    rw [ident_nil] at hr
    subst hr
    (refine goes_exit ?_; refine fin_exit_then ?_; refine fin_exit_then ?_; refine fin_exit_eq ?_)
    exact fin_ret0 (.inr rfl) rfl ⟨rfl, rfl, rfl, trivial⟩ ⟨rfl, trivial⟩
end Go.Proofs.Ytpognnifgcacnaa

/- The program's coset enumeration: closeAt. guards: -/
namespace Go.Proofs.Ytpognnifgcacnaa
open Go.RowKit

theorem rset_swap {im : List (List Int)} {c d g : Nat} : rset (rset im c g (d : Int)) d g (c : Int) = rset (rset im d g (c : Int)) c g (d : Int) := by
  by_cases e : c = d
  · subst e; rfl
  · unfold rset
    rw [lget_set, if_neg (fun h => e h.1), lget_set, if_neg (fun h => e h.1.symm), List.set_comm _ _ e]
/-- closing a word also where the procedure has failed -/
def closeI (ng : Nat) (im : List (List Int)) (less : List Int) (b : Bool) (c : Nat) (w : List Nat) : CSt :=
  if b = true then (if w.length = 1 then ((closeC ng im less c w).1, (closeC ng im less c w).2.1, true) else (im, less, true)) else closeC ng im less c w
theorem closeC_last {ng c : Nat} {im : List (List Int)} {less : List Int} {w : List Nat} {g : Nat} {M : List (List Int)} {N : List Int} {d : Nat} (hw : w.getLast? = some g) (hg : goC ng (im, less, false, c) w.dropLast = (M, N, false, d)) :
    closeC ng im less c w = if 0 ≤ image M N d g then ((ident ng M N [(image M N d g, (c : Int))]).1, (ident ng M N [(image M N d g, (c : Int))]).2, false)
      else if 0 ≤ image M N c g then ((ident ng M N [(image M N c g, (d : Int))]).1, (ident ng M N [(image M N c g, (d : Int))]).2, false)
      else (rset (rset M d g c) c g d, N, false) := by
  unfold closeC; rw [hw]; dsimp only; rw [hg]; rfl
theorem closeC_fail {ng c : Nat} {im : List (List Int)} {less : List Int} {w : List Nat} {g : Nat} {M : List (List Int)} {N : List Int} {d : Nat} (hw : w.getLast? = some g) (hg : goC ng (im, less, false, c) w.dropLast = (M, N, true, d)) :
    closeC ng im less c w = (M, N, true) := by
  unfold closeC; rw [hw]; dsimp only; rw [hg]; rfl
theorem goC_take {ng : Nat} {s s' : List (List Int) × List Int × Bool × Nat} {w : List Nat} {k : Nat} (h : goC ng s (w.take k) = s') (hf : s'.2.2.1 = true) : goC ng s w = s' := by
  rw [← List.take_append_drop k w, goC_app, h, goC_failed hf]

set_option maxRecDepth 100000 in
set_option maxHeartbeats 2000000 in
theorem iCloseAt_fc (ng n : Nat) (im : List (List Int)) (less : List Int) (b : Bool) (c : Nat) (words : List (List Int)) (j wl : Nat) (W : List Int) (hnn : less.length = n) (hw : WF ng im less) (hb : b = true → less.length = 2000) (hc : c < less.length) (hn : less.length ≤ 2000) (hng : ng ≤ 1000) (hj : j < words.length) (hW : lget words j = W) (hwl : W.length = wl) (hwb : wl ≤ 1000000000) (hlet : Letters ng W) (C : CSt) (hC : closeI ng im less b c (W.map Int.toNat) = C) :
    FC Try.prog 193 [(1010, coOw n n b), (1000, imOw im), (1001, leOw less), (1002, rowsRo words)] [o1 (.ptr 1010 0), o1 (.esl 1002 j 0 wl), vv (I6 c)] [(1010, coOw C.2.1.length C.2.1.length C.2.2), (1000, imOw C.1), (1001, leOw C.2.1)] (.tup []) [(0, o1 (.ptr 1010 0))] := by
  subst hnn hwl
  have hrow : (irows words)[j]? = some (ivals W) := by rw [← hW]; exact irows_get hj
  have hWl : (ivals W).length = W.length := ivals_len W
  refine fc_enter (nt := 76) Try.func193 rfl rfl (by simp) fun w0 ω0 => ?_
  (refine goes_seq ?_; refine goes_seq ?_; refine goes_region ?_; apply run_step rfl; (exact stp_move rfl rfl); apply run_step rfl; (exact stp_len rfl rfl rfl (by as_aux_lemma => kernel_rfl)); apply run_step rfl; (exact stp_bin rfl rfl rfl rfl); refine run_nil ?_; refine fin_seq ?_)
  refine goes_cond rfl (fun h0 => ?_) (fun h0 => ?_)
  · obtain rfl : W = [] := by simpa using h0
    have hCe : C = (im, less, b) := by
      rw [← hC]; unfold closeI; cases b <;> rfl
    subst hCe
    (refine goes_ret ?_; refine fin_ret_then ?_)
    exact fin_ret0 (.inl rfl) rfl ⟨rfl, rfl, rfl, trivial⟩ ⟨rfl, trivial⟩
  · have hpos : 0 < W.length := List.length_pos_iff.2 (by simpa using h0)
    obtain ⟨L, hL⟩ : ∃ L, W.map Int.toNat = L := ⟨_, rfl⟩
    have hLl : L.length = W.length := by rw [← hL]; simp
    have hget : ∀ k, k < W.length → ∃ g : Nat, g < ng ∧ L[k]? = some g ∧ iget W k = (g : Int) := fun k hk => by
      have hz := hlet (iget W k) (iget_mem hk)
      refine ⟨(iget W k).toNat, by omega, ?_, (Int.toNat_of_nonneg hz.1).symm⟩
      rw [← hL, List.getElem?_map, List.getElem?_eq_getElem hk, iget_lt hk]; rfl
    have hdl : L.dropLast = L.take (W.length - 1) := by rw [List.dropLast_eq_take, hLl]
    rw [hL] at hC
    have hws : IntKind.i64.wrap ((W.length : Int) - 1) = ((W.length - 1 : Nat) : Int) := by rw [IntWalk.i64_in _ (by omega)]; omega
    (refine goes_skip ?_; refine fin_seq ?_; refine goes_seq ?_; refine goes_region ?_; apply run_step rfl; (exact stp_move rfl rfl); apply run_step rfl; (exact stp_assign rfl rfl); refine run_nil ?_; refine fin_seq ?_; refine goes_seq ?_; refine goes_region ?_; apply run_step rfl; (exact stp_move rfl rfl); apply run_step rfl; (exact stp_len rfl rfl rfl (by as_aux_lemma => kernel_rfl)); apply run_step rfl; (first | exact stp_sub rfl rfl rfl hws | exact stp_sliceE (l := W.length - 1) rfl rfl rfl rfl hrow (by as_aux_lemma => kernel_rfl) rfl rfl (by omega) (Nat.le_of_eq hWl.symm)); apply run_step rfl; (exact stp_assign rfl rfl); refine run_nil ?_; refine fin_seq ?_; refine goes_seq ?_; refine goes_seq ?_; refine goes_region ?_; apply run_step rfl; (exact stp_move rfl rfl); apply run_step rfl; (exact stp_move rfl rfl); apply run_step rfl; (first | exact stp_sub rfl rfl rfl hws | exact stp_sliceE (l := W.length - 1) rfl rfl rfl rfl hrow (by as_aux_lemma => kernel_rfl) rfl rfl (by omega) (Nat.le_of_eq hWl.symm)); apply run_step rfl; (exact stp_len rfl rfl rfl (by as_aux_lemma => kernel_rfl)); apply run_step rfl; (exact stp_move rfl rfl); refine run_nil ?_; refine fin_seq ?_; refine goes_block ?_)
    refine goes_loop (fun q : Nat × List (List Int) × List Int × Nat => St.of [(0, o1 (.ptr 1010 0)), (1, o1 (.esl 1002 j 0 W.length)), (2, vv (I6 c)), (6, vv (I6 q.2.2.2)), (7, vv (I6 ((W.length - 1 : Nat) : Int))), (23, o1 (.esl 1002 j 0 (W.length - 1))), (24, vv (I6 ((W.length - 1 : Nat) : Int))), (25, vv (I6 q.1))]
        [(1010, coOw q.2.2.1.length q.2.2.1.length b), (1000, imOw q.2.1), (1001, leOw q.2.2.1), (1002, rowsRo words)] [(0, o1 (.ptr 1010 0))])
      (fun q => q.1 ≤ W.length - 1 ∧ goC ng (im, less, false, c) (L.take q.1) = (q.2.1, q.2.2.1, false, q.2.2.2) ∧ (b = true → q.1 = 0)) (fun q => W.length - 1 - q.1) (0, im, less, c) ⟨Nat.zero_le _, rfl, fun _ => rfl⟩ (Wk.of ⟨rfl, rfl, rfl, rfl, rfl, rfl, rfl, rfl, trivial⟩ ⟨rfl, rfl, rfl, rfl, trivial⟩ ⟨rfl, trivial⟩) ?_
    rintro ⟨k, M, N, d⟩ ⟨hk, hgo, hb0⟩
    dsimp only at hk hgo hb0 ⊢
    have hok : GoOK ng less.length (M, N, false, d) := by
      have := goC_ok (ng := ng) (n0 := less.length) (L.take k) (im, less, false, c) ⟨hw, Nat.le_refl _, hn, hc⟩ fun g hg => by
        have hg := List.mem_of_mem_take hg
        rw [← hL] at hg
        exact hlet.nat g hg
      rwa [hgo] at this
    have hMw : WF ng M N := hok.wf
    have hMn : M.length = N.length := hMw.len
    have hdN : d < N.length := hok.d
    have hNhi : N.length ≤ 2000 := hok.hi
    have hlN : less.length ≤ N.length := hok.lo
    have hbN : b = true → N.length = 2000 := fun hbt => by have := hb hbt; omega
    (refine goes_seq ?_; refine goes_region ?_; apply run_step rfl; (exact stp_bin rfl rfl rfl rfl); refine run_nil ?_; refine fin_seq ?_; refine goes_seq ?_)
    refine goes_if rfl (fun hlt => ?_) (fun hlt => ?_)
    · have hlt' : k < W.length - 1 := by omega
      obtain ⟨g, hg, hLk, hgk⟩ := hget k (by omega)
      have hgv : (ivals W)[k]? = some (I6 (g : Int)) := by rw [ivals_get (by omega), hgk]
      have hgo' : goC ng (im, less, false, c) (L.take (k + 1)) = nextC ng M N d g := by
        rw [List.take_add_one, hLk, goC_app, hgo]; rfl
      have hI := iImage_fc M N N.length N.length d g b hMn rfl hMw.down (by omega) (by rw [hMw.row d (by omega)]; exact hg) (hMw.ent d g (by omega) hg)
      (refine goes_skip ?_; refine fin_seq ?_; refine goes_seq ?_; refine goes_block ?_; refine goes_seq ?_; refine goes_region ?_; apply run_step rfl; (exact stp_ixE rfl rfl rfl rfl rfl (by as_aux_lemma => kernel_rfl) (by first | assumption | exact ivals_get (by assumption) | exact irows_get (by assumption) | exact ivals_get (by omega) | exact irows_get (by omega) | rfl) (by first | rfl | exact (Int.toNat_of_nonneg (by omega)).symm) (by first | assumption | omega | (simp; omega)) (by first | exact Nat.le_refl _ | exact Nat.le_of_eq (ivals_len _).symm | exact Nat.le_of_eq (irows_len _).symm | (refine Nat.le_trans ?_ (Nat.le_of_eq (ivals_len _).symm); (first | omega | (simp; done) | (simp; omega))) | (refine Nat.le_trans ?_ (Nat.le_of_eq (irows_len _).symm); (first | omega | (simp; done) | (simp; omega))))); apply run_step rfl; (exact stp_loadE' rfl (by as_aux_lemma => kernel_rfl) rfl rfl rfl (by first | assumption | exact ivals_get (by assumption) | exact irows_get (by assumption) | exact ivals_get (by omega) | exact irows_get (by omega) | rfl) (by first | assumption | exact ivals_get (by assumption) | exact irows_get (by assumption) | exact ivals_get (by omega) | exact irows_get (by omega) | rfl)); apply run_step rfl; (exact stp_assign rfl rfl); refine run_nil ?_; refine fin_seq ?_; refine goes_seq ?_; refine goes_region ?_; apply run_step rfl; (exact stp_move rfl rfl); apply run_step rfl; (exact stp_move rfl rfl); apply run_step rfl; (exact stp_move rfl rfl); apply run_step rfl; (apply call_gate 195; exact stp_callR hI (by as_aux_lemma => kernel_rfl) rfl rfl ⟨rfl, rfl, rfl, trivial⟩ ⟨⟨_, rfl, .inr rfl⟩, ⟨_, rfl, .inr rfl⟩, ⟨_, rfl, .inr rfl⟩, trivial⟩ rfl rfl); apply run_step rfl; (exact stp_assign rfl rfl); refine run_nil ?_; refine fin_seq ?_; refine goes_seq ?_; refine goes_seq ?_; refine goes_region ?_; apply run_step rfl; (exact stp_move rfl rfl); apply run_step rfl; (exact stp_bin rfl rfl rfl rfl); refine run_nil ?_; refine fin_seq ?_)
      have hgl : W.length - 1 < W.length := by omega
      obtain ⟨gl, _, hLg, _⟩ := hget (W.length - 1) hgl
      have hlast : L.getLast? = some gl := by rw [List.getLast?_eq_getElem?, hLl]; exact hLg
      have hw1 : L.length ≠ 1 := by omega
      refine goes_cond rfl (fun he => ?_) (fun he => ?_)
      · have he : image M N d g < 0 := by simpa using he
        have hent : ¬ 0 ≤ ent M d g := fun h => by unfold image at he; rw [if_neg (by omega)] at he; omega
        by_cases hfull : N.length = 2000
        · have hD := iDefine_full M N N.length N.length d g b hMn (by omega)
          have hnx : nextC ng M N d g = (M, N, true, 0) := by unfold nextC; rw [if_neg hent, if_pos hfull]
          have hCe : C = (M, N, true) := by
            rw [← hC]; unfold closeI
            cases b with
            | true =>
              rw [if_pos rfl, if_neg hw1]
              obtain rfl : k = 0 := hb0 rfl
              simp only [List.take_zero, goC, Prod.mk.injEq] at hgo
              rw [hgo.1, hgo.2.1]
            | false =>
              rw [if_neg (by simp)]
              refine closeC_fail hlast (d := 0) ?_
              rw [hdl]
              refine goC_take (k := k + 1) (by rw [List.take_take, Nat.min_eq_left (by omega), hgo', hnx]) rfl
          subst hCe
          (refine goes_region ?_; apply run_step rfl; (exact stp_move rfl rfl); apply run_step rfl; (exact stp_move rfl rfl); apply run_step rfl; (exact stp_move rfl rfl); apply run_step rfl; (apply call_gate 194; exact stp_call [(0, 1010)] hD (by as_aux_lemma => kernel_rfl) rfl rfl ⟨rfl, rfl, rfl, trivial⟩ ⟨⟨_, rfl, .inl rfl⟩, ⟨_, rfl, .inl rfl⟩, ⟨_, rfl, .inl rfl⟩, trivial⟩ ⟨rfl, rfl, rfl, trivial⟩ rfl rfl); apply run_step rfl; (exact stp_assign rfl rfl); refine run_nil ?_; refine fin_seq ?_; refine goes_seq ?_; refine goes_seq ?_; refine goes_region ?_; apply run_step rfl; (exact stp_move rfl rfl); apply run_step rfl; (exact stp_nilCheck rfl rfl rfl); apply run_step rfl; (exact stp_fieldAddr (d := 2) rfl rfl rfl (by as_aux_lemma => kernel_rfl)); apply run_step rfl; (exact stp_loadF rfl (by as_aux_lemma => kernel_rfl) rfl rfl rfl rfl); refine run_nil ?_; refine fin_seq ?_)
          refine goes_cond rfl (fun _ => ?_) (fun e => by cases e)
          (refine goes_ret ?_; refine fin_ret_then ?_; refine fin_ret_block ?_; refine fin_ret_then ?_; refine fin_ret_then ?_; refine fin_ret_block ?_; refine fin_ret_then ?_)
          exact fin_ret0 (.inl rfl) rfl ⟨rfl, rfl, rfl, trivial⟩ ⟨rfl, trivial⟩
        · obtain rfl : b = false := by
            cases b with
            | false => rfl
            | true => exact absurd (hbN rfl) hfull
          have hD := iDefine_fc ng M N N.length N.length d g false hMn rfl (by omega) hMw hdN hg hng
          have hnx : nextC ng M N d g = (addC ng M N.length d g, N ++ [(N.length : Int)], false, N.length) := by unfold nextC; rw [if_neg hent, if_neg hfull]
          have hsn : (N ++ [(N.length : Int)]).length = N.length + 1 := by simp
          (refine goes_region ?_; apply run_step rfl; (exact stp_move rfl rfl); apply run_step rfl; (exact stp_move rfl rfl); apply run_step rfl; (exact stp_move rfl rfl); apply run_step rfl; (apply call_gate 194; exact stp_call [(0, 1010)] hD (by as_aux_lemma => kernel_rfl) rfl rfl ⟨rfl, rfl, rfl, trivial⟩ ⟨⟨_, rfl, .inl rfl⟩, ⟨_, rfl, .inl rfl⟩, ⟨_, rfl, .inl rfl⟩, trivial⟩ ⟨rfl, rfl, rfl, trivial⟩ rfl rfl); apply run_step rfl; (exact stp_assign rfl rfl); refine run_nil ?_; refine fin_seq ?_; refine goes_seq ?_; refine goes_seq ?_; refine goes_region ?_; apply run_step rfl; (exact stp_move rfl rfl); apply run_step rfl; (exact stp_nilCheck rfl rfl rfl); apply run_step rfl; (exact stp_fieldAddr (d := 2) rfl rfl rfl (by as_aux_lemma => kernel_rfl)); apply run_step rfl; (exact stp_loadF rfl (by as_aux_lemma => kernel_rfl) rfl rfl rfl rfl); refine run_nil ?_; refine fin_seq ?_)
          refine goes_cond rfl (fun e => by cases e) (fun _ => ?_)
          (refine goes_skip ?_; refine fin_seq ?_; refine goes_region ?_; apply run_step rfl; (exact stp_move rfl rfl); apply run_step rfl; (exact stp_assign rfl rfl); refine run_nil ?_; refine fin_block ?_; refine fin_seq ?_; refine goes_region ?_; apply run_step rfl; (exact stp_add rfl rfl rfl (by first | exact IntWalk.i64_in _ (by omega) | rfl)); apply run_step rfl; (exact stp_move rfl rfl); refine run_nil ?_)
          exact fin_round (k + 1, addC ng M N.length d g, N ++ [(N.length : Int)], N.length) ⟨hlt', hgo'.trans hnx, fun e => by cases e⟩ (by show W.length - 1 - (k + 1) < W.length - 1 - k; omega) (Wk.of ⟨rfl, rfl, rfl, rfl, rfl, rfl, rfl, rfl, trivial⟩ ⟨by rw [hsn]; rfl, rfl, rfl, rfl, trivial⟩ ⟨rfl, trivial⟩)
      · have he : ¬ image M N d g < 0 := by simpa using he
        have hent : 0 ≤ ent M d g := by
          rcases Int.lt_or_le (ent M d g) 0 with h | h
          · exfalso; apply he; unfold image; rw [if_pos h]; omega
          · exact h
        have hie : image M N d g = (root N (ent M d g).toNat : Nat) := by unfold image; rw [if_neg (by omega)]
        have hnx : nextC ng M N d g = (M, N, false, root N (ent M d g).toNat) := by unfold nextC; rw [if_pos hent]
        (refine goes_skip ?_; refine fin_seq ?_; refine goes_seq ?_; refine goes_seq ?_; refine goes_region ?_; apply run_step rfl; (exact stp_move rfl rfl); apply run_step rfl; (exact stp_nilCheck rfl rfl rfl); apply run_step rfl; (exact stp_fieldAddr (d := 2) rfl rfl rfl (by as_aux_lemma => kernel_rfl)); apply run_step rfl; (exact stp_loadF rfl (by as_aux_lemma => kernel_rfl) rfl rfl rfl rfl); refine run_nil ?_; refine fin_seq ?_)
        refine goes_cond rfl (fun hbt => ?_) (fun hbf => ?_)
        · subst hbt
          obtain rfl : k = 0 := hb0 rfl
          simp only [List.take_zero, goC, Prod.mk.injEq] at hgo
          obtain ⟨rfl, rfl, _, rfl⟩ := hgo
          have hCe : C = (im, less, true) := by rw [← hC]; unfold closeI; rw [if_pos rfl, if_neg hw1]
          subst hCe
          (refine goes_ret ?_; refine fin_ret_then ?_; refine fin_ret_block ?_; refine fin_ret_then ?_; refine fin_ret_then ?_; refine fin_ret_block ?_; refine fin_ret_then ?_)
          exact fin_ret0 (.inl rfl) rfl ⟨rfl, rfl, rfl, trivial⟩ ⟨rfl, trivial⟩
        · subst hbf
          (refine goes_skip ?_; refine fin_seq ?_; refine goes_region ?_; apply run_step rfl; (exact stp_move rfl rfl); apply run_step rfl; (exact stp_assign rfl rfl); refine run_nil ?_; refine fin_block ?_; refine fin_seq ?_; refine goes_region ?_; apply run_step rfl; (exact stp_add rfl rfl rfl (by first | exact IntWalk.i64_in _ (by omega) | rfl)); apply run_step rfl; (exact stp_move rfl rfl); refine run_nil ?_)
          exact fin_round (k + 1, M, N, root N (ent M d g).toNat) ⟨hlt', hgo'.trans hnx, fun e => by cases e⟩ (by show W.length - 1 - (k + 1) < W.length - 1 - k; omega) (Wk.of ⟨rfl, rfl, rfl, by rw [← hie]; rfl, rfl, rfl, rfl, rfl, trivial⟩ ⟨rfl, rfl, rfl, rfl, trivial⟩ ⟨rfl, trivial⟩)
    · obtain rfl : k = W.length - 1 := by omega
      obtain ⟨g, hg, hLk, hgk⟩ := hget (W.length - 1) (by omega)
      have hlast : L.getLast? = some g := by rw [List.getLast?_eq_getElem?, hLl]; exact hLk
      have hgv : (ivals W)[W.length - 1]? = some (I6 (g : Int)) := by rw [ivals_get (by omega), hgk]
      rw [← hdl] at hgo
      have hcl := closeC_last hlast hgo
      have hw1 : b = true → L.length = 1 := fun hbt => by have := hb0 hbt; omega
      have hCe : C = ((closeC ng im less c L).1, (closeC ng im less c L).2.1, b) := by
        rw [← hC]; unfold closeI
        cases b with
        | true => rw [if_pos rfl, if_pos (hw1 rfl)]
        | false => rw [if_neg (by simp)]; rw [hcl]; (split; · rfl); split <;> rfl
      have hcN : c < N.length := by omega
      have hI1 := iImage_fc M N N.length N.length d g b hMn rfl hMw.down (by omega) (by rw [hMw.row d (by omega)]; exact hg) (hMw.ent d g (by omega) hg)
      have hI2 := iImage_fc M N N.length N.length c g b hMn rfl hMw.down (by omega) (by rw [hMw.row c (by omega)]; exact hg) (hMw.ent c g (by omega) hg)
      have hil1 := image_lt hMw hdN hg
      have hil2 := image_lt hMw hcN hg
      have hwd : (lget M d).length = ng := hMw.row d (by omega)
      have hwc : (lget M c).length = ng := hMw.row c (by omega)
      generalize image M N d g = e at *
      generalize image M N c g = f at *
      (refine goes_exit ?_; refine fin_exit_then ?_; refine fin_exit_then ?_; refine fin_exit_eq ?_; refine fin_seq ?_; refine goes_seq ?_; refine goes_region ?_; apply run_step rfl; (exact stp_move rfl rfl); apply run_step rfl; (exact stp_move rfl rfl); apply run_step rfl; (exact stp_ixE rfl rfl rfl rfl rfl (by as_aux_lemma => kernel_rfl) (by first | assumption | exact ivals_get (by assumption) | exact irows_get (by assumption) | exact ivals_get (by omega) | exact irows_get (by omega) | rfl) (by first | rfl | exact (Int.toNat_of_nonneg (by omega)).symm) (by first | assumption | omega | (simp; omega)) (by first | exact Nat.le_refl _ | exact Nat.le_of_eq (ivals_len _).symm | exact Nat.le_of_eq (irows_len _).symm | (refine Nat.le_trans ?_ (Nat.le_of_eq (ivals_len _).symm); (first | omega | (simp; done) | (simp; omega))) | (refine Nat.le_trans ?_ (Nat.le_of_eq (irows_len _).symm); (first | omega | (simp; done) | (simp; omega))))); apply run_step rfl; (exact stp_loadE' rfl (by as_aux_lemma => kernel_rfl) rfl rfl rfl (by first | assumption | exact ivals_get (by assumption) | exact irows_get (by assumption) | exact ivals_get (by omega) | exact irows_get (by omega) | rfl) (by first | assumption | exact ivals_get (by assumption) | exact irows_get (by assumption) | exact ivals_get (by omega) | exact irows_get (by omega) | rfl)); apply run_step rfl; (exact stp_assign rfl rfl); refine run_nil ?_; refine fin_seq ?_; refine goes_seq ?_; refine goes_region ?_; apply run_step rfl; (exact stp_move rfl rfl); apply run_step rfl; (exact stp_move rfl rfl); apply run_step rfl; (exact stp_move rfl rfl); apply run_step rfl; (apply call_gate 195; first | exact stp_callR hI1 (by as_aux_lemma => kernel_rfl) rfl rfl ⟨rfl, rfl, rfl, trivial⟩ ⟨⟨_, rfl, .inr rfl⟩, ⟨_, rfl, .inr rfl⟩, ⟨_, rfl, .inr rfl⟩, trivial⟩ rfl rfl | exact stp_callR hI2 (by as_aux_lemma => kernel_rfl) rfl rfl ⟨rfl, rfl, rfl, trivial⟩ ⟨⟨_, rfl, .inr rfl⟩, ⟨_, rfl, .inr rfl⟩, ⟨_, rfl, .inr rfl⟩, trivial⟩ rfl rfl); apply run_step rfl; (exact stp_move rfl rfl); apply run_step rfl; (exact stp_move rfl rfl); apply run_step rfl; (exact stp_move rfl rfl); apply run_step rfl; (apply call_gate 195; first | exact stp_callR hI1 (by as_aux_lemma => kernel_rfl) rfl rfl ⟨rfl, rfl, rfl, trivial⟩ ⟨⟨_, rfl, .inr rfl⟩, ⟨_, rfl, .inr rfl⟩, ⟨_, rfl, .inr rfl⟩, trivial⟩ rfl rfl | exact stp_callR hI2 (by as_aux_lemma => kernel_rfl) rfl rfl ⟨rfl, rfl, rfl, trivial⟩ ⟨⟨_, rfl, .inr rfl⟩, ⟨_, rfl, .inr rfl⟩, ⟨_, rfl, .inr rfl⟩, trivial⟩ rfl rfl); apply run_step rfl; (exact stp_assign rfl rfl); apply run_step rfl; (exact stp_assign rfl rfl); refine run_nil ?_; refine fin_seq ?_; refine goes_block ?_; refine goes_seq ?_; refine goes_region ?_; apply run_step rfl; (exact stp_move rfl rfl); apply run_step rfl; (exact stp_bin rfl rfl rfl rfl); apply run_step rfl; (exact stp_assign rfl rfl); refine run_nil ?_; refine fin_seq ?_)
      refine goes_cond rfl (fun he => ?_) (fun he => ?_)
      · have he : 0 ≤ e := by simp at he; omega
        rw [if_pos he] at hcl
        rw [hcl] at hCe
        dsimp only at hCe
        have hId := iIdentify_fc ng N.length M N e.toNat c b rfl hMw (by omega) hcN hNhi hng
        rw [Int.toNat_of_nonneg he] at hId
        have hlen := (ident_ok (q := [(e, (c : Int))]) hMw rfl (fun p hp => by simp at hp; subst hp; exact ⟨⟨he, by dsimp only; omega⟩, by dsimp only; omega, by dsimp only; omega⟩)).2
        subst hCe
        (refine goes_region ?_; apply run_step rfl; (exact stp_move rfl rfl); apply run_step rfl; (exact stp_move rfl rfl); apply run_step rfl; (exact stp_move rfl rfl); apply run_step rfl; (apply call_gate 217; exact stp_call [(0, 1010)] hId (by as_aux_lemma => kernel_rfl) rfl rfl ⟨rfl, rfl, rfl, trivial⟩ ⟨⟨_, rfl, .inl rfl⟩, ⟨_, rfl, .inl rfl⟩, ⟨_, rfl, .inl rfl⟩, trivial⟩ ⟨rfl, rfl, rfl, trivial⟩ rfl rfl); refine run_nil ?_; refine fin_block ?_)
        exact fin_ret0 (.inr rfl) rfl ⟨by dsimp only; rw [hlen]; rfl, rfl, rfl, trivial⟩ ⟨rfl, trivial⟩
      · have he : ¬ 0 ≤ e := by simp at he; omega
        rw [if_neg he] at hcl
        (refine goes_seq ?_; refine goes_region ?_; apply run_step rfl; (exact stp_move rfl rfl); apply run_step rfl; (exact stp_bin rfl rfl rfl rfl); apply run_step rfl; (exact stp_assign rfl rfl); refine run_nil ?_; refine fin_seq ?_)
        refine goes_cond rfl (fun hf => ?_) (fun hf => ?_)
        · have hf : 0 ≤ f := by simp at hf; omega
          rw [if_pos hf] at hcl
          rw [hcl] at hCe
          dsimp only at hCe
          have hId := iIdentify_fc ng N.length M N f.toNat d b rfl hMw (by omega) hdN hNhi hng
          rw [Int.toNat_of_nonneg hf] at hId
          have hlen := (ident_ok (q := [(f, (d : Int))]) hMw rfl (fun p hp => by simp at hp; subst hp; exact ⟨⟨hf, by dsimp only; omega⟩, by dsimp only; omega, by dsimp only; omega⟩)).2
          subst hCe
          (refine goes_region ?_; apply run_step rfl; (exact stp_move rfl rfl); apply run_step rfl; (exact stp_move rfl rfl); apply run_step rfl; (exact stp_move rfl rfl); apply run_step rfl; (apply call_gate 217; exact stp_call [(0, 1010)] hId (by as_aux_lemma => kernel_rfl) rfl rfl ⟨rfl, rfl, rfl, trivial⟩ ⟨⟨_, rfl, .inl rfl⟩, ⟨_, rfl, .inl rfl⟩, ⟨_, rfl, .inl rfl⟩, trivial⟩ ⟨rfl, rfl, rfl, trivial⟩ rfl rfl); refine run_nil ?_; refine fin_block ?_)
          exact fin_ret0 (.inr rfl) rfl ⟨by dsimp only; rw [hlen]; rfl, rfl, rfl, trivial⟩ ⟨rfl, trivial⟩
        · have hf : ¬ 0 ≤ f := by simp at hf; omega
          rw [if_neg hf] at hcl
          rw [hcl] at hCe
          dsimp only at hCe
          have hLk := iLink_fc M N N.length N.length c d g b hMn (by omega) (by omega) (by omega) (by omega)
          rw [rset_swap] at hLk
          subst hCe
          (refine goes_region ?_; apply run_step rfl; (exact stp_move rfl rfl); apply run_step rfl; (exact stp_move rfl rfl); apply run_step rfl; (exact stp_move rfl rfl); apply run_step rfl; (exact stp_move rfl rfl); apply run_step rfl; (apply call_gate 218; exact stp_call [(0, 1010)] hLk (by as_aux_lemma => kernel_rfl) rfl rfl ⟨rfl, rfl, rfl, rfl, trivial⟩ ⟨⟨_, rfl, .inl rfl⟩, ⟨_, rfl, .inl rfl⟩, ⟨_, rfl, .inl rfl⟩, trivial⟩ ⟨rfl, rfl, rfl, trivial⟩ rfl rfl); refine run_nil ?_; refine fin_block ?_)
          exact fin_ret0 (.inr rfl) rfl ⟨rfl, rfl, rfl, trivial⟩ ⟨rfl, trivial⟩
end Go.Proofs.Ytpognnifgcacnaa

/- Coset enumeration, the program's run against the reference's, on lists. No program in sight. -/
namespace Go.Proofs.Ytpognnifgcacnaa

theorem goC_full {ng n0 : Nat} : ∀ (w : List Nat) (s : List (List Int) × List Int × Bool × Nat), GoOK ng n0 s → (∀ g ∈ w, g < ng) → (s.2.2.1 = true → s.2.1.length = 2000) → (goC ng s w).2.2.1 = true → (goC ng s w).2.1.length = 2000
  | [], s, _, _, h, hf => h hf
  | g :: r, s, h, hg, hs, hf => by
    unfold goC at hf ⊢
    by_cases e : s.2.2.1 = true
    · rw [if_pos e] at hf ⊢; exact hs e
    · rw [if_neg e] at hf ⊢
      obtain ⟨h1, h2, h3, h4, h5⟩ := nextC_ok h.wf h.d (hg g (by simp)) h.hi
      exact goC_full (n0 := n0) r _ ⟨h1, Nat.le_trans h.lo h2, h3, h4⟩ (fun x hx => hg x (by simp [hx])) h5 hf
theorem closeC_full {ng : Nat} {im : List (List Int)} {less : List Int} {c : Nat} {w : List Nat} (h : WF ng im less) (hc : c < less.length) (hn : less.length ≤ 2000) (hg : ∀ g ∈ w, g < ng) (hf : (closeC ng im less c w).2.2 = true) : (closeC ng im less c w).2.1.length = 2000 := by
  unfold closeC at hf ⊢
  cases hw : w.getLast? with
  | none => rw [hw] at hf; cases hf
  | some g =>
    rw [hw] at hf
    have hfull := goC_full (n0 := less.length) w.dropLast (im, less, false, c) ⟨h, Nat.le_refl _, hn, hc⟩ (fun x hx => hg x (List.dropLast_subset _ hx)) (fun e => by cases e)
    generalize goC ng (im, less, false, c) w.dropLast = s at *
    dsimp only at hf ⊢
    by_cases e : s.2.2.1 = true
    · rw [if_pos e]; exact hfull e
    · rw [if_neg e] at hf
      split at hf
      · cases hf
      · split at hf <;> cases hf
/-- what the program's procedure keeps -/
structure IOK (ng n : Nat) (s : CSt) : Prop where
  ok : CloseOK ng n s
  full : s.2.2 = true → s.2.1.length = 2000
def closeW (ng : Nat) (s : CSt) (w : List Int) : CSt := closeI ng s.1 s.2.1 s.2.2 0 (w.map Int.toNat)
theorem closeI_ok {ng n c : Nat} {s : CSt} {w : List Nat} (h : IOK ng n s) (hc : c < n) (hw : ∀ g ∈ w, g < ng) : IOK ng n (closeI ng s.1 s.2.1 s.2.2 c w) := by
  have hcl : c < s.2.1.length := Nat.lt_of_lt_of_le hc h.ok.lo
  have hk := closeC_ok h.ok.wf hcl h.ok.hi hw
  unfold closeI
  split
  · rename_i hb
    have hl := h.full hb
    split
    · refine ⟨⟨hk.wf, Nat.le_trans h.ok.lo hk.lo, hk.hi⟩, fun _ => ?_⟩
      have h1 := hk.lo
      have h2 := hk.hi
      dsimp only
      omega
    · exact ⟨⟨h.ok.wf, h.ok.lo, h.ok.hi⟩, fun _ => hl⟩
  · exact ⟨⟨hk.wf, Nat.le_trans h.ok.lo hk.lo, hk.hi⟩, fun hf => closeC_full h.ok.wf hcl h.ok.hi hw hf⟩
theorem closeW_ok {ng n : Nat} {s : CSt} {w : List Int} (h : IOK ng n s) (hn : 0 < n) (hw : Letters ng w) : IOK ng n (closeW ng s w) := closeI_ok h hn hw.nat
theorem close1_iok {ng n c : Nat} {s : CSt} {w : List Int} (h : IOK ng n s) (hc : c < n) (hw : Letters ng w) : IOK ng n (close1 ng c s w) := by
  unfold close1
  split
  · rename_i hl
    have hb : s.2.2 = false := by unfold liveC at hl; simp at hl; exact hl.2
    have := closeI_ok h hc hw.nat
    unfold closeI at this
    rwa [hb, if_neg (by simp)] at this
  · exact h
theorem next1_iok {ng n c g : Nat} {s : CSt} (h : IOK ng n s) (hc : c < n) (hg : g < ng) : IOK ng n (next1 ng c s g) := by
  refine ⟨next1_ok h.ok hc hg, ?_⟩
  unfold next1
  split
  · exact (nextC_ok h.ok.wf (Nat.lt_of_lt_of_le hc h.ok.lo) hg h.ok.hi).2.2.2.2
  · exact h.full
theorem startC_iok (ng : Nat) : IOK ng 1 (startC ng) := ⟨startC_ok ng, fun h => by cases h⟩
def runI (ng : Nat) (rels words : List (List Int)) : CSt := outer ng rels 2001 0 (words.foldl (closeW ng) (startC ng))
theorem closeW_failed {ng : Nat} {s : CSt} (h : s.2.2 = true) (w : List Int) : (closeW ng s w).2.2 = true := by
  unfold closeW closeI
  rw [if_pos h]; split <;> rfl
theorem fold_same {ng : Nat} : ∀ (words : List (List Int)) (s s' : CSt), (s = s' ∨ (s.2.2 = true ∧ s'.2.2 = true)) → (words.foldl (close0 ng) s = words.foldl (closeW ng) s' ∨ ((words.foldl (close0 ng) s).2.2 = true ∧ (words.foldl (closeW ng) s').2.2 = true))
  | [], s, s', h => h
  | w :: r, s, s', h => by
    refine fold_same r _ _ ?_
    rcases h with rfl | ⟨h1, h2⟩
    · by_cases e : s.2.2 = true
      · right
        exact ⟨by rw [close0_failed e]; exact e, closeW_failed e w⟩
      · left
        unfold close0 closeW closeI
        rw [if_neg e, if_neg e]
    · right
      exact ⟨by rw [close0_failed h1]; exact h1, closeW_failed h2 w⟩
theorem runI_same (ng : Nat) (rels words : List (List Int)) : runC ng rels words = runI ng rels words ∨ ((runC ng rels words).2.2 = true ∧ (runI ng rels words).2.2 = true) := by
  unfold runC runI
  rcases fold_same (ng := ng) words (startC ng) (startC ng) (.inl rfl) with h | ⟨h1, h2⟩
  · left; rw [h]
  · right; rw [outer_failed h1, outer_failed h2]; exact ⟨h1, h2⟩
end Go.Proofs.Ytpognnifgcacnaa

/- Coset enumeration: the table filled while cosets are numbered. No program in sight. -/
namespace Go.Proofs.Ytpognnifgcacnaa

def tabP (ng : Nat) (im : List (List Int)) (less : List Int) (s : NSt) (i g : Nat) : List (List Int) := (List.range ng).map fun g' => (List.range (if g' < g then i + 1 else i)).map (tabC im less s g')
def SeenG (ng : Nat) (im : List (List Int)) (less : List Int) (s : NSt) (i g : Nat) : Prop := ∀ k g', g' < ng → (k < i ∨ (k = i ∧ g' < g)) → k < s.1.length ∧ 0 ≤ tabC im less s g' k
section
variable {ng : Nat} {im : List (List Int)} {less : List Int} {s s' : NSt} {i g : Nat}
theorem tabP_len : (tabP ng im less s i g).length = ng := by simp [tabP]
theorem tabP_zero : tabP ng im less s 0 0 = List.replicate ng [] := by
  refine List.ext_getElem (by simp [tabP]) fun k h1 h2 => ?_
  simp [tabP]
theorem tabP_row (hg : g < ng) : lget (tabP ng im less s i g) g = (List.range i).map (tabC im less s g) := by
  simp [tabP, lget, hg]
theorem tabP_next : tabP ng im less s i ng = tabP ng im less s (i + 1) 0 := by
  unfold tabP
  refine List.map_congr_left fun g' hg' => ?_
  rw [if_pos (List.mem_range.1 hg'), if_neg (by omega)]
theorem tabC_grow (h : NGrow s s') {k g' : Nat} (hk : k < s.1.length) (h0 : 0 ≤ tabC im less s g' k) : tabC im less s' g' k = tabC im less s g' k := by
  unfold tabC at h0 ⊢
  rw [h.pre k hk, h.num _ h0]
theorem tabP_grow (h : NGrow s s') (hs : SeenG ng im less s i g) : tabP ng im less s i g = tabP ng im less s' i g := by
  unfold tabP
  refine List.map_congr_left fun g' hg' => ?_
  refine List.map_congr_left fun k hk => ?_
  have hg' := List.mem_range.1 hg'
  have hk := List.mem_range.1 hk
  have := hs k g' hg' (by
    split at hk
    · rename_i e
      by_cases e2 : k < i
      · exact .inl e2
      · exact .inr ⟨by omega, e⟩
    · exact .inl hk)
  exact (tabC_grow h this.1 this.2).symm
theorem tabP_set (hg : g < ng) : (tabP ng im less s i g).set g ((List.range i).map (tabC im less s g) ++ [tabC im less s g i]) = tabP ng im less s i (g + 1) := by
  refine List.ext_getElem (by simp [tabP]) fun k h1 h2 => ?_
  simp only [tabP, List.length_map, List.length_range] at h2
  rw [List.getElem_set]
  simp only [tabP, List.getElem_map, List.getElem_range]
  by_cases e : g = k
  · subst e
    rw [if_pos rfl, if_pos (by omega), List.range_succ, List.map_append]; rfl
  · rw [if_neg e]
    by_cases e2 : k < g
    · rw [if_pos e2, if_pos (by omega)]
    · rw [if_neg e2, if_neg (by omega)]
theorem SeenG.grow (h : NGrow s s') (hs : SeenG ng im less s i g) : SeenG ng im less s' i g := fun k g' hg' hk => by
  obtain ⟨h1, h2⟩ := hs k g' hg' hk
  exact ⟨Nat.lt_of_lt_of_le h1 h.len, by rw [tabC_grow h h1 h2]; exact h2⟩
theorem SeenG.next (hs : SeenG ng im less s i ng) : SeenG ng im less s (i + 1) 0 := fun k g' hg' hk => hs k g' hg' (by omega)
theorem SeenG.zero : SeenG ng im less s 0 0 := fun k g' _ hk => by omega
/-- the number of a coset behind its visit -/
theorem tabC_visit {d e : Nat} (hi : i < s.1.length) (hd : iget s.1 i = (d : Int)) (he : image im less d g = (e : Int)) : tabC im less (visit s e) g i = iget (visit s e).2 e := by
  unfold tabC
  rw [(visit_grow s e).pre i hi, hd, Int.toNat_natCast, he, Int.toNat_natCast]
theorem SeenG.visit {d e : Nat} (hF : TOK less.length less s) (hi : i < s.1.length) (hd : iget s.1 i = (d : Int)) (he : image im less d g = (e : Int)) (hel : e < less.length) (hs : SeenG ng im less s i g) : SeenG ng im less (visit s e) i (g + 1) := fun k g' hg' hk => by
  by_cases e1 : k = i ∧ g' = g
  · obtain ⟨rfl, rfl⟩ := e1
    exact ⟨Nat.lt_of_lt_of_le hi (visit_grow s e).len, by rw [tabC_visit hi hd he]; exact visit_num hF hel⟩
  · exact hs.grow (visit_grow s e) k g' hg' (by omega)
theorem tabP_done (h : numbered ng im less = s) : tabP ng im less s s.1.length 0 = tableC ng im less := by
  subst h
  rw [tableC_row]
  unfold tabP
  refine List.map_congr_left fun g' _ => ?_
  rw [if_neg (by omega)]
end

/-- the numbers as a map -/
def fN (M : List Int) (z : Int) : Option Int := if 0 ≤ z ∧ z < M.length ∧ 0 ≤ iget M z.toNat then some (iget M z.toNat) else none
theorem fN_set {M : List Int} {e : Nat} {v : Int} (he : e < M.length) (hv : 0 ≤ v) : (fun z => if z = (e : Int) then some v else fN M z) = fN (M.set e v) := by
  funext z
  have h1 : iget (M.set e v) e = v := by rw [iget_set, if_pos ⟨rfl, he⟩]
  unfold fN
  rw [List.length_set]
  by_cases h : z = (e : Int)
  · subst h
    rw [if_pos rfl, Int.toNat_natCast, h1, if_pos ⟨by omega, by omega, hv⟩]
  · rw [if_neg h]
    by_cases h0 : 0 ≤ z
    · have h2 : iget (M.set e v) z.toNat = iget M z.toNat := by rw [iget_set, if_neg (by omega)]
      rw [h2]
    · rw [if_neg (fun hh => h0 hh.1), if_neg (fun hh => h0 hh.1)]
theorem fN_rep (n : Nat) : fN (List.replicate n (-1)) = fun _ => none := by
  funext z
  unfold fN
  rw [if_neg]
  rintro ⟨h1, h2, h3⟩
  rw [iget_rep (by simp at h2; omega)] at h3
  omega
theorem fN_start {n : Nat} (h : 0 < n) : (fun z : Int => if z = 0 then some (0 : Int) else none) = fN (tabStart n).2 := by
  show _ = fN ((List.replicate n (-1)).set 0 0)
  rw [← fN_set (by simpa using h) (Int.le_refl 0), fN_rep]
  rfl
theorem fN_some {M : List Int} {e : Nat} (he : e < M.length) : (fN M (e : Int)).isSome = decide (0 ≤ iget M e) ∧ (0 ≤ iget M e → (fN M (e : Int)).getD 0 = iget M e) := by
  unfold fN
  rw [Int.toNat_natCast]
  by_cases h : 0 ≤ iget M e
  · rw [if_pos ⟨by omega, by omega, h⟩]; simp [h]
  · rw [if_neg (fun hh => h hh.2.2)]; simp [h]
end Go.Proofs.Ytpognnifgcacnaa

/- A memory of names: beside it a map from integers to integers that the call itself has made. No program in sight. -/
namespace Go.Proofs.Ytpognnifgcacnaa
open Go.RowKit

section
variable {P : Program} {nt : Nat} {S S1 S2 : St} {w0 w wB : World} {ω0 : Beg} {ω ωB : Own?} {η : Env} {a : Act} {Q : Exit → Act → World → Prop} {ops : Array Oper} {rest : List Oper}
variable {t : Nat} {ty : TypeId} {ps : String} {af : Array Edge} {gd : Option (Nat × Bool)} {x y : Operand} {av : AV} {o : Oper}

theorem Vec.off {own : Bool} {ow : Nm × Option Nat} {h : Hd} {E : TypeId} {len : Nat} {cell cell' : Nat → Value → Prop} {b : Nat} {w' : World} (hb : ∀ o, w.cell? ⟨b, o, none⟩ = none) (hn : ω b = none) (hs : ∀ b', b' < w.heap.size → b' ≠ b → w'.heap[b']? = w.heap[b']?) (hsz : w.heap.size ≤ w'.heap.size)
    (hc : ∀ j u, cell j u → cell' j u) (hv : Vec own ω w ow h E len cell) : Vec own ω w' ow h E len cell' := by
  cases own with
  | true =>
    rcases hv with h0 | ⟨b0, o, cs, h1, h2, h3, h4, h5, h6, h7⟩
    · exact .inl h0
    · have hne : b0 ≠ b := fun e => by rw [e, hn] at h2; cases h2
      refine .inr ⟨b0, o, cs, h1, h2, (hs b0 (lt_of_heap h3) hne).trans h3, h4, h5, h6, fun j hj => ?_⟩
      obtain ⟨u, hu, hcu⟩ := h7 j hj
      exact ⟨u, hu, hc j u hcu⟩
  | false =>
    refine ⟨hv.1, fun j hj => ?_⟩
    obtain ⟨b0, o, u, h1, h2, h3, h4, h5⟩ := hv.2 j hj
    have hne : b0 ≠ b := fun e => by rw [e, hb] at h4; cases h4
    exact ⟨b0, o, u, h1, h2, Nat.lt_of_lt_of_le h3 hsz, (World.cell?_of_block (hs b0 h3 hne)).trans h4, hc j u h5⟩
theorem Mem.off {b : Nat} {w' : World} {ch : Nm → Option Ch} (hb : ∀ o, w.cell? ⟨b, o, none⟩ = none) (hn : ω b = none) (hs : ∀ b', b' < w.heap.size → b' ≠ b → w'.heap[b']? = w.heap[b']?) (hsz : w.heap.size ≤ w'.heap.size) (hm : Mem η ω w ch) : Mem η ω w' ch := by
  refine ⟨fun x c hx => ?_, hm.2⟩
  obtain ⟨h, h1, h2, h3⟩ := hm.1 x c hx
  refine ⟨h, h1, h2, h3.off hb hn hs hsz fun j u hu => ?_⟩
  cases hd : c.d with
  | flat l => rw [hd] at hu; exact hu
  | vals vs => rw [hd] at hu; exact hu
  | rows E vss holes =>
    rw [hd] at hu
    exact ⟨hu.1, fun hj vs hvs => have ⟨k1, k2, k3⟩ := hu.2 hj vs hvs; ⟨k1, k2, k3.off hb hn hs hsz fun _ _ h => h⟩⟩
  | mix cs => rw [hd] at hu; exact ⟨hu.1, fun c hc => (hu.2 c hc).move rfl fun _ _ _ _ _ h3 => h3.off hb hn hs hsz fun _ _ h => h⟩

/-- block b is a map that answers as f -/
structure MapAt (P : Program) (k e : TypeId) (b : Nat) (ω : Own?) (w : World) (f : Int → Option Int) (n : Nat) : Prop where
  free : ω b = none
  map : ∃ D : DataW Unit, w.ownsMap P k (plainElem P e) b n D ∧ Maps.IsMap D ∧ ∀ z, (Lit.int .i64 z).wf = true → Maps.has D (.int .i64 z) = (f z).isSome ∧ D.atKey (.int .i64 z) (.lit (.int .i64 0)) = .lit (.int .i64 ((f z).getD 0))
theorem MapAt.lt {k e b n : Nat} {f : Int → Option Int} (h : MapAt P k e b ω w f n) : b < w.heap.size := by
  obtain ⟨D, hD, _⟩ := h.map
  exact hD.lt
theorem MapAt.no {k e b n : Nat} {f : Int → Option Int} (h : MapAt P k e b ω w f n) (o : Nat) : w.cell? ⟨b, o, none⟩ = none := by
  obtain ⟨D, ⟨es, clock, hb, _⟩, _⟩ := h.map
  simp [World.cell?, hb]
theorem MapAt.fr {k e b n : Nat} {f : Int → Option Int} (h : MapAt P k e b ωB wB f n) (hf : Fr ωB wB ω w) : MapAt P k e b ω w f n := by
  have hb := hf.block b h.lt h.free
  obtain ⟨D, ⟨es, clock, h1, h2⟩, h3⟩ := h.map
  exact ⟨hb.2, D, ⟨es, clock, hb.1.trans h1, h2⟩, h3⟩
/-- where the walk goes on with a map beside it -/
structure MB (P : Program) (k e : TypeId) (w0 : World) (ω0 : Own?) (b : Nat) (f : Int → Option Int) (n : Nat) (wB : World) (ωB : Own?) : Prop where
  fr : Fr ω0 w0 ωB wB
  new : w0.heap.size ≤ b
  at_ : MapAt P k e b ωB wB f n

theorem fin_base {e : Exit} (hf : Fr ω0.own w0 ωB wB) (h : Fin w0 ω0 nt S e Q) : Fin wB ⟨ωB, ω0.ph⟩ nt S e Q :=
  ⟨fun a w ⟨η, ω, hs⟩ => h.go a w ⟨η, ω, { dfr := hs.dfr, tsz := hs.tsz, slots := hs.slots, phs := hs.phs, mem := hs.mem, fr := hf.trans hs.fr }⟩⟩

/-- make of a map -/
theorem run_makeMap {T k e : Nat} (hg : o.guard = none) (ho : o = ⟨some t, .makeMap T none, ty, ps, af, gd⟩) (ht : Nat.blt t nt = true) (K : P.underlying k = some (.int .i64)) (hT : P.underlying T = some (.map k e))
    (h : ∀ b wB ωB, MB P k e w0 ω0.own b (fun _ => none) 0 wB ωB → Run P wB ⟨ωB, ω0.ph⟩ nt ops Q (S.put t (vv (.map (some b)))) rest) : Run P w0 ω0 nt ops Q S (o :: rest) := by
  subst ho
  refine ⟨fun a w ⟨η, ω, hs⟩ => wpList_plain hg fun K' hK' => ?_⟩
  have hrun := Go.RowKit.run_makeMap (P := P) T w
  unfold Oper.wp
  have hex : (execOp a.eval ⟨some t, .makeMap T none, ty, ps, af, gd⟩).run P w = .ok (.value (.map (some w.heap.size))) (w.alloc (.map #[] 0)) := by simp [execOp, hrun]
  rw [hex]
  refine hK' _ _ ?_
  let ω' : Own? := fun b => if b = w.heap.size then none else ω b
  have hheap : ∀ b, b < w.heap.size → (w.alloc (.map #[] 0)).heap[b]? = w.heap[b]? := fun b hb => Below.heap_alloc w _ b hb
  have hsame : ∀ p : Option (Nm × Option Nat) → Prop, Same ω w ω' (w.alloc (.map #[] 0)) p := fun p => ⟨by simp, fun b hb _ => ⟨hheap b hb, if_neg (Nat.ne_of_lt hb)⟩⟩
  have hmem : Mem η ω' (w.alloc (.map #[] 0)) S.ch := ⟨fun x c hx => by
    obtain ⟨hd, h1, h2⟩ := hs.mem.1 x c hx
    exact ⟨hd, h1, h2.same (hsame fun _ => True) trivial (fun _ => trivial) (fun _ => rfl) fun l _ a _ y _ => .inr ⟨rfl, fun _ => rfl⟩⟩, hs.mem.2⟩
  have hfr : Fr ω0.own w0 ω' (w.alloc (.map #[] 0)) := hs.fr.trans ⟨rfl, rfl, rfl, by simp, fun b hb hn => ⟨hheap b hb, (if_neg (Nat.ne_of_lt hb)).trans hn⟩⟩
  refine (h w.heap.size (w.alloc (.map #[] 0)) ω' ⟨hfr, hs.fr.size, if_pos rfl, .map [], World.ownsMap_made w P k _, ⟨_, rfl⟩, fun z _ => ⟨rfl, rfl⟩⟩).go _ _ ⟨η, ω', ?_⟩
  exact SatE.putV (w0 := w.alloc (.map #[] 0)) (ω0 := ⟨ω', ω0.ph⟩) { dfr := hs.dfr, tsz := hs.tsz, slots := hs.slots, phs := hs.phs, mem := hmem, fr := Fr.refl _ _ } (by simpa using ht) rfl

/-- a key is written -/
theorem run_mapPut {T k e b n : Nat} {m v : Operand} {z r : Int} {f : Int → Option Int} {w00 : World} {ω00 : Own?} {ph : List Value} (hg : o.guard = none) (ho : o.op = .mapUpdate T m x v ∨ o.op = .insert T m x v) (hd : o.dst = none) (K : P.underlying k = some (.int .i64)) (he : P.underlying e = some (.int .i64)) (hT : P.underlying T = some (.map k e))
    (hB : MB P k e w00 ω00 b f n wB ωB) (hm : S.op m = some (vv (.map (some b)))) (hx : S.op x = some (vv (I6 z))) (hv : S.op v = some (vv (I6 r))) (hz : (Lit.int .i64 z).wf = true) (hr : (Lit.int .i64 r).wf = true) (hn : n ≤ 1000000000)
    (h : ∀ wB' ωB', MB P k e w00 ω00 b (fun z' => if z' = z then some r else f z') (n + 1) wB' ωB' → Run P wB' ⟨ωB', ph⟩ nt ops Q S rest) : Run P wB ⟨ωB, ph⟩ nt ops Q S (o :: rest) := by
  refine ⟨fun a w ⟨η, ω, hs⟩ => wpList_plain hg fun K' hK' => ?_⟩
  have hA := hB.at_.fr hs.fr
  obtain ⟨D, hD, hI, hf⟩ := hA.map
  obtain ⟨w', hrun, r1, r2⟩ := hD.update (d := .lit (.int .i64 r)) (ps := []) (Maps.int_keyed K) hT (by simp [maxLen]; omega) (Maps.keyOf_int_mk K hz) (plainElem_int he hr)
  unfold Oper.wp
  have hex : (execOp a.eval o).run P w = .ok .skip w' := by
    rcases ho with ho | ho <;> simp [execOp, ho, hs.opV hm, hs.opV hx, hs.opV hv, hrun]
  rw [hex]
  refine hK' _ _ ?_
  rw [hd]
  have hs' : ∀ b', b' < w.heap.size → b' ≠ b → w'.heap[b']? = w.heap[b']? := fun b' h1 hb' => r2.block b' h1 (by simpa using hb')
  have hmem := hs.mem.off hA.no hA.free hs' r2.size
  have hfr : Fr ω00 w00 ω w' := ⟨r2.os.trans (hB.fr.trans hs.fr).os, r2.tape.trans (hB.fr.trans hs.fr).tape, r2.output.trans (hB.fr.trans hs.fr).output, Nat.le_trans (hB.fr.trans hs.fr).size r2.size, fun b' hb' hn' => by
    have h1 := (hB.fr.trans hs.fr).block b' hb' hn'
    have hne : b' ≠ b := fun e => by have := hB.new; omega
    exact ⟨(hs' b' (Nat.lt_of_lt_of_le hb' (hB.fr.trans hs.fr).size) hne).trans h1.1, h1.2⟩⟩
  refine (h w' ω ⟨hfr, hB.new, hA.free, _, r1, Maps.IsMap.put hI _ _, fun z' hz' => ?_⟩).go _ _ ⟨η, ω, { dfr := hs.dfr, tsz := hs.tsz, slots := hs.slots, phs := hs.phs, mem := hmem, fr := Fr.refl _ _ }⟩
  by_cases e : z' = z
  · subst e
    rw [Maps.has_put_same hI (k := .int .i64 z') trivial, Maps.atKey_put_same hI (k := .int .i64 z') trivial]
    simp
  · have hne : Lit.int .i64 z' ≠ Lit.int .i64 z := fun h => by injection h with _ h; exact e h
    rw [Maps.has_put_other hne, Maps.atKey_put_other hne, if_neg e]
    exact hf z' hz'
/-- a key is asked for -/
theorem run_lookup {T k e b n : Nat} {m : Operand} {z : Int} {f : Int → Option Int} {w00 : World} {ω00 : Own?} {ph : List Value} (hg : o.guard = none) (ho : o.op = .lookup T m x true) (hd : o.dst = some t) (ht : Nat.blt t nt = true) (K : P.underlying k = some (.int .i64)) (he : P.underlying e = some (.int .i64)) (hT : P.underlying T = some (.map k e)) (hz0 : (P.info? e).bind (·.zero) = some (I6 0))
    (hB : MB P k e w00 ω00 b f n wB ωB) (hm : S.op m = some (vv (.map (some b)))) (hx : S.op x = some (vv (I6 z))) (hz : (Lit.int .i64 z).wf = true)
    (h : Run P wB ⟨ωB, ph⟩ nt ops Q (S.put t (.tup [.one (.val (I6 ((f z).getD 0))), .one (.val (.bool (f z).isSome))])) rest) : Run P wB ⟨ωB, ph⟩ nt ops Q S (o :: rest) := by
  refine ⟨fun a w ⟨η, ω, hs⟩ => wpList_plain hg fun K' hK' => ?_⟩
  have hA := hB.at_.fr hs.fr
  obtain ⟨D, hD, hI, hf⟩ := hA.map
  have hzero : (zeroValue e).run P w = .ok (I6 0) w := by
    obtain ⟨i, hi, hz⟩ := Option.bind_eq_some_iff.1 hz0
    simp [zeroValue, typeInfo, hi, hz]
  obtain ⟨v, ps, hrun, hv⟩ := hD.look_ok (Maps.int_keyed K) hT hzero (plainElem_int he (by decide)) (Maps.keyOf_int_mk K hz)
  obtain ⟨h1, h2⟩ := hf z hz
  rw [h2] at hv
  obtain ⟨c, rfl, hc, _⟩ := plainElem_int_inv he hv
  simp only [Prod.mk.injEq, DataW.lit.injEq, Lit.int.injEq, true_and] at hc
  rw [h1, ← hc.1] at hrun
  unfold Oper.wp
  have hex : (execOp a.eval o).run P w = .ok (.value (.tuple #[I6 ((f z).getD 0), .bool (f z).isSome])) w := by
    simp [execOp, ho, hs.opV hm, hs.opV hx, hrun]
  rw [hex]
  refine hK' _ _ (h.go _ _ ⟨η, ω, ?_⟩)
  rw [hd]
  refine hs.putV (by simpa using ht) ⟨_, rfl, rfl, fun j b hj => ?_⟩
  match j, hj with
  | 0, hj => simp at hj; subst hj; exact ⟨_, by simp, rfl⟩
  | 1, hj => simp at hj; subst hj; exact ⟨_, by simp, rfl⟩

/-- loops beside which the ground may turn -/
def LoopPostB {ι : Type} (ph : List Value) (nt : Nat) (I : ι → St) (p : ι → World → Own? → Prop) (μ : ι → Nat) (i : ι) (a : Act) (w : World) : Prop := ∃ j wB ωB, p j wB ωB ∧ μ j < μ i ∧ Sat wB ⟨ωB, ph⟩ nt (I j) a w
open Classical in
theorem goes_loopB {ι : Type} {ph : List Value} (I : ι → St) (p : ι → World → Own? → Prop) (μ : ι → Nat) (i0 : ι) {c : Code} (hp : p i0 wB ωB) (h0 : Wk S (I i0)) (hr : ∀ i wB ωB, p i wB ωB → Goes P wB ⟨ωB, ph⟩ nt (I i) c (Exit.then (LoopPostB ph nt I p μ i) Q)) : Goes P wB ⟨ωB, ph⟩ nt S (.loop c) Q := by
  refine ⟨fun a w hs => ?_⟩
  let R : Act → World → ι → Prop := fun a w i => ∃ wB ωB, p i wB ωB ∧ Sat wB ⟨ωB, ph⟩ nt (I i) a w
  have ex : ∀ a w, (∃ i, R a w i) → ∃ n i, R a w i ∧ μ i = n := fun a w ⟨i, hi⟩ => ⟨μ i, i, hi, rfl⟩
  refine wp_loop (fun a w => ∃ i, R a w i) (fun a w => if h : ∃ i, R a w i then Classical.choose (least (ex a w h)) else 0) ⟨i0, wB, ωB, hp, h0.go _ _ _ a w hs⟩ fun a w hI => ?_
  obtain ⟨⟨i, ⟨wB', ωB', hi1, hi2⟩, hm⟩, _⟩ := Classical.choose_spec (least (ex a w hI))
  refine Code.wp_mono (fun e a' w' hq => ?_) ((hr i wB' ωB' hi1).go a w hi2)
  cases e with
  | normal =>
    obtain ⟨j, wB2, ωB2, hpj, hj, hsj⟩ := hq
    have hR : R a' w' j := ⟨wB2, ωB2, hpj, hsj⟩
    refine ⟨⟨j, hR⟩, ?_⟩
    simp only [dif_pos hI, dif_pos (⟨j, hR⟩ : ∃ i, R a' w' i)]
    refine Nat.lt_of_le_of_lt ((Classical.choose_spec (least (ex a' w' ⟨j, hR⟩))).2 _ ⟨j, hR, rfl⟩) ?_
    rw [← hm]; exact hj
  | _ => exact hq
theorem fin_roundB {ι : Type} {ph : List Value} {I : ι → St} {p : ι → World → Own? → Prop} {μ : ι → Nat} {i : ι} (j : ι) (hp : p j wB ωB) (hm : μ j < μ i) (h : Wk S (I j)) : Fin wB ⟨ωB, ph⟩ nt S .normal (Exit.then (LoopPostB ph nt I p μ i) Q) :=
  ⟨fun a w hs => ⟨j, wB, ωB, hp, hm, h.go _ _ _ a w hs⟩⟩
/-- two ways meet, beside which the ground may have turned -/
theorem goes_joinB {ph : List Value} (S' : St) (p : World → Own? → Prop) {c : Operand} {x y : Code} {b : Bool} (hc : S.op c = some (vv (.bool b)))
    (ht : b = true → Goes P wB ⟨ωB, ph⟩ nt S x (fun e a w => e = .normal ∧ ∃ wB ωB, p wB ωB ∧ Sat wB ⟨ωB, ph⟩ nt S' a w)) (hf : b = false → Goes P wB ⟨ωB, ph⟩ nt S y (fun e a w => e = .normal ∧ ∃ wB ωB, p wB ωB ∧ Sat wB ⟨ωB, ph⟩ nt S' a w))
    (k : ∀ wB ωB, p wB ωB → Fin wB ⟨ωB, ph⟩ nt S' .normal Q) : Goes P wB ⟨ωB, ph⟩ nt S (.cond c x y) Q :=
  goes_cond hc (fun h => ⟨fun a w hs => Code.wp_mono (fun e a w he => by obtain ⟨rfl, wB', ωB', h1, h2⟩ := he; exact (k wB' ωB' h1).go a w h2) ((ht h).go a w hs)⟩)
    (fun h => ⟨fun a w hs => Code.wp_mono (fun e a w he => by obtain ⟨rfl, wB', ωB', h1, h2⟩ := he; exact (k wB' ωB' h1).go a w h2) ((hf h).go a w hs)⟩)
theorem fin_joinB {ph : List Value} {S' : St} {p : World → Own? → Prop} (hp : p wB ωB) (h : Wk S1 S') : Fin wB ⟨ωB, ph⟩ nt S1 .normal (fun e a w => e = .normal ∧ ∃ wB ωB, p wB ωB ∧ Sat wB ⟨ωB, ph⟩ nt S' a w) := ⟨fun a w hs => ⟨rfl, wB, ωB, hp, h.go _ _ _ a w hs⟩⟩
end
end Go.Proofs.Ytpognnifgcacnaa

/- The program's coset enumeration: enumerated. guards: -/
namespace Go.Proofs.Ytpognnifgcacnaa
open Go.RowKit

abbrev cE (m n : Nat) (b : Bool) : Ch := ⟨true, 179, 3, .flat [.sl 25 0 m, .sl 26 0 n, .val (.bool b)]⟩
abbrev pE (ng R : Nat) : Ch := ⟨true, 72, 2, .flat [.val (I6 ng), .sl 1003 0 R]⟩

theorem wf_small {z : Int} (h0 : 0 ≤ z) (h : z ≤ 1000000000) : (Lit.int .i64 z).wf = true := by
  simp [Lit.wf, IntKind.min, IntKind.max, IntKind.signed, IntKind.bits]; omega

set_option maxRecDepth 100000 in
set_option maxHeartbeats 4000000 in
theorem enumerated_fc (ng : Nat) (rels words : List (List Int)) (R m : Nat) (hR : rels.length = R) (hm : words.length = m) (hr : ∀ w ∈ rels, Letters ng w) (hw : ∀ w ∈ words, Letters ng w) (hng0 : 0 < ng) (hng : ng ≤ 1000) (hrl : ∀ w ∈ rels, w.length ≤ 1000000000) (hwl : ∀ w ∈ words, w.length ≤ 1000000000) (hR2 : R ≤ 1000000000) (hm2 : m ≤ 1000000000) (X : CSt) (hX : runI ng rels words = X) :
    FC Try.prog 138 [(1002, rowsRo words), (1003, rowsRo rels)] [.s (.agg [.val (I6 ng), .sl 1003 0 R]), o1 (.sl 1002 0 m)] (if X.2.2 = true then [] else [(131, imOw (tableC ng X.1 X.2.1))])
      (if X.2.2 = true then .tup [.one (.val (.slice none 0 0)), .one (.val (.bool false))] else .tup [.one (.sl 131 0 ng), .one (.val (.bool true))]) [] := by
  have hRp : FC Try.prog 180 [(21, ⟨false, 2, 1, .vals (ivals [-1])⟩)] [o1 (.sl 21 0 1), vv (I6 ng)] [(24, ⟨true, 2, 1, .vals (ivals (List.replicate ng (-1)))⟩)] (o1 (.sl 24 0 ng)) [] := repeat1_fc 21 24 ng (-1) (by omega) hng0
  have hrep : (ivals (List.replicate ng (-1))).length = ng := by rw [ivals_len]; simp
  refine fc_enter (nt := 179) Try.func138 rfl rfl (by simp) fun w0 ω0 => ?_
  (refine goes_seq ?_; refine goes_region ?_; apply run_step rfl; (exact stp_box rfl rfl rfl rfl); apply run_step rfl; (exact stp_assign rfl rfl); apply run_step rfl; (exact stp_assign rfl rfl); refine run_nil ?_; refine fin_seq ?_; refine goes_seq ?_; refine goes_region ?_; apply run_step rfl; (exact stp_lit1I (E := 2) rfl (by as_aux_lemma => kernel_rfl) rfl); apply run_step rfl; (exact stp_fieldAddr (d := 0) rfl rfl rfl (by as_aux_lemma => kernel_rfl)); apply run_step rfl; (exact stp_loadF rfl (by as_aux_lemma => kernel_rfl) rfl rfl rfl rfl); apply run_step rfl; (first | (apply call_gate 180; exact stp_callN hRp (by as_aux_lemma => kernel_rfl) rfl rfl ⟨rfl, rfl, trivial⟩ ⟨⟨_, rfl, .inr rfl⟩, trivial⟩ rfl rfl rfl) | exact stp_lit1R (t := 25) (E := 49) (F := 2) rfl (by as_aux_lemma => kernel_rfl) rfl rfl hrep rfl | exact stp_buildSl (T := 179) (vs := [.bool false]) rfl rfl rfl rfl rfl (by as_aux_lemma => (intros; kernel_rfl))); apply run_step rfl; (first | (apply call_gate 180; exact stp_callN hRp (by as_aux_lemma => kernel_rfl) rfl rfl ⟨rfl, rfl, trivial⟩ ⟨⟨_, rfl, .inr rfl⟩, trivial⟩ rfl rfl rfl) | exact stp_lit1R (t := 25) (E := 49) (F := 2) rfl (by as_aux_lemma => kernel_rfl) rfl rfl hrep rfl | exact stp_buildSl (T := 179) (vs := [.bool false]) rfl rfl rfl rfl rfl (by as_aux_lemma => (intros; kernel_rfl))); apply run_step rfl; (exact stp_lit1I (E := 2) rfl (by as_aux_lemma => kernel_rfl) rfl); apply run_step rfl; (first | (apply call_gate 180; exact stp_callN hRp (by as_aux_lemma => kernel_rfl) rfl rfl ⟨rfl, rfl, trivial⟩ ⟨⟨_, rfl, .inr rfl⟩, trivial⟩ rfl rfl rfl) | exact stp_lit1R (t := 25) (E := 49) (F := 2) rfl (by as_aux_lemma => kernel_rfl) rfl rfl hrep rfl | exact stp_buildSl (T := 179) (vs := [.bool false]) rfl rfl rfl rfl rfl (by as_aux_lemma => (intros; kernel_rfl))); apply run_step rfl; (exact stp_box rfl rfl rfl rfl); apply run_step rfl; (exact stp_assign rfl rfl); refine run_nil ?_; refine fin_seq ?_; refine goes_seq ?_; refine goes_seq ?_; refine goes_region ?_; apply run_step rfl; (exact stp_move rfl rfl); apply run_step rfl; (exact stp_len rfl rfl rfl (by as_aux_lemma => kernel_rfl)); apply run_step rfl; (exact stp_move rfl rfl); refine run_nil ?_; refine fin_seq ?_; refine goes_block ?_)
  refine goes_loop (fun j : Nat × CSt => St.of [(2, o1 (.ptr 2 0)), (6, o1 (.ptr 28 0)), (29, o1 (.sl 1002 0 m)), (30, vv (I6 m)), (31, vv (I6 j.1))] [(28, cE j.2.2.1.length j.2.2.1.length j.2.2.2), (25, imOw j.2.1), (26, leOw j.2.2.1), (1002, rowsRo words), (1003, rowsRo rels), (2, pE ng R)])
    (fun j => j.1 ≤ m ∧ (words.take j.1).foldl (closeW ng) (startC ng) = j.2 ∧ IOK ng 1 j.2) (fun j => m - j.1) (0, startC ng) ⟨Nat.zero_le _, rfl, startC_iok ng⟩ (Wk.of ⟨rfl, rfl, rfl, rfl, rfl, trivial⟩ ⟨rfl, rfl, rfl, rfl, rfl, rfl, trivial⟩ trivial) ?_
  rintro ⟨j, M, N, b⟩ ⟨hj, hfo, hok⟩
  dsimp only at hj hfo ⊢
  (refine goes_seq ?_; refine goes_region ?_; apply run_step rfl; (exact stp_bin rfl rfl rfl rfl); refine run_nil ?_; refine fin_seq ?_; refine goes_seq ?_)
  refine goes_if rfl (fun hlt => ?_) (fun hlt => ?_)
  · have hjw : j < words.length := by omega
    obtain ⟨W, hW⟩ : ∃ W, lget words j = W := ⟨_, rfl⟩
    have hWm : W ∈ words := by rw [← hW]; exact lget_mem hjw
    obtain ⟨C, hC⟩ : ∃ C, closeI ng M N b 0 (W.map Int.toNat) = C := ⟨_, rfl⟩
    have hN0 : 0 < N.length := hok.ok.lo
    have hcl : FC Try.prog 193 [(28, cE N.length N.length b), (25, imOw M), (26, leOw N), (1002, rowsRo words)] [o1 (.ptr 28 0), o1 (.esl 1002 j 0 W.length), vv (I6 (0 : Nat))] [(28, cE C.2.1.length C.2.1.length C.2.2), (25, imOw C.1), (26, leOw C.2.1)] (.tup []) [(0, o1 (.ptr 28 0))] :=
      (iCloseAt_fc ng N.length M N b 0 words j W.length W rfl hok.ok.wf hok.full hN0 hok.ok.hi hng hjw hW rfl (hwl W hWm) (hw W hWm) C hC).nm [(1010, 28), (1000, 25), (1001, 26), (1002, 1002)] (by kernel_rfl)
    have hfo' : (words.take (j + 1)).foldl (closeW ng) (startC ng) = C := by
      rw [take_lget hjw, List.foldl_append, hfo, hW]; exact hC
    have hok' : IOK ng 1 C := by rw [← hC]; exact closeW_ok (w := W) hok (by omega) (hw W hWm)
    have hrow : (irows words)[j]? = some (ivals W) := by rw [← hW]; exact irows_get hjw
    (refine goes_skip ?_; refine fin_seq ?_; refine goes_seq ?_; refine goes_block ?_; refine goes_seq ?_; refine goes_region ?_; apply run_step rfl; (exact stp_ix rfl rfl rfl rfl rfl (by as_aux_lemma => kernel_rfl) (by first | rfl | exact (Int.toNat_of_nonneg (by omega)).symm) (by first | assumption | omega | (simp; omega)) (by first | exact Nat.le_refl _ | exact Nat.le_of_eq (ivals_len _).symm | exact Nat.le_of_eq (irows_len _).symm | (refine Nat.le_trans ?_ (Nat.le_of_eq (ivals_len _).symm); (first | omega | (simp; done) | (simp; omega))) | (refine Nat.le_trans ?_ (Nat.le_of_eq (irows_len _).symm); (first | omega | (simp; done) | (simp; omega))))); apply run_step rfl; (exact stp_loadR rfl (by as_aux_lemma => kernel_rfl) rfl rfl rfl (by first | assumption | exact ivals_get (by assumption) | exact irows_get (by assumption) | exact ivals_get (by omega) | exact irows_get (by omega) | rfl) (by first | exact ivals_len _ | assumption | rfl)); apply run_step rfl; (exact stp_assign rfl rfl); refine run_nil ?_; refine fin_seq ?_; refine goes_region ?_; apply run_step rfl; (exact stp_move rfl rfl); apply run_step rfl; (exact stp_move rfl rfl); apply run_step rfl; (apply call_gate 193; exact stp_call [(0, 28)] hcl (by as_aux_lemma => kernel_rfl) rfl rfl ⟨rfl, rfl, rfl, trivial⟩ ⟨⟨_, rfl, .inl rfl⟩, ⟨_, rfl, .inl rfl⟩, ⟨_, rfl, .inl rfl⟩, ⟨_, rfl, .inl rfl⟩, trivial⟩ ⟨rfl, rfl, rfl, trivial⟩ rfl rfl); refine run_nil ?_; refine fin_block ?_; refine fin_seq ?_; refine goes_region ?_; apply run_step rfl; (exact stp_add rfl rfl rfl (by first | exact IntWalk.i64_in _ (by omega) | rfl)); apply run_step rfl; (exact stp_move rfl rfl); refine run_nil ?_)
    exact fin_round (j + 1, C) ⟨by show j + 1 ≤ m; omega, hfo', hok'⟩ (by show m - (j + 1) < m - j; omega) (Wk.of ⟨rfl, rfl, rfl, rfl, rfl, trivial⟩ ⟨rfl, rfl, rfl, rfl, rfl, rfl, trivial⟩ trivial)
  · obtain rfl : j = m := by omega
    have hX0 : outer ng rels 2001 0 (M, N, b) = X := by rw [← hfo, ← hm, List.take_length]; exact hX
    clear hfo hlt hj
    (refine goes_exit ?_; refine fin_exit_then ?_; refine fin_exit_then ?_; refine fin_exit_eq ?_; refine fin_seq ?_; refine goes_seq ?_; refine goes_seq ?_; refine goes_region ?_; apply run_step rfl; (exact stp_assign rfl rfl); refine run_nil ?_; refine fin_seq ?_; refine goes_block ?_)
    refine goes_loop (fun c : Nat × CSt => St.of [(2, o1 (.ptr 2 0)), (6, o1 (.ptr 28 0)), (9, vv (I6 c.1))] [(28, cE c.2.2.1.length c.2.2.1.length c.2.2.2), (25, imOw c.2.1), (26, leOw c.2.2.1), (1002, rowsRo words), (1003, rowsRo rels), (2, pE ng R)])
      (fun c => outer ng rels (2001 - c.1) c.1 c.2 = X ∧ c.1 ≤ c.2.2.1.length ∧ IOK ng 1 c.2) (fun c => 2001 - c.1) (0, (M, N, b)) ⟨hX0, Nat.zero_le _, hok⟩ (Wk.of ⟨rfl, rfl, rfl, trivial⟩ ⟨rfl, rfl, rfl, rfl, rfl, rfl, trivial⟩ trivial) ?_
    clear hX0 hok
    clear M N b
    rintro ⟨c, M, N, b⟩ ⟨hout, hcl, hok⟩
    dsimp only at hout hcl ⊢
    have hNl : N.length ≤ 2000 := hok.ok.hi
    have hMN : M.length = N.length := hok.ok.wf.len
    have hS := sizeR_fc 25 N.length
    repeat refine goes_seq ?_
    refine goes_cut (St.of [(2, o1 (.ptr 2 0)), (6, o1 (.ptr 28 0)), (9, vv (I6 c)), (52, vv (.bool (decide ((c : Int) < N.length) && !b)))] [(28, cE N.length N.length b), (25, imOw M), (26, leOw N), (1002, rowsRo words), (1003, rowsRo rels), (2, pE ng R)]) ?_ ?_
    · (refine goes_region ?_; apply run_step rfl; (exact stp_move rfl rfl); apply run_step rfl; (exact stp_move rfl rfl); apply run_step rfl; (exact stp_nilCheck rfl rfl rfl); apply run_step rfl; (exact stp_fieldAddr (d := 0) rfl rfl rfl (by as_aux_lemma => kernel_rfl)); apply run_step rfl; (exact stp_loadF rfl (by as_aux_lemma => kernel_rfl) rfl rfl rfl rfl); apply run_step rfl; (apply call_gate 145; exact stp_callR hS (by as_aux_lemma => kernel_rfl) rfl rfl ⟨rfl, trivial⟩ trivial rfl rfl); apply run_step rfl; (exact stp_bin rfl rfl rfl rfl); apply run_step rfl; (exact stp_move rfl rfl))
      refine run_bool 46 rfl (fun h => ?_) (fun h => ?_)
      · (apply run_gYes rfl rfl rfl; (exact stp_move rfl rfl); apply run_gYes rfl rfl rfl; (exact stp_nilCheck rfl rfl rfl); apply run_gYes rfl rfl rfl; (exact stp_fieldAddr (d := 2) rfl rfl rfl (by as_aux_lemma => kernel_rfl)); apply run_gYes rfl rfl rfl; (exact stp_loadF rfl (by as_aux_lemma => kernel_rfl) rfl rfl rfl rfl); apply run_gYes rfl rfl rfl; (exact stp_not rfl rfl); apply run_step rfl; (exact stp_pickT rfl rfl rfl); refine run_nil ?_)
        exact fin_join (Wk.of ⟨rfl, rfl, rfl, by rw [h]; rfl, trivial⟩ ⟨rfl, rfl, rfl, rfl, rfl, rfl, trivial⟩ trivial)
      · (apply run_gNo rfl rfl rfl rfl rfl; apply run_gNo rfl rfl rfl rfl rfl; apply run_gNo rfl rfl rfl rfl rfl; apply run_gNo rfl rfl rfl rfl rfl; apply run_gNo rfl rfl rfl rfl rfl; apply run_step rfl; (exact stp_pickF rfl rfl rfl); refine run_nil ?_)
        exact fin_join (Wk.of ⟨rfl, rfl, rfl, by rw [h]; rfl, trivial⟩ ⟨rfl, rfl, rfl, rfl, rfl, rfl, trivial⟩ trivial)
    (refine fin_seq ?_)
    refine goes_cond rfl (fun hc => ?_) (fun hc => ?_)
    · obtain ⟨hlt, rfl⟩ : c < N.length ∧ b = false := by
        simp at hc; exact ⟨by omega, hc.2⟩
      obtain ⟨s0, hs0⟩ : ∃ s0 : CSt, s0 = (M, N, false) := ⟨_, rfl⟩
      have hok0 : IOK ng N.length s0 := by subst hs0; exact ⟨⟨hok.ok.wf, Nat.le_refl _, hok.ok.hi⟩, fun e => by cases e⟩
      have houts : outer ng rels (2000 - c) (c + 1) (coset1 ng rels c s0) = X := by
        rw [← hout, show 2001 - c = (2000 - c) + 1 by omega, outer, if_pos ⟨hlt, rfl⟩, hs0]
      (refine goes_skip ?_; refine fin_seq ?_; refine goes_seq ?_; refine goes_block ?_; refine goes_seq ?_; refine goes_seq ?_; refine goes_region ?_; apply run_step rfl; (exact stp_fieldAddr (d := 1) rfl rfl rfl (by as_aux_lemma => kernel_rfl)); apply run_step rfl; (exact stp_loadF rfl (by as_aux_lemma => kernel_rfl) rfl rfl rfl rfl); apply run_step rfl; (exact stp_len rfl rfl rfl (by as_aux_lemma => kernel_rfl)); apply run_step rfl; (exact stp_move rfl rfl); refine run_nil ?_; refine fin_seq ?_; refine goes_block ?_)
      refine goes_loop (fun j : Nat × CSt => St.of [(2, o1 (.ptr 2 0)), (6, o1 (.ptr 28 0)), (9, vv (I6 c)), (56, o1 (.sl 1003 0 R)), (57, vv (I6 R)), (58, vv (I6 j.1))] [(28, cE j.2.2.1.length j.2.2.1.length j.2.2.2), (25, imOw j.2.1), (26, leOw j.2.2.1), (1002, rowsRo words), (1003, rowsRo rels), (2, pE ng R)])
        (fun j => j.1 ≤ R ∧ (rels.take j.1).foldl (close1 ng c) s0 = j.2 ∧ IOK ng N.length j.2) (fun j => R - j.1) (0, s0) ⟨Nat.zero_le _, rfl, hok0⟩ (Wk.of (by rw [hs0]; exact ⟨rfl, rfl, rfl, rfl, rfl, rfl, trivial⟩) (by rw [hs0]; exact ⟨rfl, rfl, rfl, rfl, rfl, rfl, trivial⟩) trivial) ?_
      generalize hn0 : N.length = n0 at *
      have hn02 : n0 ≤ 2000 := hNl
      clear hout hok hc hs0 hS hMN
      clear hn0
      rintro ⟨j, M, N, b⟩ ⟨hj, hfo, hok⟩
      dsimp only at hj hfo ⊢
      have hNl : N.length ≤ 2000 := hok.ok.hi
      have hNn : n0 ≤ N.length := hok.ok.lo
      have hcN : c < N.length := by omega
      (refine goes_seq ?_; refine goes_region ?_; apply run_step rfl; (exact stp_bin rfl rfl rfl rfl); refine run_nil ?_; refine fin_seq ?_; refine goes_seq ?_)
      refine goes_if rfl (fun hjr => ?_) (fun hjr => ?_)
      · have hjw : j < rels.length := by omega
        obtain ⟨W, hW⟩ : ∃ W, lget rels j = W := ⟨_, rfl⟩
        have hWm : W ∈ rels := by rw [← hW]; exact lget_mem hjw
        have hrow : (irows rels)[j]? = some (ivals W) := by rw [← hW]; exact irows_get hjw
        have hfo' : (rels.take (j + 1)).foldl (close1 ng c) s0 = close1 ng c (M, N, b) W := by rw [take_lget hjw, List.foldl_append, hfo, hW]; rfl
        have hok' := close1_iok hok hlt (hr W hWm)
        (refine goes_skip ?_; refine fin_seq ?_; refine goes_seq ?_; refine goes_block ?_; refine goes_seq ?_; refine goes_region ?_; apply run_step rfl; (exact stp_ix rfl rfl rfl rfl rfl (by as_aux_lemma => kernel_rfl) (by first | rfl | exact (Int.toNat_of_nonneg (by omega)).symm) (by first | assumption | omega | (simp; omega)) (by first | exact Nat.le_refl _ | exact Nat.le_of_eq (ivals_len _).symm | exact Nat.le_of_eq (irows_len _).symm | (refine Nat.le_trans ?_ (Nat.le_of_eq (ivals_len _).symm); (first | omega | (simp; done) | (simp; omega))) | (refine Nat.le_trans ?_ (Nat.le_of_eq (irows_len _).symm); (first | omega | (simp; done) | (simp; omega))))); apply run_step rfl; (exact stp_loadR rfl (by as_aux_lemma => kernel_rfl) rfl rfl rfl (by first | assumption | exact ivals_get (by assumption) | exact irows_get (by assumption) | exact ivals_get (by omega) | exact irows_get (by omega) | rfl) (by first | exact ivals_len _ | assumption | rfl)); apply run_step rfl; (exact stp_assign rfl rfl); refine run_nil ?_; refine fin_seq ?_; refine goes_seq ?_; refine goes_region ?_; apply run_step rfl; (exact stp_move rfl rfl); apply run_step rfl; (exact stp_nilCheck rfl rfl rfl); apply run_step rfl; (exact stp_fieldAddr (d := 1) rfl rfl rfl (by as_aux_lemma => kernel_rfl)); apply run_step rfl; (exact stp_loadF rfl (by as_aux_lemma => kernel_rfl) rfl rfl rfl rfl); apply run_step rfl; (exact stp_move rfl rfl); apply run_step rfl; (exact stp_ix rfl rfl rfl rfl rfl (by as_aux_lemma => kernel_rfl) (by first | rfl | exact (Int.toNat_of_nonneg (by omega)).symm) (by first | assumption | omega | (simp; omega)) (by first | exact Nat.le_refl _ | exact Nat.le_of_eq (ivals_len _).symm | exact Nat.le_of_eq (irows_len _).symm | (refine Nat.le_trans ?_ (Nat.le_of_eq (ivals_len _).symm); (first | omega | (simp; done) | (simp; omega))) | (refine Nat.le_trans ?_ (Nat.le_of_eq (irows_len _).symm); (first | omega | (simp; done) | (simp; omega))))); apply run_step rfl; (exact stp_loadV rfl (by as_aux_lemma => kernel_rfl) rfl rfl rfl (by first | assumption | exact ivals_get (by assumption) | exact irows_get (by assumption) | exact ivals_get (by omega) | exact irows_get (by omega) | rfl)); apply run_step rfl; (exact stp_move rfl rfl); apply run_step rfl; (exact stp_bin rfl rfl rfl rfl); apply run_step rfl; (exact stp_move rfl rfl))
        refine run_bool 71 rfl (fun h => ?_) (fun h => ?_)
        · have hlv : iget N c = (c : Int) := by simpa using h
          (apply run_gYes rfl rfl rfl; (exact stp_move rfl rfl); apply run_gYes rfl rfl rfl; (exact stp_nilCheck rfl rfl rfl); apply run_gYes rfl rfl rfl; (exact stp_fieldAddr (d := 2) rfl rfl rfl (by as_aux_lemma => kernel_rfl)); apply run_gYes rfl rfl rfl; (exact stp_loadF rfl (by as_aux_lemma => kernel_rfl) rfl rfl rfl rfl); apply run_gYes rfl rfl rfl; (exact stp_not rfl rfl); apply run_step rfl; (exact stp_pickT rfl rfl rfl); refine run_nil ?_; refine fin_seq ?_)
          refine goes_cond rfl (fun hb => ?_) (fun hb => ?_)
          · obtain rfl : b = false := by simpa using hb
            obtain ⟨C, hC⟩ : ∃ C, closeI ng M N false c (W.map Int.toNat) = C := ⟨_, rfl⟩
            have hliv : liveC (M, N, false) c = true := by show (decide (iget N c = (c : Int)) && !false) = true; simp [hlv]
            have hst : close1 ng c (M, N, false) W = C := by unfold close1; rw [if_pos hliv]; rw [← hC]; unfold closeI; rw [if_neg (by simp)]
            rw [hst] at hfo' hok'
            have hcl : FC Try.prog 193 [(28, cE N.length N.length false), (25, imOw M), (26, leOw N), (1003, rowsRo rels)] [o1 (.ptr 28 0), o1 (.esl 1003 j 0 W.length), vv (I6 c)] [(28, cE C.2.1.length C.2.1.length C.2.2), (25, imOw C.1), (26, leOw C.2.1)] (.tup []) [(0, o1 (.ptr 28 0))] :=
              (iCloseAt_fc ng N.length M N false c rels j W.length W rfl hok.ok.wf (fun e => by cases e) hcN hok.ok.hi hng hjw hW rfl (hrl W hWm) (hr W hWm) C hC).nm [(1010, 28), (1000, 25), (1001, 26), (1002, 1003)] (by kernel_rfl)
            (refine goes_region ?_; apply run_step rfl; (exact stp_move rfl rfl); apply run_step rfl; (exact stp_move rfl rfl); apply run_step rfl; (exact stp_move rfl rfl); apply run_step rfl; (apply call_gate 193; exact stp_call [(0, 28)] hcl (by as_aux_lemma => kernel_rfl) rfl rfl ⟨rfl, rfl, rfl, trivial⟩ ⟨⟨_, rfl, .inl rfl⟩, ⟨_, rfl, .inl rfl⟩, ⟨_, rfl, .inl rfl⟩, ⟨_, rfl, .inl rfl⟩, trivial⟩ ⟨rfl, rfl, rfl, trivial⟩ rfl rfl); refine run_nil ?_; refine fin_block ?_; refine fin_seq ?_; refine goes_region ?_; apply run_step rfl; (exact stp_add rfl rfl rfl (by first | exact IntWalk.i64_in _ (by omega) | rfl)); apply run_step rfl; (exact stp_move rfl rfl); refine run_nil ?_)
            exact fin_round (j + 1, C) ⟨by show j + 1 ≤ R; omega, hfo', hok'⟩ (by show R - (j + 1) < R - j; omega) (Wk.of ⟨rfl, rfl, rfl, rfl, rfl, rfl, trivial⟩ ⟨rfl, rfl, rfl, rfl, rfl, rfl, trivial⟩ trivial)
          · obtain rfl : b = true := by simpa using hb
            have hst : close1 ng c (M, N, true) W = (M, N, true) := close1_dead (by unfold liveC; simp) W
            rw [hst] at hfo' hok'
            (refine goes_skip ?_; refine fin_block ?_; refine fin_seq ?_; refine goes_region ?_; apply run_step rfl; (exact stp_add rfl rfl rfl (by first | exact IntWalk.i64_in _ (by omega) | rfl)); apply run_step rfl; (exact stp_move rfl rfl); refine run_nil ?_)
            exact fin_round (j + 1, (M, N, true)) ⟨by show j + 1 ≤ R; omega, hfo', hok'⟩ (by show R - (j + 1) < R - j; omega) (Wk.of ⟨rfl, rfl, rfl, rfl, rfl, rfl, trivial⟩ ⟨rfl, rfl, rfl, rfl, rfl, rfl, trivial⟩ trivial)
        · have hlv : ¬ iget N c = (c : Int) := by simpa using h
          have hst : close1 ng c (M, N, b) W = (M, N, b) := close1_dead (by unfold liveC; simp [hlv]) W
          rw [hst] at hfo' hok'
          (apply run_gNo rfl rfl rfl rfl rfl; apply run_gNo rfl rfl rfl rfl rfl; apply run_gNo rfl rfl rfl rfl rfl; apply run_gNo rfl rfl rfl rfl rfl; apply run_gNo rfl rfl rfl rfl rfl; apply run_step rfl; (exact stp_pickF rfl rfl rfl); refine run_nil ?_; refine fin_seq ?_)
          refine goes_cond rfl (fun e => by cases e) (fun _ => ?_)
          (refine goes_skip ?_; refine fin_block ?_; refine fin_seq ?_; refine goes_region ?_; apply run_step rfl; (exact stp_add rfl rfl rfl (by first | exact IntWalk.i64_in _ (by omega) | rfl)); apply run_step rfl; (exact stp_move rfl rfl); refine run_nil ?_)
          exact fin_round (j + 1, (M, N, b)) ⟨by show j + 1 ≤ R; omega, hfo', hok'⟩ (by show R - (j + 1) < R - j; omega) (Wk.of ⟨rfl, rfl, rfl, rfl, rfl, rfl, trivial⟩ ⟨rfl, rfl, rfl, rfl, rfl, rfl, trivial⟩ trivial)
      · obtain rfl : j = R := by omega
        have hfull : rels.foldl (close1 ng c) s0 = (M, N, b) := by rw [← hfo, ← hR, List.take_length]
        obtain ⟨s1, hs1⟩ : ∃ s1 : CSt, s1 = (M, N, b) := ⟨_, rfl⟩
        have hok1 : IOK ng n0 s1 := by rw [hs1]; exact hok
        have hcos : (List.range ng).foldl (next1 ng c) s1 = coset1 ng rels c s0 := by unfold coset1; rw [hfull, hs1]
        (refine goes_exit ?_; refine fin_exit_then ?_; refine fin_exit_then ?_; refine fin_exit_eq ?_; refine fin_seq ?_; refine goes_seq ?_; refine goes_region ?_; apply run_step rfl; (exact stp_fieldAddr (d := 0) rfl rfl rfl (by as_aux_lemma => kernel_rfl)); apply run_step rfl; (exact stp_loadF rfl (by as_aux_lemma => kernel_rfl) rfl rfl rfl rfl); apply run_step rfl; (exact stp_move rfl rfl); refine run_nil ?_; refine fin_seq ?_; refine goes_block ?_)
        refine goes_loop (fun g : Nat × CSt => St.of [(2, o1 (.ptr 2 0)), (6, o1 (.ptr 28 0)), (9, vv (I6 c)), (84, vv (I6 ng)), (85, vv (I6 g.1))] [(28, cE g.2.2.1.length g.2.2.1.length g.2.2.2), (25, imOw g.2.1), (26, leOw g.2.2.1), (1002, rowsRo words), (1003, rowsRo rels), (2, pE ng j)])
          (fun g => g.1 ≤ ng ∧ (List.range g.1).foldl (next1 ng c) s1 = g.2 ∧ IOK ng n0 g.2) (fun g => ng - g.1) (0, s1) ⟨Nat.zero_le _, rfl, hok1⟩ (Wk.of (by rw [hs1]; exact ⟨rfl, rfl, rfl, rfl, rfl, trivial⟩) (by rw [hs1]; exact ⟨rfl, rfl, rfl, rfl, rfl, rfl, trivial⟩) trivial) ?_
        clear hok hs1 hfull hfo hcN hNl hNn
        rintro ⟨g, M, N, b⟩ ⟨hg, hfo, hok⟩
        dsimp only at hg hfo ⊢
        have hNl : N.length ≤ 2000 := hok.ok.hi
        have hNn : n0 ≤ N.length := hok.ok.lo
        have hcN : c < N.length := by omega
        have hMN : M.length = N.length := hok.ok.wf.len
        have hrc : (lget M c).length = ng := (show WF ng M N from hok.ok.wf).row c (by omega)
        (refine goes_seq ?_; refine goes_region ?_; apply run_step rfl; (exact stp_bin rfl rfl rfl rfl); refine run_nil ?_; refine fin_seq ?_; refine goes_seq ?_)
        refine goes_if rfl (fun hgl => ?_) (fun hgl => ?_)
        · have hgn : g < ng := by omega
          have hfo' : (List.range (g + 1)).foldl (next1 ng c) s1 = next1 ng c (M, N, b) g := by rw [List.range_succ, List.foldl_append, hfo]; rfl
          have hok' := next1_iok (g := g) hok hlt hgn
          (refine goes_skip ?_; refine fin_seq ?_; refine goes_seq ?_; refine goes_block ?_; refine goes_seq ?_; refine goes_region ?_; apply run_step rfl; (exact stp_move rfl rfl); apply run_step rfl; (exact stp_assign rfl rfl); refine run_nil ?_; refine fin_seq ?_; refine goes_seq ?_; refine goes_region ?_; apply run_step rfl; (exact stp_move rfl rfl); apply run_step rfl; (exact stp_nilCheck rfl rfl rfl); apply run_step rfl; (exact stp_fieldAddr (d := 1) rfl rfl rfl (by as_aux_lemma => kernel_rfl)); apply run_step rfl; (exact stp_loadF rfl (by as_aux_lemma => kernel_rfl) rfl rfl rfl rfl); apply run_step rfl; (exact stp_move rfl rfl); apply run_step rfl; (exact stp_ix rfl rfl rfl rfl rfl (by as_aux_lemma => kernel_rfl) (by first | rfl | exact (Int.toNat_of_nonneg (by omega)).symm) (by first | assumption | omega | (simp; omega)) (by first | exact Nat.le_refl _ | exact Nat.le_of_eq (ivals_len _).symm | exact Nat.le_of_eq (irows_len _).symm | (refine Nat.le_trans ?_ (Nat.le_of_eq (ivals_len _).symm); (first | omega | (simp; done) | (simp; omega))) | (refine Nat.le_trans ?_ (Nat.le_of_eq (irows_len _).symm); (first | omega | (simp; done) | (simp; omega))))); apply run_step rfl; (exact stp_loadV rfl (by as_aux_lemma => kernel_rfl) rfl rfl rfl (by first | assumption | exact ivals_get (by assumption) | exact irows_get (by assumption) | exact ivals_get (by omega) | exact irows_get (by omega) | rfl)); apply run_step rfl; (exact stp_move rfl rfl); apply run_step rfl; (exact stp_bin rfl rfl rfl rfl); apply run_step rfl; (exact stp_move rfl rfl))
          refine run_bool 97 rfl (fun h => ?_) (fun h => ?_)
          · have hlv : iget N c = (c : Int) := by simpa using h
            (apply run_gYes rfl rfl rfl; (exact stp_move rfl rfl); apply run_gYes rfl rfl rfl; (exact stp_nilCheck rfl rfl rfl); apply run_gYes rfl rfl rfl; (exact stp_fieldAddr (d := 2) rfl rfl rfl (by as_aux_lemma => kernel_rfl)); apply run_gYes rfl rfl rfl; (exact stp_loadF rfl (by as_aux_lemma => kernel_rfl) rfl rfl rfl rfl); apply run_gYes rfl rfl rfl; (exact stp_not rfl rfl); apply run_step rfl; (exact stp_pickT rfl rfl rfl); apply run_step rfl; (exact stp_move rfl rfl))
            refine run_bool 104 rfl (fun hb => ?_) (fun hb => ?_)
            · obtain rfl : b = false := by simpa using hb
              have hliv : liveC (M, N, false) c = true := by show (decide (iget N c = (c : Int)) && !false) = true; simp [hlv]
              have hst : next1 ng c (M, N, false) g = ((nextC ng M N c g).1, (nextC ng M N c g).2.1, (nextC ng M N c g).2.2.1) := by unfold next1; rw [if_pos hliv]
              rw [hst] at hfo' hok'
              (apply run_gYes rfl rfl rfl; (exact stp_move rfl rfl); apply run_gYes rfl rfl rfl; (exact stp_nilCheck rfl rfl rfl); apply run_gYes rfl rfl rfl; (exact stp_fieldAddr (d := 0) rfl rfl rfl (by as_aux_lemma => kernel_rfl)); apply run_gYes rfl rfl rfl; (exact stp_loadF rfl (by as_aux_lemma => kernel_rfl) rfl rfl rfl rfl); apply run_gYes rfl rfl rfl; (exact stp_move rfl rfl); apply run_gYes rfl rfl rfl; (exact stp_ix rfl rfl rfl rfl rfl (by as_aux_lemma => kernel_rfl) (by first | rfl | exact (Int.toNat_of_nonneg (by omega)).symm) (by first | assumption | omega | (simp; omega)) (by first | exact Nat.le_refl _ | exact Nat.le_of_eq (ivals_len _).symm | exact Nat.le_of_eq (irows_len _).symm | (refine Nat.le_trans ?_ (Nat.le_of_eq (ivals_len _).symm); (first | omega | (simp; done) | (simp; omega))) | (refine Nat.le_trans ?_ (Nat.le_of_eq (irows_len _).symm); (first | omega | (simp; done) | (simp; omega))))); apply run_gYes rfl rfl rfl; (exact stp_loadR rfl (by as_aux_lemma => kernel_rfl) rfl rfl rfl (by first | assumption | exact ivals_get (by assumption) | exact irows_get (by assumption) | exact ivals_get (by omega) | exact irows_get (by omega) | rfl) (by first | exact ivals_len _ | assumption | rfl)); apply run_gYes rfl rfl rfl; (exact stp_move rfl rfl); apply run_gYes rfl rfl rfl; (exact stp_ixE rfl rfl rfl rfl rfl (by as_aux_lemma => kernel_rfl) (by first | assumption | exact ivals_get (by assumption) | exact irows_get (by assumption) | exact ivals_get (by omega) | exact irows_get (by omega) | rfl) (by first | rfl | exact (Int.toNat_of_nonneg (by omega)).symm) (by first | assumption | omega | (simp; omega)) (by first | exact Nat.le_refl _ | exact Nat.le_of_eq (ivals_len _).symm | exact Nat.le_of_eq (irows_len _).symm | (refine Nat.le_trans ?_ (Nat.le_of_eq (ivals_len _).symm); (first | omega | (simp; done) | (simp; omega))) | (refine Nat.le_trans ?_ (Nat.le_of_eq (irows_len _).symm); (first | omega | (simp; done) | (simp; omega))))); apply run_gYes rfl rfl rfl; (exact stp_loadE' rfl (by as_aux_lemma => kernel_rfl) rfl rfl rfl (by first | assumption | exact ivals_get (by assumption) | exact irows_get (by assumption) | exact ivals_get (by omega) | exact irows_get (by omega) | rfl) (by first | assumption | exact ivals_get (by assumption) | exact irows_get (by assumption) | exact ivals_get (by omega) | exact irows_get (by omega) | rfl)); apply run_gYes rfl rfl rfl; (exact stp_bin rfl rfl rfl rfl); apply run_step rfl; (exact stp_pickT rfl rfl rfl); refine run_nil ?_; refine fin_seq ?_)
              refine goes_if rfl (fun he => ?_) (fun he => ?_)
              · have he : ent M c g < 0 := he
                by_cases hfull : N.length = 2000
                · have hnx : nextC ng M N c g = (M, N, true, 0) := by unfold nextC; rw [if_neg (by omega), if_pos hfull]
                  rw [hnx] at hfo' hok'
                  have hD : FC Try.prog 194 [(28, cE N.length N.length false), (25, imOw M), (26, leOw N)] [o1 (.ptr 28 0), vv (I6 c), vv (I6 g)] [(28, cE N.length N.length true), (25, imOw M), (26, leOw N)] (vv (I6 c)) [(0, o1 (.ptr 28 0))] := (iDefine_full M N N.length N.length c g false hMN (by omega)).nm [(1010, 28), (1000, 25), (1001, 26)] (by kernel_rfl)
                  (refine goes_region ?_; apply run_step rfl; (exact stp_move rfl rfl); apply run_step rfl; (exact stp_move rfl rfl); apply run_step rfl; (exact stp_move rfl rfl); apply run_step rfl; (apply call_gate 194; exact stp_call [(0, 28)] hD (by as_aux_lemma => kernel_rfl) rfl rfl ⟨rfl, rfl, rfl, trivial⟩ ⟨⟨_, rfl, .inl rfl⟩, ⟨_, rfl, .inl rfl⟩, ⟨_, rfl, .inl rfl⟩, trivial⟩ ⟨rfl, rfl, rfl, trivial⟩ rfl rfl); refine run_nil ?_; refine fin_block ?_; refine fin_seq ?_; refine goes_region ?_; apply run_step rfl; (exact stp_add rfl rfl rfl (by first | exact IntWalk.i64_in _ (by omega) | rfl)); apply run_step rfl; (exact stp_move rfl rfl); refine run_nil ?_)
                  exact fin_round (g + 1, (M, N, true)) ⟨hgn, hfo', hok'⟩ (by show ng - (g + 1) < ng - g; omega) (Wk.of ⟨rfl, rfl, rfl, rfl, rfl, trivial⟩ ⟨rfl, rfl, rfl, rfl, rfl, rfl, trivial⟩ trivial)
                · have hnx : nextC ng M N c g = (addC ng M N.length c g, N ++ [(N.length : Int)], false, N.length) := by unfold nextC; rw [if_neg (by omega), if_neg hfull]
                  rw [hnx] at hfo' hok'
                  have hsn : (N ++ [(N.length : Int)]).length = N.length + 1 := by simp
                  have hD : FC Try.prog 194 [(28, cE N.length N.length false), (25, imOw M), (26, leOw N)] [o1 (.ptr 28 0), vv (I6 c), vv (I6 g)] [(28, cE (N.length + 1) (N.length + 1) false), (25, imOw (addC ng M N.length c g)), (26, leOw (N ++ [(N.length : Int)]))] (vv (I6 N.length)) [(0, o1 (.ptr 28 0))] :=
                    (iDefine_fc ng M N N.length N.length c g false hMN rfl (by omega) hok.ok.wf hcN hgn hng).nm [(1010, 28), (1000, 25), (1001, 26)] (by kernel_rfl)
                  (refine goes_region ?_; apply run_step rfl; (exact stp_move rfl rfl); apply run_step rfl; (exact stp_move rfl rfl); apply run_step rfl; (exact stp_move rfl rfl); apply run_step rfl; (apply call_gate 194; exact stp_call [(0, 28)] hD (by as_aux_lemma => kernel_rfl) rfl rfl ⟨rfl, rfl, rfl, trivial⟩ ⟨⟨_, rfl, .inl rfl⟩, ⟨_, rfl, .inl rfl⟩, ⟨_, rfl, .inl rfl⟩, trivial⟩ ⟨rfl, rfl, rfl, trivial⟩ rfl rfl); refine run_nil ?_; refine fin_block ?_; refine fin_seq ?_; refine goes_region ?_; apply run_step rfl; (exact stp_add rfl rfl rfl (by first | exact IntWalk.i64_in _ (by omega) | rfl)); apply run_step rfl; (exact stp_move rfl rfl); refine run_nil ?_)
                  exact fin_round (g + 1, (addC ng M N.length c g, N ++ [(N.length : Int)], false)) ⟨hgn, hfo', hok'⟩ (by show ng - (g + 1) < ng - g; omega) (Wk.of ⟨rfl, rfl, rfl, rfl, rfl, trivial⟩ ⟨by dsimp only; rw [hsn]; rfl, rfl, rfl, rfl, rfl, rfl, trivial⟩ trivial)
              · have he : ¬ ent M c g < 0 := he
                have hnx : nextC ng M N c g = (M, N, false, root N (ent M c g).toNat) := by unfold nextC; rw [if_pos (by omega)]
                rw [hnx] at hfo' hok'
                (refine goes_skip ?_; refine fin_block ?_; refine fin_seq ?_; refine goes_region ?_; apply run_step rfl; (exact stp_add rfl rfl rfl (by first | exact IntWalk.i64_in _ (by omega) | rfl)); apply run_step rfl; (exact stp_move rfl rfl); refine run_nil ?_)
                exact fin_round (g + 1, (M, N, false)) ⟨hgn, hfo', hok'⟩ (by show ng - (g + 1) < ng - g; omega) (Wk.of ⟨rfl, rfl, rfl, rfl, rfl, trivial⟩ ⟨rfl, rfl, rfl, rfl, rfl, rfl, trivial⟩ trivial)
            · obtain rfl : b = true := by simpa using hb
              have hst : next1 ng c (M, N, true) g = (M, N, true) := next1_dead (by unfold liveC; simp) g
              rw [hst] at hfo' hok'
              (apply run_gNo rfl rfl rfl rfl rfl; apply run_gNo rfl rfl rfl rfl rfl; apply run_gNo rfl rfl rfl rfl rfl; apply run_gNo rfl rfl rfl rfl rfl; apply run_gNo rfl rfl rfl rfl rfl; apply run_gNo rfl rfl rfl rfl rfl; apply run_gNo rfl rfl rfl rfl rfl; apply run_gNo rfl rfl rfl rfl rfl; apply run_gNo rfl rfl rfl rfl rfl; apply run_gNo rfl rfl rfl rfl rfl; apply run_gNo rfl rfl rfl rfl rfl; apply run_step rfl; (exact stp_pickF rfl rfl rfl); refine run_nil ?_; refine fin_seq ?_)
              refine goes_cond rfl (fun e => by cases e) (fun _ => ?_)
              (refine goes_skip ?_; refine fin_block ?_; refine fin_seq ?_; refine goes_region ?_; apply run_step rfl; (exact stp_add rfl rfl rfl (by first | exact IntWalk.i64_in _ (by omega) | rfl)); apply run_step rfl; (exact stp_move rfl rfl); refine run_nil ?_)
              exact fin_round (g + 1, (M, N, true)) ⟨hgn, hfo', hok'⟩ (by show ng - (g + 1) < ng - g; omega) (Wk.of ⟨rfl, rfl, rfl, rfl, rfl, trivial⟩ ⟨rfl, rfl, rfl, rfl, rfl, rfl, trivial⟩ trivial)
          · have hlv : ¬ iget N c = (c : Int) := by simpa using h
            have hst : next1 ng c (M, N, b) g = (M, N, b) := next1_dead (by unfold liveC; simp [hlv]) g
            rw [hst] at hfo' hok'
            (apply run_gNo rfl rfl rfl rfl rfl; apply run_gNo rfl rfl rfl rfl rfl; apply run_gNo rfl rfl rfl rfl rfl; apply run_gNo rfl rfl rfl rfl rfl; apply run_gNo rfl rfl rfl rfl rfl; apply run_step rfl; (exact stp_pickF rfl rfl rfl); apply run_step rfl; (exact stp_move rfl rfl); apply run_gNo rfl rfl rfl rfl rfl; apply run_gNo rfl rfl rfl rfl rfl; apply run_gNo rfl rfl rfl rfl rfl; apply run_gNo rfl rfl rfl rfl rfl; apply run_gNo rfl rfl rfl rfl rfl; apply run_gNo rfl rfl rfl rfl rfl; apply run_gNo rfl rfl rfl rfl rfl; apply run_gNo rfl rfl rfl rfl rfl; apply run_gNo rfl rfl rfl rfl rfl; apply run_gNo rfl rfl rfl rfl rfl; apply run_gNo rfl rfl rfl rfl rfl; apply run_step rfl; (exact stp_pickF rfl rfl rfl); refine run_nil ?_; refine fin_seq ?_)
            refine goes_cond rfl (fun e => by cases e) (fun _ => ?_)
            (refine goes_skip ?_; refine fin_block ?_; refine fin_seq ?_; refine goes_region ?_; apply run_step rfl; (exact stp_add rfl rfl rfl (by first | exact IntWalk.i64_in _ (by omega) | rfl)); apply run_step rfl; (exact stp_move rfl rfl); refine run_nil ?_)
            exact fin_round (g + 1, (M, N, b)) ⟨hgn, hfo', hok'⟩ (by show ng - (g + 1) < ng - g; omega) (Wk.of ⟨rfl, rfl, rfl, rfl, rfl, trivial⟩ ⟨rfl, rfl, rfl, rfl, rfl, rfl, trivial⟩ trivial)
        · obtain rfl : g = ng := by omega
          have hfg : coset1 g rels c s0 = (M, N, b) := by rw [← hcos, ← hfo]
          (refine goes_exit ?_; refine fin_exit_then ?_; refine fin_exit_then ?_; refine fin_exit_eq ?_; refine fin_block ?_; refine fin_seq ?_; refine goes_region ?_; apply run_step rfl; (exact stp_move rfl rfl); apply run_step rfl; (exact stp_add rfl rfl rfl (by first | exact IntWalk.i64_in _ (by omega) | rfl)); apply run_step rfl; (exact stp_assign rfl rfl); refine run_nil ?_)
          exact fin_round (c + 1, (M, N, b)) ⟨by show outer g rels (2001 - (c + 1)) (c + 1) (M, N, b) = X; rw [show 2001 - (c + 1) = 2000 - c by omega, ← hfg]; exact houts, by show c + 1 ≤ N.length; omega, ⟨hok.ok.le (by omega), hok.full⟩⟩ (by show 2001 - (c + 1) < 2001 - c; omega) (Wk.of ⟨rfl, rfl, rfl, trivial⟩ ⟨rfl, rfl, rfl, rfl, rfl, rfl, trivial⟩ trivial)
    · have hXs : (M, N, b) = X := by
        rw [← hout]
        cases hk : 2001 - c with
        | zero => omega
        | succ f =>
          rw [outer, if_neg]
          rintro ⟨h1, h2⟩
          have h1 : c < N.length := h1
          have h2 : b = false := h2
          rw [decide_eq_true (show (c : Int) < N.length by omega), h2] at hc
          cases hc
      clear hout hc hS hcl
      (refine goes_exit ?_; refine fin_exit_then ?_; refine fin_exit_then ?_; refine fin_exit_eq ?_; refine fin_seq ?_; refine goes_seq ?_; refine goes_seq ?_; refine goes_region ?_; apply run_step rfl; (exact stp_move rfl rfl); apply run_step rfl; (exact stp_nilCheck rfl rfl rfl); apply run_step rfl; (exact stp_fieldAddr (d := 2) rfl rfl rfl (by as_aux_lemma => kernel_rfl)); apply run_step rfl; (exact stp_loadF rfl (by as_aux_lemma => kernel_rfl) rfl rfl rfl rfl); refine run_nil ?_; refine fin_seq ?_)
      refine goes_cond rfl (fun hb => ?_) (fun hb => ?_)
      · subst hb
        subst hXs
        (refine goes_seq ?_; refine goes_region ?_; apply run_step rfl; (exact stp_assign rfl rfl); apply run_step rfl; (exact stp_assign rfl rfl); refine run_nil ?_; refine fin_seq ?_; refine goes_ret ?_; refine fin_ret_then ?_)
        exact fin_ret2 (.inl rfl) rfl (.tmp rfl) (.tmp rfl) trivial trivial
      · subst hb
        have hsame : runC ng rels words = X := by
          rcases runI_same ng rels words with h | ⟨_, h⟩
          · exact h.trans hX
          · rw [hX, ← hXs] at h; cases h
        have hF := full_run hr hw (show (runC ng rels words).2.2 = false by rw [hsame, ← hXs])
        rw [hsame] at hF
        subst hXs
        clear hsame
        dsimp only at hF
        have hn0 := hF.pos
        have hts := tabStart_ok hF
        clear hX
        (refine goes_skip ?_; refine fin_seq ?_; refine goes_seq ?_; refine goes_region ?_; apply run_step rfl; (exact stp_lit1I (E := 2) rfl (by as_aux_lemma => kernel_rfl) rfl); apply run_step rfl; (exact stp_assign rfl rfl); refine run_nil ?_; refine fin_seq ?_; refine goes_seq ?_; refine goes_region ?_)
        refine run_makeMap (k := 2) (e := 2) rfl rfl rfl Try.underlying2 (by as_aux_lemma => kernel_rfl) fun b wB ωB hMB => ?_
        refine run_mapPut rfl (.inr rfl) rfl Try.underlying2 Try.underlying2 (by as_aux_lemma => kernel_rfl) hMB rfl rfl rfl (by decide) (by decide) (by omega) fun wB ωB hMB => ?_
        (apply run_step rfl; (exact stp_move rfl rfl); apply run_step rfl; (exact stp_assign rfl rfl); refine run_nil ?_; refine fin_seq ?_; refine goes_seq ?_; refine goes_region ?_; apply run_step rfl; (exact stp_fieldAddr (d := 0) rfl rfl rfl (by as_aux_lemma => kernel_rfl)); apply run_step rfl; (exact stp_loadF rfl (by as_aux_lemma => kernel_rfl) rfl rfl rfl rfl); apply run_step rfl; (exact stp_makeR (E := 49) (F := 2) rfl (by as_aux_lemma => kernel_rfl) (by as_aux_lemma => kernel_rfl) (by as_aux_lemma => kernel_rfl) rfl rfl rfl rfl (by omega)); apply run_step rfl; (exact stp_assign rfl rfl); refine run_nil ?_; refine fin_seq ?_; refine goes_seq ?_; refine goes_seq ?_; refine goes_region ?_; apply run_step rfl; (exact stp_assign rfl rfl); refine run_nil ?_; refine fin_seq ?_; refine goes_block ?_)
        have hf0 := fN_start hn0
        have htz := tabP_zero (ng := ng) (im := M) (less := N) (s := tabStart N.length)
        refine goes_loopB (fun q : Nat × NSt => St.of [(2, o1 (.ptr 2 0)), (6, o1 (.ptr 28 0)), (13, o1 (.sl 126 0 q.2.1.length)), (14, vv (.map (some b))), (15, o1 (.sl 131 0 ng)), (16, vv (I6 q.1))] [(28, cE N.length N.length false), (25, imOw M), (26, leOw N), (2, pE ng R), (126, leOw q.2.1), (131, imOw (tabP ng M N q.2 q.1 0))])
          (fun q wB ωB => q.1 ≤ q.2.1.length ∧ TOK N.length N q.2 ∧ SeenG ng M N q.2 q.1 0 ∧ tabLoop ng M N (N.length + 1 - q.1) q.1 q.2 = numbered ng M N ∧ MB Try.prog 2 2 w0 ω0.own b (fN q.2.2) q.2.1.length wB ωB) (fun q => N.length + 1 - q.1) (0, tabStart N.length) ⟨Nat.zero_le _, hts, SeenG.zero, rfl, by rw [← hf0]; exact hMB⟩ (Wk.of ⟨rfl, rfl, rfl, rfl, rfl, rfl, trivial⟩ ⟨rfl, rfl, rfl, rfl, rfl, by dsimp only; rw [htz]; rfl, trivial⟩ trivial) ?_
        clear hMB hf0 htz
        clear wB ωB
        rintro ⟨i, O, T⟩ wB ωB ⟨hi, htok, hseen, hnum, hMB⟩
        dsimp only at hi hnum hMB ⊢
        have hOl : O.length ≤ N.length := htok.le
        (refine goes_seq ?_; refine goes_seq ?_; refine goes_region ?_; apply run_step rfl; (exact stp_move rfl rfl); apply run_step rfl; (exact stp_move rfl rfl); apply run_step rfl; (exact stp_len rfl rfl rfl (by as_aux_lemma => kernel_rfl)); apply run_step rfl; (exact stp_bin rfl rfl rfl rfl); refine run_nil ?_; refine fin_seq ?_)
        refine goes_if rfl (fun hlt => ?_) (fun hlt => ?_)
        · have hlt' : i < O.length := by omega
          have hnum' : tabLoop ng M N (N.length - i) (i + 1) (tabRow ng M N i (O, T)) = numbered ng M N := by
            rw [← hnum, show N.length + 1 - i = (N.length - i) + 1 by omega]
            exact (tabLoop_step hlt').symm
          obtain ⟨s0, hs0⟩ : ∃ s0 : NSt, s0 = (O, T) := ⟨_, rfl⟩
          obtain ⟨d, hd1, hd2, hd3, -⟩ := htok.live i hlt'
          dsimp only at hd1
          have hrow : ∀ n, n ≤ ng → TOK N.length N ((List.range n).foldl (visitG M N i) s0) ∧ NGrow s0 ((List.range n).foldl (visitG M N i) s0) := fun n hn =>
            have := tabRow_ok hF (i := i) (s := s0) (by rw [hs0]; exact htok) (by rw [hs0]; exact hlt') n hn
            ⟨this.1, this.2.1⟩
          have hfin : tabLoop ng M N (N.length - i) (i + 1) ((List.range ng).foldl (visitG M N i) s0) = numbered ng M N := by rw [hs0]; exact hnum'
          have hO0 : s0.1.length = O.length := by rw [hs0]
          have hd0 : iget s0.1 i = (d : Int) := by rw [hs0]; exact hd1
          (refine goes_skip ?_; refine fin_seq ?_; refine goes_seq ?_; refine goes_block ?_; refine goes_seq ?_; refine goes_region ?_; apply run_step rfl; (exact stp_fieldAddr (d := 0) rfl rfl rfl (by as_aux_lemma => kernel_rfl)); apply run_step rfl; (exact stp_loadF rfl (by as_aux_lemma => kernel_rfl) rfl rfl rfl rfl); apply run_step rfl; (exact stp_move rfl rfl); refine run_nil ?_; refine fin_seq ?_; refine goes_block ?_)
          refine goes_loopB (fun q : Nat × NSt => St.of [(2, o1 (.ptr 2 0)), (6, o1 (.ptr 28 0)), (13, o1 (.sl 126 0 q.2.1.length)), (14, vv (.map (some b))), (15, o1 (.sl 131 0 ng)), (16, vv (I6 i)), (139, vv (I6 ng)), (140, vv (I6 q.1))] [(28, cE N.length N.length false), (25, imOw M), (26, leOw N), (2, pE ng R), (126, leOw q.2.1), (131, imOw (tabP ng M N q.2 i q.1))])
            (fun q wB ωB => q.1 ≤ ng ∧ (List.range q.1).foldl (visitG M N i) s0 = q.2 ∧ SeenG ng M N q.2 i q.1 ∧ MB Try.prog 2 2 w0 ω0.own b (fN q.2.2) q.2.1.length wB ωB) (fun q => ng - q.1) (0, (O, T)) ⟨Nat.zero_le _, hs0, hseen, hMB⟩ (Wk.of ⟨rfl, rfl, rfl, rfl, rfl, rfl, rfl, rfl, trivial⟩ ⟨rfl, rfl, rfl, rfl, rfl, rfl, trivial⟩ trivial) ?_
          clear hnum hnum' htok hs0 hd1 hMB hseen
          generalize O.length = on at *
          clear wB ωB
          rintro ⟨g, O, T⟩ wB ωB ⟨hg, hfo, hseen, hMB⟩
          dsimp only at hg hfo hMB ⊢
          obtain ⟨tok, grw⟩ := hrow g hg
          rw [hfo] at tok grw
          have hiO : i < O.length := Nat.lt_of_lt_of_le (by omega) grw.len
          have hOl' : O.length ≤ N.length := tok.le
          have hTl : T.length = N.length := tok.len
          have hdO : iget O i = (d : Int) := (grw.pre i (by omega)).trans hd0
          have hget : (ivals O)[i]? = some (I6 (d : Int)) := by rw [ivals_get hiO, hdO]
          (refine goes_seq ?_; refine goes_region ?_; apply run_step rfl; (exact stp_bin rfl rfl rfl rfl); refine run_nil ?_; refine fin_seq ?_; refine goes_seq ?_)
          refine goes_if rfl (fun h2 => ?_) (fun h2 => ?_)
          · have hgn : g < ng := by omega
            obtain ⟨e, he1, he2, _⟩ := hF.image hd2 hd3 hgn
            have hI : FC Try.prog 195 [(28, ⟨false, 179, 3, .flat [.sl 25 0 N.length, .sl 26 0 N.length, .val (.bool false)]⟩), (25, imRo M), (26, leRo N)] [o1 (.ptr 28 0), vv (I6 d), vv (I6 g)] [] (vv (I6 e)) [] := by
              have := (iImage_fc M N N.length N.length d g false hMN rfl hF.wf.down (by omega) (by rw [hF.wf.row d (by omega)]; exact hgn) (hF.wf.ent d g (by omega) hgn)).nm [(1010, 28), (1000, 25), (1001, 26)] (by kernel_rfl)
              rw [he1] at this
              exact this
            have hSz := sizeV_fc 126 O.length
            obtain ⟨V, hV⟩ : ∃ V : NSt, visit (O, T) e = V := ⟨_, rfl⟩
            have hst : (List.range (g + 1)).foldl (visitG M N i) s0 = V := by
              rw [List.range_succ, List.foldl_append, hfo, ← hV]
              show visit (O, T) (image M N (iget O i).toNat g).toNat = _
              rw [hdO, Int.toNat_natCast, he1, Int.toNat_natCast]
            have hseen' : SeenG ng M N V i (g + 1) := by rw [← hV]; exact hseen.visit tok hiO hdO he1 he2
            have hgr : tabP ng M N (O, T) i g = tabP ng M N V i g := by rw [← hV]; exact tabP_grow (visit_grow _ _) hseen
            have htc : tabC M N V g i = iget V.2 e := by rw [← hV]; exact tabC_visit hiO hdO he1
            have hset := tabP_set (im := M) (less := N) (s := V) (i := i) hgn
            rw [htc] at hset
            have hfs := fN_some (M := T) (e := e) (by omega)
            have hwe : (Lit.int .i64 (e : Int)).wf = true := wf_small (by omega) (by omega)
            (refine goes_skip ?_; refine fin_seq ?_; refine goes_seq ?_; refine goes_block ?_; refine goes_seq ?_; refine goes_region ?_; apply run_step rfl; (exact stp_move rfl rfl); apply run_step rfl; (exact stp_assign rfl rfl); refine run_nil ?_; refine fin_seq ?_; refine goes_seq ?_; refine goes_region ?_; apply run_step rfl; (exact stp_move rfl rfl); apply run_step rfl; (exact stp_move rfl rfl); apply run_step rfl; (exact stp_move rfl rfl); apply run_step rfl; (exact stp_ix rfl rfl rfl rfl rfl (by as_aux_lemma => kernel_rfl) (by first | rfl | exact (Int.toNat_of_nonneg (by omega)).symm) (by first | assumption | omega | (simp; omega)) (by first | exact Nat.le_refl _ | exact Nat.le_of_eq (ivals_len _).symm | exact Nat.le_of_eq (irows_len _).symm | (refine Nat.le_trans ?_ (Nat.le_of_eq (ivals_len _).symm); (first | omega | (simp; done) | (simp; omega))) | (refine Nat.le_trans ?_ (Nat.le_of_eq (irows_len _).symm); (first | omega | (simp; done) | (simp; omega))))); apply run_step rfl; (exact stp_loadV rfl (by as_aux_lemma => kernel_rfl) rfl rfl rfl (by first | assumption | exact ivals_get (by assumption) | exact irows_get (by assumption) | exact ivals_get (by omega) | exact irows_get (by omega) | rfl)); apply run_step rfl; (exact stp_move rfl rfl); apply run_step rfl; (apply call_gate 195; exact stp_callR hI (by as_aux_lemma => kernel_rfl) rfl rfl ⟨rfl, rfl, rfl, trivial⟩ ⟨⟨_, rfl, .inr rfl⟩, ⟨_, rfl, .inr rfl⟩, ⟨_, rfl, .inr rfl⟩, trivial⟩ rfl rfl); apply run_step rfl; (exact stp_assign rfl rfl); refine run_nil ?_; refine fin_seq ?_; refine goes_seq ?_; refine goes_region ?_; apply run_step rfl; (exact stp_move rfl rfl); apply run_step rfl; (exact stp_move rfl rfl))
            refine run_lookup (t := 153) rfl rfl rfl rfl Try.underlying2 Try.underlying2 (by as_aux_lemma => kernel_rfl) (by as_aux_lemma => kernel_rfl) hMB rfl rfl hwe ?_
            (apply run_step rfl; (exact stp_move rfl rfl); apply run_step rfl; (exact stp_extract rfl rfl rfl); apply run_step rfl; (exact stp_extract rfl rfl rfl); apply run_step rfl; (exact stp_assign rfl rfl); apply run_step rfl; (exact stp_assign rfl rfl); refine run_nil ?_; refine fin_seq ?_; refine goes_seq ?_; refine goes_seq ?_; refine goes_region ?_; apply run_step rfl; (exact stp_move rfl rfl); apply run_step rfl; (exact stp_not rfl rfl); refine run_nil ?_; refine fin_seq ?_)
            refine goes_joinB (St.of [(2, o1 (.ptr 2 0)), (6, o1 (.ptr 28 0)), (13, o1 (.sl 126 0 V.1.length)), (14, vv (.map (some b))), (15, o1 (.sl 131 0 ng)), (16, vv (I6 i)), (17, vv (I6 g)), (19, vv (I6 (iget V.2 e))), (139, vv (I6 ng)), (140, vv (I6 g))] [(28, cE N.length N.length false), (25, imOw M), (26, leOw N), (2, pE ng R), (126, leOw V.1), (131, imOw (tabP ng M N V i g))])
              (fun wB ωB => MB Try.prog 2 2 w0 ω0.own b (fN V.2) V.1.length wB ωB) rfl (fun hc => ?_) (fun hc => ?_) ?_
            · have hneg : iget T e < 0 := by
                rw [hfs.1] at hc; simp at hc; omega
              obtain rfl : V = (O ++ [(e : Int)], T.set e (O.length : Int)) := by rw [← hV]; exact if_pos hneg
              have hnum0 : iget (T.set e (O.length : Int)) e = (O.length : Int) := by rw [iget_set, if_pos ⟨rfl, by omega⟩]
              have hfset := fN_set (M := T) (e := e) (v := (O.length : Int)) (by omega) (by omega)
              (refine goes_seq ?_; refine goes_region ?_; apply run_step rfl; (exact stp_move rfl rfl); apply run_step rfl; (apply call_gate 139; exact stp_callR hSz (by as_aux_lemma => kernel_rfl) rfl rfl ⟨rfl, trivial⟩ trivial rfl rfl); apply run_step rfl; (exact stp_assign rfl rfl); refine run_nil ?_; refine fin_seq ?_; refine goes_seq ?_; refine goes_region ?_; apply run_step rfl; (exact stp_move rfl rfl); apply run_step rfl; (exact stp_move rfl rfl); apply run_step rfl; (exact stp_move rfl rfl))
              refine run_mapPut rfl (.inl rfl) rfl Try.underlying2 Try.underlying2 (by as_aux_lemma => kernel_rfl) hMB rfl rfl rfl hwe (wf_small (by omega) (by omega)) (by omega) fun wB ωB hMB => ?_
              (refine run_nil ?_; refine fin_seq ?_; refine goes_region ?_; apply run_step rfl; (exact stp_move rfl rfl); apply run_step rfl; (exact stp_move rfl rfl); apply run_step rfl; (exact stp_lit1I (E := 2) rfl (by as_aux_lemma => kernel_rfl) rfl); apply run_step rfl; (exact stp_appI rfl (by as_aux_lemma => kernel_rfl) rfl rfl rfl (by first | rfl | assumption | (simp; done)) rfl rfl (by omega)); apply run_step rfl; (exact stp_assign rfl rfl); refine run_nil ?_)
              exact fin_joinB (by dsimp only; rw [← hfset, List.length_append]; exact hMB) (Wk.of ⟨rfl, rfl, by simp; rfl, rfl, rfl, rfl, rfl, by rw [hnum0]; rfl, rfl, rfl, trivial⟩ ⟨rfl, rfl, rfl, rfl, rfl, by rw [← hgr]; rfl, trivial⟩ trivial)
            · have hneg : 0 ≤ iget T e := by
                rw [hfs.1] at hc; simpa using hc
              obtain rfl : V = (O, T) := by rw [← hV]; exact if_neg (by show ¬ iget T e < 0; omega)
              (refine goes_skip ?_)
              exact fin_joinB hMB (Wk.of ⟨rfl, rfl, rfl, rfl, rfl, rfl, rfl, by rw [← hfs.2 hneg]; rfl, rfl, rfl, trivial⟩ ⟨rfl, rfl, rfl, rfl, rfl, rfl, trivial⟩ trivial)
            clear hMB
            clear wB ωB
            intro wB ωB hMB
            have hrw0 : lget (tabP ng M N V i g) g = (List.range i).map (tabC M N V g) := tabP_row hgn
            have htl : (tabP ng M N V i g).length = ng := tabP_len
            obtain ⟨row, hrow1⟩ : ∃ row, (List.range i).map (tabC M N V g) = row := ⟨_, rfl⟩
            have hrl1 : row.length = i := by rw [← hrow1]; simp
            rw [hrow1] at hrw0 hset
            have hset2 : (irows (tabP ng M N V i g)).set g (ivals (row ++ [iget V.2 e])) = irows (tabP ng M N V i (g + 1)) := by rw [irows_set, hset]
            have hrg : (irows (tabP ng M N V i g))[g]? = some (ivals row) := by rw [irows_get (by omega), hrw0]
            (refine fin_seq ?_; refine goes_region ?_; apply run_step rfl; (exact stp_move rfl rfl); apply run_step rfl; (exact stp_move rfl rfl); apply run_step rfl; (exact stp_move rfl rfl); apply run_step rfl; (exact stp_move rfl rfl); apply run_step rfl; (exact stp_ix rfl rfl rfl rfl rfl (by as_aux_lemma => kernel_rfl) (by first | rfl | exact (Int.toNat_of_nonneg (by omega)).symm) (by first | assumption | omega | (simp; omega)) (by first | exact Nat.le_refl _ | exact Nat.le_of_eq (ivals_len _).symm | exact Nat.le_of_eq (irows_len _).symm | (refine Nat.le_trans ?_ (Nat.le_of_eq (ivals_len _).symm); (first | omega | (simp; done) | (simp; omega))) | (refine Nat.le_trans ?_ (Nat.le_of_eq (irows_len _).symm); (first | omega | (simp; done) | (simp; omega))))); apply run_step rfl; (exact stp_loadR rfl (by as_aux_lemma => kernel_rfl) rfl rfl rfl (by first | assumption | exact ivals_get (by assumption) | exact irows_get (by assumption) | exact ivals_get (by omega) | exact irows_get (by omega) | rfl) (by first | exact ivals_len _ | assumption | rfl)); apply run_step rfl; (exact stp_move rfl rfl); apply run_step rfl; (exact stp_lit1I (E := 2) rfl (by as_aux_lemma => kernel_rfl) rfl))
            refine run_wk (wk_takeRow (n := 131) (z := 172) (s := 172) rfl rfl hrg (ivals_len row) rfl) ?_
            (apply run_step rfl; (exact stp_appI rfl (by as_aux_lemma => kernel_rfl) rfl rfl rfl (by first | rfl | assumption | (simp; done)) rfl rfl (by omega)); apply run_step rfl; (exact stp_ix rfl rfl rfl rfl rfl (by as_aux_lemma => kernel_rfl) (by first | rfl | exact (Int.toNat_of_nonneg (by omega)).symm) (by first | assumption | omega | (simp; omega)) (by first | exact Nat.le_refl _ | exact Nat.le_of_eq (ivals_len _).symm | exact Nat.le_of_eq (irows_len _).symm | (refine Nat.le_trans ?_ (Nat.le_of_eq (ivals_len _).symm); (first | omega | (simp; done) | (simp; omega))) | (refine Nat.le_trans ?_ (Nat.le_of_eq (irows_len _).symm); (first | omega | (simp; done) | (simp; omega))))); apply run_step rfl; (exact stp_storeRow (n := 131) (z := 172) (i := g) rfl rfl (by simp) rfl rfl (by rw [ivals_len]; simp) rfl (by rw [irows_len]; omega) (by as_aux_lemma => kernel_rfl)); refine run_nil ?_; refine fin_block ?_; refine fin_seq ?_; refine goes_region ?_; apply run_step rfl; (exact stp_add rfl rfl rfl (by first | exact IntWalk.i64_in _ (by omega) | rfl)); apply run_step rfl; (exact stp_move rfl rfl); refine run_nil ?_)
            exact fin_roundB (g + 1, V) ⟨hgn, hst, hseen', hMB⟩ (by show ng - (g + 1) < ng - g; omega) (Wk.of ⟨rfl, rfl, rfl, rfl, rfl, rfl, rfl, rfl, trivial⟩ ⟨rfl, rfl, rfl, rfl, rfl, congrArg (fun l => some (⟨true, 49, 1, .rows 2 l []⟩ : Ch)) hset2, trivial⟩ trivial)
          · obtain rfl : g = ng := by omega
            (refine goes_exit ?_; refine fin_exit_then ?_; refine fin_exit_then ?_; refine fin_exit_eq ?_; refine fin_block ?_; refine fin_seq ?_; refine goes_region ?_; apply run_step rfl; (exact stp_move rfl rfl); apply run_step rfl; (exact stp_add rfl rfl rfl (by first | exact IntWalk.i64_in _ (by omega) | rfl)); apply run_step rfl; (exact stp_assign rfl rfl); refine run_nil ?_)
            exact fin_roundB (i + 1, (O, T)) ⟨hiO, tok, hseen.next, by rw [← hfin, hfo]; show tabLoop _ _ _ (N.length + 1 - (i + 1)) _ _ = _; rw [show N.length + 1 - (i + 1) = N.length - i by omega], hMB⟩ (by show N.length + 1 - (i + 1) < N.length + 1 - i; omega) (Wk.of ⟨rfl, rfl, rfl, rfl, rfl, rfl, trivial⟩ ⟨rfl, rfl, rfl, rfl, rfl, by dsimp only; rw [← tabP_next]; rfl, trivial⟩ trivial)
        · have hio : i = O.length := by omega
          have hOM : numbered ng M N = (O, T) := by
            rw [← hnum, show N.length + 1 - i = (N.length - i) + 1 by omega, tabLoop, if_neg (by show ¬ i < O.length; omega)]
          have htd := tabP_done hOM
          subst hio
          rw [htd]
          (refine goes_exit ?_; refine fin_exit_then ?_; refine fin_exit_then ?_; refine fin_exit_eq ?_; refine fin_seq ?_; refine goes_seq ?_; refine goes_region ?_; apply run_step rfl; (exact stp_move rfl rfl); apply run_step rfl; (exact stp_assign rfl rfl); apply run_step rfl; (exact stp_assign rfl rfl); refine run_nil ?_; refine fin_seq ?_; refine goes_ret ?_)
          refine fin_base hMB.fr ?_
          exact fin_ret2 (.inl rfl) rfl (.tmp rfl) (.tmp rfl) ⟨rfl, trivial⟩ trivial
end Go.Proofs.Ytpognnifgcacnaa

/- The code of WithRelators: l11Code, subgroupCode. -/
namespace Go.Proofs.Ytpognnifgcacnaa
open Go.RowKit

/-- a presentation and words in its letters -/
def withOk (d : PresD) (ws : List (List Int)) : Bool := isPres d && wordsTo d.1 0 ws
def withC (d : PresD) (ws : List (List Int)) : Int := if withOk d ws = true then 0 else 1

set_option maxRecDepth 100000 in
set_option maxHeartbeats 800000 in
theorem specCode_any {v : Value} {d : PresD} (ao : Option Addr) (n c : Nat) (ws : List (List Int)) (w : World) (h : RdP w v d) (h' : Intss w ao n ws) :
    Calls Try.prog 141 #[v, .slice ao n c] w fun e w' => e = .returned (.int .i64 (withC d ws)) ∧ Below w.heap.size w w' := by
  obtain ⟨ro, rn, rc, rfl, hr⟩ := h
  have hb := below_alloc1 w (.cells #[.int .i64 d.1, .slice ro rn rc] 72)
  have kb : Blk (w.alloc (.cells #[.int .i64 d.1, .slice ro rn rc] 72)) w.heap.size 72 #[.int .i64 d.1, .slice ro rn rc] := blk_at rfl
  have hp0 : RdP (w.alloc (.cells #[.int .i64 d.1, .slice ro rn rc] 72)) (.agg #[.int .i64 d.1, .slice ro rn rc]) d := ⟨ro, rn, rc, rfl, hr.below hb⟩
  cases hp : isPres d with
  | false =>
    have HP := Lib.hid hp
    have hC : withC d ws = 1 := by unfold withC withOk; rw [hp]; rfl
    rw [hC]
    clear hp hC
    go_enter Try.func141, Try.ntmps141
    go_wp2_with fail
    refine (spec11Is_any _ hp0).mono ?_
    rintro e w1 ⟨rfl, b1⟩
    rw [HP.out]
    go_wp2_with fail
    go_ret
    exact ⟨rfl, below_tr b1 hb⟩
  | true =>
    have hg := isPres_gens hp
    have HP := Lib.hid hp
    clear hp
    go_enter Try.func141, Try.ntmps141
    go_wp2_with fail
    refine (spec11Is_any _ hp0).mono ?_
    rintro e w1 ⟨rfl, b1⟩
    rw [HP.out]
    have B1 := below_tr b1 hb
    have y0 : w1.cell? ⟨w.heap.size, 0, none⟩ = some (.int .i64 d.1) := (kb.belowS b1).cell 0
    have h1 := h'.below B1
    clear hp0 kb hb b1 hr h'
    cases hw : wordsTo d.1 0 ws with
    | false =>
      have HW := Lib.hid hw
      have hC : withC d ws = 1 := by unfold withC withOk; rw [hw]; simp
      have HC := Lib.hid hC
      clear hw hC
      go_wp2_with (go_at_call 196; refine (spec11Words_any d.1 0 ao n c ws _ h1 (by omega) (by omega)).mono ?_; rintro e w' ⟨rfl, rfl⟩; rw [HW.out])
      go_ret
      exact ⟨ret_int HC.out.symm, B1⟩
    | true =>
      have HW := Lib.hid hw
      have hC : withC d ws = 0 := by unfold withC withOk; rw [hw, HP.out]; rfl
      have HC := Lib.hid hC
      clear hw hC
      go_wp2_with (go_at_call 196; refine (spec11Words_any d.1 0 ao n c ws _ h1 (by omega) (by omega)).mono ?_; rintro e w' ⟨rfl, rfl⟩; rw [HW.out])
      go_ret
      exact ⟨ret_int HC.out.symm, B1⟩

set_option maxHeartbeats 400000 in
theorem codeFn_any (b0 : Nat) (g : Int) (ap : Option Addr) (np cp : Nat) (q : List Int) (w : World) (hc : w.cell? ⟨b0, 0, none⟩ = some (.int .i64 g)) (hq : Ints w ap np q) (hg0 : 0 ≤ g) (hg1 : g ≤ 1000) :
    Calls Try.prog 181 #[.slice ap np cp, .pointer (some ⟨b0, 0, none⟩)] w fun e w' => e = .returned (.bool (!isWordTo (g - 1) q)) ∧ Below w.heap.size w w' := by
  go_enter Try.func181, Try.ntmps181
  go_wp2_with fail
  refine (isLetters_any g ap np cp q _ hq hg0 hg1).mono ?_
  rintro e w1 ⟨rfl, b1⟩
  go_wp2
  go_ret
  exact ⟨rfl, b1⟩

theorem words_any (g : Int) (ws : List (List Int)) : ws.any (fun q => !isWordTo (g - 1) q) = !(ws.all fun q => isWordTo (g - 1) q) := by
  rw [List.any_eq_not_all_not]; simp
theorem wordsTo_0 (g : Int) (ws : List (List Int)) (h : ws.length ≤ 24) : wordsTo g 0 ws = ws.all fun q => isWordTo (g - 1) q := by
  unfold wordsTo; simp [h]

set_option maxRecDepth 100000 in
set_option maxHeartbeats 3200000 in
theorem implCode_any {v : Value} {d : PresD} (ao : Option Addr) (n c : Nat) (ws : List (List Int)) (w : World) (h : RdP w v d) (h' : Intss w ao n ws) :
    Calls Try.prog 111 #[v, .slice ao n c] w fun e w' => e = .returned (.int .i64 (withC d ws)) ∧ Below w.heap.size w w' := by
  obtain ⟨ro, rn, rc, rfl, hr⟩ := h
  have hmf : ∀ (fn : Fn) (first cap : Array Value) (w : World), (Instr.makeFunc fn first cap).run Try.prog w = .ok (.func fn first cap) w := fun _ _ _ _ => rfl
  have HL := Lib.hid h'.1
  have hn1 := h'.2.1
  have hb := below_alloc1 w (.cells #[.int .i64 d.1, .slice ro rn rc] 72)
  have kb : Blk (w.alloc (.cells #[.int .i64 d.1, .slice ro rn rc] 72)) w.heap.size 72 #[.int .i64 d.1, .slice ro rn rc] := blk_at rfl
  have KB := Lib.hid kb
  have hr1 : RdP (w.alloc (.cells #[.int .i64 d.1, .slice ro rn rc] 72)) (.agg #[.int .i64 d.1, .slice ro rn rc]) d := ⟨ro, rn, rc, rfl, hr.below hb⟩
  have h1 := h'.below hb
  have HB := Lib.hid hb
  clear kb hb hr h'
  cases hp : isPres d with
  | false =>
    have HP := Lib.hid hp
    have hC : withC d ws = 1 := by unfold withC withOk; rw [hp]; rfl
    have HC := Lib.hid hC
    clear hp hC
    go_enter Try.func111, Try.ntmps111
    go_wp2_with fail
    refine (isPresentation_any _ hr1).mono ?_
    rintro e w1 ⟨rfl, b1⟩
    rw [HP.out]
    have bq := b1
    go_wp2_with fail
    go_ret
    exact ⟨ret_int HC.out.symm, below_tr bq HB.out⟩
  | true =>
    have hg := isPres_gens hp
    have HP := Lib.hid hp
    clear hp
    by_cases hs : n ≤ 24
    · have hs1 : decide ((24 : Int) < n) = false := by simp; omega
      have hwo := wordsTo_0 d.1 ws (by rw [HL.out]; exact hs)
      cases hw : wordsTo d.1 0 ws with
      | false =>
        have hC : withC d ws = 1 := by unfold withC withOk; rw [hw]; simp
        have HC := Lib.hid hC
        have HA : Hid ((ws.any fun q => !isWordTo (d.1 - 1) q) = true) := Lib.hid (by rw [words_any, ← hwo, hw]; rfl)
        clear hw hC hwo
        go_enter Try.func111, Try.ntmps111
        go_wp2_with fail
        refine (isPresentation_any _ hr1).mono ?_
        rintro e w1 ⟨rfl, b1⟩
        rw [HP.out]
        have hc1 := (KB.out.belowS b1)
        have h2 := h1.below b1
        go_wp2_with fail
        refine (containsFuncL_any 181 #[.pointer (some ⟨w.heap.size, 0, none⟩)] (fun q => !isWordTo (d.1 - 1) q) ao n c ws _ h2 (fun _ _ => by rfl) (fun j hj w' a' n' c' hb' hi => codeFn_any w.heap.size d.1 a' n' c' _ w' ((hc1.belowS hb').cell 0) hi (by omega) (by omega))).mono ?_
        rintro e wq ⟨rfl, b2⟩
        rw [HA.out]
        have bq := below_tr b2 b1
        go_wp2_with fail
        go_ret
        exact ⟨ret_int HC.out.symm, below_tr bq HB.out⟩
      | true =>
        have hC : withC d ws = 0 := by unfold withC withOk; rw [hw, HP.out]; rfl
        have HC := Lib.hid hC
        have HA : Hid ((ws.any fun q => !isWordTo (d.1 - 1) q) = false) := Lib.hid (by rw [words_any, ← hwo, hw]; rfl)
        clear hw hC hwo
        go_enter Try.func111, Try.ntmps111
        go_wp2_with fail
        refine (isPresentation_any _ hr1).mono ?_
        rintro e w1 ⟨rfl, b1⟩
        rw [HP.out]
        have hc1 := (KB.out.belowS b1)
        have h2 := h1.below b1
        go_wp2_with fail
        refine (containsFuncL_any 181 #[.pointer (some ⟨w.heap.size, 0, none⟩)] (fun q => !isWordTo (d.1 - 1) q) ao n c ws _ h2 (fun _ _ => by rfl) (fun j hj w' a' n' c' hb' hi => codeFn_any w.heap.size d.1 a' n' c' _ w' ((hc1.belowS hb').cell 0) hi (by omega) (by omega))).mono ?_
        rintro e wq ⟨rfl, b2⟩
        rw [HA.out]
        have bq := below_tr b2 b1
        go_wp2_with fail
        go_ret
        exact ⟨ret_int HC.out.symm, below_tr bq HB.out⟩
    · have hs1 : decide ((24 : Int) < n) = true := by simp; omega
      have hC : withC d ws = 1 := by unfold withC withOk wordsTo; rw [decide_eq_false (by rw [HL.out]; exact hs)]; simp
      have HC := Lib.hid hC
      clear hC
      go_enter Try.func111, Try.ntmps111
      go_wp2_with fail
      refine (isPresentation_any _ hr1).mono ?_
      rintro e w1 ⟨rfl, b1⟩
      rw [HP.out]
      have bq := b1
      go_wp2_with fail
      go_ret
      exact ⟨ret_int HC.out.symm, below_tr bq HB.out⟩
end Go.Proofs.Ytpognnifgcacnaa

/- From contracts in names to contracts in words: the doors of the functions that the laws call. -/
namespace Go.Proofs.Ytpognnifgcacnaa
open Go.RowKit

theorem rdP {η : Env} {ω : Own?} {w : World} {x : Nat} {own : Bool} {E F : Nat} {ins : List (Nm × Ch)} {g : Int} {zss : List (List Int)} {v : Value} (hm : Mem η ω w (fun x => lk x ins)) (hx : lk x ins = some ⟨own, E, 1, .rows F (irows zss) []⟩) (hv : Den2 η (.agg [.val (I6 g), .sl x 0 zss.length]) v) (hn : zss.length ≤ 17592186044416) (hr : ∀ zs ∈ zss, zs.length ≤ 17592186044416) : RdP w v (g, zss) := by
  obtain ⟨us, rfl, hl, ha⟩ := hv
  obtain ⟨u0, g0, d0⟩ := ha 0 _ rfl
  obtain ⟨u1, g1, d1⟩ := ha 1 _ rfl
  have d0 : u0 = I6 g := d0
  subst d0
  obtain ⟨ao, c, rfl, hi⟩ := rdSS hm hx d1 hn hr
  refine ⟨ao, zss.length, c, ?_, hi⟩
  match us, hl with
  | ⟨[p, q]⟩, _ => simp at g0 g1; rw [g0, g1]
abbrev pA (g : Int) (R : Nat) : AV := .s (.agg [.val (I6 g), .sl 1003 0 R])
def Fit (zss : List (List Int)) : Prop := zss.length ≤ 4398046511104 ∧ ∀ zs ∈ zss, zs.length ≤ 4398046511104
theorem two_of {us : List Value} {u0 u1 : Value} (hl : us.length = 2) (g0 : us[0]? = some u0) (g1 : us[1]? = some u1) : us = [u0, u1] := by
  match us, hl with
  | [p, q], _ => simp at g0 g1; rw [g0, g1]
theorem one_of {us : List Value} {u0 : Value} (hl : us.length = 1) (g0 : us[0]? = some u0) : us = [u0] := by
  match us, hl with
  | [p], _ => simp at g0; rw [g0]
theorem fit_of {E1 E : Nat} {w : World} {lo hi : Nat} {v : Value} {zss : List (List Int)} (h : OwSS E1 E w lo hi v zss) : Fit zss := by
  obtain ⟨ao, n, c, us, rfl, ho⟩ := h
  refine ⟨by have := ho.own.2; have := ho.len; omega, fun zs hz => ?_⟩
  obtain ⟨j, hj, rfl⟩ := List.getElem_of_mem hz
  obtain ⟨u, d, hu, hd, ⟨a', n', c', rfl, h1⟩, _⟩ := ho.get (j := j) (by have := ho.len; omega)
  rw [List.getElem?_eq_getElem hj] at hd
  have := h1.len
  have h2 := h1.2
  rw [Option.some.inj hd]
  simp at this; omega
theorem ofP {E1 E : Nat} {w : World} {lo hi : Nat} {v : Value} {d : PresD} (h : OwP E1 E w lo hi v d) : ∃ u, v = .agg #[I6 d.1, u] ∧ OwSS E1 E w lo hi u d.2 := by
  obtain ⟨ao, n, c, us, rfl, ho⟩ := h
  exact ⟨_, rfl, _, _, _, us, rfl, ho⟩
theorem denL1 {η : Env} {a : AV} {u : Value} (h : Den η a u) : DenL η [a] [u] := ⟨rfl, fun j av hj => by
  match j, hj with
  | 0, hj => simp at hj; subst hj; exact ⟨u, rfl, h⟩⟩
theorem denL2 {η : Env} {a b : AV} {u v : Value} (h : Den η a u) (h' : Den η b v) : DenL η [a, b] [u, v] := ⟨rfl, fun j av hj => by
  match j, hj with
  | 0, hj => simp at hj; subst hj; exact ⟨u, rfl, h⟩
  | 1, hj => simp at hj; subst hj; exact ⟨v, rfl, h'⟩⟩
theorem denP {η : Env} {g : Int} {R : Nat} {u : Value} (h : Den1 η (.sl 1003 0 R) u) : Den η (pA g R) (.agg #[I6 g, u]) := ⟨_, rfl, rfl, fun j b hb => by
  match j, hb with
  | 0, hb => simp at hb; subst hb; exact ⟨_, by simp, rfl⟩
  | 1, hb => simp at hb; subst hb; exact ⟨_, by simp, h⟩⟩
theorem den_tup2 {η : Env} {a b : A2} {v : Value} (h : Den η (.tup [a, b]) v) : ∃ u u', v = .tuple #[u, u'] ∧ Den2 η a u ∧ Den2 η b u' := by
  obtain ⟨us, rfl, hl, ha⟩ := h
  obtain ⟨u0, g0, d0⟩ := ha 0 _ rfl
  obtain ⟨u1, g1, d1⟩ := ha 1 _ rfl
  refine ⟨u0, u1, ?_, d0, d1⟩
  match us, hl with
  | ⟨[p, q]⟩, _ => simp at g0 g1; rw [g0, g1]
/-- a function of a presentation and words -/
theorem callPW {f : FuncId} {outs : List (Nm × Ch)} {res : AV} {d : PresD} {ws : List (List Int)} (hf : Fit d.2 → Fit ws → FC Try.prog f [(1002, rowsRo ws), (1003, rowsRo d.2)] [pA d.1 d.2.length, o1 (.sl 1002 0 ws.length)] outs res []) {E1 E E1' E' : Nat} {w : World} {lo hi lo' hi' : Nat} {v v' : Value} (h : OwP E1 E w lo hi v d) (h' : OwSS E1' E' w lo' hi' v' ws) :
    Calls Try.prog f #[v, v'] w fun e w' => ∃ v η ω, e = .returned v ∧ Den η res v ∧ Mem η ω w' (fun x => lk x outs) ∧ Below w.heap.size w w' ∧ ∀ b, b < w.heap.size → ω b = none := by
  obtain ⟨u, rfl, hs⟩ := ofP h
  obtain ⟨hd, r, rfl, hv⟩ := ofSS 1003 49 2 hs
  obtain ⟨hd', r', rfl, hv'⟩ := ofSS 1002 49 2 h'
  exact (hf (fit_of hs) (fit_of h')).call (l := [(1002, (rowsRo ws, hd', r')), (1003, (rowsRo d.2, hd, r))]) (us := [_, _]) (fun p hp => by simp at hp; rcases hp with rfl | rfl; exact hv'; exact hv) rfl
    (denL2 (denP (den_sl (q := (rowsRo d.2, hd, r)) rfl)) (den_sl (q := (rowsRo ws, hd', r')) rfl))
/-- a function of a presentation -/
theorem callP {f : FuncId} {outs : List (Nm × Ch)} {res : AV} {d : PresD} (hf : Fit d.2 → FC Try.prog f [(1003, rowsRo d.2)] [pA d.1 d.2.length] outs res []) {E1 E : Nat} {w : World} {lo hi : Nat} {v : Value} (h : OwP E1 E w lo hi v d) :
    Calls Try.prog f #[v] w fun e w' => ∃ v η ω, e = .returned v ∧ Den η res v ∧ Mem η ω w' (fun x => lk x outs) ∧ Below w.heap.size w w' ∧ ∀ b, b < w.heap.size → ω b = none := by
  obtain ⟨u, rfl, hs⟩ := ofP h
  obtain ⟨hd, r, rfl, hv⟩ := ofSS 1003 49 2 hs
  exact (hf (fit_of hs)).call (l := [(1003, (rowsRo d.2, hd, r))]) (us := [_]) (fun p hp => by simp at hp; subst hp; exact hv) rfl (denL1 (denP (den_sl (q := (rowsRo d.2, hd, r)) rfl)))
theorem two_vals {P : Program} {f : FuncId} {args : Array Value} {w : World} {a b : Value} {outs : List (Nm × Ch)} (h : Calls P f args w fun e w' => ∃ v η ω, e = .returned v ∧ Den η (.tup [.one (.val a), .one (.val b)]) v ∧ Mem η ω w' (fun x => lk x outs) ∧ Below w.heap.size w w' ∧ ∀ b, b < w.heap.size → ω b = none) :
    Calls P f args w fun e w' => e = .returned (.tuple #[a, b]) ∧ Below w.heap.size w w' := by
  refine h.mono ?_
  rintro e w' ⟨v, η, ω, rfl, hd, _, hb, _⟩
  obtain ⟨u, u', rfl, h1, h2⟩ := den_tup2 hd
  have h1 : u = a := h1
  have h2 : u' = b := h2
  subst h1 h2
  exact ⟨rfl, hb⟩

end Go.Proofs.Ytpognnifgcacnaa

/- GroupOrder, IndexOfSubgroup: the reference's and the program's functions. -/
namespace Go.Proofs.Ytpognnifgcacnaa
open Go.RowKit

section
variable {P : Program} {η : Env} {ω : Own?} {w : World}
theorem Env.new_mono {x : Nm} {hd : Hd} {r : Nat → Hd} {av : AV} (h : av.has x = false) : av.mono η (η.new x hd r) := fun y hy => Env.new_ne η hd r y fun e => by rw [e, h] at hy; cases hy
/-- nil for the last argument -/
theorem FC.nil2 {f : FuncId} {ins outs : List (Nm × Ch)} {a0 res : AV} {back : List (Nat × AV)} {x : Nm} {E : TypeId} {d : Dat} (h : FC P f ((x, ⟨false, E, 1, d⟩) :: ins) [a0, o1 (.sl x 0 0)] outs res back) (hd : d.len = 0) (hx : lk x ins = none) (h0 : a0.has x = false) (hb : ∀ t av, lk t back = some av → t ≠ 1)
    (hq : ∀ y c, lk y ins = some c → ∀ l, c.d ≠ .flat l) : FC P f ins [a0, vv (.slice none 0 0)] outs res back := by
  intro w η ω us hm hdl
  obtain ⟨hl, ha⟩ := hdl
  obtain ⟨u0, g0, d0⟩ := ha 0 _ rfl
  obtain ⟨u1, g1, d1⟩ := ha 1 _ rfl
  have d1 : u1 = .slice none 0 0 := d1
  subst d1
  refine h w (η.new x ⟨none, 0, 1⟩ fun _ => ⟨none, 0, 1⟩) ω us ⟨fun y c hy => ?_, fun y hy => ?_⟩ ⟨hl, fun j av hj => ?_⟩
  · by_cases e : y = x
    · subst e
      simp [lk] at hy
      subst hy
      refine ⟨⟨none, 0, 1⟩, by simp [Env.new], rfl, ?_⟩
      show VecR ω w _ d.len _
      rw [hd]
      exact ⟨Nat.zero_le _, fun j hj => absurd hj (by omega)⟩
    · have hy : lk y ins = some c := by simpa [lk, beq_ne e] using hy
      obtain ⟨h', k1, k2⟩ := hm.1 y c hy
      exact ⟨h', by simp [Env.new, e, k1], k2.same (Same.refl ω w fun _ => True) trivial (fun _ => trivial) (fun i => by simp [Env.new, e]) fun l hl => absurd hl (hq y c hy l)⟩
  · have e : y ≠ x := fun e => by subst e; simp [lk] at hy
    have hy : lk y ins = none := by simpa [lk, beq_ne e] using hy
    simp [Env.new, e, hm.2 y hy]
  · match j, hj with
    | 0, hj => simp at hj; subst hj; exact ⟨u0, g0, d0.mono (Env.new_mono h0)⟩
    | 1, hj =>
      simp at hj; subst hj
      refine ⟨_, g1, ⟨_, _, rfl⟩, fun hd' he => ?_⟩
      simp [Env.new] at he; subst he
      exact ⟨_, rfl, fun _ => rfl, fun h0 => absurd h0 (by omega)⟩
end

theorem specCode_fc (g : Int) (rels ws : List (List Int)) (h1 : Fit rels) (h2 : Fit ws) :
    FC Try.prog 141 [(1002, rowsRo ws), (1003, rowsRo rels)] [pA g rels.length, o1 (.sl 1002 0 ws.length)] [] (vv (I6 (withC (g, rels) ws))) [] :=
  fc_of_calls fun w η ω us hm ⟨hl, ha⟩ => by
    obtain ⟨u0, g0, d0⟩ := ha 0 _ rfl
    obtain ⟨u1, g1, d1⟩ := ha 1 _ rfl
    have hp := rdP (x := 1003) (zss := rels) hm rfl d0 (by have := h1.1; omega) fun zs hz => by have := h1.2 zs hz; omega
    obtain ⟨ao, c, rfl, hi⟩ := rdSS (x := 1002) (zss := ws) hm rfl d1 (by have := h2.1; omega) fun zs hz => by have := h2.2 zs hz; omega
    rw [two_of hl g0 g1]
    exact specCode_any ao _ c ws w hp hi
theorem implCode_fc (g : Int) (rels ws : List (List Int)) (h1 : Fit rels) (h2 : Fit ws) :
    FC Try.prog 111 [(1002, rowsRo ws), (1003, rowsRo rels)] [pA g rels.length, o1 (.sl 1002 0 ws.length)] [] (vv (I6 (withC (g, rels) ws))) [] :=
  fc_of_calls fun w η ω us hm ⟨hl, ha⟩ => by
    obtain ⟨u0, g0, d0⟩ := ha 0 _ rfl
    obtain ⟨u1, g1, d1⟩ := ha 1 _ rfl
    have hp := rdP (x := 1003) (zss := rels) hm rfl d0 (by have := h1.1; omega) fun zs hz => by have := h1.2 zs hz; omega
    obtain ⟨ao, c, rfl, hi⟩ := rdSS (x := 1002) (zss := ws) hm rfl d1 (by have := h2.1; omega) fun zs hz => by have := h2.2 zs hz; omega
    rw [two_of hl g0 g1]
    exact implCode_any ao _ c ws w hp hi
theorem isPres_fc (g : Int) (rels : List (List Int)) (h1 : Fit rels) : FC Try.prog 137 [(1003, rowsRo rels)] [pA g rels.length] [] (vv (.bool (isPres (g, rels)))) [] :=
  fc_of_calls fun w η ω us hm ⟨hl, ha⟩ => by
    obtain ⟨u0, g0, d0⟩ := ha 0 _ rfl
    have hp := rdP (x := 1003) (zss := rels) hm rfl d0 (by have := h1.1; omega) fun zs hz => by have := h1.2 zs hz; omega
    rw [one_of hl g0]
    exact isPresentation_any w hp

/-- what a good presentation with words is -/
structure Good (ng : Nat) (rels ws : List (List Int)) : Prop where
  pos : 0 < ng
  hi : ng ≤ 5
  r : rels.length ≤ 24
  w : ws.length ≤ 24
  rl : ∀ w ∈ rels, Letters ng w
  wl : ∀ w ∈ ws, Letters ng w
  rn : ∀ w ∈ rels, w.length ≤ 1000000000
  wn : ∀ w ∈ ws, w.length ≤ 1000000000
theorem isWordTo_spec {g : Int} {ng : Nat} (hg : g = ng) {z : List Int} (h : isWordTo (g - 1) z = true) : Letters ng z ∧ z.length ≤ 64 := by
  unfold isWordTo at h
  rw [Bool.and_eq_true, List.all_eq_true] at h
  exact ⟨fun x hx => by have := inB_true.1 (h.2 x hx); omega, of_decide_eq_true h.1⟩
theorem good_of {g : Int} {rels ws : List (List Int)} (h : withOk (g, rels) ws = true) : ∃ ng : Nat, g = (ng : Int) ∧ Good ng rels ws := by
  unfold withOk at h
  rw [Bool.and_eq_true] at h
  obtain ⟨h1, h2⟩ := h
  have hg := isPres_gens h1
  have hge : g = ((g.toNat : Nat) : Int) := (Int.toNat_of_nonneg (by dsimp only at hg; omega)).symm
  unfold isPres at h1
  rw [Bool.and_eq_true, Bool.and_eq_true, List.all_eq_true] at h1
  unfold wordsTo at h2
  rw [Bool.and_eq_true, List.all_eq_true] at h2
  have hr : ∀ w ∈ rels, Letters g.toNat w ∧ w.length ≤ 64 := fun w hw => by
    have := h1.2 w hw
    rw [Bool.and_eq_true] at this
    exact isWordTo_spec hge this.1
  have hw : ∀ w ∈ ws, Letters g.toNat w ∧ w.length ≤ 64 := fun w hw => by
    have := h2.2 w hw
    rw [Bool.and_eq_true] at this
    exact isWordTo_spec hge this.1
  dsimp only at hg
  exact ⟨g.toNat, hge, by omega, by omega, of_decide_eq_true h1.1.2, of_decide_eq_true h2.1, fun w h => (hr w h).1, fun w h => (hw w h).1, fun w h => by have := (hr w h).2; omega, fun w h => by have := (hw w h).2; omega⟩

def cosX (d : PresD) (ws : List (List Int)) : CSt := runC d.1.toNat d.2 ws
def cosN (d : PresD) (ws : List (List Int)) : Nat := (numbered d.1.toNat (cosX d ws).1 (cosX d ws).2.1).1.length
def cosTab (d : PresD) (ws : List (List Int)) : List (List Int) := tableC d.1.toNat (cosX d ws).1 (cosX d ws).2.1
def idxR (d : PresD) (ws : List (List Int)) : Int := if withOk d ws = true then (if (cosX d ws).2.2 = true then 0 else (cosN d ws : Int)) else 0
def idxC (d : PresD) (ws : List (List Int)) : Int := if withOk d ws = true then (if (cosX d ws).2.2 = true then 3 else 0) else 1
theorem tableC_length (ng : Nat) (im : List (List Int)) (less : List Int) : (tableC ng im less).length = ng := by simp [tableC]
theorem tableC_rowlen {ng g : Nat} (im : List (List Int)) (less : List Int) (h : g < ng) : (lget (tableC ng im less) g).length = (numbered ng im less).1.length := by
  simp [tableC, lget, h]
theorem withC_ok {d : PresD} {ws : List (List Int)} (h : withOk d ws = true) : withC d ws = 0 := if_pos h
theorem withC_no {d : PresD} {ws : List (List Int)} (h : ¬ withOk d ws = true) : withC d ws = 1 := if_neg h
/-- the reference's and the program's tables: the same -/
theorem specTable_no {ng : Nat} {rels ws : List (List Int)} (h : Good ng rels ws) (hf : (runC ng rels ws).2.2 = true) :
    FC Try.prog 144 [(1002, rowsRo ws), (1003, rowsRo rels)] [pA ng rels.length, o1 (.sl 1002 0 ws.length)] [] (.tup [.one (.val (.slice none 0 0)), .one (.val (.bool false))]) [] :=
  l11Table_failed ng rels ws _ _ rfl rfl h.rl h.wl (by have := h.hi; omega) h.rn h.wn (by have := h.r; omega) (by have := h.w; omega) hf
theorem specTable_yes {ng : Nat} {rels ws : List (List Int)} (h : Good ng rels ws) (hf : (runC ng rels ws).2.2 = false) :
    FC Try.prog 144 [(1002, rowsRo ws), (1003, rowsRo rels)] [pA ng rels.length, o1 (.sl 1002 0 ws.length)] [(69, imOw (tableC ng (runC ng rels ws).1 (runC ng rels ws).2.1))] (.tup [.one (.sl 69 0 ng), .one (.val (.bool true))]) [] :=
  l11Table_done ng rels ws _ _ rfl rfl h.rl h.wl (by have := h.hi; omega) h.rn h.wn (by have := h.r; omega) (by have := h.w; omega) hf
theorem implTable_no {ng : Nat} {rels ws : List (List Int)} (h : Good ng rels ws) (hf : (runC ng rels ws).2.2 = true) :
    FC Try.prog 138 [(1002, rowsRo ws), (1003, rowsRo rels)] [pA ng rels.length, o1 (.sl 1002 0 ws.length)] [] (.tup [.one (.val (.slice none 0 0)), .one (.val (.bool false))]) [] := by
  have := enumerated_fc ng rels ws _ _ rfl rfl h.rl h.wl h.pos (by have := h.hi; omega) h.rn h.wn (by have := h.r; omega) (by have := h.w; omega) _ rfl
  have hf' : (runI ng rels ws).2.2 = true := by
    rcases runI_same ng rels ws with e | e
    · rw [← e]; exact hf
    · exact e.2
  rwa [if_pos hf', if_pos hf'] at this
theorem implTable_yes {ng : Nat} {rels ws : List (List Int)} (h : Good ng rels ws) (hf : (runC ng rels ws).2.2 = false) :
    FC Try.prog 138 [(1002, rowsRo ws), (1003, rowsRo rels)] [pA ng rels.length, o1 (.sl 1002 0 ws.length)] [(131, imOw (tableC ng (runC ng rels ws).1 (runC ng rels ws).2.1))] (.tup [.one (.sl 131 0 ng), .one (.val (.bool true))]) [] := by
  have := enumerated_fc ng rels ws _ _ rfl rfl h.rl h.wl h.pos (by have := h.hi; omega) h.rn h.wn (by have := h.r; omega) (by have := h.w; omega) _ rfl
  have he : runC ng rels ws = runI ng rels ws := by
    rcases runI_same ng rels ws with e | e
    · exact e
    · rw [hf] at e; exact absurd e.1 (by simp)
  rw [← he, if_neg (by rw [hf]; simp), if_neg (by rw [hf]; simp)] at this
  exact this

set_option maxRecDepth 100000 in
set_option maxHeartbeats 1000000 in
theorem specIndex_fc (g : Int) (rels ws : List (List Int)) (h1 : Fit rels) (h2 : Fit ws) :
    FC Try.prog 66 [(1002, rowsRo ws), (1003, rowsRo rels)] [pA g rels.length, o1 (.sl 1002 0 ws.length)] [] (.tup [.one (.val (I6 (idxR (g, rels) ws))), .one (.val (I6 (idxC (g, rels) ws)))]) [] := by
  have hC := specCode_fc g rels ws h1 h2
  refine fc_enter (nt := 27) Try.func66 rfl rfl (by simp) fun w0 ω0 => ?_
  by_cases hok : withOk (g, rels) ws = true
  · obtain ⟨ng, rfl, hG⟩ := good_of hok
    rw [withC_ok hok] at hC
    unfold idxR idxC
    rw [if_pos hok, if_pos hok]
    (refine goes_seq ?_; refine goes_region ?_; apply run_step rfl; (exact stp_box rfl rfl rfl rfl); apply run_step rfl; (exact stp_assign rfl rfl); apply run_step rfl; (exact stp_assign rfl rfl); refine run_nil ?_; refine fin_seq ?_; refine goes_seq ?_; refine goes_seq ?_; refine goes_region ?_; apply run_step rfl; (exact stp_loadAgg rfl rfl rfl rfl rfl rfl (by as_aux_lemma => kernel_rfl)); apply run_step rfl; (exact stp_move rfl rfl); apply run_step rfl; (apply call_gate 141; exact stp_callR hC (by as_aux_lemma => kernel_rfl) rfl rfl ⟨⟨.inl rfl, .inl rfl, trivial⟩, rfl, trivial⟩ ⟨⟨_, rfl, .inl rfl⟩, ⟨_, rfl, .inl rfl⟩, trivial⟩ rfl rfl); apply run_step rfl; (exact stp_assign rfl rfl); refine run_nil ?_; refine fin_seq ?_; refine goes_seq ?_; refine goes_region ?_; apply run_step rfl; (exact stp_move rfl rfl); apply run_step rfl; (exact stp_bin rfl rfl rfl rfl); refine run_nil ?_; refine fin_seq ?_)
    refine goes_cond rfl (fun e => by cases e) (fun _ => ?_)
    show Goes _ _ _ _ _ _ _
    have hX : cosX ((ng : Int), rels) ws = runC ng rels ws := by unfold cosX; rw [Int.toNat_natCast]
    rw [hX]
    cases hf : (runC ng rels ws).2.2 with
    | true =>
      have hT := specTable_no hG hf
      rw [if_pos rfl, if_pos rfl]
      (refine goes_skip ?_; refine fin_seq ?_; refine goes_seq ?_; refine goes_region ?_; apply run_step rfl; (exact stp_loadAgg rfl rfl rfl rfl rfl rfl (by as_aux_lemma => kernel_rfl)); apply run_step rfl; (exact stp_move rfl rfl); apply run_step rfl; (apply call_gate 144; exact stp_callR hT (by as_aux_lemma => kernel_rfl) rfl rfl ⟨⟨.inl rfl, .inl rfl, trivial⟩, rfl, trivial⟩ ⟨⟨_, rfl, .inl rfl⟩, ⟨_, rfl, .inl rfl⟩, trivial⟩ rfl rfl); apply run_step rfl; (exact stp_move rfl rfl); apply run_step rfl; (exact stp_extract rfl rfl rfl); apply run_step rfl; (exact stp_extract rfl rfl rfl); apply run_step rfl; (exact stp_assign rfl rfl); apply run_step rfl; (exact stp_assign rfl rfl); refine run_nil ?_; refine fin_seq ?_; refine goes_seq ?_; refine goes_seq ?_; refine goes_region ?_; apply run_step rfl; (exact stp_move rfl rfl); apply run_step rfl; (exact stp_not rfl rfl); refine run_nil ?_; refine fin_seq ?_)
      refine goes_cond rfl (fun _ => ?_) (fun e => by cases e)
      (refine goes_seq ?_; refine goes_region ?_; apply run_step rfl; (exact stp_assign rfl rfl); apply run_step rfl; (exact stp_assign rfl rfl); refine run_nil ?_; refine fin_seq ?_; refine goes_ret ?_; refine fin_ret_then ?_)
      exact fin_ret2 (.inl rfl) rfl (.tmp rfl) (.tmp rfl) trivial trivial
    | false =>
      have hT := specTable_yes hG hf
      have hN : cosN ((ng : Int), rels) ws = (lget (tableC ng (runC ng rels ws).1 (runC ng rels ws).2.1) 0).length := by
        unfold cosN; rw [hX, Int.toNat_natCast, tableC_rowlen _ _ hG.pos]
      rw [if_neg (by simp), if_neg (by simp), hN]
      have hrow : (irows (tableC ng (runC ng rels ws).1 (runC ng rels ws).2.1))[0]? = some (ivals (lget (tableC ng (runC ng rels ws).1 (runC ng rels ws).2.1) 0)) := irows_get (by rw [tableC_length]; exact hG.pos)
      have hlen : (irows (tableC ng (runC ng rels ws).1 (runC ng rels ws).2.1)).length = ng := by rw [irows_len, tableC_length]
      have hpos := hG.pos
      generalize tableC ng (runC ng rels ws).1 (runC ng rels ws).2.1 = T at *
      (refine goes_skip ?_; refine fin_seq ?_; refine goes_seq ?_; refine goes_region ?_; apply run_step rfl; (exact stp_loadAgg rfl rfl rfl rfl rfl rfl (by as_aux_lemma => kernel_rfl)); apply run_step rfl; (exact stp_move rfl rfl); apply run_step rfl; (first | (apply call_gate 144; exact stp_callN hT (by as_aux_lemma => kernel_rfl) rfl rfl ⟨⟨.inl rfl, .inl rfl, trivial⟩, rfl, trivial⟩ ⟨⟨_, rfl, .inl rfl⟩, ⟨_, rfl, .inl rfl⟩, trivial⟩ rfl rfl rfl) | exact stp_ix (j := 0) rfl rfl rfl rfl rfl (by as_aux_lemma => kernel_rfl) rfl hpos (Nat.le_of_eq hlen.symm)); apply run_step rfl; (exact stp_move rfl rfl); apply run_step rfl; (exact stp_extract rfl rfl rfl); apply run_step rfl; (exact stp_extract rfl rfl rfl); apply run_step rfl; (exact stp_assign rfl rfl); apply run_step rfl; (exact stp_assign rfl rfl); refine run_nil ?_; refine fin_seq ?_; refine goes_seq ?_; refine goes_seq ?_; refine goes_region ?_; apply run_step rfl; (exact stp_move rfl rfl); apply run_step rfl; (exact stp_not rfl rfl); refine run_nil ?_; refine fin_seq ?_)
      refine goes_cond rfl (fun e => by cases e) (fun _ => ?_)
      (refine goes_skip ?_; refine fin_seq ?_; refine goes_seq ?_; refine goes_region ?_; apply run_step rfl; (exact stp_move rfl rfl); apply run_step rfl; (exact stp_ix (j := 0) rfl rfl rfl rfl rfl (by as_aux_lemma => kernel_rfl) rfl hpos (Nat.le_of_eq hlen.symm)); apply run_step rfl; (exact stp_loadR rfl (by as_aux_lemma => kernel_rfl) rfl rfl rfl (by first | assumption | exact ivals_get (by assumption) | exact irows_get (by assumption) | exact ivals_get (by omega) | exact irows_get (by omega) | rfl) (by first | exact ivals_len _ | assumption | rfl)); apply run_step rfl; (exact stp_len rfl rfl rfl (by as_aux_lemma => kernel_rfl)); apply run_step rfl; (exact stp_assign rfl rfl); apply run_step rfl; (exact stp_assign rfl rfl); refine run_nil ?_; refine fin_seq ?_; refine goes_ret ?_)
      exact fin_ret2 (.inl rfl) rfl (.tmp rfl) (.tmp rfl) trivial trivial
  · rw [withC_no hok] at hC
    unfold idxR idxC
    rw [if_neg hok, if_neg hok]
    (refine goes_seq ?_; refine goes_region ?_; apply run_step rfl; (exact stp_box rfl rfl rfl rfl); apply run_step rfl; (exact stp_assign rfl rfl); apply run_step rfl; (exact stp_assign rfl rfl); refine run_nil ?_; refine fin_seq ?_; refine goes_seq ?_; refine goes_seq ?_; refine goes_region ?_; apply run_step rfl; (exact stp_loadAgg rfl rfl rfl rfl rfl rfl (by as_aux_lemma => kernel_rfl)); apply run_step rfl; (exact stp_move rfl rfl); apply run_step rfl; (apply call_gate 141; exact stp_callR hC (by as_aux_lemma => kernel_rfl) rfl rfl ⟨⟨.inl rfl, .inl rfl, trivial⟩, rfl, trivial⟩ ⟨⟨_, rfl, .inl rfl⟩, ⟨_, rfl, .inl rfl⟩, trivial⟩ rfl rfl); apply run_step rfl; (exact stp_assign rfl rfl); refine run_nil ?_; refine fin_seq ?_; refine goes_seq ?_; refine goes_region ?_; apply run_step rfl; (exact stp_move rfl rfl); apply run_step rfl; (exact stp_bin rfl rfl rfl rfl); refine run_nil ?_; refine fin_seq ?_)
    refine goes_cond rfl (fun _ => ?_) (fun e => by cases e)
    (refine goes_seq ?_; refine goes_region ?_; apply run_step rfl; (exact stp_move rfl rfl); apply run_step rfl; (exact stp_assign rfl rfl); apply run_step rfl; (exact stp_assign rfl rfl); refine run_nil ?_; refine fin_seq ?_; refine goes_ret ?_; refine fin_ret_then ?_)
    exact fin_ret2 (.inl rfl) rfl (.tmp rfl) (.tmp rfl) trivial trivial
end Go.Proofs.Ytpognnifgcacnaa
