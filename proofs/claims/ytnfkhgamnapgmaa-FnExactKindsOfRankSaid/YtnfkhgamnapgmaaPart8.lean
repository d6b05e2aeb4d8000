/- Fixed nodes, on masks; and-not and shifts of a bit. -/
import Derived.Test.YtnfkhgamnapgmaaPart7
import Derived.Test.YtnfkhgamnapgmaaPart4
namespace Go.Proofs.Ytnfkhgamnapgmaa
open Go.RowKit

/-- a without the bits of b -/
def notN (a b : Nat) : Nat := a ^^^ (a &&& b)
theorem notN_bit (a b j : Nat) : (notN a b).testBit j = (a.testBit j && !b.testBit j) := by
  unfold notN
  rw [Nat.testBit_xor, Nat.testBit_and]
  cases a.testBit j <;> cases b.testBit j <;> rfl
theorem notN_le (a b : Nat) : notN a b ≤ a := by
  apply Nat.le_of_testBit
  intro j h
  rw [notN_bit] at h
  simp at h
  exact h.1
theorem bits_not_i64 (a b : Nat) (ha : a < 1000000) (hb : b < 1000000) : IntKind.i64.wrap ((BitVec.ofInt 64 (a : Int) &&& ~~~ BitVec.ofInt 64 (b : Int)).toNat : Int) = ((notN a b : Nat) : Int) := by
  have h1 : (BitVec.ofInt 64 (a : Int)).toNat = a := by
    rw [BitVec.ofInt_natCast, BitVec.toNat_ofNat]; exact Nat.mod_eq_of_lt (by omega)
  have h2 : (BitVec.ofInt 64 (b : Int)).toNat = b := by
    rw [BitVec.ofInt_natCast, BitVec.toNat_ofNat]; exact Nat.mod_eq_of_lt (by omega)
  have h3 : BitVec.ofInt 64 (a : Int) &&& ~~~ BitVec.ofInt 64 (b : Int) = BitVec.ofInt 64 (a : Int) ^^^ (BitVec.ofInt 64 (a : Int) &&& BitVec.ofInt 64 (b : Int)) := by
    apply BitVec.eq_of_getLsbD_eq
    intro i hi
    rw [BitVec.getLsbD_and, BitVec.getLsbD_not, BitVec.getLsbD_xor, BitVec.getLsbD_and]
    simp only [hi, decide_true, Bool.true_and]
    cases (BitVec.ofInt 64 (a : Int)).getLsbD i <;> cases (BitVec.ofInt 64 (b : Int)).getLsbD i <;> rfl
  have h4 := notN_le a b
  rw [h3, BitVec.toNat_xor, BitVec.toNat_and, h1, h2, IntKind.wrap_i64]
  unfold notN at h4 ⊢
  omega
section
variable {P : Program} {nt : Nat} {S : St} {t : Nat} {ty : TypeId} {ps : String} {af : Array Edge} {gd : Option (Nat × Bool)} {x y : Operand}
theorem stp_notN {xt yt : TypeId} {a b : Nat} (ht : Nat.blt t nt = true) (hx : S.op x = some (vv (I6 (a : Int)))) (hy : S.op y = some (vv (I6 (b : Int)))) (ha : a < 1000000) (hb : b < 1000000) :
    Stp P nt ⟨some t, .binOp .andNot xt x y yt, ty, ps, af, gd⟩ S (S.put t (vv (I6 ((notN a b : Nat) : Int)))) :=
  Stp.pure rfl ht fun _ _ η _ s w hs => by
    refine ⟨I6 ((notN a b : Nat) : Int), ?_, rfl⟩
    have hb' := bits_not_i64 a b ha hb
    have e : Op.intBits .andNot .i64 (a : Int) (b : Int) = pure (I6 ((notN a b : Nat) : Int)) := by rw [← hb']; rfl
    simp [execOp, hs.opV hx, hs.opV hy, eqGuard, binOp, e]
/-- a bit, moved up -/
theorem stp_shlB {xt yt : TypeId} {kk : IntKind} {b g : Nat} (ht : Nat.blt t nt = true) (hx : S.op x = some (vv (I6 (b : Int)))) (hy : S.op y = some (vv (.int kk (g : Int)))) (hb : b ≤ 1) (hg : g ≤ 5) :
    Stp P nt ⟨some t, .binOp .shl xt x y yt, ty, ps, af, gd⟩ S (S.put t (vv (I6 ((b * 2 ^ g : Nat) : Int)))) :=
  Stp.pure rfl ht fun _ _ η _ s w hs => by
    refine ⟨I6 ((b * 2 ^ g : Nat) : Int), ?_, rfl⟩
    have e : Op.shift .shl .i64 (b : Int) kk (g : Int) = pure (I6 ((b * 2 ^ g : Nat) : Int)) := by
      have h2 : 2 ^ g ≤ 2 ^ 5 := Nat.pow_le_pow_right (by decide) hg
      have h3 : b * 2 ^ g ≤ 1 * 2 ^ 5 := Nat.mul_le_mul hb h2
      rw [shift_shl_i64 (x := (b : Int)) (y := (g : Int)) (yk := kk) (Int.natCast_nonneg g) (by omega), Int.toNat_natCast]
      have h4 : (b : Int) * 2 ^ g = ((b * 2 ^ g : Nat) : Int) := by rw [Int.natCast_mul, Int.natCast_pow]; rfl
      rw [h4, IntWalk.i64_in _ (by omega)]
    have hw : IntKind.i64.wrap ((b : Int) * 2 ^ g) = (b : Int) * 2 ^ g := by
      have h2 : 2 ^ g ≤ 2 ^ 5 := Nat.pow_le_pow_right (by decide) hg
      have h3 : b * 2 ^ g ≤ 1 * 2 ^ 5 := Nat.mul_le_mul hb h2
      have h4 : (b : Int) * 2 ^ g = ((b * 2 ^ g : Nat) : Int) := by rw [Int.natCast_mul, Int.natCast_pow]; rfl
      rw [h4]; exact IntWalk.i64_in _ (by omega)
    simp [execOp, hs.opV hx, hs.opV hy, eqGuard, binOp, e, hw]
end
theorem mBit_test (m g : Nat) : mBit m g = m.testBit g := by unfold mBit; rw [Nat.testBit_eq_decide_div_mod_eq]; rfl
/-- the bit g of m -/
def bitN (m g : Nat) : Nat := (m / 2 ^ g) &&& 1
theorem bitN_le (m g : Nat) : bitN m g ≤ 1 := by unfold bitN; rw [Nat.and_one_is_mod]; omega
theorem bitN_test (m g k j : Nat) : (bitN m g * 2 ^ k).testBit j = (m.testBit g && decide (j = k)) := by
  have h : bitN m g = if m.testBit g = true then 1 else 0 := by
    unfold bitN; rw [Nat.and_one_is_mod, Nat.testBit_eq_decide_div_mod_eq]
    rcases Nat.mod_two_eq_zero_or_one (m / 2 ^ g) with h | h <;> rw [h] <;> rfl
  rw [h]
  cases m.testBit g with
  | true =>
    rw [if_pos rfl, Nat.one_mul, Nat.testBit_two_pow, Bool.true_and]
    by_cases e : j = k
    · rw [e]
    · rw [decide_eq_false e, decide_eq_false (fun h => e h.symm)]
  | false => rw [if_neg (by simp), Nat.zero_mul, Nat.zero_testBit, Bool.false_and]
def lab (zs : List Int) (i : Nat) : Bool := !(iget zs i == 2)
def nearTo (zs : List Int) (set : Nat) : Nat → Nat
  | 0 => set
  | i + 1 => if lab zs i = true then nearTo zs set i ||| (bitN set i * 2 ^ (i + 1) ||| bitN set (i + 1) * 2 ^ i) else nearTo zs set i
def nbL (zs : List Int) (set i : Nat) : Bool := decide (0 < i) && (mBit set (i - 1) && lab zs (i - 1))
def nbR (zs : List Int) (set i : Nat) : Bool := decide (i + 1 < zs.length + 1) && (mBit set (i + 1) && lab zs i)
theorem near_test (zs : List Int) (set : Nat) : ∀ i j, (nearTo zs set i).testBit j = (set.testBit j || (decide (0 < j ∧ j - 1 < i) && (set.testBit (j - 1) && lab zs (j - 1))) || (decide (j < i) && (set.testBit (j + 1) && lab zs j)))
  | 0, j => by unfold nearTo; simp
  | i + 1, j => by
    unfold nearTo
    have ih := near_test zs set i j
    by_cases hl : lab zs i = true
    · rw [if_pos hl, Nat.testBit_or, Nat.testBit_or, bitN_test, bitN_test, ih]
      by_cases e1 : j = i + 1
      · subst e1
        have h1 : decide (0 < i + 1 ∧ i + 1 - 1 < i) = false := by simp
        have h2 : decide (0 < i + 1 ∧ i + 1 - 1 < i + 1) = true := by simp
        have h3 : decide (i + 1 < i) = false := by simp
        have h4 : decide (i + 1 < i + 1) = false := by simp
        have h5 : decide (i + 1 = i + 1) = true := by simp
        have h6 : decide (i + 1 = i) = false := by simp
        rw [h1, h2, h3, h4, h5, h6, Nat.add_sub_cancel, hl]
        cases set.testBit (i + 1) <;> cases set.testBit i <;> rfl
      · by_cases e2 : j = i
        · subst e2
          have h1 : decide (0 < j ∧ j - 1 < j) = decide (0 < j ∧ j - 1 < j + 1) := by apply decide_eq_decide.2; omega
          have h3 : decide (j < j) = false := by simp
          have h4 : decide (j < j + 1) = true := by simp
          have h5 : decide (j = j + 1) = false := by simp
          have h6 : decide (j = j) = true := by simp
          rw [h1, h3, h4, h5, h6, hl]
          cases set.testBit j <;> cases set.testBit (j + 1) <;> cases (decide (0 < j ∧ j - 1 < j + 1) && (set.testBit (j - 1) && lab zs (j - 1))) <;> rfl
        · have h1 : decide (0 < j ∧ j - 1 < i) = decide (0 < j ∧ j - 1 < i + 1) := by apply decide_eq_decide.2; omega
          have h3 : decide (j < i) = decide (j < i + 1) := by apply decide_eq_decide.2; omega
          have h5 : decide (j = i + 1) = false := by simpa using e1
          have h6 : decide (j = i) = false := by simpa using e2
          rw [h1, h3, h5, h6]
          simp
    · rw [if_neg hl, ih]
      have hl : lab zs i = false := by simpa using hl
      congr 1
      · congr 1
        by_cases e1 : j = i + 1
        · subst e1; rw [Nat.add_sub_cancel, hl]; simp
        · have h1 : decide (0 < j ∧ j - 1 < i) = decide (0 < j ∧ j - 1 < i + 1) := by apply decide_eq_decide.2; omega
          rw [h1]
      · by_cases e2 : j = i
        · subst e2; rw [hl]; simp
        · have h3 : decide (j < i) = decide (j < i + 1) := by apply decide_eq_decide.2; omega
          rw [h3]
def fixB (zs : List Int) (r set i : Nat) : Bool := !mBit (set ||| r) i && !(nbL zs set i || nbR zs set i)
def fixTo (zs : List Int) (r set : Nat) : Nat → Nat
  | 0 => 0
  | i + 1 => if fixB zs r set i = true then fixTo zs r set i ||| 2 ^ i else fixTo zs r set i
theorem fix_test (zs : List Int) (r set : Nat) : ∀ i j, (fixTo zs r set i).testBit j = (decide (j < i) && fixB zs r set j)
  | 0, j => by unfold fixTo; simp
  | i + 1, j => by
    unfold fixTo
    have ih := fix_test zs r set i j
    by_cases hf : fixB zs r set i = true
    · rw [if_pos hf, Nat.testBit_or, Nat.testBit_two_pow, ih]
      by_cases e : i = j
      · subst e; rw [hf]; simp
      · have h : decide (j < i) = decide (j < i + 1) := by apply decide_eq_decide.2; omega
        rw [h, decide_eq_false e, Bool.or_false]
    · rw [if_neg hf, ih]
      by_cases e : i = j
      · subst e
        have hf : fixB zs r set i = false := by simpa using hf
        rw [hf]; simp
      · have h : decide (j < i) = decide (j < i + 1) := by apply decide_eq_decide.2; omega
        rw [h]
theorem fix_lt (zs : List Int) (r set : Nat) : ∀ i, fixTo zs r set i < 2 ^ i := fun i => by
  apply Nat.lt_pow_two_of_testBit
  intro j hj
  rw [fix_test, decide_eq_false (by omega)]; rfl
/-- the fixed nodes -/
def fixN (zs : List Int) (r set : Nat) : Nat := fixTo zs r set (zs.length + 1)
theorem fix_eq (zs : List Int) (r set : Nat) : notN (allN zs) (nearTo zs set zs.length ||| r) = fixN zs r set := by
  apply Nat.eq_of_testBit_eq
  intro j
  unfold fixN
  rw [notN_bit, Nat.testBit_or, near_test, fix_test]
  have ha : (allN zs).testBit j = decide (j < zs.length + 1) := by unfold allN; rw [Nat.testBit_two_pow_sub_one]
  rw [ha]
  by_cases hj : j < zs.length + 1
  · rw [decide_eq_true hj, Bool.true_and, Bool.true_and]
    unfold fixB nbL nbR
    rw [mBit_test, mBit_test, mBit_test, Nat.testBit_or]
    have h1 : decide (0 < j ∧ j - 1 < zs.length) = decide (0 < j) := by apply decide_eq_decide.2; omega
    have h2 : decide (j < zs.length) = decide (j + 1 < zs.length + 1) := by apply decide_eq_decide.2; omega
    rw [h1, h2]
    cases set.testBit j <;> cases r.testBit j <;> cases (decide (0 < j) && (set.testBit (j - 1) && lab zs (j - 1))) <;> cases (decide (j + 1 < zs.length + 1) && (set.testBit (j + 1) && lab zs j)) <;> rfl
  · rw [decide_eq_false hj]; rfl
theorem near_lt (zs : List Int) (set : Nat) (hs : set < 1000) : ∀ i, i ≤ 4 → nearTo zs set i < 1024
  | 0, _ => by show set < 1024; omega
  | i + 1, h => by
    have ih := near_lt zs set hs i (by omega)
    unfold nearTo
    split
    · have hp : ∀ g k, k ≤ 5 → bitN set g * 2 ^ k < 2 ^ 10 := fun g k hk => by
        have h1 := bitN_le set g
        have h2 : 2 ^ k ≤ 2 ^ 5 := Nat.pow_le_pow_right (by decide) hk
        have h3 : bitN set g * 2 ^ k ≤ 1 * 2 ^ 5 := Nat.mul_le_mul h1 h2
        omega
      exact Nat.or_lt_two_pow (n := 10) ih (Nat.or_lt_two_pow (hp _ _ (by omega)) (hp _ _ (by omega)))
    · exact ih
end Go.Proofs.Ytnfkhgamnapgmaa

/- FixedNodes, the program's. guards: -/
namespace Go.Proofs.Ytnfkhgamnapgmaa
open Go.RowKit

set_option maxRecDepth 100000 in
set_option maxHeartbeats 1000000 in
theorem fixI_fc (zs : List Int) (L r set : Nat) (hL : zs.length = L) (h4 : L ≤ 4) (hr : r < 1000) (hs : set < 1000) :
    FC Try.prog 141 [(1003, wRo zs)] [o1 (.sl 1003 0 L), vv (I6 r), vv (I6 set)] [] (vv (I6 (fixN zs r set : Nat))) [] := by
  have hA := allI_fc zs L hL h4
  have hil : L ≤ (ivals zs).length := by rw [ivals_len, hL]; exact Nat.le_refl _
  have hss : set < 1000000 := by omega
  rw [← fix_eq, hL]
  refine fc_enter (nt := 44) Try.func141 rfl rfl (by simp) fun w0 ω0 => ?_
  (refine goes_seq ?_; refine goes_region ?_; apply run_step rfl; (exact stp_assign rfl rfl); refine run_nil ?_; refine fin_seq ?_; refine goes_seq ?_; refine goes_region ?_; apply run_step rfl; (exact stp_move rfl rfl); apply run_step rfl; (exact stp_assign rfl rfl); refine run_nil ?_; refine fin_seq ?_; refine goes_seq ?_; refine goes_seq ?_; refine goes_region ?_; apply run_step rfl; (exact stp_move rfl rfl); apply run_step rfl; (exact stp_len rfl rfl rfl (by as_aux_lemma => kernel_rfl)); apply run_step rfl; (exact stp_move rfl rfl); refine run_nil ?_; refine fin_seq ?_; refine goes_block ?_)
  refine goes_loop (fun i : Nat => St.of [(0, o1 (.sl 1003 0 L)), (1, vv (I6 r)), (2, vv (I6 set)), (7, vv (I6 (nearTo zs set i : Nat))), (11, o1 (.sl 1003 0 L)), (12, vv (I6 L)), (13, vv (I6 i))] [(1003, wRo zs)]) (fun i => i ≤ L) (fun i => L - i) 0 (Nat.zero_le _) (Wk.of ⟨rfl, rfl, rfl, rfl, rfl, rfl, rfl, trivial⟩ ⟨rfl, trivial⟩ trivial) ?_
  rintro i hi
  (refine goes_seq ?_; refine goes_region ?_; apply run_step rfl; (exact stp_bin rfl rfl rfl rfl); refine run_nil ?_; refine fin_seq ?_; refine goes_seq ?_)
  refine goes_if rfl (fun hlt => ?_) (fun hlt => ?_)
  · have hiL : i < L := by omega
    have gz : (ivals zs)[i]? = some (I6 (iget zs i)) := ivals_get (by omega)
    have hn := near_lt zs set hs i (by omega)
    have hi64 : i ≤ 64 := by omega
    have hi641 : i + 1 ≤ 64 := by omega
    have hg0 : i ≤ 5 := by omega
    have hg1 : i + 1 ≤ 5 := by omega
    have hw1 : IntKind.i64.wrap ((i : Int) + 1) = ((i + 1 : Nat) : Int) := (IntWalk.i64_in _ (by omega)).trans (by omega)
    have hp : ∀ g k, k ≤ 5 → bitN set g * 2 ^ k < 2 ^ 10 := fun g k hk => by
      have h1 := bitN_le set g
      have h2 : 2 ^ k ≤ 2 ^ 5 := Nat.pow_le_pow_right (by decide) hk
      have h3 : bitN set g * 2 ^ k ≤ 1 * 2 ^ 5 := Nat.mul_le_mul h1 h2
      omega
    have hb1 : bitN set i * 2 ^ (i + 1) < 1000000 := by have := hp i (i + 1) hg1; omega
    have hb2 : bitN set (i + 1) * 2 ^ i < 1000000 := by have := hp (i + 1) i hg0; omega
    have hb3 : nearTo zs set i < 1000000 := by omega
    have hb4 : (bitN set i * 2 ^ (i + 1) ||| bitN set (i + 1) * 2 ^ i) < 1000000 := by
      have := Nat.or_lt_two_pow (n := 10) (hp i (i + 1) hg1) (hp (i + 1) i hg0); omega
    (refine goes_skip ?_; refine fin_seq ?_; refine goes_seq ?_; refine goes_block ?_; refine goes_seq ?_; refine goes_region ?_; apply run_step rfl; (exact stp_move rfl rfl); apply run_step rfl; (first | exact stp_ix (j := i) rfl rfl rfl rfl rfl (by as_aux_lemma => kernel_rfl) rfl hiL hil | exact stp_loadV rfl (by as_aux_lemma => kernel_rfl) rfl rfl rfl gz); apply run_step rfl; (first | exact stp_ix (j := i) rfl rfl rfl rfl rfl (by as_aux_lemma => kernel_rfl) rfl hiL hil | exact stp_loadV rfl (by as_aux_lemma => kernel_rfl) rfl rfl rfl gz); apply run_step rfl; (exact stp_assign rfl rfl); apply run_step rfl; (exact stp_assign rfl rfl); refine run_nil ?_; refine fin_seq ?_; refine goes_seq ?_; refine goes_region ?_; apply run_step rfl; (exact stp_move rfl rfl); apply run_step rfl; (exact stp_bin rfl rfl rfl rfl); refine run_nil ?_; refine fin_seq ?_)
    refine goes_cond rfl (fun h => ?_) (fun h => ?_)
    · have hv : nearTo zs set (i + 1) = nearTo zs set i ||| (bitN set i * 2 ^ (i + 1) ||| bitN set (i + 1) * 2 ^ i) := by rw [nearTo, if_pos (show lab zs i = true from h)]
      (skip)
      apply goes_draw 17 [] [[], [], [], [1, 2], [1, 2, 3], [], [5], [1, 2, 3, 4, 5, 6], [], [], [9], [8, 9, 10], [8, 9, 10, 11], [], [8, 9, 10, 11, 12, 13], [1, 2, 3, 4, 5, 6, 7, 8, 9, 10, 11, 12, 13, 14], [0, 1, 2, 3, 4, 5, 6, 7, 8, 9, 10, 11, 12, 13, 14, 15], [0, 1, 2, 3, 4, 5, 6, 7, 8, 9, 10, 11, 12, 13, 14, 15, 16]] [20, 21, 22, 23, 24, 25, 26, 27, 28, 29, 30, 31, 32, 33, 34, 35, 36] [] (by kernel_rfl) (by kernel_rfl)
      · (apply draw_put rfl; (focus (intro S1 hS; exact stp_move rfl (hS.op rfl))))
        (apply draw_put rfl; (focus (intro S1 hS; exact stp_move rfl (hS.op rfl))))
        (apply draw_put rfl; (focus (intro S1 hS; exact stp_move rfl (hS.op rfl))))
        (apply draw_put rfl; (focus (intro S1 hS; exact stp_shrN (g := i) rfl (hS.op rfl) (hS.op rfl) hi64)))
        (apply draw_put rfl; (focus (intro S1 hS; exact stp_bit rfl (hS.op rfl) hss)))
        (apply draw_put rfl; (focus (intro S1 hS; exact stp_move rfl (hS.op rfl))))
        (apply draw_put rfl; (focus (intro S1 hS; exact stp_add rfl (hS.op rfl) (hS.op rfl) hw1)))
        (apply draw_put rfl; (focus (intro S1 hS; exact stp_shlB (b := bitN set i) (g := i + 1) rfl (hS.op rfl) (hS.op rfl) (bitN_le _ _) hg1)))
        (apply draw_put rfl; (focus (intro S1 hS; exact stp_move rfl (hS.op rfl))))
        (apply draw_put rfl; (focus (intro S1 hS; exact stp_move rfl (hS.op rfl))))
        (apply draw_put rfl; (focus (intro S1 hS; exact stp_add rfl (hS.op rfl) (hS.op rfl) hw1)))
        (apply draw_put rfl; (focus (intro S1 hS; exact stp_shrN (g := i + 1) rfl (hS.op rfl) (hS.op rfl) hi641)))
        (apply draw_put rfl; (focus (intro S1 hS; exact stp_bit rfl (hS.op rfl) hss)))
        (apply draw_put rfl; (focus (intro S1 hS; exact stp_move rfl (hS.op rfl))))
        (apply draw_put rfl; (focus (intro S1 hS; exact stp_shlB (b := bitN set (i + 1)) (g := i) rfl (hS.op rfl) (hS.op rfl) (bitN_le _ _) hg0)))
        (apply draw_put rfl; (focus (intro S1 hS; exact stp_orN rfl (hS.op rfl) (hS.op rfl) hb1 hb2)))
        (apply draw_put rfl; (focus (intro S1 hS; exact stp_orN rfl (hS.op rfl) (hS.op rfl) hb3 hb4)))
        exact Draw.nil
      · rfl
      refine rest_join (St.of [(0, o1 (.sl 1003 0 L)), (1, vv (I6 r)), (2, vv (I6 set)), (7, vv (I6 (nearTo zs set (i + 1) : Nat))), (11, o1 (.sl 1003 0 L)), (12, vv (I6 L)), (13, vv (I6 i))] [(1003, wRo zs)]) ?_ ?_
      · ((apply rest_one 17 rfl (by as_aux_lemma => kernel_rfl) rfl rfl; (exact stp_assign rfl rfl)); (refine rest_done (by as_aux_lemma => kernel_rfl) ?_; exact fin_join (Wk.of ⟨rfl, rfl, rfl, congrArg (fun z : Nat => some (vv (I6 (z : Int)))) hv.symm, rfl, rfl, rfl, trivial⟩ ⟨rfl, trivial⟩ trivial)))
      (refine fin_block ?_; refine fin_seq ?_; refine goes_region ?_; apply run_step rfl; (exact stp_add rfl rfl rfl (by first | exact IntWalk.i64_in _ (by omega) | rfl)); apply run_step rfl; (exact stp_move rfl rfl); refine run_nil ?_)
      exact fin_round (i + 1) (by omega) (by omega) (Wk.of ⟨rfl, rfl, rfl, rfl, rfl, rfl, rfl, trivial⟩ ⟨rfl, trivial⟩ trivial)
    · have hv : nearTo zs set (i + 1) = nearTo zs set i := by
        have h : lab zs i = false := h
        rw [nearTo, if_neg (by rw [h]; simp)]
      (refine goes_skip ?_; refine fin_block ?_; refine fin_seq ?_; refine goes_region ?_; apply run_step rfl; (exact stp_add rfl rfl rfl (by first | exact IntWalk.i64_in _ (by omega) | rfl)); apply run_step rfl; (exact stp_move rfl rfl); refine run_nil ?_)
      exact fin_round (i + 1) (by omega) (by omega) (Wk.of ⟨rfl, rfl, rfl, congrArg (fun z : Nat => some (vv (I6 (z : Int)))) hv.symm, rfl, rfl, rfl, trivial⟩ ⟨rfl, trivial⟩ trivial)
  · obtain rfl : i = L := by omega
    have hn := near_lt zs set hs i h4
    have hb1 : nearTo zs set i < 1000000 := by omega
    have hb2 : r < 1000000 := by omega
    have hb3 : allN zs < 1000000 := by have := allN_lt (zs := zs) (by omega); omega
    have hb4 : (nearTo zs set i ||| r) < 1000000 := by
      have := Nat.or_lt_two_pow (n := 10) (x := nearTo zs set i) (y := r) (by omega) (by omega); omega
    (refine goes_exit ?_; refine fin_exit_then ?_; refine fin_exit_then ?_; refine fin_exit_eq ?_; refine fin_seq ?_; refine goes_seq ?_; refine goes_region ?_; apply run_step rfl; (exact stp_move rfl rfl); apply run_step rfl; (first | (apply call_gate 133; exact stp_callR hA (by as_aux_lemma => kernel_rfl) rfl rfl ⟨rfl, trivial⟩ ⟨⟨_, rfl, .inl rfl⟩, trivial⟩ rfl rfl) | exact stp_orN rfl rfl rfl hb1 hb2 | exact stp_notN rfl rfl rfl hb3 hb4); apply run_step rfl; (exact stp_move rfl rfl); apply run_step rfl; (exact stp_move rfl rfl); apply run_step rfl; (first | (apply call_gate 133; exact stp_callR hA (by as_aux_lemma => kernel_rfl) rfl rfl ⟨rfl, trivial⟩ ⟨⟨_, rfl, .inl rfl⟩, trivial⟩ rfl rfl) | exact stp_orN rfl rfl rfl hb1 hb2 | exact stp_notN rfl rfl rfl hb3 hb4); apply run_step rfl; (first | (apply call_gate 133; exact stp_callR hA (by as_aux_lemma => kernel_rfl) rfl rfl ⟨rfl, trivial⟩ ⟨⟨_, rfl, .inl rfl⟩, trivial⟩ rfl rfl) | exact stp_orN rfl rfl rfl hb1 hb2 | exact stp_notN rfl rfl rfl hb3 hb4); apply run_step rfl; (exact stp_assign rfl rfl); refine run_nil ?_; refine fin_seq ?_; refine goes_ret ?_)
    exact fin_ret1 (.inl rfl) rfl (.tmp rfl) trivial trivial
/-- the error of a ringed diagram and a mask -/
def setC (zs : List Int) (m s : Int) : Int := if (isDiag zs && (inB m 0 (allN zs) && !inB s 0 (allN zs))) = true then 2 else ringC zs m
set_option maxRecDepth 100000 in
set_option maxHeartbeats 1000000 in
theorem setI_fc (zs : List Int) (L : Nat) (m s : Int) (hL : zs.length = L) (hn : L ≤ 4398046511104) :
    FC Try.prog 132 [(1003, wRo zs)] [o1 (.sl 1003 0 L), vv (I6 m), vv (I6 s)] [] (vv (I6 (setC zs m s))) [] := by
  have hI := diagI_fc zs L hL hn
  unfold setC
  refine fc_enter (nt := 41) Try.func132 rfl rfl (by simp) fun w0 ω0 => ?_
  cases hd : isDiag zs with
  | false =>
    rw [hd] at hI
    rw [Bool.false_and, if_neg (by simp), ringC_no hd]
    (refine goes_seq ?_; refine goes_region ?_; apply run_step rfl; (exact stp_assign rfl rfl); refine run_nil ?_; refine fin_seq ?_; refine goes_seq ?_; refine goes_block ?_; refine goes_seq ?_; refine goes_region ?_; apply run_step rfl; (exact stp_move rfl rfl); apply run_step rfl; (apply call_gate 82; exact stp_callR hI (by as_aux_lemma => kernel_rfl) rfl rfl ⟨rfl, trivial⟩ ⟨⟨_, rfl, .inl rfl⟩, trivial⟩ rfl rfl); apply run_step rfl; (exact stp_not rfl rfl); apply run_step rfl; (exact stp_assign rfl rfl); refine run_nil ?_; refine fin_seq ?_)
    refine goes_cond rfl (fun _ => ?_) (fun e => by cases e)
    (refine goes_seq ?_; refine goes_region ?_; apply run_step rfl; (exact stp_assign rfl rfl); refine run_nil ?_; refine fin_seq ?_; refine goes_ret ?_; refine fin_ret_block ?_; refine fin_ret_then ?_)
    exact fin_ret1 (.inl rfl) rfl (.tmp rfl) trivial trivial
  | true =>
    rw [hd] at hI
    have h4 : L ≤ 4 := by have := isDiag_len hd; omega
    have hM := isMask_fc zs L m hL h4
    have hS := isMask_fc zs L s hL h4
    have hA := allI_fc zs L hL h4
    rw [Bool.true_and]
    cases hb : inB m 0 (allN zs) with
    | false =>
      rw [hb] at hM
      rw [Bool.false_and, if_neg (by simp), ringC_out hd hb]
      (refine goes_seq ?_; refine goes_region ?_; apply run_step rfl; (exact stp_assign rfl rfl); refine run_nil ?_; refine fin_seq ?_; refine goes_seq ?_; refine goes_block ?_; refine goes_seq ?_; refine goes_region ?_; apply run_step rfl; (exact stp_move rfl rfl); apply run_step rfl; (apply call_gate 82; exact stp_callR hI (by as_aux_lemma => kernel_rfl) rfl rfl ⟨rfl, trivial⟩ ⟨⟨_, rfl, .inl rfl⟩, trivial⟩ rfl rfl); apply run_step rfl; (exact stp_not rfl rfl); apply run_step rfl; (exact stp_assign rfl rfl); refine run_nil ?_; refine fin_seq ?_)
      refine goes_cond rfl (fun e => by cases e) (fun _ => ?_)
      (refine goes_seq ?_; refine goes_region ?_; apply run_step rfl; (exact stp_move rfl rfl); apply run_step rfl; (exact stp_move rfl rfl); apply run_step rfl; (apply call_gate 83; exact stp_callR hM (by as_aux_lemma => kernel_rfl) rfl rfl ⟨rfl, rfl, trivial⟩ ⟨⟨_, rfl, .inl rfl⟩, trivial⟩ rfl rfl); apply run_step rfl; (exact stp_not rfl rfl); apply run_step rfl; (exact stp_move rfl rfl); apply run_gNo rfl rfl rfl rfl rfl; apply run_gNo rfl rfl rfl rfl rfl; apply run_gNo rfl rfl rfl rfl rfl; apply run_gNo rfl rfl rfl rfl rfl; apply run_step rfl; (exact stp_pickT rfl rfl rfl); apply run_step rfl; (exact stp_assign rfl rfl); refine run_nil ?_; refine fin_seq ?_)
      refine goes_cond rfl (fun _ => ?_) (fun e => by cases e)
      (refine goes_seq ?_; refine goes_region ?_; apply run_step rfl; (exact stp_assign rfl rfl); refine run_nil ?_; refine fin_seq ?_; refine goes_ret ?_; refine fin_ret_block ?_; refine fin_ret_then ?_)
      exact fin_ret1 (.inl rfl) rfl (.tmp rfl) trivial trivial
    | true =>
      rw [hb] at hM
      rw [Bool.true_and]
      have hlt := allN_lt (zs := zs) (by omega)
      have hbb := inB_true.1 hb
      obtain ⟨k, rfl⟩ := Int.eq_ofNat_of_zero_le hbb.1
      cases hs : inB s 0 (allN zs) with
      | false =>
        rw [hs] at hS
        rw [if_pos (by rfl)]
        (refine goes_seq ?_; refine goes_region ?_; apply run_step rfl; (exact stp_assign rfl rfl); refine run_nil ?_; refine fin_seq ?_; refine goes_seq ?_; refine goes_block ?_; refine goes_seq ?_; refine goes_region ?_; apply run_step rfl; (exact stp_move rfl rfl); apply run_step rfl; (apply call_gate 82; exact stp_callR hI (by as_aux_lemma => kernel_rfl) rfl rfl ⟨rfl, trivial⟩ ⟨⟨_, rfl, .inl rfl⟩, trivial⟩ rfl rfl); apply run_step rfl; (exact stp_not rfl rfl); apply run_step rfl; (exact stp_assign rfl rfl); refine run_nil ?_; refine fin_seq ?_)
        refine goes_cond rfl (fun e => by cases e) (fun _ => ?_)
        (refine goes_seq ?_; refine goes_region ?_; apply run_step rfl; (exact stp_move rfl rfl); apply run_step rfl; (exact stp_move rfl rfl); apply run_step rfl; (first | (apply call_gate 83; exact stp_callR hM (by as_aux_lemma => kernel_rfl) rfl rfl ⟨rfl, rfl, trivial⟩ ⟨⟨_, rfl, .inl rfl⟩, trivial⟩ rfl rfl) | (apply call_gate 83; exact stp_callR hS (by as_aux_lemma => kernel_rfl) rfl rfl ⟨rfl, rfl, trivial⟩ ⟨⟨_, rfl, .inl rfl⟩, trivial⟩ rfl rfl)); apply run_step rfl; (exact stp_not rfl rfl); apply run_step rfl; (exact stp_move rfl rfl); apply run_gYes rfl rfl rfl; (exact stp_move rfl rfl); apply run_gYes rfl rfl rfl; (exact stp_move rfl rfl); apply run_gYes rfl rfl rfl; (first | (apply call_gate 83; exact stp_callR hM (by as_aux_lemma => kernel_rfl) rfl rfl ⟨rfl, rfl, trivial⟩ ⟨⟨_, rfl, .inl rfl⟩, trivial⟩ rfl rfl) | (apply call_gate 83; exact stp_callR hS (by as_aux_lemma => kernel_rfl) rfl rfl ⟨rfl, rfl, trivial⟩ ⟨⟨_, rfl, .inl rfl⟩, trivial⟩ rfl rfl)); apply run_gYes rfl rfl rfl; (exact stp_not rfl rfl); apply run_step rfl; (exact stp_pickF rfl rfl rfl); apply run_step rfl; (exact stp_assign rfl rfl); refine run_nil ?_; refine fin_seq ?_)
        refine goes_cond rfl (fun _ => ?_) (fun e => by cases e)
        (refine goes_seq ?_; refine goes_region ?_; apply run_step rfl; (exact stp_assign rfl rfl); refine run_nil ?_; refine fin_seq ?_; refine goes_ret ?_; refine fin_ret_block ?_; refine fin_ret_then ?_)
        exact fin_ret1 (.inl rfl) rfl (.tmp rfl) trivial trivial
      | true =>
        rw [hs] at hS
        rw [if_neg (by simp)]
        (refine goes_seq ?_; refine goes_region ?_; apply run_step rfl; (exact stp_assign rfl rfl); refine run_nil ?_; refine fin_seq ?_; refine goes_seq ?_; refine goes_block ?_; refine goes_seq ?_; refine goes_region ?_; apply run_step rfl; (exact stp_move rfl rfl); apply run_step rfl; (apply call_gate 82; exact stp_callR hI (by as_aux_lemma => kernel_rfl) rfl rfl ⟨rfl, trivial⟩ ⟨⟨_, rfl, .inl rfl⟩, trivial⟩ rfl rfl); apply run_step rfl; (exact stp_not rfl rfl); apply run_step rfl; (exact stp_assign rfl rfl); refine run_nil ?_; refine fin_seq ?_)
        refine goes_cond rfl (fun e => by cases e) (fun _ => ?_)
        (refine goes_seq ?_; refine goes_region ?_; apply run_step rfl; (exact stp_move rfl rfl); apply run_step rfl; (exact stp_move rfl rfl); apply run_step rfl; (first | (apply call_gate 83; exact stp_callR hM (by as_aux_lemma => kernel_rfl) rfl rfl ⟨rfl, rfl, trivial⟩ ⟨⟨_, rfl, .inl rfl⟩, trivial⟩ rfl rfl) | (apply call_gate 83; exact stp_callR hS (by as_aux_lemma => kernel_rfl) rfl rfl ⟨rfl, rfl, trivial⟩ ⟨⟨_, rfl, .inl rfl⟩, trivial⟩ rfl rfl)); apply run_step rfl; (exact stp_not rfl rfl); apply run_step rfl; (exact stp_move rfl rfl); apply run_gYes rfl rfl rfl; (exact stp_move rfl rfl); apply run_gYes rfl rfl rfl; (exact stp_move rfl rfl); apply run_gYes rfl rfl rfl; (first | (apply call_gate 83; exact stp_callR hM (by as_aux_lemma => kernel_rfl) rfl rfl ⟨rfl, rfl, trivial⟩ ⟨⟨_, rfl, .inl rfl⟩, trivial⟩ rfl rfl) | (apply call_gate 83; exact stp_callR hS (by as_aux_lemma => kernel_rfl) rfl rfl ⟨rfl, rfl, trivial⟩ ⟨⟨_, rfl, .inl rfl⟩, trivial⟩ rfl rfl)); apply run_gYes rfl rfl rfl; (exact stp_not rfl rfl); apply run_step rfl; (exact stp_pickF rfl rfl rfl); apply run_step rfl; (exact stp_assign rfl rfl); refine run_nil ?_; refine fin_seq ?_)
        refine goes_cond rfl (fun e => by cases e) (fun _ => ?_)
        cases hf : finB zs (allN zs) with
        | false =>
          have hO := ordNo_fc zs L (allN zs) hL hd (by omega) hf
          rw [ringC_inf hd hb hf]
          (refine goes_skip ?_; refine fin_block ?_; refine fin_seq ?_; refine goes_seq ?_; refine goes_seq ?_; refine goes_region ?_; apply run_step rfl; (exact stp_move rfl rfl); apply run_step rfl; (exact stp_move rfl rfl); apply run_step rfl; (first | (apply call_gate 133; exact stp_callR hA (by as_aux_lemma => kernel_rfl) rfl rfl ⟨rfl, trivial⟩ ⟨⟨_, rfl, .inl rfl⟩, trivial⟩ rfl rfl) | (apply call_gate 140; exact stp_callR hO (by as_aux_lemma => kernel_rfl) rfl rfl ⟨rfl, rfl, trivial⟩ ⟨⟨_, rfl, .inl rfl⟩, trivial⟩ rfl rfl)); apply run_step rfl; (first | (apply call_gate 133; exact stp_callR hA (by as_aux_lemma => kernel_rfl) rfl rfl ⟨rfl, trivial⟩ ⟨⟨_, rfl, .inl rfl⟩, trivial⟩ rfl rfl) | (apply call_gate 140; exact stp_callR hO (by as_aux_lemma => kernel_rfl) rfl rfl ⟨rfl, rfl, trivial⟩ ⟨⟨_, rfl, .inl rfl⟩, trivial⟩ rfl rfl)); apply run_step rfl; (exact stp_move rfl rfl); apply run_step rfl; (exact stp_extract rfl rfl rfl); apply run_step rfl; (exact stp_extract rfl rfl rfl); apply run_step rfl; (exact stp_assign rfl rfl); apply run_step rfl; (exact stp_assign rfl rfl); refine run_nil ?_; refine fin_seq ?_; refine goes_seq ?_; refine goes_region ?_; apply run_step rfl; (exact stp_move rfl rfl); apply run_step rfl; (exact stp_not rfl rfl); apply run_step rfl; (exact stp_move rfl rfl); apply run_gNo rfl rfl rfl rfl rfl; apply run_gNo rfl rfl rfl rfl rfl; apply run_gNo rfl rfl rfl rfl rfl; apply run_gNo rfl rfl rfl rfl rfl; apply run_gNo rfl rfl rfl rfl rfl; apply run_gNo rfl rfl rfl rfl rfl; apply run_step rfl; (exact stp_pickT rfl rfl rfl); refine run_nil ?_; refine fin_seq ?_)
          refine goes_cond rfl (fun _ => ?_) (fun e => by cases e)
          (refine goes_seq ?_; refine goes_region ?_; apply run_step rfl; (exact stp_assign rfl rfl); refine run_nil ?_; refine fin_seq ?_; refine goes_ret ?_; refine fin_ret_then ?_)
          exact fin_ret1 (.inl rfl) rfl (.tmp rfl) trivial trivial
        | true =>
          have hO := ordYes_fc zs L (allN zs) hL hd (by omega) hf
          have hG := adm_fc zs L k (allN zs) hL h4 (by omega) (by omega)
          rw [ringC_in hd hb hf]
          (refine goes_skip ?_; refine fin_block ?_; refine fin_seq ?_; refine goes_seq ?_; refine goes_seq ?_; refine goes_region ?_; apply run_step rfl; (exact stp_move rfl rfl); apply run_step rfl; (exact stp_move rfl rfl); apply run_step rfl; (first | (apply call_gate 133; exact stp_callR hA (by as_aux_lemma => kernel_rfl) rfl rfl ⟨rfl, trivial⟩ ⟨⟨_, rfl, .inl rfl⟩, trivial⟩ rfl rfl) | (apply call_gate 140; exact stp_callR hO (by as_aux_lemma => kernel_rfl) rfl rfl ⟨rfl, rfl, trivial⟩ ⟨⟨_, rfl, .inl rfl⟩, trivial⟩ rfl rfl) | (apply call_gate 134; exact stp_callR hG (by as_aux_lemma => kernel_rfl) rfl rfl ⟨rfl, rfl, rfl, trivial⟩ ⟨⟨_, rfl, .inl rfl⟩, trivial⟩ rfl rfl)); apply run_step rfl; (first | (apply call_gate 133; exact stp_callR hA (by as_aux_lemma => kernel_rfl) rfl rfl ⟨rfl, trivial⟩ ⟨⟨_, rfl, .inl rfl⟩, trivial⟩ rfl rfl) | (apply call_gate 140; exact stp_callR hO (by as_aux_lemma => kernel_rfl) rfl rfl ⟨rfl, rfl, trivial⟩ ⟨⟨_, rfl, .inl rfl⟩, trivial⟩ rfl rfl) | (apply call_gate 134; exact stp_callR hG (by as_aux_lemma => kernel_rfl) rfl rfl ⟨rfl, rfl, rfl, trivial⟩ ⟨⟨_, rfl, .inl rfl⟩, trivial⟩ rfl rfl)); apply run_step rfl; (exact stp_move rfl rfl); apply run_step rfl; (exact stp_extract rfl rfl rfl); apply run_step rfl; (exact stp_extract rfl rfl rfl); apply run_step rfl; (exact stp_assign rfl rfl); apply run_step rfl; (exact stp_assign rfl rfl); refine run_nil ?_; refine fin_seq ?_; refine goes_seq ?_; refine goes_region ?_; apply run_step rfl; (exact stp_move rfl rfl); apply run_step rfl; (exact stp_not rfl rfl); apply run_step rfl; (exact stp_move rfl rfl); apply run_gYes rfl rfl rfl; (exact stp_move rfl rfl); apply run_gYes rfl rfl rfl; (exact stp_move rfl rfl); apply run_gYes rfl rfl rfl; (exact stp_move rfl rfl); apply run_gYes rfl rfl rfl; (first | (apply call_gate 133; exact stp_callR hA (by as_aux_lemma => kernel_rfl) rfl rfl ⟨rfl, trivial⟩ ⟨⟨_, rfl, .inl rfl⟩, trivial⟩ rfl rfl) | (apply call_gate 140; exact stp_callR hO (by as_aux_lemma => kernel_rfl) rfl rfl ⟨rfl, rfl, trivial⟩ ⟨⟨_, rfl, .inl rfl⟩, trivial⟩ rfl rfl) | (apply call_gate 134; exact stp_callR hG (by as_aux_lemma => kernel_rfl) rfl rfl ⟨rfl, rfl, rfl, trivial⟩ ⟨⟨_, rfl, .inl rfl⟩, trivial⟩ rfl rfl)); apply run_gYes rfl rfl rfl; (first | (apply call_gate 133; exact stp_callR hA (by as_aux_lemma => kernel_rfl) rfl rfl ⟨rfl, trivial⟩ ⟨⟨_, rfl, .inl rfl⟩, trivial⟩ rfl rfl) | (apply call_gate 140; exact stp_callR hO (by as_aux_lemma => kernel_rfl) rfl rfl ⟨rfl, rfl, trivial⟩ ⟨⟨_, rfl, .inl rfl⟩, trivial⟩ rfl rfl) | (apply call_gate 134; exact stp_callR hG (by as_aux_lemma => kernel_rfl) rfl rfl ⟨rfl, rfl, rfl, trivial⟩ ⟨⟨_, rfl, .inl rfl⟩, trivial⟩ rfl rfl)); apply run_gYes rfl rfl rfl; (exact stp_not rfl rfl); apply run_step rfl; (exact stp_pickF rfl rfl rfl); refine run_nil ?_; refine fin_seq ?_)
          refine goes_cond rfl (fun h => ?_) (fun h => ?_)
          · have ha : admB zs (allN zs) k = false := by simpa using h
            rw [ha, if_neg (by simp)]
            (refine goes_seq ?_; refine goes_region ?_; apply run_step rfl; (exact stp_assign rfl rfl); refine run_nil ?_; refine fin_seq ?_; refine goes_ret ?_; refine fin_ret_then ?_)
            exact fin_ret1 (.inl rfl) rfl (.tmp rfl) trivial trivial
          · have ha : admB zs (allN zs) k = true := by simpa using h
            rw [ha, if_pos rfl]
            (refine goes_skip ?_; refine fin_seq ?_; refine goes_seq ?_; refine goes_region ?_; apply run_step rfl; (exact stp_assign rfl rfl); refine run_nil ?_; refine fin_seq ?_; refine goes_ret ?_)
            exact fin_ret1 (.inl rfl) rfl (.tmp rfl) trivial trivial
theorem setC_zero {zs : List Int} {m s : Int} (h : setC zs m s = 0) : isDiag zs = true ∧ finB zs (allN zs) = true ∧ ∃ k l : Nat, m = k ∧ s = l ∧ k ≤ allN zs ∧ l ≤ allN zs := by
  unfold setC at h
  split at h
  · cases h
  · rename_i hc
    cases hd : isDiag zs with
    | false => rw [ringC_no hd] at h; cases h
    | true =>
      cases hb : inB m 0 (allN zs) with
      | false => rw [ringC_out hd hb] at h; cases h
      | true =>
        have hbb := inB_true.1 hb
        obtain ⟨k, rfl⟩ := Int.eq_ofNat_of_zero_le hbb.1
        cases hf : finB zs (allN zs) with
        | false => rw [ringC_inf hd hb hf] at h; cases h
        | true =>
          have hs : inB s 0 (allN zs) = true := by
            cases hs : inB s 0 (allN zs) with
            | true => rfl
            | false => rw [hd, hb, hs] at hc; exact absurd rfl hc
          have hss := inB_true.1 hs
          obtain ⟨l, rfl⟩ := Int.eq_ofNat_of_zero_le hss.1
          exact ⟨rfl, rfl, k, l, rfl, rfl, by omega, by omega⟩
end Go.Proofs.Ytnfkhgamnapgmaa

/- FixedNodes, the reference's. guards: -/
namespace Go.Proofs.Ytnfkhgamnapgmaa
open Go.RowKit

section
variable {P : Program} {nt : Nat} {S : St} {w0 : World} {ω0 : Beg} {Q : Exit → Act → World → Prop} {ops : Array Oper} {rest : List Oper} {o : Oper}
theorem run_gNoU {j d t : Nat} {want : Bool} (hg : o.guard = some (j, want)) (hj : (ops[j]?).bind (·.dst) = some d) (hb : S.sl d = some (vv undef)) (ht : o.dst = some t) (hn : Nat.blt t nt = true) (k : Run P w0 ω0 nt ops Q (S.put t (vv undef)) rest) : Run P w0 ω0 nt ops Q S (o :: rest) := by
  refine ⟨fun a w hs => ?_⟩
  have hy : yielded ops a.tmps j = none := by
    obtain ⟨η, ω, hs⟩ := hs
    obtain ⟨u, k1, k2⟩ := hs.slots d _ hb
    have k2 : u = undef := k2
    subst k2
    unfold yielded
    cases hoj : ops[j]? with
    | none => rw [hoj] at hj; cases hj
    | some oj =>
      rw [hoj] at hj
      simp only [Option.bind_some] at hj
      simp [hj, k1, undef]
  refine wpList_step fun K hK => ?_
  rw [if_neg (by simp [Region.wanted, hg, hy])]
  obtain ⟨η, ω, hs⟩ := hs
  exact hK _ _ (k.go _ _ ⟨η, ω, by rw [ht]; exact hs.putV (by simpa using hn) rfl⟩)
end
set_option maxRecDepth 100000 in
set_option maxHeartbeats 2000000 in
theorem fixS_fc (zs : List Int) (L r set : Nat) (hL : zs.length = L) (h4 : L ≤ 4) (hr : r < 1000) (hs : set < 1000) :
    FC Try.prog 137 [(1003, wRo zs)] [o1 (.sl 1003 0 L), vv (I6 r), vv (I6 set)] [] (vv (I6 (fixN zs r set : Nat))) [] := by
  have hR := rankS_fc zs L h4
  have hil : L ≤ (ivals zs).length := by rw [ivals_len, hL]; exact Nat.le_refl _
  have hss : set < 1000000 := by omega
  have hrr : r < 1000000 := by omega
  have hor : (set ||| r) < 1000000 := by have := Nat.or_lt_two_pow (n := 10) (x := set) (y := r) (by omega) (by omega); omega
  unfold fixN
  rw [hL]
  refine fc_enter (nt := 77) Try.func137 rfl rfl (by simp) fun w0 ω0 => ?_
  (refine goes_seq ?_; refine goes_region ?_; apply run_step rfl; (exact stp_assign rfl rfl); refine run_nil ?_; refine fin_seq ?_; refine goes_seq ?_; refine goes_region ?_; apply run_step rfl; (exact stp_assign rfl rfl); refine run_nil ?_; refine fin_seq ?_; refine goes_seq ?_; refine goes_seq ?_; refine goes_region ?_; apply run_step rfl; (exact stp_assign rfl rfl); refine run_nil ?_; refine fin_seq ?_; refine goes_block ?_)
  refine goes_loop (fun i : Nat => St.of [(0, o1 (.sl 1003 0 L)), (1, vv (I6 r)), (2, vv (I6 set)), (7, vv (I6 (fixTo zs r set i : Nat))), (8, vv (I6 i))] [(1003, wRo zs)]) (fun i => i ≤ L + 1) (fun i => L + 1 - i) 0 (Nat.zero_le _) (Wk.of ⟨rfl, rfl, rfl, rfl, rfl, trivial⟩ ⟨rfl, trivial⟩ trivial) ?_
  rintro i hi
  (refine goes_seq ?_; refine goes_seq ?_; refine goes_region ?_; apply run_step rfl; (exact stp_move rfl rfl); apply run_step rfl; (exact stp_move rfl rfl); apply run_step rfl; (apply call_gate 78; exact stp_callR hR (by as_aux_lemma => kernel_rfl) rfl rfl ⟨rfl, trivial⟩ ⟨⟨_, rfl, .inl rfl⟩, trivial⟩ rfl rfl); apply run_step rfl; (exact stp_bin rfl rfl rfl rfl); refine run_nil ?_; refine fin_seq ?_)
  refine goes_if rfl (fun hlt => ?_) (fun hlt => ?_)
  · have hiL : i ≤ L := by omega
    have hi64 : i ≤ 64 := by omega
    have hi5 : i ≤ 5 := by omega
    have hfl := fix_lt zs r set i
    have h2i : 2 ^ i ≤ 2 ^ 5 := Nat.pow_le_pow_right (by decide) hi5
    have hb1 : fixTo zs r set i < 1000000 := by omega
    have hb2 : 2 ^ i < 1000000 := by omega
    have hcv : IntKind.u64.wrap (i : Int) = (i : Int) := by rw [IntKind.wrap_u64]; omega
    (repeat (first | refine goes_seq ?_ | refine fin_seq ?_ | refine goes_skip ?_ | refine goes_block ?_ | refine fin_block ?_ | refine goes_exit ?_ | refine fin_exit_eq ?_ | refine fin_exit_ne rfl ?_ | refine fin_exit_then ?_))
    refine goes_cut (St.of [(0, o1 (.sl 1003 0 L)), (1, vv (I6 r)), (2, vv (I6 set)), (7, vv (I6 (fixTo zs r set i : Nat))), (8, vv (I6 i)), (9, vv (.bool (nbL zs set i)))] [(1003, wRo zs)]) ?_ ?_
    · refine goes_region ?_
      (apply run_step rfl; (exact stp_move rfl rfl); apply run_step rfl; (exact stp_bin rfl rfl rfl rfl); apply run_step rfl; (exact stp_move rfl rfl))
      refine run_bool 18 rfl (fun h1 => ?_) (fun h1 => ?_)
      · have hi0 : 0 < i := by have := of_decide_eq_true h1; omega
        have hsb : IntKind.i64.wrap ((i : Int) - 1) = ((i - 1 : Nat) : Int) := (IntWalk.i64_in _ (by omega)).trans (by omega)
        have hcv1 : IntKind.u64.wrap ((i - 1 : Nat) : Int) = ((i - 1 : Nat) : Int) := by rw [IntKind.wrap_u64]; omega
        have hi64' : i - 1 ≤ 64 := by omega
        (apply run_gYes rfl rfl rfl; (exact stp_move rfl rfl); apply run_gYes rfl rfl rfl; (exact stp_move rfl rfl); apply run_gYes rfl rfl rfl; (first | exact stp_sub rfl rfl rfl hsb | exact stp_convN rfl rfl (by as_aux_lemma => kernel_rfl) (by as_aux_lemma => kernel_rfl) hcv1 | exact stp_shrN (g := i - 1) rfl rfl rfl hi64' | exact stp_bit rfl rfl hss | exact stp_eqBit rfl rfl); apply run_gYes rfl rfl rfl; (first | exact stp_sub rfl rfl rfl hsb | exact stp_convN rfl rfl (by as_aux_lemma => kernel_rfl) (by as_aux_lemma => kernel_rfl) hcv1 | exact stp_shrN (g := i - 1) rfl rfl rfl hi64' | exact stp_bit rfl rfl hss | exact stp_eqBit rfl rfl); apply run_gYes rfl rfl rfl; (first | exact stp_sub rfl rfl rfl hsb | exact stp_convN rfl rfl (by as_aux_lemma => kernel_rfl) (by as_aux_lemma => kernel_rfl) hcv1 | exact stp_shrN (g := i - 1) rfl rfl rfl hi64' | exact stp_bit rfl rfl hss | exact stp_eqBit rfl rfl); apply run_gYes rfl rfl rfl; (first | exact stp_sub rfl rfl rfl hsb | exact stp_convN rfl rfl (by as_aux_lemma => kernel_rfl) (by as_aux_lemma => kernel_rfl) hcv1 | exact stp_shrN (g := i - 1) rfl rfl rfl hi64' | exact stp_bit rfl rfl hss | exact stp_eqBit rfl rfl); apply run_gYes rfl rfl rfl; (first | exact stp_sub rfl rfl rfl hsb | exact stp_convN rfl rfl (by as_aux_lemma => kernel_rfl) (by as_aux_lemma => kernel_rfl) hcv1 | exact stp_shrN (g := i - 1) rfl rfl rfl hi64' | exact stp_bit rfl rfl hss | exact stp_eqBit rfl rfl); apply run_step rfl; (exact stp_pickT rfl rfl rfl); apply run_step rfl; (exact stp_move rfl rfl))
        refine run_bool 27 rfl (fun h2 => ?_) (fun h2 => ?_)
        · have gz : (ivals zs)[i - 1]? = some (I6 (iget zs (i - 1))) := ivals_get (by omega)
          have hv : nbL zs set i = (iget zs (i - 1) != 2) := by unfold nbL; rw [decide_eq_true hi0, h2]; rfl
          rw [hv]
          (apply run_gYes rfl rfl rfl; (exact stp_move rfl rfl); apply run_gYes rfl rfl rfl; (exact stp_move rfl rfl); apply run_gYes rfl rfl rfl; (first | exact stp_sub rfl rfl rfl hsb | exact stp_ix (j := i - 1) rfl rfl rfl rfl rfl (by as_aux_lemma => kernel_rfl) rfl (by omega) hil | exact stp_loadV rfl (by as_aux_lemma => kernel_rfl) rfl rfl rfl gz); apply run_gYes rfl rfl rfl; (first | exact stp_sub rfl rfl rfl hsb | exact stp_ix (j := i - 1) rfl rfl rfl rfl rfl (by as_aux_lemma => kernel_rfl) rfl (by omega) hil | exact stp_loadV rfl (by as_aux_lemma => kernel_rfl) rfl rfl rfl gz); apply run_gYes rfl rfl rfl; (first | exact stp_sub rfl rfl rfl hsb | exact stp_ix (j := i - 1) rfl rfl rfl rfl rfl (by as_aux_lemma => kernel_rfl) rfl (by omega) hil | exact stp_loadV rfl (by as_aux_lemma => kernel_rfl) rfl rfl rfl gz); apply run_gYes rfl rfl rfl; (exact stp_bin rfl rfl rfl rfl); apply run_step rfl; (exact stp_pickT rfl rfl rfl); apply run_step rfl; (exact stp_assign rfl rfl); refine run_nil ?_)
          exact fin_join (Wk.of ⟨rfl, rfl, rfl, rfl, rfl, rfl, trivial⟩ ⟨rfl, trivial⟩ trivial)
        · have hv : nbL zs set i = false := by unfold nbL; rw [h2]; simp
          rw [hv]
          (apply run_gNo rfl rfl rfl rfl rfl; apply run_gNo rfl rfl rfl rfl rfl; apply run_gNo rfl rfl rfl rfl rfl; apply run_gNo rfl rfl rfl rfl rfl; apply run_gNo rfl rfl rfl rfl rfl; apply run_gNo rfl rfl rfl rfl rfl; apply run_step rfl; (exact stp_pickF rfl rfl rfl); apply run_step rfl; (exact stp_assign rfl rfl); refine run_nil ?_)
          exact fin_join (Wk.of ⟨rfl, rfl, rfl, rfl, rfl, rfl, trivial⟩ ⟨rfl, trivial⟩ trivial)
      · have hv : nbL zs set i = false := by
          have : ¬ 0 < i := by have := of_decide_eq_false h1; omega
          unfold nbL; rw [decide_eq_false this]; rfl
        rw [hv]
        (apply run_gNo rfl rfl rfl rfl rfl; apply run_gNo rfl rfl rfl rfl rfl; apply run_gNo rfl rfl rfl rfl rfl; apply run_gNo rfl rfl rfl rfl rfl; apply run_gNo rfl rfl rfl rfl rfl; apply run_gNo rfl rfl rfl rfl rfl; apply run_gNo rfl rfl rfl rfl rfl; apply run_step rfl; (exact stp_pickF rfl rfl rfl); apply run_step rfl; (exact stp_move rfl rfl); apply run_gNo rfl rfl rfl rfl rfl; apply run_gNo rfl rfl rfl rfl rfl; apply run_gNo rfl rfl rfl rfl rfl; apply run_gNo rfl rfl rfl rfl rfl; apply run_gNo rfl rfl rfl rfl rfl; apply run_gNo rfl rfl rfl rfl rfl; apply run_step rfl; (exact stp_pickF rfl rfl rfl); apply run_step rfl; (exact stp_assign rfl rfl); refine run_nil ?_)
        exact fin_join (Wk.of ⟨rfl, rfl, rfl, rfl, rfl, rfl, trivial⟩ ⟨rfl, trivial⟩ trivial)
    (repeat (first | refine goes_seq ?_ | refine fin_seq ?_ | refine goes_skip ?_ | refine goes_block ?_ | refine fin_block ?_ | refine goes_exit ?_ | refine fin_exit_eq ?_ | refine fin_exit_ne rfl ?_ | refine fin_exit_then ?_))
    refine goes_cut (St.of [(0, o1 (.sl 1003 0 L)), (1, vv (I6 r)), (2, vv (I6 set)), (7, vv (I6 (fixTo zs r set i : Nat))), (8, vv (I6 i)), (9, vv (.bool (nbL zs set i || nbR zs set i)))] [(1003, wRo zs)]) ?_ ?_
    · refine goes_region ?_
      have hw1 : IntKind.i64.wrap ((i : Int) + 1) = ((i + 1 : Nat) : Int) := (IntWalk.i64_in _ (by omega)).trans (by omega)
      have hcv1 : IntKind.u64.wrap ((i + 1 : Nat) : Int) = ((i + 1 : Nat) : Int) := by rw [IntKind.wrap_u64]; omega
      have hi64' : i + 1 ≤ 64 := by omega
      cases hnl : nbL zs set i with
      | true =>
        rw [Bool.true_or]
        (apply run_step rfl; (exact stp_move rfl rfl); apply run_step rfl; (exact stp_move rfl rfl); apply run_gNo rfl rfl rfl rfl rfl; apply run_gNo rfl rfl rfl rfl rfl; apply run_gNo rfl rfl rfl rfl rfl; apply run_gNo rfl rfl rfl rfl rfl; apply run_gNo rfl rfl rfl rfl rfl; apply run_gNo rfl rfl rfl rfl rfl)
        (apply run_gNoU rfl rfl rfl rfl rfl)
        (apply run_gNoU rfl rfl rfl rfl rfl)
        (apply run_gNoU rfl rfl rfl rfl rfl)
        (apply run_gNoU rfl rfl rfl rfl rfl)
        (apply run_gNoU rfl rfl rfl rfl rfl)
        (apply run_gNoU rfl rfl rfl rfl rfl)
        (apply run_gNoU rfl rfl rfl rfl rfl)
        (apply run_gNo rfl rfl rfl rfl rfl; apply run_gNo rfl rfl rfl rfl rfl)
        (apply run_gNoU rfl rfl rfl rfl rfl)
        (apply run_gNoU rfl rfl rfl rfl rfl)
        (apply run_gNoU rfl rfl rfl rfl rfl)
        (apply run_gNoU rfl rfl rfl rfl rfl)
        (apply run_gNoU rfl rfl rfl rfl rfl)
        (apply run_gNo rfl rfl rfl rfl rfl; apply run_step rfl; (exact stp_pickT rfl rfl rfl); apply run_step rfl; (exact stp_assign rfl rfl); refine run_nil ?_)
        exact fin_join (Wk.of ⟨rfl, rfl, rfl, rfl, rfl, rfl, trivial⟩ ⟨rfl, trivial⟩ trivial)
      | false =>
        rw [Bool.false_or]
        (apply run_step rfl; (exact stp_move rfl rfl); apply run_step rfl; (exact stp_move rfl rfl); apply run_gYes rfl rfl rfl; (exact stp_move rfl rfl); apply run_gYes rfl rfl rfl; (first | exact stp_add rfl rfl rfl hw1 | (apply call_gate 78; exact stp_callR hR (by as_aux_lemma => kernel_rfl) rfl rfl ⟨rfl, trivial⟩ ⟨⟨_, rfl, .inl rfl⟩, trivial⟩ rfl rfl)); apply run_gYes rfl rfl rfl; (exact stp_move rfl rfl); apply run_gYes rfl rfl rfl; (first | exact stp_add rfl rfl rfl hw1 | (apply call_gate 78; exact stp_callR hR (by as_aux_lemma => kernel_rfl) rfl rfl ⟨rfl, trivial⟩ ⟨⟨_, rfl, .inl rfl⟩, trivial⟩ rfl rfl)); apply run_gYes rfl rfl rfl; (exact stp_bin rfl rfl rfl rfl); apply run_gYes rfl rfl rfl; (exact stp_move rfl rfl))
        refine run_bool 42 rfl (fun h1 => ?_) (fun h1 => ?_)
        · have hi0 : i + 1 < L + 1 := by have := of_decide_eq_true h1; omega
          (apply run_gYes rfl rfl rfl; (exact stp_move rfl rfl); apply run_gYes rfl rfl rfl; (exact stp_move rfl rfl); apply run_gYes rfl rfl rfl; (first | exact stp_add rfl rfl rfl hw1 | exact stp_convN rfl rfl (by as_aux_lemma => kernel_rfl) (by as_aux_lemma => kernel_rfl) hcv1 | exact stp_shrN (g := i + 1) rfl rfl rfl hi64' | exact stp_bit rfl rfl hss | exact stp_eqBit rfl rfl); apply run_gYes rfl rfl rfl; (first | exact stp_add rfl rfl rfl hw1 | exact stp_convN rfl rfl (by as_aux_lemma => kernel_rfl) (by as_aux_lemma => kernel_rfl) hcv1 | exact stp_shrN (g := i + 1) rfl rfl rfl hi64' | exact stp_bit rfl rfl hss | exact stp_eqBit rfl rfl); apply run_gYes rfl rfl rfl; (first | exact stp_add rfl rfl rfl hw1 | exact stp_convN rfl rfl (by as_aux_lemma => kernel_rfl) (by as_aux_lemma => kernel_rfl) hcv1 | exact stp_shrN (g := i + 1) rfl rfl rfl hi64' | exact stp_bit rfl rfl hss | exact stp_eqBit rfl rfl); apply run_gYes rfl rfl rfl; (first | exact stp_add rfl rfl rfl hw1 | exact stp_convN rfl rfl (by as_aux_lemma => kernel_rfl) (by as_aux_lemma => kernel_rfl) hcv1 | exact stp_shrN (g := i + 1) rfl rfl rfl hi64' | exact stp_bit rfl rfl hss | exact stp_eqBit rfl rfl); apply run_gYes rfl rfl rfl; (first | exact stp_add rfl rfl rfl hw1 | exact stp_convN rfl rfl (by as_aux_lemma => kernel_rfl) (by as_aux_lemma => kernel_rfl) hcv1 | exact stp_shrN (g := i + 1) rfl rfl rfl hi64' | exact stp_bit rfl rfl hss | exact stp_eqBit rfl rfl); apply run_gYes rfl rfl rfl; (exact stp_pickT rfl rfl rfl); apply run_gYes rfl rfl rfl; (exact stp_move rfl rfl))
          refine run_bool 51 rfl (fun h2 => ?_) (fun h2 => ?_)
          · have gz : (ivals zs)[i]? = some (I6 (iget zs i)) := ivals_get (by omega)
            have hv : nbR zs set i = (iget zs i != 2) := by unfold nbR; rw [hL, decide_eq_true hi0, h2]; rfl
            rw [hv]
            (apply run_gYes rfl rfl rfl; (exact stp_move rfl rfl); apply run_gYes rfl rfl rfl; (exact stp_move rfl rfl); apply run_gYes rfl rfl rfl; (first | exact stp_ix (j := i) rfl rfl rfl rfl rfl (by as_aux_lemma => kernel_rfl) rfl (by omega) hil | exact stp_loadV rfl (by as_aux_lemma => kernel_rfl) rfl rfl rfl gz); apply run_gYes rfl rfl rfl; (first | exact stp_ix (j := i) rfl rfl rfl rfl rfl (by as_aux_lemma => kernel_rfl) rfl (by omega) hil | exact stp_loadV rfl (by as_aux_lemma => kernel_rfl) rfl rfl rfl gz); apply run_gYes rfl rfl rfl; (exact stp_bin rfl rfl rfl rfl); apply run_gYes rfl rfl rfl; (exact stp_pickT rfl rfl rfl); apply run_step rfl; (exact stp_pickF rfl rfl rfl); apply run_step rfl; (exact stp_assign rfl rfl); refine run_nil ?_)
            exact fin_join (Wk.of ⟨rfl, rfl, rfl, rfl, rfl, rfl, trivial⟩ ⟨rfl, trivial⟩ trivial)
          · have hv : nbR zs set i = false := by unfold nbR; rw [h2]; simp
            rw [hv]
            (apply run_gNo rfl rfl rfl rfl rfl; apply run_gNo rfl rfl rfl rfl rfl; apply run_gNo rfl rfl rfl rfl rfl; apply run_gNo rfl rfl rfl rfl rfl; apply run_gNo rfl rfl rfl rfl rfl; apply run_gYes rfl rfl rfl; (exact stp_pickF rfl rfl rfl); apply run_step rfl; (exact stp_pickF rfl rfl rfl); apply run_step rfl; (exact stp_assign rfl rfl); refine run_nil ?_)
            exact fin_join (Wk.of ⟨rfl, rfl, rfl, rfl, rfl, rfl, trivial⟩ ⟨rfl, trivial⟩ trivial)
        · have hv : nbR zs set i = false := by
            have : ¬ i + 1 < L + 1 := by have := of_decide_eq_false h1; omega
            unfold nbR; rw [hL, decide_eq_false this]; rfl
          rw [hv]
          (apply run_gNo rfl rfl rfl rfl rfl; apply run_gNo rfl rfl rfl rfl rfl; apply run_gNo rfl rfl rfl rfl rfl; apply run_gNo rfl rfl rfl rfl rfl; apply run_gNo rfl rfl rfl rfl rfl; apply run_gNo rfl rfl rfl rfl rfl; apply run_gNo rfl rfl rfl rfl rfl; apply run_gYes rfl rfl rfl; (exact stp_pickF rfl rfl rfl); apply run_gYes rfl rfl rfl; (exact stp_move rfl rfl); apply run_gNo rfl rfl rfl rfl rfl; apply run_gNo rfl rfl rfl rfl rfl; apply run_gNo rfl rfl rfl rfl rfl; apply run_gNo rfl rfl rfl rfl rfl; apply run_gNo rfl rfl rfl rfl rfl; apply run_gYes rfl rfl rfl; (exact stp_pickF rfl rfl rfl); apply run_step rfl; (exact stp_pickF rfl rfl rfl); apply run_step rfl; (exact stp_assign rfl rfl); refine run_nil ?_)
          exact fin_join (Wk.of ⟨rfl, rfl, rfl, rfl, rfl, rfl, trivial⟩ ⟨rfl, trivial⟩ trivial)
    cases hm : mBit (set ||| r) i with
    | true =>
      have hfx : fixB zs r set i = false := by unfold fixB; rw [hm]; rfl
      have hv : fixTo zs r set (i + 1) = fixTo zs r set i := by rw [fixTo, if_neg (by rw [hfx]; simp)]
      have hq : ((((set ||| r) / 2 ^ i &&& 1 : Nat) : Int) == 0) = false := by
        have := mBit_of (set ||| r) i
        rw [hm] at this
        have h1 : (((set ||| r) / 2 ^ i &&& 1 : Nat) : Int) = 1 := by simpa using this
        rw [h1]; rfl
      have hbe : binI .i64 .eql (((set ||| r) / 2 ^ i &&& 1 : Nat) : Int) 0 = some (.bool false) := by
        show some (Value.bool _) = _
        rw [hq]
      (refine fin_seq ?_; refine goes_seq ?_; refine goes_region ?_; apply run_step rfl; (exact stp_move rfl rfl); apply run_step rfl; (exact stp_move rfl rfl); apply run_step rfl; (first | exact stp_orN rfl rfl rfl hss hrr | exact stp_convN rfl rfl (by as_aux_lemma => kernel_rfl) (by as_aux_lemma => kernel_rfl) hcv | exact stp_shrN (g := i) rfl rfl rfl hi64 | exact stp_bit rfl rfl hor | exact stp_bin rfl rfl rfl hbe); apply run_step rfl; (exact stp_move rfl rfl); apply run_step rfl; (first | exact stp_orN rfl rfl rfl hss hrr | exact stp_convN rfl rfl (by as_aux_lemma => kernel_rfl) (by as_aux_lemma => kernel_rfl) hcv | exact stp_shrN (g := i) rfl rfl rfl hi64 | exact stp_bit rfl rfl hor | exact stp_bin rfl rfl rfl hbe); apply run_step rfl; (first | exact stp_orN rfl rfl rfl hss hrr | exact stp_convN rfl rfl (by as_aux_lemma => kernel_rfl) (by as_aux_lemma => kernel_rfl) hcv | exact stp_shrN (g := i) rfl rfl rfl hi64 | exact stp_bit rfl rfl hor | exact stp_bin rfl rfl rfl hbe); apply run_step rfl; (first | exact stp_orN rfl rfl rfl hss hrr | exact stp_convN rfl rfl (by as_aux_lemma => kernel_rfl) (by as_aux_lemma => kernel_rfl) hcv | exact stp_shrN (g := i) rfl rfl rfl hi64 | exact stp_bit rfl rfl hor | exact stp_bin rfl rfl rfl hbe); apply run_step rfl; (first | exact stp_orN rfl rfl rfl hss hrr | exact stp_convN rfl rfl (by as_aux_lemma => kernel_rfl) (by as_aux_lemma => kernel_rfl) hcv | exact stp_shrN (g := i) rfl rfl rfl hi64 | exact stp_bit rfl rfl hor | exact stp_bin rfl rfl rfl hbe); apply run_step rfl; (exact stp_move rfl rfl); apply run_gNo rfl rfl rfl rfl rfl; apply run_gNo rfl rfl rfl rfl rfl; apply run_step rfl; (exact stp_pickF rfl rfl rfl); refine run_nil ?_; refine fin_seq ?_)
      refine goes_cond rfl (fun e => by cases e) (fun _ => ?_)
      (refine goes_skip ?_; refine fin_block ?_; refine fin_seq ?_; refine goes_region ?_; apply run_step rfl; (exact stp_move rfl rfl); apply run_step rfl; (exact stp_add rfl rfl rfl (by first | exact IntWalk.i64_in _ (by omega) | rfl)); apply run_step rfl; (exact stp_assign rfl rfl); refine run_nil ?_)
      exact fin_round (i + 1) (by omega) (by omega) (Wk.of ⟨rfl, rfl, rfl, congrArg (fun z : Nat => some (vv (I6 (z : Int)))) hv.symm, rfl, trivial⟩ ⟨rfl, trivial⟩ trivial)
    | false =>
      have hq : ((((set ||| r) / 2 ^ i &&& 1 : Nat) : Int) == 0) = true := by
        have h1 := bitN_le (set ||| r) i
        unfold bitN at h1
        have := mBit_of (set ||| r) i
        rw [hm] at this
        have h2 : (((set ||| r) / 2 ^ i &&& 1 : Nat) : Int) ≠ 1 := by simpa using this
        have h3 : (set ||| r) / 2 ^ i &&& 1 = 0 := by omega
        rw [h3]; rfl
      have hbe : binI .i64 .eql (((set ||| r) / 2 ^ i &&& 1 : Nat) : Int) 0 = some (.bool true) := by
        show some (Value.bool _) = _
        rw [hq]
      (refine fin_seq ?_; refine goes_seq ?_; refine goes_region ?_; apply run_step rfl; (exact stp_move rfl rfl); apply run_step rfl; (exact stp_move rfl rfl); apply run_step rfl; (first | exact stp_orN rfl rfl rfl hss hrr | exact stp_convN rfl rfl (by as_aux_lemma => kernel_rfl) (by as_aux_lemma => kernel_rfl) hcv | exact stp_shrN (g := i) rfl rfl rfl hi64 | exact stp_bit rfl rfl hor | exact stp_bin rfl rfl rfl hbe); apply run_step rfl; (exact stp_move rfl rfl); apply run_step rfl; (first | exact stp_orN rfl rfl rfl hss hrr | exact stp_convN rfl rfl (by as_aux_lemma => kernel_rfl) (by as_aux_lemma => kernel_rfl) hcv | exact stp_shrN (g := i) rfl rfl rfl hi64 | exact stp_bit rfl rfl hor | exact stp_bin rfl rfl rfl hbe); apply run_step rfl; (first | exact stp_orN rfl rfl rfl hss hrr | exact stp_convN rfl rfl (by as_aux_lemma => kernel_rfl) (by as_aux_lemma => kernel_rfl) hcv | exact stp_shrN (g := i) rfl rfl rfl hi64 | exact stp_bit rfl rfl hor | exact stp_bin rfl rfl rfl hbe); apply run_step rfl; (first | exact stp_orN rfl rfl rfl hss hrr | exact stp_convN rfl rfl (by as_aux_lemma => kernel_rfl) (by as_aux_lemma => kernel_rfl) hcv | exact stp_shrN (g := i) rfl rfl rfl hi64 | exact stp_bit rfl rfl hor | exact stp_bin rfl rfl rfl hbe); apply run_step rfl; (first | exact stp_orN rfl rfl rfl hss hrr | exact stp_convN rfl rfl (by as_aux_lemma => kernel_rfl) (by as_aux_lemma => kernel_rfl) hcv | exact stp_shrN (g := i) rfl rfl rfl hi64 | exact stp_bit rfl rfl hor | exact stp_bin rfl rfl rfl hbe); apply run_step rfl; (exact stp_move rfl rfl); apply run_gYes rfl rfl rfl; (exact stp_move rfl rfl); apply run_gYes rfl rfl rfl; (exact stp_not rfl rfl); apply run_step rfl; (exact stp_pickT rfl rfl rfl); refine run_nil ?_; refine fin_seq ?_)
      refine goes_cond rfl (fun h => ?_) (fun h => ?_)
      · have hfx : fixB zs r set i = true := by unfold fixB; rw [hm]; exact h
        have hv : fixTo zs r set (i + 1) = fixTo zs r set i ||| 2 ^ i := by rw [fixTo, if_pos hfx]
        (refine goes_region ?_; apply run_step rfl; (exact stp_move rfl rfl); apply run_step rfl; (exact stp_move rfl rfl); apply run_step rfl; (first | exact stp_convN rfl rfl (by as_aux_lemma => kernel_rfl) (by as_aux_lemma => kernel_rfl) hcv | exact stp_shl1 (g := i) rfl rfl rfl hi5 | exact stp_orN rfl rfl rfl hb1 hb2); apply run_step rfl; (first | exact stp_convN rfl rfl (by as_aux_lemma => kernel_rfl) (by as_aux_lemma => kernel_rfl) hcv | exact stp_shl1 (g := i) rfl rfl rfl hi5 | exact stp_orN rfl rfl rfl hb1 hb2); apply run_step rfl; (first | exact stp_convN rfl rfl (by as_aux_lemma => kernel_rfl) (by as_aux_lemma => kernel_rfl) hcv | exact stp_shl1 (g := i) rfl rfl rfl hi5 | exact stp_orN rfl rfl rfl hb1 hb2); apply run_step rfl; (exact stp_assign rfl rfl); refine run_nil ?_; refine fin_block ?_; refine fin_seq ?_; refine goes_region ?_; apply run_step rfl; (exact stp_move rfl rfl); apply run_step rfl; (exact stp_add rfl rfl rfl (by first | exact IntWalk.i64_in _ (by omega) | rfl)); apply run_step rfl; (exact stp_assign rfl rfl); refine run_nil ?_)
        exact fin_round (i + 1) (by omega) (by omega) (Wk.of ⟨rfl, rfl, rfl, congrArg (fun z : Nat => some (vv (I6 (z : Int)))) hv.symm, rfl, trivial⟩ ⟨rfl, trivial⟩ trivial)
      · have hfx : fixB zs r set i = false := by unfold fixB; rw [hm]; exact h
        have hv : fixTo zs r set (i + 1) = fixTo zs r set i := by rw [fixTo, if_neg (by rw [hfx]; simp)]
        (refine goes_skip ?_; refine fin_block ?_; refine fin_seq ?_; refine goes_region ?_; apply run_step rfl; (exact stp_move rfl rfl); apply run_step rfl; (exact stp_add rfl rfl rfl (by first | exact IntWalk.i64_in _ (by omega) | rfl)); apply run_step rfl; (exact stp_assign rfl rfl); refine run_nil ?_)
        exact fin_round (i + 1) (by omega) (by omega) (Wk.of ⟨rfl, rfl, rfl, congrArg (fun z : Nat => some (vv (I6 (z : Int)))) hv.symm, rfl, trivial⟩ ⟨rfl, trivial⟩ trivial)
  · obtain rfl : i = L + 1 := by omega
    (refine goes_exit ?_; refine fin_exit_then ?_; refine fin_exit_then ?_; refine fin_exit_eq ?_; refine fin_seq ?_; refine goes_seq ?_; refine goes_region ?_; apply run_step rfl; (exact stp_move rfl rfl); apply run_step rfl; (exact stp_assign rfl rfl); refine run_nil ?_; refine fin_seq ?_; refine goes_ret ?_)
    exact fin_ret1 (.inl rfl) rfl (.tmp rfl) trivial trivial
end Go.Proofs.Ytnfkhgamnapgmaa

/- FixedNodes, in words. guards: -/
namespace Go.Proofs.Ytnfkhgamnapgmaa
open Go.RowKit

theorem denL3 {η : Env} {a b c : AV} {u v x : Value} (h : Den η a u) (h' : Den η b v) (h'' : Den η c x) : DenL η [a, b, c] [u, v, x] := ⟨rfl, fun j av hj => by
  match j, hj with
  | 0, hj => simp at hj; subst hj; exact ⟨u, rfl, h⟩
  | 1, hj => simp at hj; subst hj; exact ⟨v, rfl, h'⟩
  | 2, hj => simp at hj; subst hj; exact ⟨x, rfl, h''⟩⟩
theorem callSII {f : FuncId} {outs : List (Nm × Ch)} {res : AV} {zs : List Int} (m s : Int) (hf : zs.length ≤ 4398046511104 → FC Try.prog f [(1003, wRo zs)] [o1 (.sl 1003 0 zs.length), vv (I6 m), vv (I6 s)] outs res []) {E : Nat} {w : World} {lo hi : Nat} {v : Value} (h : OwnS E w lo hi v zs) :
    Calls Try.prog f #[v, .int .i64 m, .int .i64 s] w fun e w' => ∃ v η ω, e = .returned v ∧ Den η res v ∧ Mem η ω w' (fun x => lk x outs) ∧ Below w.heap.size w w' ∧ ∀ b, b < w.heap.size → ω b = none := by
  obtain ⟨hd, r, rfl, hv⟩ := ofS 1003 2 h.1
  exact (hf (fitS h.1)).call (l := [(1003, (wRo zs, hd, r))]) (us := [_, _, _]) (fun p hp => by simp at hp; subst hp; exact hv) rfl (denL3 (den_sl (q := (wRo zs, hd, r)) rfl) rfl rfl)
end Go.Proofs.Ytnfkhgamnapgmaa

/- A part of a finite set of nodes is finite. No program in sight. -/
namespace Go.Proofs.Ytnfkhgamnapgmaa

def FinL (labs : List Int) : Prop := (degs labs).length ≠ 0
theorem fin_cases {labs : List Int} (h : FinL labs) (h4 : labs.length ≤ 4) : labs.length ≤ 1 ∨ labs ∈ ([[3, 5], [5, 3], [3, 3, 5], [5, 3, 3], [3, 4, 3], [3, 3], [3, 3, 3], [3, 3, 3, 3], [4, 3], [4, 3, 3], [4, 3, 3, 3], [3, 4], [3, 3, 4], [3, 3, 3, 4]] : List (List Int)) := by
  by_cases h1 : labs.length ≤ 1
  · exact .inl h1
  right
  unfold FinL degs at h
  rw [if_neg (by omega), if_neg (by omega)] at h
  split at h
  · rename_i e; rcases eith_iff.1 e with rfl | rfl <;> decide
  split at h
  · rename_i e; rcases eith_iff.1 e with rfl | rfl <;> decide
  split at h
  · rename_i e; rcases eith_iff.1 e with rfl | rfl <;> decide
  split at h
  · rename_i e
    rcases (by omega : labs.length = 2 ∨ labs.length = 3 ∨ labs.length = 4) with e2 | e2 | e2 <;> (rw [e, e2]; decide)
  split at h
  · rename_i e
    rcases eith_iff.1 e with e | e <;> rcases (by omega : labs.length = 2 ∨ labs.length = 3 ∨ labs.length = 4) with e2 | e2 | e2 <;> (rw [e, e2]; decide)
  · exact absurd rfl h
theorem fin_small {labs : List Int} (h : labs.length = 0) : FinL labs := by
  rw [List.length_eq_zero_iff.1 h]; unfold FinL; decide
theorem fin_cut {labs : List Int} (h : FinL labs) (h4 : labs.length ≤ 4) : FinL labs.tail ∧ FinL labs.dropLast := by
  rcases fin_cases h h4 with h1 | h1
  · exact ⟨fin_small (by rw [List.length_tail]; omega), fin_small (by rw [List.length_dropLast]; omega)⟩
  · simp only [List.mem_cons, List.not_mem_nil, or_false] at h1
    unfold FinL
    rcases h1 with rfl | rfl | rfl | rfl | rfl | rfl | rfl | rfl | rfl | rfl | rfl | rfl | rfl | rfl <;> decide
theorem fin_front : ∀ (t a : List Int), (a ++ t).length ≤ 4 → FinL (a ++ t) → FinL a
  | [], a, _, h => by rwa [List.append_nil] at h
  | x :: t, a, h4, h => by
    have e : a ++ x :: t = (a ++ [x]) ++ t := by simp
    rw [e] at h h4
    have h1 := fin_front t (a ++ [x]) h4 h
    have h2 := (fin_cut h1 (by rw [List.length_append] at h4; omega)).2
    rwa [List.dropLast_concat] at h2
theorem fin_back : ∀ (s a : List Int), (s ++ a).length ≤ 4 → FinL (s ++ a) → FinL a
  | [], a, _, h => h
  | x :: s, a, h4, h => fin_back s a (by simp at h4 ⊢; omega) (fin_cut h h4).1
theorem fin_infix {a b : List Int} (hi : a <:+: b) (h4 : b.length ≤ 4) (h : FinL b) : FinL a := by
  obtain ⟨s, t, rfl⟩ := hi
  have h1 := fin_front t (s ++ a) h4 h
  exact fin_back s a (by rw [List.length_append] at h4; omega) h1
theorem all_bit {zs : List Int} {i : Nat} (hi : i ≤ zs.length) : mBit (allN zs) i = true := by
  rw [mBit_test]; unfold allN; rw [Nat.testBit_two_pow_sub_one]; simp; omega
structure Pieces (ps qs : Cmps) (last : Bool) : Prop where
  inf : ∀ p ∈ ps, ∃ q ∈ qs, p.2 <:+: q.2
  suf : last = true → ∃ ps' p qs' q, ps = ps' ++ [p] ∧ qs = qs' ++ [q] ∧ p.2 <:+ q.2
theorem set_last (qs : Cmps) (p x : Nat × List Int) : (qs ++ [p]).set ((qs ++ [p]).length - 1) x = qs ++ [x] := by
  rw [show (qs ++ [p]).length - 1 = qs.length by simp, List.set_append_right _ _ (Nat.le_refl _)]; simp
theorem cget_last (qs : Cmps) (p : Nat × List Int) : cget (qs ++ [p]) ((qs ++ [p]).length - 1) = p := by
  rw [show (qs ++ [p]).length - 1 = qs.length by simp, cget_lt (by simp)]; simp
theorem pieces {zs : List Int} (set : Nat) : ∀ i, i ≤ zs.length + 1 → Pieces (pTo zs set i) (pTo zs (allN zs) i) (decide (0 < i) && mBit set (i - 1))
  | 0, _ => ⟨fun p hp => (nomatch hp), fun h => by simp at h⟩
  | i + 1, hi => by
    have ih := pieces (zs := zs) set i (by omega)
    have hb := all_bit (zs := zs) (i := i) (by omega)
    have hok := pTo_ok zs (allN zs) i (by omega)
    -- the greater set's step
    have hq : (jn zs (allN zs) i = true ∧ ∃ qs' q, pTo zs (allN zs) i = qs' ++ [q] ∧ pTo zs (allN zs) (i + 1) = qs' ++ [(q.1 ||| 2 ^ i, q.2 ++ [iget zs (i - 1)])]) ∨ (jn zs (allN zs) i = false ∧ pTo zs (allN zs) (i + 1) = pTo zs (allN zs) i ++ [(2 ^ i, [])]) := by
      rw [pTo_succ]; unfold pStep; rw [if_pos hb]
      cases hj : jn zs (allN zs) i with
      | true =>
        left
        refine ⟨rfl, ?_⟩
        have hs := jn_spec hj
        have hne := hok.ne hs.1 hs.2.1
        rcases cmps_cases (pTo zs (allN zs) i) with e | ⟨qs', q, e⟩
        · rw [e] at hne; exact absurd hne (by simp)
        · refine ⟨qs', q, e, ?_⟩
          rw [if_pos rfl, e]; unfold pLast; rw [set_last, cget_last]
      | false => right; exact ⟨rfl, by rw [if_neg (by simp)]⟩
    have keep : ∀ p : Nat × List Int, (∃ q ∈ pTo zs (allN zs) i, p.2 <:+: q.2) → ∃ q ∈ pTo zs (allN zs) (i + 1), p.2 <:+: q.2 := fun p ⟨q, hq1, hq2⟩ => by
      rcases hq with ⟨_, qs', q0, e1, e2⟩ | ⟨_, e2⟩
      · rw [e2]; rw [e1] at hq1
        rcases List.mem_append.1 hq1 with h | h
        · exact ⟨q, List.mem_append_left _ h, hq2⟩
        · obtain rfl : q = q0 := by simpa using h
          exact ⟨_, List.mem_append_right _ (List.mem_singleton.2 rfl), hq2.trans (List.prefix_append _ _).isInfix⟩
      · rw [e2]; exact ⟨q, List.mem_append_left _ hq1, hq2⟩
    have hlastq : ∃ qs' q, pTo zs (allN zs) (i + 1) = qs' ++ [q] := by
      rcases hq with ⟨_, qs', q0, _, e2⟩ | ⟨_, e2⟩
      · exact ⟨_, _, e2⟩
      · exact ⟨_, _, e2⟩
    rw [Nat.add_sub_cancel]
    cases hbs : mBit set i with
    | false =>
      rw [gr_none hbs]
      exact ⟨fun p hp => keep p (ih.inf p hp), fun h => by simp at h⟩
    | true =>
      cases hj : jn zs set i with
      | true =>
        have hs := jn_spec hj
        obtain ⟨ps', p, qs', q, e1, e2, hsf⟩ := ih.suf (by rw [decide_eq_true hs.1, hs.2.1]; rfl)
        have hja : jn zs (allN zs) i = true := by
          unfold jn; rw [decide_eq_true hs.1, all_bit (zs := zs) (i := i - 1) (by omega)]
          simpa using hs.2.2
        have hp : pTo zs set (i + 1) = ps' ++ [(p.1 ||| 2 ^ i, p.2 ++ [iget zs (i - 1)])] := by
          rw [pTo_succ]; unfold pStep; rw [if_pos hbs, if_pos hj, e1]; unfold pLast; rw [set_last, cget_last]
        have hqq : pTo zs (allN zs) (i + 1) = qs' ++ [(q.1 ||| 2 ^ i, q.2 ++ [iget zs (i - 1)])] := by
          rw [pTo_succ]; unfold pStep; rw [if_pos hb, if_pos hja, e2]; unfold pLast; rw [set_last, cget_last]
        have hsf2 : p.2 ++ [iget zs (i - 1)] <:+ q.2 ++ [iget zs (i - 1)] := by
          obtain ⟨t, ht⟩ := hsf
          exact ⟨t, by rw [← List.append_assoc, ht]⟩
        refine ⟨fun x hx => ?_, fun _ => ⟨_, _, _, _, hp, hqq, hsf2⟩⟩
        rw [hp] at hx
        rcases List.mem_append.1 hx with h | h
        · exact keep x (ih.inf x (by rw [e1]; exact List.mem_append_left _ h))
        · obtain rfl : x = (p.1 ||| 2 ^ i, p.2 ++ [iget zs (i - 1)]) := by simpa using h
          exact ⟨_, by rw [hqq]; exact List.mem_append_right _ (List.mem_singleton.2 rfl), hsf2.isInfix⟩
      | false =>
        have hp : pTo zs set (i + 1) = pTo zs set i ++ [(2 ^ i, [])] := by
          rw [pTo_succ]; unfold pStep; rw [if_pos hbs, if_neg (by rw [hj]; simp)]
        obtain ⟨qs', q, hqq⟩ := hlastq
        refine ⟨fun x hx => ?_, fun _ => ⟨_, _, _, _, hp, hqq, List.nil_suffix⟩⟩
        rw [hp] at hx
        rcases List.mem_append.1 hx with h | h
        · exact keep x (ih.inf x h)
        · obtain rfl : x = (2 ^ i, []) := by simpa using h
          exact ⟨q, by rw [hqq]; exact List.mem_append_right _ (List.mem_singleton.2 rfl), List.nil_infix⟩
theorem fin_sub {zs : List Int} (hd : isDiag zs = true) (hf : finB zs (allN zs) = true) (set : Nat) : finB zs set = true := by
  have h1 := (fin_all (ps := comps zs (allN zs)) (comps zs (allN zs)).length (Nat.le_refl _)).1 (by simpa [finB] using hf)
  have hp := pieces (zs := zs) set (zs.length + 1) (Nat.le_refl _)
  unfold finB
  rw [decide_eq_true_iff, fin_all _ (Nat.le_refl _)]
  intro k hk
  obtain ⟨q, hq, hi⟩ := hp.inf _ (cget_mem hk)
  obtain ⟨j, hj, rfl⟩ := List.getElem_of_mem hq
  have hj' : j < (comps zs (allN zs)).length := hj
  have hL := labs_of hd hj'
  have h2 := h1 j hj'
  rw [cget_lt hj'] at h2 hL
  exact fin_infix hi hL.1 h2
end Go.Proofs.Ytnfkhgamnapgmaa

/- Kinds of faces; VerticesOfKind. guards: -/
namespace Go.Proofs.Ytnfkhgamnapgmaa
open Go.RowKit

theorem binEq (a b : Int) (c : Bool) (h : decide (a = b) = c) : binI .i64 .eql a b = some (.bool c) := by
  show some (Value.bool (a == b)) = _
  rw [← h]
  by_cases e : a = b
  · rw [e]; simp
  · rw [decide_eq_false e, beq_eq_false_iff_ne.2 e]
def ordN (zs : List Int) (mask : Nat) : Nat := (ordL zs mask).toNat
theorem ordN_eq {zs : List Int} (hd : isDiag zs = true) (mask : Nat) : ordL zs mask = (ordN zs mask : Int) ∧ 0 < ordN zs mask ∧ ordN zs mask ≤ 33554432 := by
  have := prodTo_lt (allD_in (mask := mask) hd) (allD_le (mask := mask) hd) (Nat.le_refl _)
  unfold ordN ordL
  omega
end Go.Proofs.Ytnfkhgamnapgmaa

/- The admissible sets in order: lists. No program in sight. -/
namespace Go.Proofs.Ytnfkhgamnapgmaa
open Go.RowKit

theorem filter_two {α : Type} (p q r : α → Bool) (hpq : ∀ x, p x = true → q x = false) (hr : ∀ x, r x = (p x || q x)) : ∀ l : List α, (l.filter p ++ l.filter q).Perm (l.filter r)
  | [] => List.Perm.refl _
  | x :: l => by
    have ih := filter_two p q r hpq hr l
    cases hp : p x with
    | true =>
      have hq := hpq x hp
      rw [List.filter_cons_of_pos hp, List.filter_cons_of_neg (by simp [hq]), List.filter_cons_of_pos (by rw [hr, hp]; rfl)]
      exact ih.cons x
    | false =>
      rw [List.filter_cons_of_neg (by simp [hp])]
      cases hq : q x with
      | true =>
        rw [List.filter_cons_of_pos hq, List.filter_cons_of_pos (by rw [hr, hq]; simp)]
        exact (List.perm_middle).trans (ih.cons x)
      | false =>
        rw [List.filter_cons_of_neg (by simp [hq]), List.filter_cons_of_neg (by rw [hr, hp, hq]; simp)]
        exact ih
theorem classes {α : Type} (f : α → Nat) (l : List α) : ∀ m, ((List.range m).flatMap fun k => l.filter fun x => f x == k).Perm (l.filter fun x => decide (f x < m))
  | 0 => by simp
  | m + 1 => by
    rw [List.range_succ, List.flatMap_append]
    refine ((classes f l m).append_right _).trans ?_
    simp only [List.flatMap_cons, List.flatMap_nil, List.append_nil]
    refine filter_two _ _ _ (fun x hx => ?_) (fun x => ?_) l
    · have : f x < m := by simpa using hx
      rw [beq_eq_false_iff_ne]; omega
    · by_cases h1 : f x < m
      · simp [h1]; omega
      · by_cases h2 : f x = m
        · simp [h2]
        · have : ¬ f x < m + 1 := by omega
          simp [h1, h2, this]

/-- the admissible masks as numbers, ascending -/
def rawN (zs : List Int) (r : Nat) : List Nat := (List.range (allN zs + 1)).filter fun s => admB zs s r
def rawL (zs : List Int) (r : Nat) : List Int := (rawN zs r).map fun s : Nat => (s : Int)
/-- those with k nodes, of the masks below s -/
def rankN (zs : List Int) (r k s : Nat) : List Nat := (List.range s).filter fun s => pcN s == k && admB zs s r
/-- the admissible masks, by their ranks -/
def setsN (zs : List Int) (r k : Nat) : List Nat := (List.range k).flatMap fun k => rankN zs r k (allN zs + 1)
def setsL (zs : List Int) (r : Nat) : List Int := (setsN zs r (zs.length + 2)).map fun s : Nat => (s : Int)
theorem pc_le {L : Nat} (h4 : L ≤ 4) {s : Nat} (hs : s < 2 ^ (L + 1)) : pcN s ≤ L + 1 := by
  rcases (by omega : L = 0 ∨ L = 1 ∨ L = 2 ∨ L = 3 ∨ L = 4) with rfl | rfl | rfl | rfl | rfl <;> (simp at hs; unfold pcN; omega)
theorem allN_pow (zs : List Int) : allN zs + 1 = 2 ^ (zs.length + 1) := by
  have := Nat.pow_pos (n := zs.length + 1) (show 0 < 2 by decide); unfold allN; omega
theorem pow_le32 {L : Nat} (h4 : L ≤ 4) : 2 ^ (L + 1) ≤ 32 := by
  have : 2 ^ (L + 1) ≤ 2 ^ 5 := Nat.pow_le_pow_right (by decide) (by omega)
  omega
theorem rank_eq (zs : List Int) (r k : Nat) : rankN zs r k (allN zs + 1) = (rawN zs r).filter fun s => pcN s == k := by
  unfold rankN rawN; rw [List.filter_filter]
theorem rawN_lt {zs : List Int} {r s : Nat} (h : s ∈ rawN zs r) : s < 2 ^ (zs.length + 1) := by
  unfold rawN at h
  have h1 := (List.mem_filter.1 h).1
  rw [List.mem_range, allN_pow] at h1; exact h1
theorem sets_perm {zs : List Int} (h4 : zs.length ≤ 4) (r : Nat) : (setsN zs r (zs.length + 2)).Perm (rawN zs r) := by
  unfold setsN
  simp only [rank_eq]
  refine (classes pcN (rawN zs r) (zs.length + 2)).trans ?_
  rw [List.filter_eq_self.2 fun s hs => ?_]
  have := pc_le h4 (rawN_lt hs)
  exact decide_eq_true (by omega)
/-- first by the number of nodes, then as numbers -/
def keyZ (x : Int) : Nat := pcN x.toNat * 64 + x.toNat
theorem sets_asc {zs : List Int} (h4 : zs.length ≤ 4) (r : Nat) : (setsL zs r).Pairwise fun x y => keyZ x ≤ keyZ y := by
  unfold setsL setsN
  have hmem : ∀ k, ∀ s ∈ rankN zs r k (allN zs + 1), pcN s = k ∧ s < 64 := fun k s hs => by
    rw [rank_eq] at hs
    have h1 := List.mem_filter.1 hs
    have h2 := rawN_lt h1.1
    have h3 := pow_le32 h4
    exact ⟨by simpa using h1.2, by omega⟩
  rw [List.pairwise_map, List.pairwise_flatMap]
  refine ⟨fun k _ => ?_, ?_⟩
  · have h1 : (rankN zs r k (allN zs + 1)).Pairwise (· < ·) := List.Pairwise.filter _ List.pairwise_lt_range
    refine List.Pairwise.imp_of_mem (fun {x y} hx hy hxy => ?_) h1
    have e1 := hmem k x hx
    have e2 := hmem k y hy
    unfold keyZ; simp only [Int.toNat_natCast]; omega
  · refine List.Pairwise.imp (fun {k l} hkl x hx y hy => ?_) (List.pairwise_lt_range (n := zs.length + 2))
    have e1 := hmem k x hx
    have e2 := hmem l y hy
    unfold keyZ; simp only [Int.toNat_natCast]; omega
theorem rawL_len {zs : List Int} (h4 : zs.length ≤ 4) (r : Nat) : (rawL zs r).length ≤ 32 := by
  unfold rawL rawN
  rw [List.length_map]
  refine Nat.le_trans (List.length_filter_le _ _) ?_
  rw [List.length_range, allN_pow]; exact pow_le32 h4
theorem setsL_perm {zs : List Int} (h4 : zs.length ≤ 4) (r : Nat) : (setsL zs r).Perm (rawL zs r) := (sets_perm h4 r).map _
theorem setsL_len {zs : List Int} (h4 : zs.length ≤ 4) (r : Nat) : (setsL zs r).length ≤ 32 := by
  rw [(setsL_perm h4 r).length_eq]; exact rawL_len h4 r
theorem raw_rng {zs : List Int} (h4 : zs.length ≤ 4) (r : Nat) : Rng (rawL zs r) := fun z hz => by
  unfold rawL at hz
  obtain ⟨s, hs, rfl⟩ := List.mem_map.1 hz
  have h1 := rawN_lt hs
  have h2 := pow_le32 h4
  omega
theorem raw_agr {zs : List Int} (h4 : zs.length ≤ 4) (r : Nat) : AgrA keyZ lessZ (rawL zs r) 0 (rawL zs r).length := fun i j _ hij hj => by
  have h1 : (rawL zs r).Pairwise (· < ·) := by
    unfold rawL rawN
    rw [List.pairwise_map]
    refine List.Pairwise.imp (fun {a b} h => by omega) (List.Pairwise.filter _ List.pairwise_lt_range)
  have h2 := List.pairwise_iff_getElem.1 h1 i j (by omega) hj hij
  rw [← iget_lt, ← iget_lt] at h2
  obtain ⟨x, hx, hx2⟩ := (raw_rng h4 r).at_ i
  obtain ⟨y, hy, hy2⟩ := (raw_rng h4 r).at_ j
  rw [hx, hy] at h2 ⊢
  unfold lessZ cmpZ keyZ
  simp only [Int.toNat_natCast, decide_eq_true_iff]
  omega
theorem key_inj {zs : List Int} (h : Rng zs) : ∀ x y, x ∈ zs → y ∈ zs → keyZ x = keyZ y → x = y := fun x y hx hy e => by
  have h1 := h x hx
  have h2 := h y hy
  unfold keyZ at e
  omega
/-- what the stable sort makes of the masks -/
theorem sets_uniq {zs z : List Int} (h4 : zs.length ≤ 4) (r : Nat) (hk : Kept (rawL zs r) z 0 (rawL zs r).length) (ha : Asc keyZ z 0 (rawL zs r).length) : z = setsL zs r :=
  asc_uniq (key := keyZ) (key_inj (raw_rng h4 r)) hk.perm (by rw [hk.len]; exact ha) _ (setsL_perm h4 r) (sets_asc h4 r)
theorem rawN_succ (zs : List Int) (r s : Nat) : (List.range (s + 1)).filter (fun s => admB zs s r) = (List.range s).filter (fun s => admB zs s r) ++ (if admB zs s r = true then [s] else []) := by
  rw [List.range_succ, List.filter_append]
  congr 1
  cases h : admB zs s r <;> simp [h]
theorem rankN_succ (zs : List Int) (r k s : Nat) : rankN zs r k (s + 1) = rankN zs r k s ++ (if (pcN s == k && admB zs s r) = true then [s] else []) := by
  unfold rankN
  rw [List.range_succ, List.filter_append]
  congr 1
  cases h : (pcN s == k && admB zs s r) <;> simp [h]
theorem setsN_succ (zs : List Int) (r k : Nat) : setsN zs r (k + 1) = setsN zs r k ++ rankN zs r k (allN zs + 1) := by
  unfold setsN
  rw [List.range_succ, List.flatMap_append]; simp
/-- the numbers of ones -/
theorem pc_half {s : Nat} (hs : s < 32) : pcN (s / 2) + s % 2 = pcN s := by unfold pcN; omega
end Go.Proofs.Ytnfkhgamnapgmaa

/- The admissible sets in order: l13Bits, l13Sets, admissibleSets. guards: -/
namespace Go.Proofs.Ytnfkhgamnapgmaa
open Go.RowKit

set_option maxRecDepth 100000 in
theorem bitsS_fc (x : Nat) (hx : x < 32) : FC Try.prog 80 [] [vv (I6 x)] [] (vv (I6 (pcN x : Nat))) [] := by
  refine fc_enter (nt := 13) Try.func80 rfl rfl (by simp) fun w0 ω0 => ?_
  (refine goes_seq ?_; refine goes_region ?_; apply run_step rfl; (exact stp_assign rfl rfl); refine run_nil ?_; refine fin_seq ?_; refine goes_seq ?_; refine goes_region ?_; apply run_step rfl; (exact stp_assign rfl rfl); refine run_nil ?_; refine fin_seq ?_; refine goes_seq ?_; refine goes_block ?_)
  refine goes_loop (fun q : Nat × Nat => St.of [(0, vv (I6 q.1)), (3, vv (I6 q.2))] []) (fun q => q.1 < 32 ∧ q.2 + pcN q.1 = pcN x) (fun q => q.1) (x, 0) ⟨hx, Nat.zero_add _⟩ (Wk.of ⟨rfl, rfl, trivial⟩ trivial trivial) ?_
  rintro ⟨s, c⟩ ⟨hs, hc⟩
  dsimp only at hs hc ⊢
  (refine goes_seq ?_; refine goes_seq ?_; refine goes_region ?_; apply run_step rfl; (exact stp_move rfl rfl); apply run_step rfl; (exact stp_bin rfl rfl rfl rfl); refine run_nil ?_; refine fin_seq ?_)
  refine goes_if rfl (fun hlt => ?_) (fun hlt => ?_)
  · have hs0 : 0 < s := by omega
    have h2 : (0 : Nat) < 2 := by decide
    have hsb : s < 1000000000000 := by omega
    have hp := pc_half hs
    have hq := pcN_le x
    have hw : IntKind.i64.wrap ((c : Int) + ((s % 2 : Nat) : Int)) = ((c + s % 2 : Nat) : Int) := by rw [IntWalk.i64_in _ (by omega)]; omega
    (refine goes_skip ?_; refine fin_seq ?_; refine goes_seq ?_; refine goes_block ?_; refine goes_region ?_; apply run_step rfl; (exact stp_move rfl rfl); apply run_step rfl; (exact stp_move rfl rfl); apply run_step rfl; (first | exact stp_remN (b := 2) rfl rfl rfl h2 hsb | exact stp_quoN (b := 2) rfl rfl rfl h2 hsb | exact stp_add rfl rfl rfl hw); apply run_step rfl; (first | exact stp_remN (b := 2) rfl rfl rfl h2 hsb | exact stp_quoN (b := 2) rfl rfl rfl h2 hsb | exact stp_add rfl rfl rfl hw); apply run_step rfl; (exact stp_assign rfl rfl); refine run_nil ?_; refine fin_block ?_; refine fin_seq ?_; refine goes_region ?_; apply run_step rfl; (exact stp_move rfl rfl); apply run_step rfl; (first | exact stp_remN (b := 2) rfl rfl rfl h2 hsb | exact stp_quoN (b := 2) rfl rfl rfl h2 hsb | exact stp_add rfl rfl rfl hw); apply run_step rfl; (exact stp_assign rfl rfl); refine run_nil ?_)
    exact fin_round (s / 2, c + s % 2) ⟨by dsimp only; omega, by dsimp only; omega⟩ (by dsimp only; omega) (Wk.of ⟨rfl, rfl, trivial⟩ trivial trivial)
  · obtain rfl : s = 0 := by omega
    have : c = pcN x := by have : pcN 0 = 0 := rfl; omega
    rw [← this]
    (refine goes_exit ?_; refine fin_exit_then ?_; refine fin_exit_then ?_; refine fin_exit_eq ?_; refine fin_seq ?_; refine goes_seq ?_; refine goes_region ?_; apply run_step rfl; (exact stp_move rfl rfl); apply run_step rfl; (exact stp_assign rfl rfl); refine run_nil ?_; refine fin_seq ?_; refine goes_ret ?_)
    exact fin_ret1 (.inl rfl) rfl (.tmp rfl) trivial trivial

def rawTo (zs : List Int) (r s : Nat) : List Int := ((List.range s).filter fun s => admB zs s r).map fun s : Nat => (s : Int)
theorem rawTo_yes {zs : List Int} {r s : Nat} (h : admB zs s r = true) : rawTo zs r (s + 1) = rawTo zs r s ++ [(s : Int)] := by
  unfold rawTo; rw [rawN_succ, if_pos h, List.map_append]; rfl
theorem rawTo_no {zs : List Int} {r s : Nat} (h : admB zs s r = false) : rawTo zs r (s + 1) = rawTo zs r s := by
  unfold rawTo; rw [rawN_succ, if_neg (by rw [h]; simp), List.append_nil]
theorem rawTo_len (zs : List Int) (r s : Nat) : (rawTo zs r s).length ≤ s := by
  unfold rawTo; rw [List.length_map]; exact Nat.le_trans (List.length_filter_le _ _) (by rw [List.length_range]; exact Nat.le_refl _)
set_option maxRecDepth 100000 in
set_option maxHeartbeats 2000000 in
theorem setsI_fc (zs : List Int) (L r : Nat) (hL : zs.length = L) (h4 : L ≤ 4) (hr : r < 1000) :
    FC Try.prog 74 [(1003, wRo zs)] [o1 (.sl 1003 0 L), vv (I6 r)] [(2400, leOw (setsL zs r))] (o1 (.sl 2400 0 (setsL zs r).length)) [] := by
  have hA := allI_fc zs L hL h4
  have hlt := allN_lt (zs := zs) (by omega)
  have h32 := pow_le32 h4
  have hp := allN_pow zs
  rw [hL] at hp
  have hw : IntKind.i64.wrap ((allN zs : Int) + 1) = ((allN zs + 1 : Nat) : Int) := by rw [IntWalk.i64_in _ (by omega)]; omega
  refine fc_enter (nt := 25) Try.func74 rfl rfl (by simp) fun w0 ω0 => ?_
  (refine goes_seq ?_; refine goes_region ?_; apply run_step rfl; (exact stp_assign rfl rfl); refine run_nil ?_; refine fin_seq ?_; refine goes_seq ?_; refine goes_region ?_; apply run_step rfl; (exact stp_assign rfl rfl); refine run_nil ?_; refine fin_seq ?_; refine goes_seq ?_; refine goes_seq ?_; refine goes_region ?_; apply run_step rfl; (exact stp_move rfl rfl); apply run_step rfl; (first | (apply call_gate 133; exact stp_callR hA (by as_aux_lemma => kernel_rfl) rfl rfl ⟨rfl, trivial⟩ ⟨⟨_, rfl, .inl rfl⟩, trivial⟩ rfl rfl) | exact stp_add rfl rfl rfl hw); apply run_step rfl; (first | (apply call_gate 133; exact stp_callR hA (by as_aux_lemma => kernel_rfl) rfl rfl ⟨rfl, trivial⟩ ⟨⟨_, rfl, .inl rfl⟩, trivial⟩ rfl rfl) | exact stp_add rfl rfl rfl hw); apply run_step rfl; (exact stp_move rfl rfl); refine run_nil ?_; refine fin_seq ?_; refine goes_block ?_)
  refine goes_loop (fun s : Nat => St.of [(0, o1 (.sl 1003 0 L)), (1, vv (I6 r)), (5, o1 (.sl 2400 0 (rawTo zs r s).length)), (9, vv (I6 (allN zs + 1 : Nat))), (10, vv (I6 s))] [(1003, wRo zs), (2400, leOw (rawTo zs r s))]) (fun s => s ≤ allN zs + 1) (fun s => allN zs + 1 - s) 0 (Nat.zero_le _) (Wk.trans (wk_nil (t := 5) (n := 2400) (k := 1) (E := 2) (d := .vals (ivals [])) rfl rfl) (Wk.of ⟨rfl, rfl, rfl, rfl, rfl, trivial⟩ ⟨rfl, rfl, trivial⟩ trivial)) ?_
  rintro s hs
  (refine goes_seq ?_; refine goes_region ?_; apply run_step rfl; (exact stp_bin rfl rfl rfl rfl); refine run_nil ?_; refine fin_seq ?_; refine goes_seq ?_)
  refine goes_if rfl (fun hls => ?_) (fun hls => ?_)
  · have hsn : s < 1000 := by omega
    have hG := adm_fc zs L r s hL h4 hr hsn
    have e8 : IntKind.i64.wrap ((s : Int) + 1) = ((s + 1 : Nat) : Int) := by rw [IntWalk.i64_in _ (by omega)]; omega
    have hrl := rawTo_len zs r s
    (refine goes_skip ?_; refine fin_seq ?_; refine goes_seq ?_; refine goes_block ?_; refine goes_seq ?_; refine goes_region ?_; apply run_step rfl; (exact stp_move rfl rfl); apply run_step rfl; (exact stp_assign rfl rfl); refine run_nil ?_; refine fin_seq ?_; refine goes_seq ?_; refine goes_region ?_; apply run_step rfl; (exact stp_move rfl rfl); apply run_step rfl; (exact stp_move rfl rfl); apply run_step rfl; (exact stp_move rfl rfl); apply run_step rfl; (apply call_gate 134; exact stp_callR hG (by as_aux_lemma => kernel_rfl) rfl rfl ⟨rfl, rfl, rfl, trivial⟩ ⟨⟨_, rfl, .inl rfl⟩, trivial⟩ rfl rfl); refine run_nil ?_; refine fin_seq ?_)
    refine goes_cond rfl (fun ha => ?_) (fun ha => ?_)
    · have hy := rawTo_yes ha
      have hyl : (rawTo zs r (s + 1)).length = (rawTo zs r s).length + 1 := by rw [hy]; simp
      (refine goes_region ?_; apply run_step rfl; (exact stp_move rfl rfl); apply run_step rfl; (exact stp_move rfl rfl); apply run_step rfl; (exact stp_lit1I (E := 2) rfl (by as_aux_lemma => kernel_rfl) rfl); apply run_step rfl; (exact stp_appI rfl (by as_aux_lemma => kernel_rfl) rfl rfl rfl (by first | rfl | assumption | (simp; done)) rfl rfl (by omega)); apply run_step rfl; (exact stp_assign rfl rfl); refine run_nil ?_; refine fin_block ?_; refine fin_seq ?_; refine goes_region ?_; apply run_step rfl; (exact stp_add rfl rfl rfl e8); apply run_step rfl; (exact stp_move rfl rfl); refine run_nil ?_)
      exact fin_round (s + 1) (by omega) (by omega) (Wk.of ⟨rfl, rfl, congrArg (fun z => some (o1 (.sl 2400 0 z))) hyl.symm, rfl, rfl, trivial⟩ ⟨rfl, congrArg (fun z => some (leOw z)) hy.symm, trivial⟩ trivial)
    · have hy := rawTo_no ha
      (refine goes_skip ?_; refine fin_block ?_; refine fin_seq ?_; refine goes_region ?_; apply run_step rfl; (exact stp_add rfl rfl rfl e8); apply run_step rfl; (exact stp_move rfl rfl); refine run_nil ?_)
      exact fin_round (s + 1) (by omega) (by omega) (Wk.of ⟨rfl, rfl, congrArg (fun z => some (o1 (.sl 2400 0 (List.length z)))) hy.symm, rfl, rfl, trivial⟩ ⟨rfl, congrArg (fun z => some (leOw z)) hy.symm, trivial⟩ trivial)
  · obtain rfl : s = allN zs + 1 := by omega
    have hraw : rawTo zs r (allN zs + 1) = rawL zs r := rfl
    rw [hraw]
    have hlen : (setsL zs r).length = (rawL zs r).length := (setsL_perm (by omega) r).length_eq
    have hrl := rawL_len (zs := zs) (by omega) r
    rw [hlen]
    (refine goes_exit ?_; refine fin_exit_then ?_; refine fin_exit_then ?_; refine fin_exit_eq ?_; refine fin_seq ?_; refine goes_seq ?_; refine goes_region ?_; apply run_step rfl; (exact stp_move rfl rfl))
    refine run_ex rfl (stp_turnY (p := fun z => z = setsL zs r) (vs := [cmpF]) den_clo rfl (by as_aux_lemma => kernel_rfl) rfl rfl rfl (by omega) fun ao c w ho => (sortStable_any keyZ ao (rawL zs r).length c (rawL zs r) w 0 ho hrl (raw_rng (by omega) r) (raw_agr (by omega) r)).mono fun e w' ⟨h1, z, hz, ho', hg⟩ => ⟨h1, z, sets_uniq (by omega) r hz.1 hz.2, ho', hg⟩) fun z hz => ?_
    subst hz
    (refine run_nil ?_; refine fin_seq ?_; refine goes_seq ?_; refine goes_region ?_; apply run_step rfl; (exact stp_move rfl rfl); apply run_step rfl; (exact stp_assign rfl rfl); refine run_nil ?_; refine fin_seq ?_; refine goes_ret ?_)
    exact fin_ret1 (.inl rfl) rfl (.tmp rfl) ⟨rfl, trivial⟩ trivial

def setsTo (zs : List Int) (r k s : Nat) : List Int := (setsN zs r k ++ rankN zs r k s).map fun s : Nat => (s : Int)
theorem setsTo_yes {zs : List Int} {r k s : Nat} (h1 : pcN s = k) (h : admB zs s r = true) : setsTo zs r k (s + 1) = setsTo zs r k s ++ [(s : Int)] := by
  unfold setsTo; rw [rankN_succ, if_pos (by rw [h, h1]; simp), ← List.append_assoc, List.map_append]; rfl
theorem setsTo_no {zs : List Int} {r k s : Nat} (h : pcN s ≠ k ∨ admB zs s r = false) : setsTo zs r k (s + 1) = setsTo zs r k s := by
  unfold setsTo; rw [rankN_succ, if_neg (fun e => ?_), List.append_nil]
  rw [Bool.and_eq_true, beq_iff_eq] at e
  rcases h with h | h
  · exact h e.1
  · rw [e.2] at h; cases h
theorem setsTo_end (zs : List Int) (r k : Nat) : setsTo zs r k (allN zs + 1) = setsTo zs r (k + 1) 0 := by
  unfold setsTo; rw [setsN_succ]; simp [rankN]
theorem setsTo_len (zs : List Int) (r : Nat) : ∀ k s, (setsTo zs r k s).length ≤ k * (allN zs + 1) + s := fun k s => by
  unfold setsTo
  rw [List.length_map, List.length_append]
  have h1 : ∀ k, (setsN zs r k).length ≤ k * (allN zs + 1) := fun k => by
    induction k with
    | zero => simp [setsN]
    | succ k ih =>
      rw [setsN_succ, List.length_append, Nat.succ_mul]
      have : (rankN zs r k (allN zs + 1)).length ≤ allN zs + 1 := Nat.le_trans (List.length_filter_le _ _) (by rw [List.length_range]; exact Nat.le_refl _)
      omega
  have h2 : (rankN zs r k s).length ≤ s := Nat.le_trans (List.length_filter_le _ _) (by rw [List.length_range]; exact Nat.le_refl _)
  have := h1 k
  omega
set_option maxRecDepth 100000 in
set_option maxHeartbeats 2000000 in
theorem setsS_fc (zs : List Int) (L r : Nat) (hL : zs.length = L) (h4 : L ≤ 4) (hr : r < 1000) :
    FC Try.prog 72 [(1003, wRo zs)] [o1 (.sl 1003 0 L), vv (I6 r)] [(8, leOw (setsL zs r))] (o1 (.sl 8 0 (setsL zs r).length)) [] := by
  have hA := wholeS_fc zs L hL h4
  have hR := rankS_fc zs L h4
  have h32 := pow_le32 h4
  have hp := allN_pow zs
  rw [hL] at hp
  refine fc_enter (nt := 36) Try.func72 rfl rfl (by simp) fun w0 ω0 => ?_
  (refine goes_seq ?_; refine goes_region ?_; apply run_step rfl; (exact stp_assign rfl rfl); refine run_nil ?_; refine fin_seq ?_; refine goes_seq ?_; refine goes_region ?_; apply run_step rfl; (exact stp_lit0 (E := 2) (k := 1) rfl (by as_aux_lemma => kernel_rfl)); apply run_step rfl; (exact stp_assign rfl rfl); refine run_nil ?_; refine fin_seq ?_; refine goes_seq ?_; refine goes_seq ?_; refine goes_region ?_; apply run_step rfl; (exact stp_assign rfl rfl); refine run_nil ?_; refine fin_seq ?_; refine goes_block ?_)
  refine goes_loop (fun k : Nat => St.of [(0, o1 (.sl 1003 0 L)), (1, vv (I6 r)), (5, o1 (.sl 8 0 (setsTo zs r k 0).length)), (6, vv (I6 k))] [(1003, wRo zs), (8, leOw (setsTo zs r k 0))]) (fun k => k ≤ L + 2) (fun k => L + 2 - k) 0 (Nat.zero_le _) (Wk.of ⟨rfl, rfl, rfl, rfl, trivial⟩ ⟨rfl, rfl, trivial⟩ trivial) ?_
  rintro k hk
  (refine goes_seq ?_; refine goes_seq ?_; refine goes_region ?_; apply run_step rfl; (exact stp_move rfl rfl); apply run_step rfl; (exact stp_move rfl rfl); apply run_step rfl; (apply call_gate 78; exact stp_callR hR (by as_aux_lemma => kernel_rfl) rfl rfl ⟨rfl, trivial⟩ ⟨⟨_, rfl, .inl rfl⟩, trivial⟩ rfl rfl); apply run_step rfl; (exact stp_bin rfl rfl rfl rfl); refine run_nil ?_; refine fin_seq ?_)
  refine goes_if rfl (fun hlk => ?_) (fun hlk => ?_)
  · have hk1 : k ≤ L + 1 := by omega
    have e9 : IntKind.i64.wrap ((k : Int) + 1) = ((k + 1 : Nat) : Int) := by rw [IntWalk.i64_in _ (by omega)]; omega
    (refine goes_skip ?_; refine fin_seq ?_; refine goes_seq ?_; refine goes_block ?_; refine goes_seq ?_; refine goes_region ?_; apply run_step rfl; (exact stp_assign rfl rfl); refine run_nil ?_; refine fin_seq ?_; refine goes_block ?_)
    refine goes_loop (fun s : Nat => St.of [(0, o1 (.sl 1003 0 L)), (1, vv (I6 r)), (5, o1 (.sl 8 0 (setsTo zs r k s).length)), (6, vv (I6 k)), (7, vv (I6 s))] [(1003, wRo zs), (8, leOw (setsTo zs r k s))]) (fun s => s ≤ allN zs + 1) (fun s => allN zs + 1 - s) 0 (Nat.zero_le _) (Wk.of ⟨rfl, rfl, rfl, rfl, rfl, trivial⟩ ⟨rfl, rfl, trivial⟩ trivial) ?_
    rintro s hs
    (refine goes_seq ?_; refine goes_seq ?_; refine goes_region ?_; apply run_step rfl; (exact stp_move rfl rfl); apply run_step rfl; (exact stp_move rfl rfl); apply run_step rfl; (apply call_gate 77; exact stp_callR hA (by as_aux_lemma => kernel_rfl) rfl rfl ⟨rfl, trivial⟩ ⟨⟨_, rfl, .inl rfl⟩, trivial⟩ rfl rfl); apply run_step rfl; (exact stp_bin rfl rfl rfl rfl); refine run_nil ?_; refine fin_seq ?_)
    refine goes_if rfl (fun hls => ?_) (fun hls => ?_)
    · have hsn : s < 32 := by omega
      have hB := bitsS_fc s hsn
      have hG := rng_fc zs L s r hL h4 (by omega) hr
      have e8 : IntKind.i64.wrap ((s : Int) + 1) = ((s + 1 : Nat) : Int) := by rw [IntWalk.i64_in _ (by omega)]; omega
      have hrl := setsTo_len zs r k s
      have hrl2 : (setsTo zs r k s).length ≤ 1000 := by
        refine Nat.le_trans hrl ?_
        have : k * (allN zs + 1) ≤ 6 * 32 := Nat.mul_le_mul (by omega) (by omega)
        omega
      by_cases hpk : pcN s = k
      · have hbe := binEq (pcN s : Int) (k : Int) true (by rw [hpk]; simp)
        (refine goes_skip ?_; refine fin_seq ?_; refine goes_seq ?_; refine goes_block ?_; refine goes_seq ?_; refine goes_region ?_; apply run_step rfl; (exact stp_move rfl rfl); apply run_step rfl; (first | (apply call_gate 80; exact stp_callR hB (by as_aux_lemma => kernel_rfl) rfl rfl ⟨rfl, trivial⟩ trivial rfl rfl) | exact stp_bin rfl rfl rfl hbe | (apply call_gate 131; exact stp_callR hG (by as_aux_lemma => kernel_rfl) rfl rfl ⟨rfl, rfl, rfl, trivial⟩ ⟨⟨_, rfl, .inl rfl⟩, trivial⟩ rfl rfl)); apply run_step rfl; (exact stp_move rfl rfl); apply run_step rfl; (first | (apply call_gate 80; exact stp_callR hB (by as_aux_lemma => kernel_rfl) rfl rfl ⟨rfl, trivial⟩ trivial rfl rfl) | exact stp_bin rfl rfl rfl hbe | (apply call_gate 131; exact stp_callR hG (by as_aux_lemma => kernel_rfl) rfl rfl ⟨rfl, rfl, rfl, trivial⟩ ⟨⟨_, rfl, .inl rfl⟩, trivial⟩ rfl rfl)); apply run_step rfl; (exact stp_move rfl rfl); apply run_gYes rfl rfl rfl; (exact stp_move rfl rfl); apply run_gYes rfl rfl rfl; (exact stp_move rfl rfl); apply run_gYes rfl rfl rfl; (exact stp_move rfl rfl); apply run_gYes rfl rfl rfl; (first | (apply call_gate 80; exact stp_callR hB (by as_aux_lemma => kernel_rfl) rfl rfl ⟨rfl, trivial⟩ trivial rfl rfl) | exact stp_bin rfl rfl rfl hbe | (apply call_gate 131; exact stp_callR hG (by as_aux_lemma => kernel_rfl) rfl rfl ⟨rfl, rfl, rfl, trivial⟩ ⟨⟨_, rfl, .inl rfl⟩, trivial⟩ rfl rfl)); apply run_step rfl; (exact stp_pickT rfl rfl rfl); refine run_nil ?_; refine fin_seq ?_)
        refine goes_cond rfl (fun ha => ?_) (fun ha => ?_)
        · have hy := setsTo_yes (k := k) hpk ha
          have hyl : (setsTo zs r k (s + 1)).length = (setsTo zs r k s).length + 1 := by rw [hy]; simp
          (refine goes_region ?_; apply run_step rfl; (exact stp_move rfl rfl); apply run_step rfl; (exact stp_move rfl rfl); apply run_step rfl; (exact stp_lit1I (E := 2) rfl (by as_aux_lemma => kernel_rfl) rfl); apply run_step rfl; (exact stp_appI rfl (by as_aux_lemma => kernel_rfl) rfl rfl rfl (by first | rfl | assumption | (simp; done)) rfl rfl (by omega)); apply run_step rfl; (exact stp_assign rfl rfl); refine run_nil ?_; refine fin_block ?_; refine fin_seq ?_; refine goes_region ?_; apply run_step rfl; (exact stp_move rfl rfl); apply run_step rfl; (exact stp_add rfl rfl rfl e8); apply run_step rfl; (exact stp_assign rfl rfl); refine run_nil ?_)
          exact fin_round (s + 1) (by omega) (by omega) (Wk.of ⟨rfl, rfl, congrArg (fun z => some (o1 (.sl 8 0 z))) hyl.symm, rfl, rfl, trivial⟩ ⟨rfl, congrArg (fun z => some (leOw z)) hy.symm, trivial⟩ trivial)
        · have hy := setsTo_no (k := k) (.inr ha)
          (refine goes_skip ?_; refine fin_block ?_; refine fin_seq ?_; refine goes_region ?_; apply run_step rfl; (exact stp_move rfl rfl); apply run_step rfl; (exact stp_add rfl rfl rfl e8); apply run_step rfl; (exact stp_assign rfl rfl); refine run_nil ?_)
          exact fin_round (s + 1) (by omega) (by omega) (Wk.of ⟨rfl, rfl, congrArg (fun z => some (o1 (.sl 8 0 (List.length z)))) hy.symm, rfl, rfl, trivial⟩ ⟨rfl, congrArg (fun z => some (leOw z)) hy.symm, trivial⟩ trivial)
      · have hbe := binEq (pcN s : Int) (k : Int) false (by rw [decide_eq_false_iff_not]; omega)
        (refine goes_skip ?_; refine fin_seq ?_; refine goes_seq ?_; refine goes_block ?_; refine goes_seq ?_; refine goes_region ?_; apply run_step rfl; (exact stp_move rfl rfl); apply run_step rfl; (first | (apply call_gate 80; exact stp_callR hB (by as_aux_lemma => kernel_rfl) rfl rfl ⟨rfl, trivial⟩ trivial rfl rfl) | exact stp_bin rfl rfl rfl hbe); apply run_step rfl; (exact stp_move rfl rfl); apply run_step rfl; (first | (apply call_gate 80; exact stp_callR hB (by as_aux_lemma => kernel_rfl) rfl rfl ⟨rfl, trivial⟩ trivial rfl rfl) | exact stp_bin rfl rfl rfl hbe); apply run_step rfl; (exact stp_move rfl rfl); apply run_gNo rfl rfl rfl rfl rfl; apply run_gNo rfl rfl rfl rfl rfl; apply run_gNo rfl rfl rfl rfl rfl; apply run_gNo rfl rfl rfl rfl rfl; apply run_step rfl; (exact stp_pickF rfl rfl rfl); refine run_nil ?_; refine fin_seq ?_)
        refine goes_cond rfl (fun e => by cases e) (fun _ => ?_)
        have hy := setsTo_no (zs := zs) (r := r) (k := k) (.inl hpk)
        (refine goes_skip ?_; refine fin_block ?_; refine fin_seq ?_; refine goes_region ?_; apply run_step rfl; (exact stp_move rfl rfl); apply run_step rfl; (exact stp_add rfl rfl rfl e8); apply run_step rfl; (exact stp_assign rfl rfl); refine run_nil ?_)
        exact fin_round (s + 1) (by omega) (by omega) (Wk.of ⟨rfl, rfl, congrArg (fun z => some (o1 (.sl 8 0 (List.length z)))) hy.symm, rfl, rfl, trivial⟩ ⟨rfl, congrArg (fun z => some (leOw z)) hy.symm, trivial⟩ trivial)
    · obtain rfl : s = allN zs + 1 := by omega
      have hy := setsTo_end zs r k
      (refine goes_exit ?_; refine fin_exit_then ?_; refine fin_exit_then ?_; refine fin_exit_eq ?_; refine fin_block ?_; refine fin_seq ?_; refine goes_region ?_; apply run_step rfl; (exact stp_move rfl rfl); apply run_step rfl; (exact stp_add rfl rfl rfl e9); apply run_step rfl; (exact stp_assign rfl rfl); refine run_nil ?_)
      exact fin_round (k + 1) (by omega) (by omega) (Wk.of ⟨rfl, rfl, congrArg (fun z => some (o1 (.sl 8 0 (List.length z)))) hy, rfl, trivial⟩ ⟨rfl, congrArg (fun z => some (leOw z)) hy, trivial⟩ trivial)
  · obtain rfl : k = L + 2 := by omega
    have hy : setsTo zs r (L + 2) 0 = setsL zs r := by unfold setsTo setsL; rw [hL]; simp [rankN]
    rw [← hy]
    (refine goes_exit ?_; refine fin_exit_then ?_; refine fin_exit_then ?_; refine fin_exit_eq ?_; refine fin_seq ?_; refine goes_seq ?_; refine goes_region ?_; apply run_step rfl; (exact stp_move rfl rfl); apply run_step rfl; (exact stp_assign rfl rfl); refine run_nil ?_; refine fin_seq ?_; refine goes_ret ?_)
    exact fin_ret1 (.inl rfl) rfl (.tmp rfl) ⟨rfl, trivial⟩ trivial
end Go.Proofs.Ytnfkhgamnapgmaa

/- DegreesOf. guards: -/
namespace Go.Proofs.Ytnfkhgamnapgmaa
open Go.RowKit

end Go.Proofs.Ytnfkhgamnapgmaa

/- AdmissibleSets. guards: -/
namespace Go.Proofs.Ytnfkhgamnapgmaa
open Go.RowKit

theorem setC_0 (zs : List Int) (m : Int) : setC zs m 0 = ringC zs m := by
  have h : inB 0 0 (allN zs) = true := inB_true.2 ⟨by omega, by omega⟩
  unfold setC
  rw [h]; simp
theorem ringC_zero {zs : List Int} {m : Int} (h : ringC zs m = 0) : isDiag zs = true ∧ finB zs (allN zs) = true ∧ ∃ k : Nat, m = k ∧ k ≤ allN zs ∧ admB zs (allN zs) k = true := by
  obtain ⟨hd, hf, k, _, rfl, _, hk, _⟩ := setC_zero ((setC_0 zs m).trans h)
  have hb : inB (k : Int) 0 (allN zs) = true := inB_true.2 ⟨by omega, by omega⟩
  rw [ringC_in hd hb hf] at h
  cases ha : admB zs (allN zs) k with
  | true => exact ⟨hd, hf, k, rfl, hk, ha⟩
  | false => rw [ha, if_neg (by simp)] at h; cases h
set_option maxRecDepth 100000 in
theorem ringI_fc (zs : List Int) (L : Nat) (m : Int) (hL : zs.length = L) (hn : L ≤ 4398046511104) :
    FC Try.prog 73 [(1003, wRo zs)] [o1 (.sl 1003 0 L), vv (I6 m)] [] (vv (I6 (ringC zs m))) [] := by
  have hS := setI_fc zs L m 0 hL hn
  rw [setC_0] at hS
  refine fc_enter (nt := 8) Try.func73 rfl rfl (by simp) fun w0 ω0 => ?_
  (refine goes_seq ?_; refine goes_region ?_; apply run_step rfl; (exact stp_assign rfl rfl); refine run_nil ?_; refine fin_seq ?_; refine goes_seq ?_; refine goes_region ?_; apply run_step rfl; (exact stp_move rfl rfl); apply run_step rfl; (exact stp_move rfl rfl); apply run_step rfl; (apply call_gate 132; exact stp_callR hS (by as_aux_lemma => kernel_rfl) rfl rfl ⟨rfl, rfl, rfl, trivial⟩ ⟨⟨_, rfl, .inl rfl⟩, trivial⟩ rfl rfl); apply run_step rfl; (exact stp_assign rfl rfl); refine run_nil ?_; refine fin_seq ?_; refine goes_ret ?_)
  exact fin_ret1 (.inl rfl) rfl (.tmp rfl) trivial trivial
end Go.Proofs.Ytnfkhgamnapgmaa

/- FacesOfKind. guards: -/
namespace Go.Proofs.Ytnfkhgamnapgmaa
open Go.RowKit

/-- the number of faces of a kind -/
def cntN (zs : List Int) (k l : Nat) : Nat := ordN zs (allN zs) / ordN zs l / ordN zs (fixN zs k l)
theorem fixN_lt {zs : List Int} (h4 : zs.length ≤ 4) (r set : Nat) : fixN zs r set < 1000 := by
  have h1 := fix_lt zs r set (zs.length + 1)
  have h2 : 2 ^ (zs.length + 1) ≤ 2 ^ 5 := Nat.pow_le_pow_right (by decide) (by omega)
  unfold fixN; omega
set_option maxRecDepth 100000 in
theorem cntI_fc (zs : List Int) (L k l : Nat) (hL : zs.length = L) (hd : isDiag zs = true) (hf : finB zs (allN zs) = true) (hk : k < 1000) (hl : l < 1000) :
    FC Try.prog 88 [(1003, wRo zs)] [o1 (.sl 1003 0 L), vv (I6 k), vv (I6 l)] [] (vv (I6 (cntN zs k l : Nat))) [] := by
  have h4 : L ≤ 4 := by have := isDiag_len hd; omega
  have hlt := allN_lt (zs := zs) (by omega)
  have hfl := fixN_lt (zs := zs) (by omega) k l
  have hN := allI_fc zs L hL h4
  have hA := ordYes_fc zs L (allN zs) hL hd (by omega) hf
  have hO := ordYes_fc zs L l hL hd hl (fin_sub hd hf l)
  have hX := fixI_fc zs L k l hL h4 hk hl
  have hP := ordYes_fc zs L (fixN zs k l) hL hd hfl (fin_sub hd hf _)
  obtain ⟨e1, p1, q1⟩ := ordN_eq hd (allN zs)
  obtain ⟨e2, p2, q2⟩ := ordN_eq hd l
  obtain ⟨e3, p3, q3⟩ := ordN_eq hd (fixN zs k l)
  rw [e1] at hA
  rw [e2] at hO
  rw [e3] at hP
  have hq1 : ordN zs (allN zs) < 1000000000000 := by omega
  have hq2 : ordN zs (allN zs) / ordN zs l < 1000000000000 := Nat.lt_of_le_of_lt (Nat.div_le_self _ _) hq1
  unfold cntN
  refine fc_enter (nt := 40) Try.func88 rfl rfl (by simp) fun w0 ω0 => ?_
  (refine goes_seq ?_; refine goes_region ?_; apply run_step rfl; (exact stp_assign rfl rfl); refine run_nil ?_; refine fin_seq ?_; refine goes_seq ?_; refine goes_region ?_; apply run_step rfl; (exact stp_move rfl rfl); apply run_step rfl; (exact stp_move rfl rfl); apply run_step rfl; (first | (apply call_gate 133; exact stp_callR hN (by as_aux_lemma => kernel_rfl) rfl rfl ⟨rfl, trivial⟩ ⟨⟨_, rfl, .inl rfl⟩, trivial⟩ rfl rfl) | (apply call_gate 141; exact stp_callR hX (by as_aux_lemma => kernel_rfl) rfl rfl ⟨rfl, rfl, rfl, trivial⟩ ⟨⟨_, rfl, .inl rfl⟩, trivial⟩ rfl rfl) | (apply call_gate 140; exact stp_callR hA (by as_aux_lemma => kernel_rfl) rfl rfl ⟨rfl, rfl, trivial⟩ ⟨⟨_, rfl, .inl rfl⟩, trivial⟩ rfl rfl) | (apply call_gate 140; exact stp_callR hO (by as_aux_lemma => kernel_rfl) rfl rfl ⟨rfl, rfl, trivial⟩ ⟨⟨_, rfl, .inl rfl⟩, trivial⟩ rfl rfl) | (apply call_gate 140; exact stp_callR hP (by as_aux_lemma => kernel_rfl) rfl rfl ⟨rfl, rfl, trivial⟩ ⟨⟨_, rfl, .inl rfl⟩, trivial⟩ rfl rfl) | exact stp_quoN rfl rfl rfl p2 hq1 | exact stp_quoN rfl rfl rfl p3 hq2); apply run_step rfl; (first | (apply call_gate 133; exact stp_callR hN (by as_aux_lemma => kernel_rfl) rfl rfl ⟨rfl, trivial⟩ ⟨⟨_, rfl, .inl rfl⟩, trivial⟩ rfl rfl) | (apply call_gate 141; exact stp_callR hX (by as_aux_lemma => kernel_rfl) rfl rfl ⟨rfl, rfl, rfl, trivial⟩ ⟨⟨_, rfl, .inl rfl⟩, trivial⟩ rfl rfl) | (apply call_gate 140; exact stp_callR hA (by as_aux_lemma => kernel_rfl) rfl rfl ⟨rfl, rfl, trivial⟩ ⟨⟨_, rfl, .inl rfl⟩, trivial⟩ rfl rfl) | (apply call_gate 140; exact stp_callR hO (by as_aux_lemma => kernel_rfl) rfl rfl ⟨rfl, rfl, trivial⟩ ⟨⟨_, rfl, .inl rfl⟩, trivial⟩ rfl rfl) | (apply call_gate 140; exact stp_callR hP (by as_aux_lemma => kernel_rfl) rfl rfl ⟨rfl, rfl, trivial⟩ ⟨⟨_, rfl, .inl rfl⟩, trivial⟩ rfl rfl) | exact stp_quoN rfl rfl rfl p2 hq1 | exact stp_quoN rfl rfl rfl p3 hq2); apply run_step rfl; (exact stp_move rfl rfl); apply run_step rfl; (exact stp_extract rfl rfl rfl); apply run_step rfl; (exact stp_extract rfl rfl rfl); apply run_step rfl; (exact stp_assign rfl rfl); apply run_step rfl; (exact stp_assign rfl rfl); refine run_nil ?_; refine fin_seq ?_; refine goes_seq ?_; refine goes_region ?_; apply run_step rfl; (exact stp_move rfl rfl); apply run_step rfl; (exact stp_move rfl rfl); apply run_step rfl; (first | (apply call_gate 133; exact stp_callR hN (by as_aux_lemma => kernel_rfl) rfl rfl ⟨rfl, trivial⟩ ⟨⟨_, rfl, .inl rfl⟩, trivial⟩ rfl rfl) | (apply call_gate 141; exact stp_callR hX (by as_aux_lemma => kernel_rfl) rfl rfl ⟨rfl, rfl, rfl, trivial⟩ ⟨⟨_, rfl, .inl rfl⟩, trivial⟩ rfl rfl) | (apply call_gate 140; exact stp_callR hA (by as_aux_lemma => kernel_rfl) rfl rfl ⟨rfl, rfl, trivial⟩ ⟨⟨_, rfl, .inl rfl⟩, trivial⟩ rfl rfl) | (apply call_gate 140; exact stp_callR hO (by as_aux_lemma => kernel_rfl) rfl rfl ⟨rfl, rfl, trivial⟩ ⟨⟨_, rfl, .inl rfl⟩, trivial⟩ rfl rfl) | (apply call_gate 140; exact stp_callR hP (by as_aux_lemma => kernel_rfl) rfl rfl ⟨rfl, rfl, trivial⟩ ⟨⟨_, rfl, .inl rfl⟩, trivial⟩ rfl rfl) | exact stp_quoN rfl rfl rfl p2 hq1 | exact stp_quoN rfl rfl rfl p3 hq2); apply run_step rfl; (exact stp_move rfl rfl); apply run_step rfl; (exact stp_extract rfl rfl rfl); apply run_step rfl; (exact stp_extract rfl rfl rfl); apply run_step rfl; (exact stp_assign rfl rfl); apply run_step rfl; (exact stp_assign rfl rfl); refine run_nil ?_; refine fin_seq ?_; refine goes_seq ?_; refine goes_region ?_; apply run_step rfl; (exact stp_move rfl rfl); apply run_step rfl; (exact stp_move rfl rfl); apply run_step rfl; (exact stp_move rfl rfl); apply run_step rfl; (exact stp_move rfl rfl); apply run_step rfl; (first | (apply call_gate 133; exact stp_callR hN (by as_aux_lemma => kernel_rfl) rfl rfl ⟨rfl, trivial⟩ ⟨⟨_, rfl, .inl rfl⟩, trivial⟩ rfl rfl) | (apply call_gate 141; exact stp_callR hX (by as_aux_lemma => kernel_rfl) rfl rfl ⟨rfl, rfl, rfl, trivial⟩ ⟨⟨_, rfl, .inl rfl⟩, trivial⟩ rfl rfl) | (apply call_gate 140; exact stp_callR hA (by as_aux_lemma => kernel_rfl) rfl rfl ⟨rfl, rfl, trivial⟩ ⟨⟨_, rfl, .inl rfl⟩, trivial⟩ rfl rfl) | (apply call_gate 140; exact stp_callR hO (by as_aux_lemma => kernel_rfl) rfl rfl ⟨rfl, rfl, trivial⟩ ⟨⟨_, rfl, .inl rfl⟩, trivial⟩ rfl rfl) | (apply call_gate 140; exact stp_callR hP (by as_aux_lemma => kernel_rfl) rfl rfl ⟨rfl, rfl, trivial⟩ ⟨⟨_, rfl, .inl rfl⟩, trivial⟩ rfl rfl) | exact stp_quoN rfl rfl rfl p2 hq1 | exact stp_quoN rfl rfl rfl p3 hq2); apply run_step rfl; (first | (apply call_gate 133; exact stp_callR hN (by as_aux_lemma => kernel_rfl) rfl rfl ⟨rfl, trivial⟩ ⟨⟨_, rfl, .inl rfl⟩, trivial⟩ rfl rfl) | (apply call_gate 141; exact stp_callR hX (by as_aux_lemma => kernel_rfl) rfl rfl ⟨rfl, rfl, rfl, trivial⟩ ⟨⟨_, rfl, .inl rfl⟩, trivial⟩ rfl rfl) | (apply call_gate 140; exact stp_callR hA (by as_aux_lemma => kernel_rfl) rfl rfl ⟨rfl, rfl, trivial⟩ ⟨⟨_, rfl, .inl rfl⟩, trivial⟩ rfl rfl) | (apply call_gate 140; exact stp_callR hO (by as_aux_lemma => kernel_rfl) rfl rfl ⟨rfl, rfl, trivial⟩ ⟨⟨_, rfl, .inl rfl⟩, trivial⟩ rfl rfl) | (apply call_gate 140; exact stp_callR hP (by as_aux_lemma => kernel_rfl) rfl rfl ⟨rfl, rfl, trivial⟩ ⟨⟨_, rfl, .inl rfl⟩, trivial⟩ rfl rfl) | exact stp_quoN rfl rfl rfl p2 hq1 | exact stp_quoN rfl rfl rfl p3 hq2); apply run_step rfl; (exact stp_move rfl rfl); apply run_step rfl; (exact stp_extract rfl rfl rfl); apply run_step rfl; (exact stp_extract rfl rfl rfl); apply run_step rfl; (exact stp_assign rfl rfl); apply run_step rfl; (exact stp_assign rfl rfl); refine run_nil ?_; refine fin_seq ?_; refine goes_seq ?_; refine goes_region ?_; apply run_step rfl; (exact stp_move rfl rfl); apply run_step rfl; (exact stp_move rfl rfl); apply run_step rfl; (first | (apply call_gate 133; exact stp_callR hN (by as_aux_lemma => kernel_rfl) rfl rfl ⟨rfl, trivial⟩ ⟨⟨_, rfl, .inl rfl⟩, trivial⟩ rfl rfl) | (apply call_gate 141; exact stp_callR hX (by as_aux_lemma => kernel_rfl) rfl rfl ⟨rfl, rfl, rfl, trivial⟩ ⟨⟨_, rfl, .inl rfl⟩, trivial⟩ rfl rfl) | (apply call_gate 140; exact stp_callR hA (by as_aux_lemma => kernel_rfl) rfl rfl ⟨rfl, rfl, trivial⟩ ⟨⟨_, rfl, .inl rfl⟩, trivial⟩ rfl rfl) | (apply call_gate 140; exact stp_callR hO (by as_aux_lemma => kernel_rfl) rfl rfl ⟨rfl, rfl, trivial⟩ ⟨⟨_, rfl, .inl rfl⟩, trivial⟩ rfl rfl) | (apply call_gate 140; exact stp_callR hP (by as_aux_lemma => kernel_rfl) rfl rfl ⟨rfl, rfl, trivial⟩ ⟨⟨_, rfl, .inl rfl⟩, trivial⟩ rfl rfl) | exact stp_quoN rfl rfl rfl p2 hq1 | exact stp_quoN rfl rfl rfl p3 hq2); apply run_step rfl; (exact stp_move rfl rfl); apply run_step rfl; (first | (apply call_gate 133; exact stp_callR hN (by as_aux_lemma => kernel_rfl) rfl rfl ⟨rfl, trivial⟩ ⟨⟨_, rfl, .inl rfl⟩, trivial⟩ rfl rfl) | (apply call_gate 141; exact stp_callR hX (by as_aux_lemma => kernel_rfl) rfl rfl ⟨rfl, rfl, rfl, trivial⟩ ⟨⟨_, rfl, .inl rfl⟩, trivial⟩ rfl rfl) | (apply call_gate 140; exact stp_callR hA (by as_aux_lemma => kernel_rfl) rfl rfl ⟨rfl, rfl, trivial⟩ ⟨⟨_, rfl, .inl rfl⟩, trivial⟩ rfl rfl) | (apply call_gate 140; exact stp_callR hO (by as_aux_lemma => kernel_rfl) rfl rfl ⟨rfl, rfl, trivial⟩ ⟨⟨_, rfl, .inl rfl⟩, trivial⟩ rfl rfl) | (apply call_gate 140; exact stp_callR hP (by as_aux_lemma => kernel_rfl) rfl rfl ⟨rfl, rfl, trivial⟩ ⟨⟨_, rfl, .inl rfl⟩, trivial⟩ rfl rfl) | exact stp_quoN rfl rfl rfl p2 hq1 | exact stp_quoN rfl rfl rfl p3 hq2); apply run_step rfl; (exact stp_assign rfl rfl); refine run_nil ?_; refine fin_seq ?_; refine goes_ret ?_)
  exact fin_ret1 (.inl rfl) rfl (.tmp rfl) trivial trivial
set_option maxRecDepth 100000 in
theorem cntS_fc (zs : List Int) (L k l : Nat) (hL : zs.length = L) (hd : isDiag zs = true) (hf : finB zs (allN zs) = true) (hk : k < 1000) (hl : l < 1000) :
    FC Try.prog 81 [(1003, wRo zs)] [o1 (.sl 1003 0 L), vv (I6 k), vv (I6 l)] [] (vv (I6 (cntN zs k l : Nat))) [] := by
  have h4 : L ≤ 4 := by have := isDiag_len hd; omega
  have hlt := allN_lt (zs := zs) (by omega)
  have hfl := fixN_lt (zs := zs) (by omega) k l
  have hW := wholeS_fc zs L hL h4
  have hA := ordS_fc zs L (allN zs) hL hd (by omega) hf
  have hO := ordS_fc zs L l hL hd hl (fin_sub hd hf l)
  have hX := fixS_fc zs L k l hL h4 hk hl
  have hP := ordS_fc zs L (fixN zs k l) hL hd hfl (fin_sub hd hf _)
  obtain ⟨e1, p1, q1⟩ := ordN_eq hd (allN zs)
  obtain ⟨e2, p2, q2⟩ := ordN_eq hd l
  obtain ⟨e3, p3, q3⟩ := ordN_eq hd (fixN zs k l)
  rw [e1] at hA
  rw [e2] at hO
  rw [e3] at hP
  have hq1 : ordN zs (allN zs) < 1000000000000 := by omega
  have hq2 : ordN zs (allN zs) / ordN zs l < 1000000000000 := Nat.lt_of_le_of_lt (Nat.div_le_self _ _) hq1
  unfold cntN
  refine fc_enter (nt := 22) Try.func81 rfl rfl (by simp) fun w0 ω0 => ?_
  (refine goes_seq ?_; refine goes_region ?_; apply run_step rfl; (exact stp_assign rfl rfl); refine run_nil ?_; refine fin_seq ?_; refine goes_seq ?_)
  apply goes_draw 15 [] [[], [], [1], [0, 1, 2], [], [], [0, 1, 2, 3, 4, 5], [0, 1, 2, 3, 4, 5, 6], [], [], [], [], [0, 1, 2, 3, 4, 5, 6, 9, 10, 11], [0, 1, 2, 3, 4, 5, 6, 8, 9, 10, 11, 12], [0, 1, 2, 3, 4, 5, 6, 7, 8, 9, 10, 11, 12, 13], [0, 1, 2, 3, 4, 5, 6, 7, 8, 9, 10, 11, 12, 13, 14]] [7, 8, 9, 10, 11, 12, 13, 14, 15, 16, 17, 18, 19, 20, 21] [] (by kernel_rfl) (by kernel_rfl)
  · (apply draw_put rfl; (intro S1 hS; exact stp_move rfl (hS.op rfl)))
    (apply draw_put rfl; (intro S1 hS; exact stp_move rfl (hS.op rfl)))
    (apply draw_put rfl; (intro S1 hS; exact stp_callR hW (by as_aux_lemma => kernel_rfl) rfl (opL_le hS rfl) ⟨rfl, trivial⟩ (allIn_le hS ⟨⟨_, rfl, .inl rfl⟩, trivial⟩) rfl rfl))
    (apply draw_put rfl; (intro S1 hS; exact stp_callR hA (by as_aux_lemma => kernel_rfl) rfl (opL_le hS rfl) ⟨rfl, rfl, trivial⟩ (allIn_le hS ⟨⟨_, rfl, .inl rfl⟩, trivial⟩) rfl rfl))
    (apply draw_put rfl; (intro S1 hS; exact stp_move rfl (hS.op rfl)))
    (apply draw_put rfl; (intro S1 hS; exact stp_move rfl (hS.op rfl)))
    (apply draw_put rfl; (intro S1 hS; exact stp_callR hO (by as_aux_lemma => kernel_rfl) rfl (opL_le hS rfl) ⟨rfl, rfl, trivial⟩ (allIn_le hS ⟨⟨_, rfl, .inl rfl⟩, trivial⟩) rfl rfl))
    (apply draw_put rfl; (intro S1 hS; exact stp_quoN rfl (hS.op rfl) (hS.op rfl) p2 hq1))
    (apply draw_put rfl; (intro S1 hS; exact stp_move rfl (hS.op rfl)))
    (apply draw_put rfl; (intro S1 hS; exact stp_move rfl (hS.op rfl)))
    (apply draw_put rfl; (intro S1 hS; exact stp_move rfl (hS.op rfl)))
    (apply draw_put rfl; (intro S1 hS; exact stp_move rfl (hS.op rfl)))
    (apply draw_put rfl; (intro S1 hS; exact stp_callR hX (by as_aux_lemma => kernel_rfl) rfl (opL_le hS rfl) ⟨rfl, rfl, rfl, trivial⟩ (allIn_le hS ⟨⟨_, rfl, .inl rfl⟩, trivial⟩) rfl rfl))
    (apply draw_put rfl; (intro S1 hS; exact stp_callR hP (by as_aux_lemma => kernel_rfl) rfl (opL_le hS rfl) ⟨rfl, rfl, trivial⟩ (allIn_le hS ⟨⟨_, rfl, .inl rfl⟩, trivial⟩) rfl rfl))
    (apply draw_put rfl; (intro S1 hS; exact stp_quoN rfl (hS.op rfl) (hS.op rfl) p3 hq2))
    exact Draw.nil
  · rfl
  refine rest_join (St.of [(6, vv (I6 (ordN zs (allN zs) / ordN zs l / ordN zs (fixN zs k l) : Nat)))] []) ?_ ?_
  · ((apply rest_one 15 rfl (by as_aux_lemma => kernel_rfl) rfl rfl; (exact stp_assign rfl rfl)); (refine rest_done (by as_aux_lemma => kernel_rfl) ?_; exact fin_join (Wk.of ⟨rfl, trivial⟩ trivial trivial)))
  (refine fin_seq ?_; refine goes_ret ?_)
  exact fin_ret1 (.inl rfl) rfl (.tmp rfl) trivial trivial
end Go.Proofs.Ytnfkhgamnapgmaa

/- WythoffCounts. guards: (gen_wy.py) -/
namespace Go.Proofs.Ytnfkhgamnapgmaa
open Go.RowKit

theorem onesI_fc (x : Nat) (hx : x < 32) : FC Try.prog 87 [] [vv (.int .u64 x)] [] (vv (I6 (pcN x : Nat))) [] :=
  fc_of_calls fun w η ω us hm ⟨hl, ha⟩ => by
    obtain ⟨u0, g0, d0⟩ := ha 0 _ rfl
    have d0 : u0 = .int .u64 x := d0
    subst d0
    rw [us_one hl g0]
    exact (ones_any x hx w).mono fun e w' ⟨h1, h2⟩ => ⟨h1, by rw [h2]; exact Below.refl _ _⟩
/-- the mask at a place of the list of all admissible ones -/
def kAt (zs : List Int) (r i : Nat) : Nat := (iget (setsL zs r) i).toNat
theorem sets_rng {zs : List Int} (h4 : zs.length ≤ 4) (r : Nat) : Rng (setsL zs r) := (raw_rng h4 r).perm (setsL_perm h4 r)
theorem kAt_eq {zs : List Int} (h4 : zs.length ≤ 4) (r i : Nat) : iget (setsL zs r) i = (kAt zs r i : Int) := by
  obtain ⟨k, hk, _⟩ := (sets_rng h4 r).at_ i
  unfold kAt; omega
theorem kAt_lt {zs : List Int} (h4 : zs.length ≤ 4) (r i : Nat) : kAt zs r i < 32 := by
  obtain ⟨k, hk, _⟩ := (sets_rng h4 r).at_ i
  unfold kAt; omega
theorem pc_top {L : Nat} (h4 : L ≤ 4) {s : Nat} (hs : s < 2 ^ (L + 1) - 1) : pcN s ≤ L := by
  have h0 : ∀ s, s < 1 → pcN s ≤ 0 := by decide
  have h1 : ∀ s, s < 3 → pcN s ≤ 1 := by decide
  have h2 : ∀ s, s < 7 → pcN s ≤ 2 := by decide
  have h3 : ∀ s, s < 15 → pcN s ≤ 3 := by decide
  have h4' : ∀ s, s < 31 → pcN s ≤ 4 := by decide
  rcases (by omega : L = 0 ∨ L = 1 ∨ L = 2 ∨ L = 3 ∨ L = 4) with rfl | rfl | rfl | rfl | rfl
  · exact h0 s hs
  · exact h1 s hs
  · exact h2 s hs
  · exact h3 s hs
  · exact h4' s hs
theorem pc_all {L : Nat} (h4 : L ≤ 4) : pcN (2 ^ (L + 1) - 1) = L + 1 := by
  rcases (by omega : L = 0 ∨ L = 1 ∨ L = 2 ∨ L = 3 ∨ L = 4) with rfl | rfl | rfl | rfl | rfl <;> rfl
theorem rank_top {zs : List Int} (h4 : zs.length ≤ 4) {r : Nat} (ha : admB zs (allN zs) r = true) : rankN zs r (zs.length + 1) (allN zs + 1) = [allN zs] := by
  have h1 : pcN (allN zs) = zs.length + 1 := pc_all h4
  rw [rankN_succ, if_pos (by rw [h1, ha]; simp)]
  have : rankN zs r (zs.length + 1) (allN zs) = [] := by
    unfold rankN
    rw [List.filter_eq_nil_iff]
    intro s hs
    have h2 := pc_top h4 (s := s) (by have := List.mem_range.1 hs; unfold allN at this; exact this)
    simp
    intro h3
    omega
  rw [this]; rfl
theorem sets_split {zs : List Int} (h4 : zs.length ≤ 4) {r : Nat} (ha : admB zs (allN zs) r = true) : setsN zs r (zs.length + 2) = setsN zs r (zs.length + 1) ++ [allN zs] := by
  rw [setsN_succ, rank_top h4 ha]
theorem sets_pos {zs : List Int} (h4 : zs.length ≤ 4) {r : Nat} (ha : admB zs (allN zs) r = true) : 0 < (setsL zs r).length := by
  unfold setsL; rw [sets_split h4 ha]; simp
set_option maxRecDepth 100000 in
theorem kindsI_fc (zs : List Int) (L r K : Nat) (hL : zs.length = L) (h4 : L ≤ 4) (hr : r < 1000) (hK : (setsL zs r).length - 1 = K) (hp : 0 < (setsL zs r).length) :
    FC Try.prog 86 [(1003, wRo zs)] [o1 (.sl 1003 0 L), vv (I6 r)] [(8, leOw (setsL zs r))] (o1 (.sl 8 0 K)) [] := by
  have hS := (setsI_fc zs L r hL h4 hr).nm [(1003, 1003), (2400, 8)] (by kernel_rfl)
  have hS : FC Try.prog 74 [(1003, wRo zs)] [o1 (.sl 1003 0 L), vv (I6 r)] [(8, leOw (setsL zs r))] (o1 (.sl 8 0 (setsL zs r).length)) [] := hS
  have hl := setsL_len (zs := zs) (by omega) r
  have e1 : IntKind.i64.wrap (((setsL zs r).length : Int) - 1) = (K : Int) := by rw [IntWalk.i64_in _ (by omega)]; omega
  refine fc_enter (nt := 14) Try.func86 rfl rfl (by simp) fun w0 ω0 => ?_
  (refine goes_seq ?_; refine goes_region ?_; apply run_step rfl; (exact stp_assign rfl rfl); refine run_nil ?_; refine fin_seq ?_; refine goes_seq ?_; refine goes_region ?_; apply run_step rfl; (exact stp_move rfl rfl); apply run_step rfl; (exact stp_move rfl rfl); apply run_step rfl; (first | (apply call_gate 74; exact stp_callN hS (by as_aux_lemma => kernel_rfl) rfl rfl ⟨rfl, rfl, trivial⟩ ⟨⟨_, rfl, .inl rfl⟩, trivial⟩ rfl rfl rfl) | exact stp_sub rfl rfl rfl e1 | exact stp_sliceM (l := 0) (m := K) (h := K) (Nat.zero_add _) rfl rfl rfl rfl (by as_aux_lemma => kernel_rfl) bnd_none (bnd_some rfl rfl) (by omega) (by rw [show (leOw (setsL zs r)).d.len = (ivals (setsL zs r)).length from rfl, ivals_len]; exact Nat.le_refl _)); apply run_step rfl; (exact stp_assign rfl rfl); refine run_nil ?_; refine fin_seq ?_; refine goes_seq ?_; refine goes_region ?_; apply run_step rfl; (exact stp_move rfl rfl); apply run_step rfl; (exact stp_move rfl rfl); apply run_step rfl; (exact stp_len rfl rfl rfl (by as_aux_lemma => kernel_rfl)); apply run_step rfl; (first | (apply call_gate 74; exact stp_callN hS (by as_aux_lemma => kernel_rfl) rfl rfl ⟨rfl, rfl, trivial⟩ ⟨⟨_, rfl, .inl rfl⟩, trivial⟩ rfl rfl rfl) | exact stp_sub rfl rfl rfl e1 | exact stp_sliceM (l := 0) (m := K) (h := K) (Nat.zero_add _) rfl rfl rfl rfl (by as_aux_lemma => kernel_rfl) bnd_none (bnd_some rfl rfl) (by omega) (by rw [show (leOw (setsL zs r)).d.len = (ivals (setsL zs r)).length from rfl, ivals_len]; exact Nat.le_refl _)); apply run_step rfl; (first | (apply call_gate 74; exact stp_callN hS (by as_aux_lemma => kernel_rfl) rfl rfl ⟨rfl, rfl, trivial⟩ ⟨⟨_, rfl, .inl rfl⟩, trivial⟩ rfl rfl rfl) | exact stp_sub rfl rfl rfl e1 | exact stp_sliceM (l := 0) (m := K) (h := K) (Nat.zero_add _) rfl rfl rfl rfl (by as_aux_lemma => kernel_rfl) bnd_none (bnd_some rfl rfl) (by omega) (by rw [show (leOw (setsL zs r)).d.len = (ivals (setsL zs r)).length from rfl, ivals_len]; exact Nat.le_refl _)); apply run_step rfl; (exact stp_assign rfl rfl); refine run_nil ?_; refine fin_seq ?_; refine goes_ret ?_)
  exact fin_ret1 (.inl rfl) rfl (.tmp rfl) ⟨rfl, trivial⟩ trivial
set_option maxRecDepth 100000 in
theorem kindsS_fc (zs : List Int) (L r K : Nat) (hL : zs.length = L) (h4 : L ≤ 4) (hr : r < 1000) (hK : (setsL zs r).length - 1 = K) (hp : 0 < (setsL zs r).length) :
    FC Try.prog 79 [(1003, wRo zs)] [o1 (.sl 1003 0 L), vv (I6 r)] [(8, leOw (setsL zs r))] (o1 (.sl 8 0 K)) [] := by
  have hS := setsS_fc zs L r hL h4 hr
  have hl := setsL_len (zs := zs) (by omega) r
  have e1 : IntKind.i64.wrap (((setsL zs r).length : Int) - 1) = (K : Int) := by rw [IntWalk.i64_in _ (by omega)]; omega
  refine fc_enter (nt := 14) Try.func79 rfl rfl (by simp) fun w0 ω0 => ?_
  (refine goes_seq ?_; refine goes_region ?_; apply run_step rfl; (exact stp_assign rfl rfl); refine run_nil ?_; refine fin_seq ?_; refine goes_seq ?_; refine goes_region ?_; apply run_step rfl; (exact stp_move rfl rfl); apply run_step rfl; (exact stp_move rfl rfl); apply run_step rfl; (first | (apply call_gate 72; exact stp_callN hS (by as_aux_lemma => kernel_rfl) rfl rfl ⟨rfl, rfl, trivial⟩ ⟨⟨_, rfl, .inl rfl⟩, trivial⟩ rfl rfl rfl) | exact stp_sub rfl rfl rfl e1 | exact stp_sliceM (l := 0) (m := K) (h := K) (Nat.zero_add _) rfl rfl rfl rfl (by as_aux_lemma => kernel_rfl) bnd_none (bnd_some rfl rfl) (by omega) (by rw [show (leOw (setsL zs r)).d.len = (ivals (setsL zs r)).length from rfl, ivals_len]; exact Nat.le_refl _)); apply run_step rfl; (exact stp_assign rfl rfl); refine run_nil ?_; refine fin_seq ?_; refine goes_seq ?_; refine goes_region ?_; apply run_step rfl; (exact stp_move rfl rfl); apply run_step rfl; (exact stp_move rfl rfl); apply run_step rfl; (exact stp_len rfl rfl rfl (by as_aux_lemma => kernel_rfl)); apply run_step rfl; (first | (apply call_gate 72; exact stp_callN hS (by as_aux_lemma => kernel_rfl) rfl rfl ⟨rfl, rfl, trivial⟩ ⟨⟨_, rfl, .inl rfl⟩, trivial⟩ rfl rfl rfl) | exact stp_sub rfl rfl rfl e1 | exact stp_sliceM (l := 0) (m := K) (h := K) (Nat.zero_add _) rfl rfl rfl rfl (by as_aux_lemma => kernel_rfl) bnd_none (bnd_some rfl rfl) (by omega) (by rw [show (leOw (setsL zs r)).d.len = (ivals (setsL zs r)).length from rfl, ivals_len]; exact Nat.le_refl _)); apply run_step rfl; (first | (apply call_gate 72; exact stp_callN hS (by as_aux_lemma => kernel_rfl) rfl rfl ⟨rfl, rfl, trivial⟩ ⟨⟨_, rfl, .inl rfl⟩, trivial⟩ rfl rfl rfl) | exact stp_sub rfl rfl rfl e1 | exact stp_sliceM (l := 0) (m := K) (h := K) (Nat.zero_add _) rfl rfl rfl rfl (by as_aux_lemma => kernel_rfl) bnd_none (bnd_some rfl rfl) (by omega) (by rw [show (leOw (setsL zs r)).d.len = (ivals (setsL zs r)).length from rfl, ivals_len]; exact Nat.le_refl _)); apply run_step rfl; (exact stp_assign rfl rfl); refine run_nil ?_; refine fin_seq ?_; refine goes_ret ?_)
  exact fin_ret1 (.inl rfl) rfl (.tmp rfl) ⟨rfl, trivial⟩ trivial
end Go.Proofs.Ytnfkhgamnapgmaa
