/- Maps of polygons: the reference's l10Map, in names. guards: (gen_mpn.py) -/
import Derived.Test.YtpognnifgcacnaaPart1
import Derived.Test.YtpognnifgcacnaaPart4
import Derived.Test.YtpognnifgcacnaaPart3
import Derived.Deep.AppendLies
import Derived.RegionTactic
import Derived.Deep.DeepCutAuto
import Derived.Laws.BitsAllLaws
import Derived.Laws.BitsLemmas
import Derived.Laws.StructEq
import Derived.Laws.IdiomRangeMap
import Derived.Maps.RangeRun
namespace Go.Proofs.Ytpognnifgcacnaa
open Go.RowKit

section
variable {P : Program} {nt : Nat} {S : St} {t : Nat} {ty : TypeId} {ps : String} {af : Array Edge} {gd : Option (Nat × Bool)} {x y : Operand}
theorem stp_app2I {T E n q len : Nat} {c : Ch} {zs : List Int} {z0 z1 : Int} (ht : Nat.blt t nt = true) (hT : elZ P T E 1 = true) (hx : S.op x = some (o1 (.sl n 0 len))) (hc : S.ch n = some c) (hce : c = ⟨true, E, 1, .vals (ivals zs)⟩) (hl : zs.length = len)
    (hy : S.op y = some (o1 (.sl q 0 2))) (hq : S.ch q = some ⟨true, E, 1, .vals (ivals [z0, z1])⟩) (hb : len + 2 ≤ 2199023255552) :
    Stp P nt ⟨some t, .call { callee := .builtin .append, args := #[x, y], argTypes := #[T, T] }, ty, ps, af, gd⟩ S ((S.new n ⟨true, E, 1, .vals (ivals (zs ++ [z0, z1]))⟩).put t (o1 (.sl n 0 (len + 2)))) := by
  have := stp_append (P := P) (nt := nt) (ty := ty) (ps := ps) (af := af) (gd := gd) (vs := ivals zs) (news := ivals [z0, z1]) (m := 2) (k := 1) ht hT rfl hx hc hce rfl (by rw [ivals_len]; omega) hy (reads_all hq rfl rfl rfl) (by omega) (by intro v hv; simp [ivals] at hv; rcases hv with rfl | rfl <;> rfl) hb
  rw [Nat.zero_mul, List.drop_zero, show ivals zs ++ ivals [z0, z1] = ivals (zs ++ [z0, z1]) from by simp [ivals]] at this
  exact this
end
abbrev mpYes (b : Bool) : AV := .tup [.agg [.sl 156 0 3], .one (.val (.bool b))]
abbrev mpNo : AV := .tup [.agg [.val (.slice none 0 0)], .one (.val (.bool false))]
set_option maxRecDepth 100000 in
set_option maxHeartbeats 4000000 in
theorem mapS_fc (ps : List (List Int)) (N : Nat) (hN : lenSS ps = N) (h200 : N ≤ 200) (hp : ∀ j, j < ps.length → 3 ≤ (lget ps j).length) (hlen : ps.length ≤ 1000)
    (b : Bool) (hg : mpGood ps = b) (outs : List (Nm × Ch)) (res : AV) (ho : (outs, res) = if b = true then ([(156, imOw (mpM ps))], mpYes (manB (mpM ps))) else ([], mpNo)) :
    FC Try.prog 116 [(1003, rowsRo ps)] [o1 (.sl 1003 0 ps.length)] outs res [] := by
  have hf0 : ∀ i, i < (mpM ps).length → (lget (mpM ps) i).length ≤ 1048576 := fun i hi => by
    have hi : i < 3 := hi
    match i, hi with
    | 0, _ => show (zerL ps (lenSS ps)).length ≤ _; unfold zerL; rw [dupL_len]; omega
    | 1, _ => show (oneL (lenSS ps)).length ≤ _; unfold oneL; rw [dupL_len]; omega
    | 2, _ => show (twoL ps (lenSS ps) (2 * lenSS ps)).length ≤ _; rw [twoL_len]; omega
  have hM := (manS_fc (mpM ps) (by show 3 ≤ _; omega) hf0).nm [(1003, 156)] (by kernel_rfl)
  have hM : FC Try.prog 108 [(156, rowsRo (mpM ps))] [.s (.agg [.sl 156 0 3])] [] (vv (.bool (manB (mpM ps)))) [] := hM
  have hir : (irows ps).length = ps.length := irows_len _
  refine fc_enter (nt := 161) Try.func116 rfl rfl (by simp) fun w0 ω0 => ?_
  (refine goes_seq ?_; refine goes_region ?_; apply run_step rfl; (exact stp_allocZ [.slice none 0 0] rfl (by as_aux_lemma => kernel_rfl)); apply run_step rfl; (exact stp_assign rfl rfl); refine run_nil ?_; refine fin_seq ?_; refine goes_seq ?_; refine goes_region ?_; apply run_step rfl; (exact stp_lit0 (E := 2) (k := 1) rfl (by as_aux_lemma => kernel_rfl)); apply run_step rfl; (exact stp_lit0 (E := 2) (k := 1) rfl (by as_aux_lemma => kernel_rfl)); apply run_step rfl; (exact stp_lit0 (E := 2) (k := 1) rfl (by as_aux_lemma => kernel_rfl)); apply run_step rfl; (exact stp_lit0 (E := 2) (k := 1) rfl (by as_aux_lemma => kernel_rfl)); apply run_step rfl; (exact stp_assign rfl rfl); apply run_step rfl; (exact stp_assign rfl rfl); apply run_step rfl; (exact stp_assign rfl rfl); apply run_step rfl; (exact stp_assign rfl rfl); refine run_nil ?_; refine fin_seq ?_; refine goes_seq ?_; refine goes_region ?_; apply run_step rfl; (exact stp_assign rfl rfl); refine run_nil ?_; refine fin_seq ?_; refine goes_seq ?_; refine goes_seq ?_; refine goes_region ?_; apply run_step rfl; (exact stp_assign rfl rfl); refine run_nil ?_; refine fin_seq ?_; refine goes_block ?_)
  refine goes_loop (fun j : Nat => St.of [(0, o1 (.sl 1003 0 ps.length)), (2, o1 (.ptr 2 0)), (4, o1 (.sl 21 0 (2 * begP ps j))), (5, o1 (.sl 22 0 (2 * begP ps j))), (6, o1 (.sl 23 0 (2 * begP ps j))), (7, o1 (.sl 24 0 (2 * begP ps j))), (8, vv (I6 (begP ps j))), (9, vv (I6 j))] [(1003, rowsRo ps), (2, mBox), (21, leOw (ownL ps (begP ps j))), (22, leOw (othL ps (begP ps j))), (23, leOw (zerL ps (begP ps j))), (24, leOw (oneL (begP ps j)))]) (fun j => j ≤ ps.length) (fun j => ps.length - j) 0 (Nat.zero_le _) (Wk.of ⟨rfl, rfl, rfl, rfl, rfl, rfl, rfl, rfl, trivial⟩ ⟨rfl, rfl, rfl, rfl, rfl, rfl, trivial⟩ trivial) ?_
  rintro j hjl
  (refine goes_seq ?_; refine goes_seq ?_; refine goes_region ?_; apply run_step rfl; (exact stp_move rfl rfl); apply run_step rfl; (exact stp_move rfl rfl); apply run_step rfl; (exact stp_len rfl rfl rfl (by as_aux_lemma => kernel_rfl)); apply run_step rfl; (exact stp_bin rfl rfl rfl rfl); refine run_nil ?_; refine fin_seq ?_)
  refine goes_if rfl (fun hlt => ?_) (fun hlt => ?_)
  · have hj : j < ps.length := by omega
    obtain ⟨m, hm⟩ : ∃ m, (lget ps j).length = m := ⟨_, rfl⟩
    have hil : (ivals (lget ps j)).length = m := by rw [ivals_len]; exact hm
    have h3 := hp j hj
    have hbs := begP_succ hj
    have hbl : begP ps (j + 1) ≤ lenSS ps := lenSS_take_le _ _
    rw [hm] at h3 hbs
    have hat1 : ∀ i, i < m → nxP ps (begP ps j + i) = begP ps j + (i + 1) % m := fun i hi => by rw [nxP_at ps j i hj (by omega), hm]
    have hat2 : ∀ i, i < m → pvP ps (begP ps j + i) = begP ps j + (i + m - 1) % m := fun i hi => by rw [pvP_at ps j i hj (by omega), hm]
    have hat3 : ∀ i, i < m → vtx ps (begP ps j + i) = iget (lget ps j) i := fun i hi => flat_at ps j i hj (by omega)
    generalize begP ps j = b0 at *
    (refine goes_skip ?_; refine fin_seq ?_; refine goes_seq ?_; refine goes_block ?_; refine goes_seq ?_; refine goes_region ?_; apply run_step rfl; (exact stp_move rfl rfl); apply run_step rfl; (exact stp_move rfl rfl); apply run_step rfl; (exact stp_ix rfl rfl rfl rfl rfl (by as_aux_lemma => kernel_rfl) (by first | rfl | exact (Int.toNat_of_nonneg (by omega)).symm) (by first | assumption | omega | (simp; omega)) (by first | exact Nat.le_refl _ | exact Nat.le_of_eq (ivals_len _).symm | exact Nat.le_of_eq (irows_len _).symm | (refine Nat.le_trans ?_ (Nat.le_of_eq (ivals_len _).symm); (first | omega | (simp; done) | (simp; omega))) | (refine Nat.le_trans ?_ (Nat.le_of_eq (irows_len _).symm); (first | omega | (simp; done) | (simp; omega))))); apply run_step rfl; (exact stp_loadR rfl (by as_aux_lemma => kernel_rfl) rfl rfl rfl (irows_get hj) hil); apply run_step rfl; (exact stp_assign rfl rfl); refine run_nil ?_; refine fin_seq ?_; refine goes_seq ?_; refine goes_region ?_; apply run_step rfl; (exact stp_move rfl rfl); apply run_step rfl; (exact stp_len rfl rfl rfl (by as_aux_lemma => kernel_rfl)); apply run_step rfl; (exact stp_assign rfl rfl); refine run_nil ?_; refine fin_seq ?_; refine goes_seq ?_; refine goes_seq ?_; refine goes_region ?_; apply run_step rfl; (exact stp_assign rfl rfl); refine run_nil ?_; refine fin_seq ?_; refine goes_block ?_)
    refine goes_loop (fun i : Nat => St.of [(0, o1 (.sl 1003 0 ps.length)), (2, o1 (.ptr 2 0)), (4, o1 (.sl 21 0 (2 * (b0 + i)))), (5, o1 (.sl 22 0 (2 * (b0 + i)))), (6, o1 (.sl 23 0 (2 * (b0 + i)))), (7, o1 (.sl 24 0 (2 * (b0 + i)))), (8, vv (I6 b0)), (9, vv (I6 j)), (10, o1 (.esl 1003 j 0 m)), (11, vv (I6 m)), (12, vv (I6 i))] [(1003, rowsRo ps), (2, mBox), (21, leOw (ownL ps (b0 + i))), (22, leOw (othL ps (b0 + i))), (23, leOw (zerL ps (b0 + i))), (24, leOw (oneL (b0 + i)))]) (fun i => i ≤ m) (fun i => m - i) 0 (Nat.zero_le _) (Wk.of ⟨rfl, rfl, rfl, rfl, rfl, rfl, rfl, rfl, rfl, rfl, rfl, trivial⟩ ⟨rfl, rfl, rfl, rfl, rfl, rfl, trivial⟩ trivial) ?_
    rintro i hi
    (refine goes_seq ?_; refine goes_seq ?_; refine goes_region ?_; apply run_step rfl; (exact stp_move rfl rfl); apply run_step rfl; (exact stp_move rfl rfl); apply run_step rfl; (exact stp_bin rfl rfl rfl rfl); refine run_nil ?_; refine fin_seq ?_)
    refine goes_if rfl (fun hlt2 => ?_) (fun hlt2 => ?_)
    · have him : i < m := by omega
      have h0m : 0 < m := by omega
      have hp0 : (i + 1) % m < m := Nat.mod_lt _ h0m
      have hq0 : (i + m - 1) % m < m := Nat.mod_lt _ h0m
      have s1 : ownL ps (b0 + i + 1) = ownL ps (b0 + i) ++ [iget (lget ps j) i, iget (lget ps j) i] := by show ownL ps (b0 + i) ++ [vtx ps (b0 + i), vtx ps (b0 + i)] = _; rw [hat3 i him]
      have s2 : othL ps (b0 + i + 1) = othL ps (b0 + i) ++ [iget (lget ps j) ((i + 1) % m), iget (lget ps j) ((i + m - 1) % m)] := by
        show othL ps (b0 + i) ++ [vtx ps (nxP ps (b0 + i)), vtx ps (pvP ps (b0 + i))] = _
        rw [hat1 i him, hat2 i him, hat3 _ hp0, hat3 _ hq0]
      have s3 : zerL ps (b0 + i + 1) = zerL ps (b0 + i) ++ [((2 * (b0 + (i + 1) % m) + 1 : Nat) : Int), ((2 * (b0 + (i + m - 1) % m) : Nat) : Int)] := by
        show zerL ps (b0 + i) ++ [((2 * nxP ps (b0 + i) + 1 : Nat) : Int), ((2 * pvP ps (b0 + i) : Nat) : Int)] = _
        rw [hat1 i him, hat2 i him]
      have s4 : oneL (b0 + i + 1) = oneL (b0 + i) ++ [((2 * (b0 + i) + 1 : Nat) : Int), ((2 * (b0 + i) : Nat) : Int)] := rfl
      have l1 : (ownL ps (b0 + i)).length = 2 * (b0 + i) := dupL_len _ _ _
      have l2 : (othL ps (b0 + i)).length = 2 * (b0 + i) := dupL_len _ _ _
      have l3 : (zerL ps (b0 + i)).length = 2 * (b0 + i) := dupL_len _ _ _
      have l4 : (oneL (b0 + i)).length = 2 * (b0 + i) := dupL_len _ _ _
      have hm5 : m ≤ 200 := by omega
      have hb5 : b0 ≤ 200 := by omega
      generalize ownL ps (b0 + i) = A1 at *
      generalize othL ps (b0 + i) = A2 at *
      generalize zerL ps (b0 + i) = A3 at *
      generalize oneL (b0 + i) = A4 at *
      have hi12 : i + 1 < 1000000000000 := by omega
      have hi13 : i + m - 1 < 1000000000000 := by omega
      have e1 : IntKind.i64.wrap ((b0 : Int) + (i : Int)) = ((b0 + i : Nat) : Int) := by rw [IntWalk.i64_in _ (by omega)]; omega
      have e2 : IntKind.i64.wrap ((i : Int) + 1) = ((i + 1 : Nat) : Int) := by rw [IntWalk.i64_in _ (by omega)]; omega
      have e3 : IntKind.i64.wrap ((i : Int) + (m : Int)) = ((i + m : Nat) : Int) := by rw [IntWalk.i64_in _ (by omega)]; omega
      have e4 : IntKind.i64.wrap (((i + m : Nat) : Int) - 1) = ((i + m - 1 : Nat) : Int) := by rw [IntWalk.i64_in _ (by omega)]; omega
      (refine goes_skip ?_; refine fin_seq ?_; refine goes_seq ?_; refine goes_block ?_; refine goes_seq ?_)
      apply goes_draw 16 [] [[], [], [0, 1], [], [3], [], [3, 4, 5], [], [], [7, 8], [7, 8, 9], [], [7, 8, 9, 10, 11], [0, 1, 2], [0, 1, 2, 3, 4, 5, 6, 13], [0, 1, 2, 3, 4, 5, 6, 7, 8, 9, 10, 11, 12, 13, 14]] [42, 43, 44, 45, 46, 47, 48, 49, 50, 51, 52, 53, 54, 13, 14, 15] [] (by kernel_rfl) (by kernel_rfl)
      · (apply draw_put rfl; (intro S1 hS; exact stp_move rfl (hS.op rfl)))
        (apply draw_put rfl; (intro S1 hS; exact stp_move rfl (hS.op rfl)))
        (apply draw_put rfl; (intro S1 hS; exact stp_add rfl (hS.op rfl) (hS.op rfl) e1))
        (apply draw_put rfl; (intro S1 hS; exact stp_move rfl (hS.op rfl)))
        (apply draw_put rfl; (intro S1 hS; exact stp_add rfl (hS.op rfl) (hS.op rfl) e2))
        (apply draw_put rfl; (intro S1 hS; exact stp_move rfl (hS.op rfl)))
        (apply draw_put rfl; (intro S1 hS; exact stp_remN (b := m) rfl (hS.op rfl) (hS.op rfl) h0m hi12))
        (apply draw_put rfl; (intro S1 hS; exact stp_move rfl (hS.op rfl)))
        (apply draw_put rfl; (intro S1 hS; exact stp_move rfl (hS.op rfl)))
        (apply draw_put rfl; (intro S1 hS; exact stp_add rfl (hS.op rfl) (hS.op rfl) e3))
        (apply draw_put rfl; (intro S1 hS; exact stp_sub rfl (hS.op rfl) (hS.op rfl) e4))
        (apply draw_put rfl; (intro S1 hS; exact stp_move rfl (hS.op rfl)))
        (apply draw_put rfl; (intro S1 hS; exact stp_remN (b := m) rfl (hS.op rfl) (hS.op rfl) h0m hi13))
        (apply draw_put rfl; (intro S1 hS; exact stp_assign rfl (hS.op rfl)))
        (apply draw_put rfl; (intro S1 hS; exact stp_assign rfl (hS.op rfl)))
        (apply draw_put rfl; (intro S1 hS; exact stp_assign rfl (hS.op rfl)))
        exact Draw.nil
      · rfl
      ((refine rest_done (by as_aux_lemma => kernel_rfl) ?_; skip))
      generalize (i + 1) % m = p at *
      generalize (i + m - 1) % m = q at *
      (refine fin_seq ?_; refine goes_seq ?_)
      apply goes_draw 10 [] [[], [], [], [1, 2], [1, 2, 3], [], [], [5, 6], [5, 6, 7], [1, 2, 3, 4, 5, 6, 7, 8], [0, 1, 2, 3, 4, 5, 6, 7, 8, 9], [0, 1, 2, 3, 4, 5, 6, 7, 8, 9, 10]] [55, 56, 57, 58, 59, 60, 61, 62, 63, 64] [64] (by kernel_rfl) (by kernel_rfl)
      · (apply draw_put rfl; (intro S1 hS; exact stp_move rfl (hS.op rfl)); apply draw_put rfl; (intro S1 hS; exact stp_move rfl (hS.op rfl)); apply draw_put rfl; (intro S1 hS; exact stp_move rfl (hS.op rfl)); apply draw_put rfl; (intro S1 hS; exact stp_ixE rfl (hS.op rfl) (hS.op rfl) (hS.ch _ _ rfl) rfl (by as_aux_lemma => kernel_rfl) (by first | assumption | exact ivals_get (by assumption) | exact irows_get (by assumption) | exact ivals_get (by omega) | exact irows_get (by omega) | rfl) (by first | rfl | exact (Int.toNat_of_nonneg (by omega)).symm) (by first | assumption | omega | (simp; omega)) (by first | exact Nat.le_refl _ | exact Nat.le_of_eq (ivals_len _).symm | exact Nat.le_of_eq (irows_len _).symm | (refine Nat.le_trans ?_ (Nat.le_of_eq (ivals_len _).symm); (first | omega | (simp; done) | (simp; omega))) | (refine Nat.le_trans ?_ (Nat.le_of_eq (irows_len _).symm); (first | omega | (simp; done) | (simp; omega))))); apply draw_put rfl; (intro S1 hS; exact stp_loadE' rfl (by as_aux_lemma => kernel_rfl) (hS.op rfl) (hS.ch _ _ rfl) rfl (by first | assumption | exact ivals_get (by assumption) | exact irows_get (by assumption) | exact ivals_get (by omega) | exact irows_get (by omega) | rfl) (by first | assumption | exact ivals_get (by assumption) | exact irows_get (by assumption) | exact ivals_get (by omega) | exact irows_get (by omega) | rfl)); apply draw_put rfl; (intro S1 hS; exact stp_move rfl (hS.op rfl)); apply draw_put rfl; (intro S1 hS; exact stp_move rfl (hS.op rfl)); apply draw_put rfl; (intro S1 hS; exact stp_ixE rfl (hS.op rfl) (hS.op rfl) (hS.ch _ _ rfl) rfl (by as_aux_lemma => kernel_rfl) (by first | assumption | exact ivals_get (by assumption) | exact irows_get (by assumption) | exact ivals_get (by omega) | exact irows_get (by omega) | rfl) (by first | rfl | exact (Int.toNat_of_nonneg (by omega)).symm) (by first | assumption | omega | (simp; omega)) (by first | exact Nat.le_refl _ | exact Nat.le_of_eq (ivals_len _).symm | exact Nat.le_of_eq (irows_len _).symm | (refine Nat.le_trans ?_ (Nat.le_of_eq (ivals_len _).symm); (first | omega | (simp; done) | (simp; omega))) | (refine Nat.le_trans ?_ (Nat.le_of_eq (irows_len _).symm); (first | omega | (simp; done) | (simp; omega))))); apply draw_put rfl; (intro S1 hS; exact stp_loadE' rfl (by as_aux_lemma => kernel_rfl) (hS.op rfl) (hS.ch _ _ rfl) rfl (by first | assumption | exact ivals_get (by assumption) | exact irows_get (by assumption) | exact ivals_get (by omega) | exact irows_get (by omega) | rfl) (by first | assumption | exact ivals_get (by assumption) | exact irows_get (by assumption) | exact ivals_get (by omega) | exact irows_get (by omega) | rfl)); apply draw_new rfl; (intro S1 hS; exact stp_lit2I (E := 2) rfl (by as_aux_lemma => kernel_rfl) (hS.op rfl) (hS.op rfl)); exact Draw.nil)
      · rfl
      ((apply rest_one 10 rfl (by as_aux_lemma => kernel_rfl) rfl rfl; ((first | exact stp_app2I (E := 2) rfl (by as_aux_lemma => kernel_rfl) rfl rfl rfl (by assumption) rfl rfl (by omega)))); (apply rest_one 11 rfl (by as_aux_lemma => kernel_rfl) rfl rfl; (exact stp_assign rfl rfl)); (refine rest_done (by as_aux_lemma => kernel_rfl) ?_; skip))
      (refine fin_seq ?_; refine goes_seq ?_)
      apply goes_draw 10 [] [[], [], [], [1, 2], [1, 2, 3], [], [], [5, 6], [5, 6, 7], [1, 2, 3, 4, 5, 6, 7, 8], [0, 1, 2, 3, 4, 5, 6, 7, 8, 9], [0, 1, 2, 3, 4, 5, 6, 7, 8, 9, 10]] [66, 67, 68, 69, 70, 71, 72, 73, 74, 75] [75] (by kernel_rfl) (by kernel_rfl)
      · (apply draw_put rfl; (intro S1 hS; exact stp_move rfl (hS.op rfl)); apply draw_put rfl; (intro S1 hS; exact stp_move rfl (hS.op rfl)); apply draw_put rfl; (intro S1 hS; exact stp_move rfl (hS.op rfl)); apply draw_put rfl; (intro S1 hS; exact stp_ixE rfl (hS.op rfl) (hS.op rfl) (hS.ch _ _ rfl) rfl (by as_aux_lemma => kernel_rfl) (by first | assumption | exact ivals_get (by assumption) | exact irows_get (by assumption) | exact ivals_get (by omega) | exact irows_get (by omega) | rfl) (by first | rfl | exact (Int.toNat_of_nonneg (by omega)).symm) (by first | assumption | omega | (simp; omega)) (by first | exact Nat.le_refl _ | exact Nat.le_of_eq (ivals_len _).symm | exact Nat.le_of_eq (irows_len _).symm | (refine Nat.le_trans ?_ (Nat.le_of_eq (ivals_len _).symm); (first | omega | (simp; done) | (simp; omega))) | (refine Nat.le_trans ?_ (Nat.le_of_eq (irows_len _).symm); (first | omega | (simp; done) | (simp; omega))))); apply draw_put rfl; (intro S1 hS; exact stp_loadE' rfl (by as_aux_lemma => kernel_rfl) (hS.op rfl) (hS.ch _ _ rfl) rfl (by first | assumption | exact ivals_get (by assumption) | exact irows_get (by assumption) | exact ivals_get (by omega) | exact irows_get (by omega) | rfl) (by first | assumption | exact ivals_get (by assumption) | exact irows_get (by assumption) | exact ivals_get (by omega) | exact irows_get (by omega) | rfl)); apply draw_put rfl; (intro S1 hS; exact stp_move rfl (hS.op rfl)); apply draw_put rfl; (intro S1 hS; exact stp_move rfl (hS.op rfl)); apply draw_put rfl; (intro S1 hS; exact stp_ixE rfl (hS.op rfl) (hS.op rfl) (hS.ch _ _ rfl) rfl (by as_aux_lemma => kernel_rfl) (by first | assumption | exact ivals_get (by assumption) | exact irows_get (by assumption) | exact ivals_get (by omega) | exact irows_get (by omega) | rfl) (by first | rfl | exact (Int.toNat_of_nonneg (by omega)).symm) (by first | assumption | omega | (simp; omega)) (by first | exact Nat.le_refl _ | exact Nat.le_of_eq (ivals_len _).symm | exact Nat.le_of_eq (irows_len _).symm | (refine Nat.le_trans ?_ (Nat.le_of_eq (ivals_len _).symm); (first | omega | (simp; done) | (simp; omega))) | (refine Nat.le_trans ?_ (Nat.le_of_eq (irows_len _).symm); (first | omega | (simp; done) | (simp; omega))))); apply draw_put rfl; (intro S1 hS; exact stp_loadE' rfl (by as_aux_lemma => kernel_rfl) (hS.op rfl) (hS.ch _ _ rfl) rfl (by first | assumption | exact ivals_get (by assumption) | exact irows_get (by assumption) | exact ivals_get (by omega) | exact irows_get (by omega) | rfl) (by first | assumption | exact ivals_get (by assumption) | exact irows_get (by assumption) | exact ivals_get (by omega) | exact irows_get (by omega) | rfl)); apply draw_new rfl; (intro S1 hS; exact stp_lit2I (E := 2) rfl (by as_aux_lemma => kernel_rfl) (hS.op rfl) (hS.op rfl)); exact Draw.nil)
      · rfl
      ((apply rest_one 10 rfl (by as_aux_lemma => kernel_rfl) rfl rfl; ((first | exact stp_app2I (E := 2) rfl (by as_aux_lemma => kernel_rfl) rfl rfl rfl (by assumption) rfl rfl (by omega)))); (apply rest_one 11 rfl (by as_aux_lemma => kernel_rfl) rfl rfl; (exact stp_assign rfl rfl)); (refine rest_done (by as_aux_lemma => kernel_rfl) ?_; skip))
      have f1 : IntKind.i64.wrap ((b0 : Int) + (p : Int)) = ((b0 + p : Nat) : Int) := by rw [IntWalk.i64_in _ (by omega)]; omega
      have f2 : IntKind.i64.wrap (2 * ((b0 + p : Nat) : Int)) = ((2 * (b0 + p) : Nat) : Int) := by rw [IntWalk.i64_in _ (by omega)]; omega
      have f3 : IntKind.i64.wrap (((2 * (b0 + p) : Nat) : Int) + 1) = ((2 * (b0 + p) + 1 : Nat) : Int) := by rw [IntWalk.i64_in _ (by omega)]; omega
      have f4 : IntKind.i64.wrap ((b0 : Int) + (q : Int)) = ((b0 + q : Nat) : Int) := by rw [IntWalk.i64_in _ (by omega)]; omega
      have f5 : IntKind.i64.wrap (2 * ((b0 + q : Nat) : Int)) = ((2 * (b0 + q) : Nat) : Int) := by rw [IntWalk.i64_in _ (by omega)]; omega
      have f6 : IntKind.i64.wrap (2 * ((b0 + i : Nat) : Int)) = ((2 * (b0 + i) : Nat) : Int) := by rw [IntWalk.i64_in _ (by omega)]; omega
      have f7 : IntKind.i64.wrap (((2 * (b0 + i) : Nat) : Int) + 1) = ((2 * (b0 + i) + 1 : Nat) : Int) := by rw [IntWalk.i64_in _ (by omega)]; omega
      (refine fin_seq ?_; refine goes_seq ?_; refine goes_region ?_; apply run_step rfl; (exact stp_move rfl rfl); apply run_step rfl; (exact stp_move rfl rfl); apply run_step rfl; (exact stp_move rfl rfl); apply run_step rfl; (first | exact stp_add rfl rfl rfl f1 | exact stp_mul rfl rfl rfl f2 | exact stp_add rfl rfl rfl f3 | exact stp_add rfl rfl rfl f4 | exact stp_mul rfl rfl rfl f5 | exact stp_mul rfl rfl rfl f6 | exact stp_add rfl rfl rfl f7 | exact stp_add rfl rfl rfl e2 | exact stp_app2I (E := 2) rfl (by as_aux_lemma => kernel_rfl) rfl rfl rfl (by assumption) rfl rfl (by omega)); apply run_step rfl; (first | exact stp_add rfl rfl rfl f1 | exact stp_mul rfl rfl rfl f2 | exact stp_add rfl rfl rfl f3 | exact stp_add rfl rfl rfl f4 | exact stp_mul rfl rfl rfl f5 | exact stp_mul rfl rfl rfl f6 | exact stp_add rfl rfl rfl f7 | exact stp_add rfl rfl rfl e2 | exact stp_app2I (E := 2) rfl (by as_aux_lemma => kernel_rfl) rfl rfl rfl (by assumption) rfl rfl (by omega)); apply run_step rfl; (first | exact stp_add rfl rfl rfl f1 | exact stp_mul rfl rfl rfl f2 | exact stp_add rfl rfl rfl f3 | exact stp_add rfl rfl rfl f4 | exact stp_mul rfl rfl rfl f5 | exact stp_mul rfl rfl rfl f6 | exact stp_add rfl rfl rfl f7 | exact stp_add rfl rfl rfl e2 | exact stp_app2I (E := 2) rfl (by as_aux_lemma => kernel_rfl) rfl rfl rfl (by assumption) rfl rfl (by omega)); apply run_step rfl; (exact stp_move rfl rfl); apply run_step rfl; (exact stp_move rfl rfl); apply run_step rfl; (first | exact stp_add rfl rfl rfl f1 | exact stp_mul rfl rfl rfl f2 | exact stp_add rfl rfl rfl f3 | exact stp_add rfl rfl rfl f4 | exact stp_mul rfl rfl rfl f5 | exact stp_mul rfl rfl rfl f6 | exact stp_add rfl rfl rfl f7 | exact stp_add rfl rfl rfl e2 | exact stp_app2I (E := 2) rfl (by as_aux_lemma => kernel_rfl) rfl rfl rfl (by assumption) rfl rfl (by omega)); apply run_step rfl; (first | exact stp_add rfl rfl rfl f1 | exact stp_mul rfl rfl rfl f2 | exact stp_add rfl rfl rfl f3 | exact stp_add rfl rfl rfl f4 | exact stp_mul rfl rfl rfl f5 | exact stp_mul rfl rfl rfl f6 | exact stp_add rfl rfl rfl f7 | exact stp_add rfl rfl rfl e2 | exact stp_app2I (E := 2) rfl (by as_aux_lemma => kernel_rfl) rfl rfl rfl (by assumption) rfl rfl (by omega)); apply run_step rfl; (exact stp_lit2I (E := 2) rfl (by as_aux_lemma => kernel_rfl) rfl rfl); apply run_step rfl; (first | exact stp_add rfl rfl rfl f1 | exact stp_mul rfl rfl rfl f2 | exact stp_add rfl rfl rfl f3 | exact stp_add rfl rfl rfl f4 | exact stp_mul rfl rfl rfl f5 | exact stp_mul rfl rfl rfl f6 | exact stp_add rfl rfl rfl f7 | exact stp_add rfl rfl rfl e2 | exact stp_app2I (E := 2) rfl (by as_aux_lemma => kernel_rfl) rfl rfl rfl (by assumption) rfl rfl (by omega)); apply run_step rfl; (exact stp_assign rfl rfl); refine run_nil ?_; refine fin_seq ?_; refine goes_region ?_; apply run_step rfl; (exact stp_move rfl rfl); apply run_step rfl; (exact stp_move rfl rfl); apply run_step rfl; (first | exact stp_add rfl rfl rfl f1 | exact stp_mul rfl rfl rfl f2 | exact stp_add rfl rfl rfl f3 | exact stp_add rfl rfl rfl f4 | exact stp_mul rfl rfl rfl f5 | exact stp_mul rfl rfl rfl f6 | exact stp_add rfl rfl rfl f7 | exact stp_add rfl rfl rfl e2 | exact stp_app2I (E := 2) rfl (by as_aux_lemma => kernel_rfl) rfl rfl rfl (by assumption) rfl rfl (by omega)); apply run_step rfl; (first | exact stp_add rfl rfl rfl f1 | exact stp_mul rfl rfl rfl f2 | exact stp_add rfl rfl rfl f3 | exact stp_add rfl rfl rfl f4 | exact stp_mul rfl rfl rfl f5 | exact stp_mul rfl rfl rfl f6 | exact stp_add rfl rfl rfl f7 | exact stp_add rfl rfl rfl e2 | exact stp_app2I (E := 2) rfl (by as_aux_lemma => kernel_rfl) rfl rfl rfl (by assumption) rfl rfl (by omega)); apply run_step rfl; (exact stp_move rfl rfl); apply run_step rfl; (first | exact stp_add rfl rfl rfl f1 | exact stp_mul rfl rfl rfl f2 | exact stp_add rfl rfl rfl f3 | exact stp_add rfl rfl rfl f4 | exact stp_mul rfl rfl rfl f5 | exact stp_mul rfl rfl rfl f6 | exact stp_add rfl rfl rfl f7 | exact stp_add rfl rfl rfl e2 | exact stp_app2I (E := 2) rfl (by as_aux_lemma => kernel_rfl) rfl rfl rfl (by assumption) rfl rfl (by omega)); apply run_step rfl; (exact stp_lit2I (E := 2) rfl (by as_aux_lemma => kernel_rfl) rfl rfl); apply run_step rfl; (first | exact stp_add rfl rfl rfl f1 | exact stp_mul rfl rfl rfl f2 | exact stp_add rfl rfl rfl f3 | exact stp_add rfl rfl rfl f4 | exact stp_mul rfl rfl rfl f5 | exact stp_mul rfl rfl rfl f6 | exact stp_add rfl rfl rfl f7 | exact stp_add rfl rfl rfl e2 | exact stp_app2I (E := 2) rfl (by as_aux_lemma => kernel_rfl) rfl rfl rfl (by assumption) rfl rfl (by omega)); apply run_step rfl; (exact stp_assign rfl rfl); refine run_nil ?_; refine fin_block ?_; refine fin_seq ?_; refine goes_region ?_; apply run_step rfl; (exact stp_move rfl rfl); apply run_step rfl; (first | exact stp_add rfl rfl rfl f1 | exact stp_mul rfl rfl rfl f2 | exact stp_add rfl rfl rfl f3 | exact stp_add rfl rfl rfl f4 | exact stp_mul rfl rfl rfl f5 | exact stp_mul rfl rfl rfl f6 | exact stp_add rfl rfl rfl f7 | exact stp_add rfl rfl rfl e2 | exact stp_app2I (E := 2) rfl (by as_aux_lemma => kernel_rfl) rfl rfl rfl (by assumption) rfl rfl (by omega)); apply run_step rfl; (exact stp_assign rfl rfl); refine run_nil ?_)
      exact fin_round (i + 1) (by omega) (by omega) (Wk.of ⟨rfl, rfl, rfl, rfl, rfl, rfl, rfl, rfl, rfl, rfl, rfl, trivial⟩ ⟨rfl, rfl, congrArg (fun z => some (leOw z)) s1.symm, congrArg (fun z => some (leOw z)) s2.symm, congrArg (fun z => some (leOw z)) s3.symm, congrArg (fun z => some (leOw z)) s4.symm, trivial⟩ trivial)
    · obtain rfl : i = m := by omega
      have g1 : IntKind.i64.wrap ((b0 : Int) + (i : Int)) = ((b0 + i : Nat) : Int) := by rw [IntWalk.i64_in _ (by omega)]; omega
      have g2 : IntKind.i64.wrap ((j : Int) + 1) = ((j + 1 : Nat) : Int) := by rw [IntWalk.i64_in _ (by omega)]; omega
      (refine goes_exit ?_; refine fin_exit_then ?_; refine fin_exit_then ?_; refine fin_exit_eq ?_; refine fin_seq ?_; refine goes_region ?_; apply run_step rfl; (exact stp_move rfl rfl); apply run_step rfl; (exact stp_move rfl rfl); apply run_step rfl; (first | exact stp_add rfl rfl rfl g1 | exact stp_add rfl rfl rfl g2); apply run_step rfl; (exact stp_assign rfl rfl); refine run_nil ?_; refine fin_block ?_; refine fin_seq ?_; refine goes_region ?_; apply run_step rfl; (exact stp_move rfl rfl); apply run_step rfl; (first | exact stp_add rfl rfl rfl g1 | exact stp_add rfl rfl rfl g2); apply run_step rfl; (exact stp_assign rfl rfl); refine run_nil ?_)
      exact fin_round (j + 1) (by omega) (by omega) (Wk.of ⟨rfl, rfl, congrArg (fun z => some (o1 (.sl 21 0 (2 * z)))) hbs.symm, congrArg (fun z => some (o1 (.sl 22 0 (2 * z)))) hbs.symm, congrArg (fun z => some (o1 (.sl 23 0 (2 * z)))) hbs.symm, congrArg (fun z => some (o1 (.sl 24 0 (2 * z)))) hbs.symm, congrArg (fun z : Nat => some (vv (I6 (z : Int)))) hbs.symm, rfl, trivial⟩ ⟨rfl, rfl, congrArg (fun z => some (leOw (ownL ps z))) hbs.symm, congrArg (fun z => some (leOw (othL ps z))) hbs.symm, congrArg (fun z => some (leOw (zerL ps z))) hbs.symm, congrArg (fun z => some (leOw (oneL z))) hbs.symm, trivial⟩ trivial)
  · obtain rfl : j = ps.length := by omega
    have hall : begP ps ps.length = N := by rw [begP_all, hN]
    (refine goes_exit ?_; refine fin_exit_then ?_; refine fin_exit_then ?_; refine fin_exit_eq ?_; refine fin_seq ?_; refine goes_seq ?_; refine goes_region ?_; apply run_step rfl; (exact stp_lit0 (E := 2) (k := 1) rfl (by as_aux_lemma => kernel_rfl)); apply run_step rfl; (exact stp_assign rfl rfl); refine run_nil ?_; refine fin_seq ?_; refine goes_seq ?_; refine goes_seq ?_; refine goes_region ?_; apply run_step rfl; (exact stp_assign rfl rfl); refine run_nil ?_; refine fin_seq ?_; refine goes_block ?_)
    have hgN : mpGood ps = goodUp ps N (2 * N) := by unfold mpGood; rw [hN]
    have hlO : (ownL ps N).length = 2 * N := dupL_len _ _ _
    have hlT : (othL ps N).length = 2 * N := dupL_len _ _ _
    refine goes_loop (fun f : Nat => St.of [(0, o1 (.sl 1003 0 ps.length)), (2, o1 (.ptr 2 0)), (4, o1 (.sl 21 0 (2 * N))), (5, o1 (.sl 22 0 (2 * N))), (6, o1 (.sl 23 0 (2 * N))), (7, o1 (.sl 24 0 (2 * N))), (16, o1 (.sl 100 0 f)), (17, vv (I6 f))] [(1003, rowsRo ps), (2, mBox), (21, leOw (ownL ps N)), (22, leOw (othL ps N)), (23, leOw (zerL ps N)), (24, leOw (oneL N)), (100, leOw (twoL ps N f))]) (fun f => f ≤ 2 * N ∧ goodUp ps N f = true) (fun f => 2 * N - f) 0 ⟨Nat.zero_le _, rfl⟩ (Wk.of ⟨rfl, rfl, congrArg (fun z => some (o1 (.sl 21 0 (2 * z)))) hall, congrArg (fun z => some (o1 (.sl 22 0 (2 * z)))) hall, congrArg (fun z => some (o1 (.sl 23 0 (2 * z)))) hall, congrArg (fun z => some (o1 (.sl 24 0 (2 * z)))) hall, rfl, rfl, trivial⟩ ⟨rfl, rfl, congrArg (fun z => some (leOw (ownL ps z))) hall, congrArg (fun z => some (leOw (othL ps z))) hall, congrArg (fun z => some (leOw (zerL ps z))) hall, congrArg (fun z => some (leOw (oneL z))) hall, rfl, trivial⟩ trivial) ?_
    rintro f ⟨hf, hgu⟩
    have hc2 : ((2 * N : Nat) : Int) = ((2 * N : Nat) : Int) := rfl
    (refine goes_seq ?_; refine goes_seq ?_; refine goes_region ?_; apply run_step rfl; (exact stp_move rfl rfl); apply run_step rfl; (exact stp_move rfl rfl); apply run_step rfl; (exact stp_len rfl rfl rfl (by as_aux_lemma => kernel_rfl)); apply run_step rfl; (exact stp_bin rfl rfl rfl rfl); refine run_nil ?_; refine fin_seq ?_)
    refine goes_if rfl (fun hlt2 => ?_) (fun hlt2 => ?_)
    · have hf2 : f < 2 * N := by omega
      (refine goes_skip ?_; refine fin_seq ?_; refine goes_seq ?_; refine goes_block ?_; refine goes_seq ?_; refine goes_region ?_; apply run_step rfl; (exact stp_lit0 (E := 2) (k := 1) rfl (by as_aux_lemma => kernel_rfl)); apply run_step rfl; (exact stp_assign rfl rfl); refine run_nil ?_; refine fin_seq ?_; refine goes_seq ?_; refine goes_seq ?_; refine goes_region ?_; apply run_step rfl; (exact stp_assign rfl rfl); refine run_nil ?_; refine fin_seq ?_; refine goes_block ?_)
      refine goes_loop (fun g : Nat => St.of [(0, o1 (.sl 1003 0 ps.length)), (2, o1 (.ptr 2 0)), (4, o1 (.sl 21 0 (2 * N))), (5, o1 (.sl 22 0 (2 * N))), (6, o1 (.sl 23 0 (2 * N))), (7, o1 (.sl 24 0 (2 * N))), (16, o1 (.sl 100 0 f)), (17, vv (I6 f)), (18, o1 (.sl 107 0 (fndL ps N f g).length)), (19, vv (I6 g))] [(1003, rowsRo ps), (2, mBox), (21, leOw (ownL ps N)), (22, leOw (othL ps N)), (23, leOw (zerL ps N)), (24, leOw (oneL N)), (100, leOw (twoL ps N f)), (107, leOw (fndL ps N f g))]) (fun g => g ≤ 2 * N) (fun g => 2 * N - g) 0 (Nat.zero_le _) (Wk.of ⟨rfl, rfl, rfl, rfl, rfl, rfl, rfl, rfl, rfl, rfl, trivial⟩ ⟨rfl, rfl, rfl, rfl, rfl, rfl, rfl, rfl, trivial⟩ trivial) ?_
      rintro g hg2
      (refine goes_seq ?_; refine goes_seq ?_; refine goes_region ?_; apply run_step rfl; (exact stp_move rfl rfl); apply run_step rfl; (exact stp_move rfl rfl); apply run_step rfl; (exact stp_len rfl rfl rfl (by as_aux_lemma => kernel_rfl)); apply run_step rfl; (exact stp_bin rfl rfl rfl rfl); refine run_nil ?_; refine fin_seq ?_)
      refine goes_if rfl (fun hlt3 => ?_) (fun hlt3 => ?_)
      · have hg3 : g < 2 * N := by omega
        have hfl := fndL_len ps N f g
        have e1 : IntKind.i64.wrap ((g : Int) + 1) = ((g + 1 : Nat) : Int) := by rw [IntWalk.i64_in _ (by omega)]; omega
        have hst : fndL ps N f (g + 1) = if fndB ps N f g = true then fndL ps N f g ++ [(g : Int)] else fndL ps N f g := rfl
        (refine goes_skip ?_; refine fin_seq ?_; refine goes_seq ?_; refine goes_block ?_; refine goes_seq ?_)
        by_cases c1 : (g : Int) = (f : Int)
        · have hB : fndB ps N f g = false := by unfold fndB; rw [c1]; simp
          rw [hB, if_neg (by simp)] at hst
          apply goes_drawG 25 [] [[], [], [0, 1], [0, 1, 2], [0, 1, 2, 3], [0, 1, 2, 3], [0, 1, 2, 3, 4, 5], [0, 1, 2, 3, 4, 5, 6], [0, 1, 2, 3], [0, 1, 2, 3], [0, 1, 2, 3, 8, 9], [0, 1, 2, 3, 8, 9, 10], [0, 1, 2, 3, 4, 5, 6, 7, 8, 9, 10, 11], [0, 1, 2, 3, 4, 5, 6, 7, 8, 9, 10, 11, 12], [0, 1, 2, 3, 4, 5, 6, 7, 8, 9, 10, 11, 12, 13], [0, 1, 2, 3, 4, 5, 6, 7, 8, 9, 10, 11, 12, 13, 14], [0, 1, 2, 3, 4, 5, 6, 7, 8, 9, 10, 11, 12, 13, 14], [0, 1, 2, 3, 4, 5, 6, 7, 8, 9, 10, 11, 12, 13, 14, 15, 16], [0, 1, 2, 3, 4, 5, 6, 7, 8, 9, 10, 11, 12, 13, 14, 15, 16, 17], [0, 1, 2, 3, 4, 5, 6, 7, 8, 9, 10, 11, 12, 13, 14], [0, 1, 2, 3, 4, 5, 6, 7, 8, 9, 10, 11, 12, 13, 14], [0, 1, 2, 3, 4, 5, 6, 7, 8, 9, 10, 11, 12, 13, 14, 19, 20], [0, 1, 2, 3, 4, 5, 6, 7, 8, 9, 10, 11, 12, 13, 14, 19, 20, 21], [0, 1, 2, 3, 4, 5, 6, 7, 8, 9, 10, 11, 12, 13, 14, 15, 16, 17, 18, 19, 20, 21, 22], [0, 1, 2, 3, 4, 5, 6, 7, 8, 9, 10, 11, 12, 13, 14, 15, 16, 17, 18, 19, 20, 21, 22, 23]] [114, 115, 116, 117, 118, 119, 120, 121, 122, 123, 124, 125, 126, 127, 128, 129, 130, 131, 132, 133, 134, 135, 136, 137, 138] [] (by kernel_rfl) (by kernel_rfl)
          · (apply drawG_put rfl; (intro S1 hS; exact stp_move rfl (hS.op rfl)); apply drawG_put rfl; (intro S1 hS; exact stp_move rfl (hS.op rfl)); (first | (apply drawG_put rfl; (focus (intro S1 hS; exact stp_bin rfl (hS.op rfl) (hS.op rfl) (binNeq' c1)))) | (apply drawG_yes rfl rfl rfl; (focus (intro S1 hS; exact stp_bin rfl (hS.op rfl) (hS.op rfl) (binNeq' c1))))); apply drawG_put rfl; (intro S1 hS; exact stp_move rfl (hS.op rfl)); apply drawG_no rfl rfl rfl rfl rfl; apply drawG_no rfl rfl rfl rfl rfl; apply drawG_no rfl rfl rfl rfl rfl; apply drawG_no rfl rfl rfl rfl rfl; apply drawG_no rfl rfl rfl rfl rfl; apply drawG_no rfl rfl rfl rfl rfl; apply drawG_no rfl rfl rfl rfl rfl; apply drawG_no rfl rfl rfl rfl rfl; apply drawG_no rfl rfl rfl rfl rfl; apply drawG_put rfl; (intro S1 hS; exact stp_pickF rfl (hS.op rfl) (hS.op rfl)); apply drawG_put rfl; (intro S1 hS; exact stp_move rfl (hS.op rfl)); apply drawG_no rfl rfl rfl rfl rfl; apply drawG_no rfl rfl rfl rfl rfl; apply drawG_no rfl rfl rfl rfl rfl; apply drawG_no rfl rfl rfl rfl rfl; apply drawG_no rfl rfl rfl rfl rfl; apply drawG_no rfl rfl rfl rfl rfl; apply drawG_no rfl rfl rfl rfl rfl; apply drawG_no rfl rfl rfl rfl rfl; apply drawG_no rfl rfl rfl rfl rfl; apply drawG_put rfl; (intro S1 hS; exact stp_pickF rfl (hS.op rfl) (hS.op rfl)); exact DrawG.nil)
          · rfl
          ((refine rest_done (by as_aux_lemma => kernel_rfl) ?_; skip))
          (refine fin_seq ?_)
          refine goes_cond rfl (fun e => by cases e) (fun _ => ?_)
          (refine goes_skip ?_; refine fin_block ?_; refine fin_seq ?_; refine goes_region ?_; apply run_step rfl; (exact stp_move rfl rfl); apply run_step rfl; (exact stp_add rfl rfl rfl e1); apply run_step rfl; (exact stp_assign rfl rfl); refine run_nil ?_)
          exact fin_round (g + 1) (by omega) (by omega) (Wk.of ⟨rfl, rfl, rfl, rfl, rfl, rfl, rfl, rfl, congrArg (fun z => some (o1 (.sl 107 0 (List.length z)))) hst.symm, rfl, trivial⟩ ⟨rfl, rfl, rfl, rfl, rfl, rfl, rfl, congrArg (fun z => some (leOw z)) hst.symm, trivial⟩ trivial)
        · by_cases c2 : iget (ownL ps N) g = iget (ownL ps N) f
          · by_cases c3 : iget (othL ps N) g = iget (othL ps N) f
            · have hB : fndB ps N f g = true := by unfold fndB; rw [c2, c3]; simpa using c1
              rw [hB, if_pos rfl] at hst
              have hsl : (fndL ps N f (g + 1)).length = (fndL ps N f g).length + 1 := by rw [hst]; simp
              apply goes_drawG 25 [] [[], [], [0, 1], [0, 1, 2], [0, 1, 2, 3], [0, 1, 2, 3], [0, 1, 2, 3, 4, 5], [0, 1, 2, 3, 4, 5, 6], [0, 1, 2, 3], [0, 1, 2, 3], [0, 1, 2, 3, 8, 9], [0, 1, 2, 3, 8, 9, 10], [0, 1, 2, 3, 4, 5, 6, 7, 8, 9, 10, 11], [0, 1, 2, 3, 4, 5, 6, 7, 8, 9, 10, 11, 12], [0, 1, 2, 3, 4, 5, 6, 7, 8, 9, 10, 11, 12, 13], [0, 1, 2, 3, 4, 5, 6, 7, 8, 9, 10, 11, 12, 13, 14], [0, 1, 2, 3, 4, 5, 6, 7, 8, 9, 10, 11, 12, 13, 14], [0, 1, 2, 3, 4, 5, 6, 7, 8, 9, 10, 11, 12, 13, 14, 15, 16], [0, 1, 2, 3, 4, 5, 6, 7, 8, 9, 10, 11, 12, 13, 14, 15, 16, 17], [0, 1, 2, 3, 4, 5, 6, 7, 8, 9, 10, 11, 12, 13, 14], [0, 1, 2, 3, 4, 5, 6, 7, 8, 9, 10, 11, 12, 13, 14], [0, 1, 2, 3, 4, 5, 6, 7, 8, 9, 10, 11, 12, 13, 14, 19, 20], [0, 1, 2, 3, 4, 5, 6, 7, 8, 9, 10, 11, 12, 13, 14, 19, 20, 21], [0, 1, 2, 3, 4, 5, 6, 7, 8, 9, 10, 11, 12, 13, 14, 15, 16, 17, 18, 19, 20, 21, 22], [0, 1, 2, 3, 4, 5, 6, 7, 8, 9, 10, 11, 12, 13, 14, 15, 16, 17, 18, 19, 20, 21, 22, 23]] [114, 115, 116, 117, 118, 119, 120, 121, 122, 123, 124, 125, 126, 127, 128, 129, 130, 131, 132, 133, 134, 135, 136, 137, 138] [] (by kernel_rfl) (by kernel_rfl)
              · (apply drawG_put rfl; (intro S1 hS; exact stp_move rfl (hS.op rfl)); apply drawG_put rfl; (intro S1 hS; exact stp_move rfl (hS.op rfl)); (first | (apply drawG_put rfl; (focus (intro S1 hS; first | exact stp_bin rfl (hS.op rfl) (hS.op rfl) (binNeq c1) | exact stp_bin rfl (hS.op rfl) (hS.op rfl) (binEql c2) | exact stp_bin rfl (hS.op rfl) (hS.op rfl) (binEql c3)))) | (apply drawG_yes rfl rfl rfl; (focus (intro S1 hS; first | exact stp_bin rfl (hS.op rfl) (hS.op rfl) (binNeq c1) | exact stp_bin rfl (hS.op rfl) (hS.op rfl) (binEql c2) | exact stp_bin rfl (hS.op rfl) (hS.op rfl) (binEql c3))))); apply drawG_put rfl; (intro S1 hS; exact stp_move rfl (hS.op rfl)); apply drawG_yes rfl rfl rfl; (intro S1 hS; exact stp_move rfl (hS.op rfl)); apply drawG_yes rfl rfl rfl; (intro S1 hS; exact stp_move rfl (hS.op rfl)); apply drawG_yes rfl rfl rfl; (intro S1 hS; exact stp_ix rfl (hS.op rfl) (hS.op rfl) (hS.ch _ _ rfl) rfl (by as_aux_lemma => kernel_rfl) (by first | rfl | exact (Int.toNat_of_nonneg (by omega)).symm) (by first | assumption | omega | (simp; omega)) (by first | exact Nat.le_refl _ | exact Nat.le_of_eq (ivals_len _).symm | exact Nat.le_of_eq (irows_len _).symm | (refine Nat.le_trans ?_ (Nat.le_of_eq (ivals_len _).symm); (first | omega | (simp; done) | (simp; omega))) | (refine Nat.le_trans ?_ (Nat.le_of_eq (irows_len _).symm); (first | omega | (simp; done) | (simp; omega))))); apply drawG_yes rfl rfl rfl; (intro S1 hS; exact stp_loadV rfl (by as_aux_lemma => kernel_rfl) (hS.op rfl) (hS.ch _ _ rfl) rfl (by first | assumption | exact ivals_get (by assumption) | exact irows_get (by assumption) | exact ivals_get (by omega) | exact irows_get (by omega) | rfl)); apply drawG_yes rfl rfl rfl; (intro S1 hS; exact stp_move rfl (hS.op rfl)); apply drawG_yes rfl rfl rfl; (intro S1 hS; exact stp_move rfl (hS.op rfl)); apply drawG_yes rfl rfl rfl; (intro S1 hS; exact stp_ix rfl (hS.op rfl) (hS.op rfl) (hS.ch _ _ rfl) rfl (by as_aux_lemma => kernel_rfl) (by first | rfl | exact (Int.toNat_of_nonneg (by omega)).symm) (by first | assumption | omega | (simp; omega)) (by first | exact Nat.le_refl _ | exact Nat.le_of_eq (ivals_len _).symm | exact Nat.le_of_eq (irows_len _).symm | (refine Nat.le_trans ?_ (Nat.le_of_eq (ivals_len _).symm); (first | omega | (simp; done) | (simp; omega))) | (refine Nat.le_trans ?_ (Nat.le_of_eq (irows_len _).symm); (first | omega | (simp; done) | (simp; omega))))); apply drawG_yes rfl rfl rfl; (intro S1 hS; exact stp_loadV rfl (by as_aux_lemma => kernel_rfl) (hS.op rfl) (hS.ch _ _ rfl) rfl (by first | assumption | exact ivals_get (by assumption) | exact irows_get (by assumption) | exact ivals_get (by omega) | exact irows_get (by omega) | rfl)); (first | (apply drawG_put rfl; (focus (intro S1 hS; first | exact stp_bin rfl (hS.op rfl) (hS.op rfl) (binNeq c1) | exact stp_bin rfl (hS.op rfl) (hS.op rfl) (binEql c2) | exact stp_bin rfl (hS.op rfl) (hS.op rfl) (binEql c3)))) | (apply drawG_yes rfl rfl rfl; (focus (intro S1 hS; first | exact stp_bin rfl (hS.op rfl) (hS.op rfl) (binNeq c1) | exact stp_bin rfl (hS.op rfl) (hS.op rfl) (binEql c2) | exact stp_bin rfl (hS.op rfl) (hS.op rfl) (binEql c3))))); apply drawG_put rfl; (intro S1 hS; exact stp_pickT rfl (hS.op rfl) (hS.op rfl)); apply drawG_put rfl; (intro S1 hS; exact stp_move rfl (hS.op rfl)); apply drawG_yes rfl rfl rfl; (intro S1 hS; exact stp_move rfl (hS.op rfl)); apply drawG_yes rfl rfl rfl; (intro S1 hS; exact stp_move rfl (hS.op rfl)); apply drawG_yes rfl rfl rfl; (intro S1 hS; exact stp_ix rfl (hS.op rfl) (hS.op rfl) (hS.ch _ _ rfl) rfl (by as_aux_lemma => kernel_rfl) (by first | rfl | exact (Int.toNat_of_nonneg (by omega)).symm) (by first | assumption | omega | (simp; omega)) (by first | exact Nat.le_refl _ | exact Nat.le_of_eq (ivals_len _).symm | exact Nat.le_of_eq (irows_len _).symm | (refine Nat.le_trans ?_ (Nat.le_of_eq (ivals_len _).symm); (first | omega | (simp; done) | (simp; omega))) | (refine Nat.le_trans ?_ (Nat.le_of_eq (irows_len _).symm); (first | omega | (simp; done) | (simp; omega))))); apply drawG_yes rfl rfl rfl; (intro S1 hS; exact stp_loadV rfl (by as_aux_lemma => kernel_rfl) (hS.op rfl) (hS.ch _ _ rfl) rfl (by first | assumption | exact ivals_get (by assumption) | exact irows_get (by assumption) | exact ivals_get (by omega) | exact irows_get (by omega) | rfl)); apply drawG_yes rfl rfl rfl; (intro S1 hS; exact stp_move rfl (hS.op rfl)); apply drawG_yes rfl rfl rfl; (intro S1 hS; exact stp_move rfl (hS.op rfl)); apply drawG_yes rfl rfl rfl; (intro S1 hS; exact stp_ix rfl (hS.op rfl) (hS.op rfl) (hS.ch _ _ rfl) rfl (by as_aux_lemma => kernel_rfl) (by first | rfl | exact (Int.toNat_of_nonneg (by omega)).symm) (by first | assumption | omega | (simp; omega)) (by first | exact Nat.le_refl _ | exact Nat.le_of_eq (ivals_len _).symm | exact Nat.le_of_eq (irows_len _).symm | (refine Nat.le_trans ?_ (Nat.le_of_eq (ivals_len _).symm); (first | omega | (simp; done) | (simp; omega))) | (refine Nat.le_trans ?_ (Nat.le_of_eq (irows_len _).symm); (first | omega | (simp; done) | (simp; omega))))); apply drawG_yes rfl rfl rfl; (intro S1 hS; exact stp_loadV rfl (by as_aux_lemma => kernel_rfl) (hS.op rfl) (hS.ch _ _ rfl) rfl (by first | assumption | exact ivals_get (by assumption) | exact irows_get (by assumption) | exact ivals_get (by omega) | exact irows_get (by omega) | rfl)); (first | (apply drawG_put rfl; (focus (intro S1 hS; first | exact stp_bin rfl (hS.op rfl) (hS.op rfl) (binNeq c1) | exact stp_bin rfl (hS.op rfl) (hS.op rfl) (binEql c2) | exact stp_bin rfl (hS.op rfl) (hS.op rfl) (binEql c3)))) | (apply drawG_yes rfl rfl rfl; (focus (intro S1 hS; first | exact stp_bin rfl (hS.op rfl) (hS.op rfl) (binNeq c1) | exact stp_bin rfl (hS.op rfl) (hS.op rfl) (binEql c2) | exact stp_bin rfl (hS.op rfl) (hS.op rfl) (binEql c3))))); apply drawG_put rfl; (intro S1 hS; exact stp_pickT rfl (hS.op rfl) (hS.op rfl)); exact DrawG.nil)
              · rfl
              ((refine rest_done (by as_aux_lemma => kernel_rfl) ?_; skip))
              (refine fin_seq ?_)
              refine goes_cond rfl (fun _ => ?_) (fun e => by cases e)
              (refine goes_region ?_; apply run_step rfl; (exact stp_move rfl rfl); apply run_step rfl; (exact stp_move rfl rfl); apply run_step rfl; (exact stp_lit1I (E := 2) rfl (by as_aux_lemma => kernel_rfl) rfl); apply run_step rfl; (exact stp_appI rfl (by as_aux_lemma => kernel_rfl) rfl rfl rfl (by first | rfl | assumption | (simp; done)) rfl rfl (by omega)); apply run_step rfl; (exact stp_assign rfl rfl); refine run_nil ?_; refine fin_block ?_; refine fin_seq ?_; refine goes_region ?_; apply run_step rfl; (exact stp_move rfl rfl); apply run_step rfl; (exact stp_add rfl rfl rfl e1); apply run_step rfl; (exact stp_assign rfl rfl); refine run_nil ?_)
              exact fin_round (g + 1) (by omega) (by omega) (Wk.of ⟨rfl, rfl, rfl, rfl, rfl, rfl, rfl, rfl, congrArg (fun z => some (o1 (.sl 107 0 z))) hsl.symm, rfl, trivial⟩ ⟨rfl, rfl, rfl, rfl, rfl, rfl, rfl, congrArg (fun z => some (leOw z)) hst.symm, trivial⟩ trivial)
            · have hB : fndB ps N f g = false := by unfold fndB; rw [show (iget (othL ps N) g == iget (othL ps N) f) = false by simpa using c3]; simp
              rw [hB, if_neg (by simp)] at hst
              apply goes_drawG 25 [] [[], [], [0, 1], [0, 1, 2], [0, 1, 2, 3], [0, 1, 2, 3], [0, 1, 2, 3, 4, 5], [0, 1, 2, 3, 4, 5, 6], [0, 1, 2, 3], [0, 1, 2, 3], [0, 1, 2, 3, 8, 9], [0, 1, 2, 3, 8, 9, 10], [0, 1, 2, 3, 4, 5, 6, 7, 8, 9, 10, 11], [0, 1, 2, 3, 4, 5, 6, 7, 8, 9, 10, 11, 12], [0, 1, 2, 3, 4, 5, 6, 7, 8, 9, 10, 11, 12, 13], [0, 1, 2, 3, 4, 5, 6, 7, 8, 9, 10, 11, 12, 13, 14], [0, 1, 2, 3, 4, 5, 6, 7, 8, 9, 10, 11, 12, 13, 14], [0, 1, 2, 3, 4, 5, 6, 7, 8, 9, 10, 11, 12, 13, 14, 15, 16], [0, 1, 2, 3, 4, 5, 6, 7, 8, 9, 10, 11, 12, 13, 14, 15, 16, 17], [0, 1, 2, 3, 4, 5, 6, 7, 8, 9, 10, 11, 12, 13, 14], [0, 1, 2, 3, 4, 5, 6, 7, 8, 9, 10, 11, 12, 13, 14], [0, 1, 2, 3, 4, 5, 6, 7, 8, 9, 10, 11, 12, 13, 14, 19, 20], [0, 1, 2, 3, 4, 5, 6, 7, 8, 9, 10, 11, 12, 13, 14, 19, 20, 21], [0, 1, 2, 3, 4, 5, 6, 7, 8, 9, 10, 11, 12, 13, 14, 15, 16, 17, 18, 19, 20, 21, 22], [0, 1, 2, 3, 4, 5, 6, 7, 8, 9, 10, 11, 12, 13, 14, 15, 16, 17, 18, 19, 20, 21, 22, 23]] [114, 115, 116, 117, 118, 119, 120, 121, 122, 123, 124, 125, 126, 127, 128, 129, 130, 131, 132, 133, 134, 135, 136, 137, 138] [] (by kernel_rfl) (by kernel_rfl)
              · (apply drawG_put rfl; (intro S1 hS; exact stp_move rfl (hS.op rfl)); apply drawG_put rfl; (intro S1 hS; exact stp_move rfl (hS.op rfl)); (first | (apply drawG_put rfl; (focus (intro S1 hS; first | exact stp_bin rfl (hS.op rfl) (hS.op rfl) (binNeq c1) | exact stp_bin rfl (hS.op rfl) (hS.op rfl) (binEql c2) | exact stp_bin rfl (hS.op rfl) (hS.op rfl) (binEql' c3)))) | (apply drawG_yes rfl rfl rfl; (focus (intro S1 hS; first | exact stp_bin rfl (hS.op rfl) (hS.op rfl) (binNeq c1) | exact stp_bin rfl (hS.op rfl) (hS.op rfl) (binEql c2) | exact stp_bin rfl (hS.op rfl) (hS.op rfl) (binEql' c3))))); apply drawG_put rfl; (intro S1 hS; exact stp_move rfl (hS.op rfl)); apply drawG_yes rfl rfl rfl; (intro S1 hS; exact stp_move rfl (hS.op rfl)); apply drawG_yes rfl rfl rfl; (intro S1 hS; exact stp_move rfl (hS.op rfl)); apply drawG_yes rfl rfl rfl; (intro S1 hS; exact stp_ix rfl (hS.op rfl) (hS.op rfl) (hS.ch _ _ rfl) rfl (by as_aux_lemma => kernel_rfl) (by first | rfl | exact (Int.toNat_of_nonneg (by omega)).symm) (by first | assumption | omega | (simp; omega)) (by first | exact Nat.le_refl _ | exact Nat.le_of_eq (ivals_len _).symm | exact Nat.le_of_eq (irows_len _).symm | (refine Nat.le_trans ?_ (Nat.le_of_eq (ivals_len _).symm); (first | omega | (simp; done) | (simp; omega))) | (refine Nat.le_trans ?_ (Nat.le_of_eq (irows_len _).symm); (first | omega | (simp; done) | (simp; omega))))); apply drawG_yes rfl rfl rfl; (intro S1 hS; exact stp_loadV rfl (by as_aux_lemma => kernel_rfl) (hS.op rfl) (hS.ch _ _ rfl) rfl (by first | assumption | exact ivals_get (by assumption) | exact irows_get (by assumption) | exact ivals_get (by omega) | exact irows_get (by omega) | rfl)); apply drawG_yes rfl rfl rfl; (intro S1 hS; exact stp_move rfl (hS.op rfl)); apply drawG_yes rfl rfl rfl; (intro S1 hS; exact stp_move rfl (hS.op rfl)); apply drawG_yes rfl rfl rfl; (intro S1 hS; exact stp_ix rfl (hS.op rfl) (hS.op rfl) (hS.ch _ _ rfl) rfl (by as_aux_lemma => kernel_rfl) (by first | rfl | exact (Int.toNat_of_nonneg (by omega)).symm) (by first | assumption | omega | (simp; omega)) (by first | exact Nat.le_refl _ | exact Nat.le_of_eq (ivals_len _).symm | exact Nat.le_of_eq (irows_len _).symm | (refine Nat.le_trans ?_ (Nat.le_of_eq (ivals_len _).symm); (first | omega | (simp; done) | (simp; omega))) | (refine Nat.le_trans ?_ (Nat.le_of_eq (irows_len _).symm); (first | omega | (simp; done) | (simp; omega))))); apply drawG_yes rfl rfl rfl; (intro S1 hS; exact stp_loadV rfl (by as_aux_lemma => kernel_rfl) (hS.op rfl) (hS.ch _ _ rfl) rfl (by first | assumption | exact ivals_get (by assumption) | exact irows_get (by assumption) | exact ivals_get (by omega) | exact irows_get (by omega) | rfl)); (first | (apply drawG_put rfl; (focus (intro S1 hS; first | exact stp_bin rfl (hS.op rfl) (hS.op rfl) (binNeq c1) | exact stp_bin rfl (hS.op rfl) (hS.op rfl) (binEql c2) | exact stp_bin rfl (hS.op rfl) (hS.op rfl) (binEql' c3)))) | (apply drawG_yes rfl rfl rfl; (focus (intro S1 hS; first | exact stp_bin rfl (hS.op rfl) (hS.op rfl) (binNeq c1) | exact stp_bin rfl (hS.op rfl) (hS.op rfl) (binEql c2) | exact stp_bin rfl (hS.op rfl) (hS.op rfl) (binEql' c3))))); apply drawG_put rfl; (intro S1 hS; exact stp_pickT rfl (hS.op rfl) (hS.op rfl)); apply drawG_put rfl; (intro S1 hS; exact stp_move rfl (hS.op rfl)); apply drawG_yes rfl rfl rfl; (intro S1 hS; exact stp_move rfl (hS.op rfl)); apply drawG_yes rfl rfl rfl; (intro S1 hS; exact stp_move rfl (hS.op rfl)); apply drawG_yes rfl rfl rfl; (intro S1 hS; exact stp_ix rfl (hS.op rfl) (hS.op rfl) (hS.ch _ _ rfl) rfl (by as_aux_lemma => kernel_rfl) (by first | rfl | exact (Int.toNat_of_nonneg (by omega)).symm) (by first | assumption | omega | (simp; omega)) (by first | exact Nat.le_refl _ | exact Nat.le_of_eq (ivals_len _).symm | exact Nat.le_of_eq (irows_len _).symm | (refine Nat.le_trans ?_ (Nat.le_of_eq (ivals_len _).symm); (first | omega | (simp; done) | (simp; omega))) | (refine Nat.le_trans ?_ (Nat.le_of_eq (irows_len _).symm); (first | omega | (simp; done) | (simp; omega))))); apply drawG_yes rfl rfl rfl; (intro S1 hS; exact stp_loadV rfl (by as_aux_lemma => kernel_rfl) (hS.op rfl) (hS.ch _ _ rfl) rfl (by first | assumption | exact ivals_get (by assumption) | exact irows_get (by assumption) | exact ivals_get (by omega) | exact irows_get (by omega) | rfl)); apply drawG_yes rfl rfl rfl; (intro S1 hS; exact stp_move rfl (hS.op rfl)); apply drawG_yes rfl rfl rfl; (intro S1 hS; exact stp_move rfl (hS.op rfl)); apply drawG_yes rfl rfl rfl; (intro S1 hS; exact stp_ix rfl (hS.op rfl) (hS.op rfl) (hS.ch _ _ rfl) rfl (by as_aux_lemma => kernel_rfl) (by first | rfl | exact (Int.toNat_of_nonneg (by omega)).symm) (by first | assumption | omega | (simp; omega)) (by first | exact Nat.le_refl _ | exact Nat.le_of_eq (ivals_len _).symm | exact Nat.le_of_eq (irows_len _).symm | (refine Nat.le_trans ?_ (Nat.le_of_eq (ivals_len _).symm); (first | omega | (simp; done) | (simp; omega))) | (refine Nat.le_trans ?_ (Nat.le_of_eq (irows_len _).symm); (first | omega | (simp; done) | (simp; omega))))); apply drawG_yes rfl rfl rfl; (intro S1 hS; exact stp_loadV rfl (by as_aux_lemma => kernel_rfl) (hS.op rfl) (hS.ch _ _ rfl) rfl (by first | assumption | exact ivals_get (by assumption) | exact irows_get (by assumption) | exact ivals_get (by omega) | exact irows_get (by omega) | rfl)); (first | (apply drawG_put rfl; (focus (intro S1 hS; first | exact stp_bin rfl (hS.op rfl) (hS.op rfl) (binNeq c1) | exact stp_bin rfl (hS.op rfl) (hS.op rfl) (binEql c2) | exact stp_bin rfl (hS.op rfl) (hS.op rfl) (binEql' c3)))) | (apply drawG_yes rfl rfl rfl; (focus (intro S1 hS; first | exact stp_bin rfl (hS.op rfl) (hS.op rfl) (binNeq c1) | exact stp_bin rfl (hS.op rfl) (hS.op rfl) (binEql c2) | exact stp_bin rfl (hS.op rfl) (hS.op rfl) (binEql' c3))))); apply drawG_put rfl; (intro S1 hS; exact stp_pickT rfl (hS.op rfl) (hS.op rfl)); exact DrawG.nil)
              · rfl
              ((refine rest_done (by as_aux_lemma => kernel_rfl) ?_; skip))
              (refine fin_seq ?_)
              refine goes_cond rfl (fun e => by cases e) (fun _ => ?_)
              (refine goes_skip ?_; refine fin_block ?_; refine fin_seq ?_; refine goes_region ?_; apply run_step rfl; (exact stp_move rfl rfl); apply run_step rfl; (exact stp_add rfl rfl rfl e1); apply run_step rfl; (exact stp_assign rfl rfl); refine run_nil ?_)
              exact fin_round (g + 1) (by omega) (by omega) (Wk.of ⟨rfl, rfl, rfl, rfl, rfl, rfl, rfl, rfl, congrArg (fun z => some (o1 (.sl 107 0 (List.length z)))) hst.symm, rfl, trivial⟩ ⟨rfl, rfl, rfl, rfl, rfl, rfl, rfl, congrArg (fun z => some (leOw z)) hst.symm, trivial⟩ trivial)
          · have hB : fndB ps N f g = false := by unfold fndB; rw [show (iget (ownL ps N) g == iget (ownL ps N) f) = false by simpa using c2]; simp
            rw [hB, if_neg (by simp)] at hst
            apply goes_drawG 25 [] [[], [], [0, 1], [0, 1, 2], [0, 1, 2, 3], [0, 1, 2, 3], [0, 1, 2, 3, 4, 5], [0, 1, 2, 3, 4, 5, 6], [0, 1, 2, 3], [0, 1, 2, 3], [0, 1, 2, 3, 8, 9], [0, 1, 2, 3, 8, 9, 10], [0, 1, 2, 3, 4, 5, 6, 7, 8, 9, 10, 11], [0, 1, 2, 3, 4, 5, 6, 7, 8, 9, 10, 11, 12], [0, 1, 2, 3, 4, 5, 6, 7, 8, 9, 10, 11, 12, 13], [0, 1, 2, 3, 4, 5, 6, 7, 8, 9, 10, 11, 12, 13, 14], [0, 1, 2, 3, 4, 5, 6, 7, 8, 9, 10, 11, 12, 13, 14], [0, 1, 2, 3, 4, 5, 6, 7, 8, 9, 10, 11, 12, 13, 14, 15, 16], [0, 1, 2, 3, 4, 5, 6, 7, 8, 9, 10, 11, 12, 13, 14, 15, 16, 17], [0, 1, 2, 3, 4, 5, 6, 7, 8, 9, 10, 11, 12, 13, 14], [0, 1, 2, 3, 4, 5, 6, 7, 8, 9, 10, 11, 12, 13, 14], [0, 1, 2, 3, 4, 5, 6, 7, 8, 9, 10, 11, 12, 13, 14, 19, 20], [0, 1, 2, 3, 4, 5, 6, 7, 8, 9, 10, 11, 12, 13, 14, 19, 20, 21], [0, 1, 2, 3, 4, 5, 6, 7, 8, 9, 10, 11, 12, 13, 14, 15, 16, 17, 18, 19, 20, 21, 22], [0, 1, 2, 3, 4, 5, 6, 7, 8, 9, 10, 11, 12, 13, 14, 15, 16, 17, 18, 19, 20, 21, 22, 23]] [114, 115, 116, 117, 118, 119, 120, 121, 122, 123, 124, 125, 126, 127, 128, 129, 130, 131, 132, 133, 134, 135, 136, 137, 138] [] (by kernel_rfl) (by kernel_rfl)
            · (apply drawG_put rfl; (intro S1 hS; exact stp_move rfl (hS.op rfl)); apply drawG_put rfl; (intro S1 hS; exact stp_move rfl (hS.op rfl)); (first | (apply drawG_put rfl; (focus (intro S1 hS; first | exact stp_bin rfl (hS.op rfl) (hS.op rfl) (binNeq c1) | exact stp_bin rfl (hS.op rfl) (hS.op rfl) (binEql' c2)))) | (apply drawG_yes rfl rfl rfl; (focus (intro S1 hS; first | exact stp_bin rfl (hS.op rfl) (hS.op rfl) (binNeq c1) | exact stp_bin rfl (hS.op rfl) (hS.op rfl) (binEql' c2))))); apply drawG_put rfl; (intro S1 hS; exact stp_move rfl (hS.op rfl)); apply drawG_yes rfl rfl rfl; (intro S1 hS; exact stp_move rfl (hS.op rfl)); apply drawG_yes rfl rfl rfl; (intro S1 hS; exact stp_move rfl (hS.op rfl)); apply drawG_yes rfl rfl rfl; (intro S1 hS; exact stp_ix rfl (hS.op rfl) (hS.op rfl) (hS.ch _ _ rfl) rfl (by as_aux_lemma => kernel_rfl) (by first | rfl | exact (Int.toNat_of_nonneg (by omega)).symm) (by first | assumption | omega | (simp; omega)) (by first | exact Nat.le_refl _ | exact Nat.le_of_eq (ivals_len _).symm | exact Nat.le_of_eq (irows_len _).symm | (refine Nat.le_trans ?_ (Nat.le_of_eq (ivals_len _).symm); (first | omega | (simp; done) | (simp; omega))) | (refine Nat.le_trans ?_ (Nat.le_of_eq (irows_len _).symm); (first | omega | (simp; done) | (simp; omega))))); apply drawG_yes rfl rfl rfl; (intro S1 hS; exact stp_loadV rfl (by as_aux_lemma => kernel_rfl) (hS.op rfl) (hS.ch _ _ rfl) rfl (by first | assumption | exact ivals_get (by assumption) | exact irows_get (by assumption) | exact ivals_get (by omega) | exact irows_get (by omega) | rfl)); apply drawG_yes rfl rfl rfl; (intro S1 hS; exact stp_move rfl (hS.op rfl)); apply drawG_yes rfl rfl rfl; (intro S1 hS; exact stp_move rfl (hS.op rfl)); apply drawG_yes rfl rfl rfl; (intro S1 hS; exact stp_ix rfl (hS.op rfl) (hS.op rfl) (hS.ch _ _ rfl) rfl (by as_aux_lemma => kernel_rfl) (by first | rfl | exact (Int.toNat_of_nonneg (by omega)).symm) (by first | assumption | omega | (simp; omega)) (by first | exact Nat.le_refl _ | exact Nat.le_of_eq (ivals_len _).symm | exact Nat.le_of_eq (irows_len _).symm | (refine Nat.le_trans ?_ (Nat.le_of_eq (ivals_len _).symm); (first | omega | (simp; done) | (simp; omega))) | (refine Nat.le_trans ?_ (Nat.le_of_eq (irows_len _).symm); (first | omega | (simp; done) | (simp; omega))))); apply drawG_yes rfl rfl rfl; (intro S1 hS; exact stp_loadV rfl (by as_aux_lemma => kernel_rfl) (hS.op rfl) (hS.ch _ _ rfl) rfl (by first | assumption | exact ivals_get (by assumption) | exact irows_get (by assumption) | exact ivals_get (by omega) | exact irows_get (by omega) | rfl)); (first | (apply drawG_put rfl; (focus (intro S1 hS; first | exact stp_bin rfl (hS.op rfl) (hS.op rfl) (binNeq c1) | exact stp_bin rfl (hS.op rfl) (hS.op rfl) (binEql' c2)))) | (apply drawG_yes rfl rfl rfl; (focus (intro S1 hS; first | exact stp_bin rfl (hS.op rfl) (hS.op rfl) (binNeq c1) | exact stp_bin rfl (hS.op rfl) (hS.op rfl) (binEql' c2))))); apply drawG_put rfl; (intro S1 hS; exact stp_pickT rfl (hS.op rfl) (hS.op rfl)); apply drawG_put rfl; (intro S1 hS; exact stp_move rfl (hS.op rfl)); apply drawG_no rfl rfl rfl rfl rfl; apply drawG_no rfl rfl rfl rfl rfl; apply drawG_no rfl rfl rfl rfl rfl; apply drawG_no rfl rfl rfl rfl rfl; apply drawG_no rfl rfl rfl rfl rfl; apply drawG_no rfl rfl rfl rfl rfl; apply drawG_no rfl rfl rfl rfl rfl; apply drawG_no rfl rfl rfl rfl rfl; apply drawG_no rfl rfl rfl rfl rfl; apply drawG_put rfl; (intro S1 hS; exact stp_pickF rfl (hS.op rfl) (hS.op rfl)); exact DrawG.nil)
            · rfl
            ((refine rest_done (by as_aux_lemma => kernel_rfl) ?_; skip))
            (refine fin_seq ?_)
            refine goes_cond rfl (fun e => by cases e) (fun _ => ?_)
            (refine goes_skip ?_; refine fin_block ?_; refine fin_seq ?_; refine goes_region ?_; apply run_step rfl; (exact stp_move rfl rfl); apply run_step rfl; (exact stp_add rfl rfl rfl e1); apply run_step rfl; (exact stp_assign rfl rfl); refine run_nil ?_)
            exact fin_round (g + 1) (by omega) (by omega) (Wk.of ⟨rfl, rfl, rfl, rfl, rfl, rfl, rfl, rfl, congrArg (fun z => some (o1 (.sl 107 0 (List.length z)))) hst.symm, rfl, trivial⟩ ⟨rfl, rfl, rfl, rfl, rfl, rfl, rfl, congrArg (fun z => some (leOw z)) hst.symm, trivial⟩ trivial)
      · obtain rfl : g = 2 * N := by omega
        have hfl := fndL_len ps N f (2 * N)
        have hs2 : twoL ps N (f + 1) = twoL ps N f ++ [iget (fndL ps N f (2 * N)) 0] := rfl
        have hl2 := twoL_len ps N f
        by_cases c1 : ((fndL ps N f (2 * N)).length : Int) = 1
        · have hgu2 : goodUp ps N (f + 1) = true := by rw [goodUp_succ, hgu]; simp; omega
          generalize fndL ps N f (2 * N) = W at *
          have h01 : 0 < W.length := by omega
          have e1 : IntKind.i64.wrap ((f : Int) + 1) = ((f + 1 : Nat) : Int) := by rw [IntWalk.i64_in _ (by omega)]; omega
          (refine goes_exit ?_; refine fin_exit_then ?_; refine fin_exit_then ?_; refine fin_exit_eq ?_; refine fin_seq ?_; refine goes_seq ?_; refine goes_seq ?_; refine goes_region ?_; apply run_step rfl; (exact stp_move rfl rfl); apply run_step rfl; (exact stp_len rfl rfl rfl (by as_aux_lemma => kernel_rfl)); apply run_step rfl; (exact stp_bin rfl rfl rfl (binNeq' c1)); refine run_nil ?_; refine fin_seq ?_)
          refine goes_cond rfl (fun e => by cases e) (fun _ => ?_)
          (refine goes_skip ?_; refine fin_seq ?_; refine goes_region ?_; apply run_step rfl; (exact stp_move rfl rfl); apply run_step rfl; (exact stp_move rfl rfl); apply run_step rfl; (first | exact stp_add rfl rfl rfl e1 | exact stp_ix (j := 0) rfl rfl rfl rfl rfl (by as_aux_lemma => kernel_rfl) rfl h01 (Nat.le_of_eq (ivals_len _).symm) | exact stp_loadV rfl (by as_aux_lemma => kernel_rfl) rfl rfl rfl (ivals_get h01)); apply run_step rfl; (first | exact stp_add rfl rfl rfl e1 | exact stp_ix (j := 0) rfl rfl rfl rfl rfl (by as_aux_lemma => kernel_rfl) rfl h01 (Nat.le_of_eq (ivals_len _).symm) | exact stp_loadV rfl (by as_aux_lemma => kernel_rfl) rfl rfl rfl (ivals_get h01)); apply run_step rfl; (exact stp_lit1I (E := 2) rfl (by as_aux_lemma => kernel_rfl) rfl); apply run_step rfl; (exact stp_appI rfl (by as_aux_lemma => kernel_rfl) rfl rfl rfl (by first | rfl | assumption | (simp; done)) rfl rfl (by omega)); apply run_step rfl; (exact stp_assign rfl rfl); refine run_nil ?_; refine fin_block ?_; refine fin_seq ?_; refine goes_region ?_; apply run_step rfl; (exact stp_move rfl rfl); apply run_step rfl; (first | exact stp_add rfl rfl rfl e1 | exact stp_ix (j := 0) rfl rfl rfl rfl rfl (by as_aux_lemma => kernel_rfl) rfl h01 (Nat.le_of_eq (ivals_len _).symm) | exact stp_loadV rfl (by as_aux_lemma => kernel_rfl) rfl rfl rfl (ivals_get h01)); apply run_step rfl; (exact stp_assign rfl rfl); refine run_nil ?_)
          exact fin_round (f + 1) ⟨by omega, hgu2⟩ (by omega) (Wk.of ⟨rfl, rfl, rfl, rfl, rfl, rfl, rfl, rfl, trivial⟩ ⟨rfl, rfl, rfl, rfl, rfl, rfl, congrArg (fun z => some (leOw z)) hs2.symm, trivial⟩ trivial)
        · have hno : b = false := by rw [← hg, hgN]; exact goodUp_no hf2 (by omega)
          subst hno
          rw [if_neg (by simp)] at ho
          obtain ⟨rfl, rfl⟩ := Prod.mk.inj ho
          (refine goes_exit ?_; refine fin_exit_then ?_; refine fin_exit_then ?_; refine fin_exit_eq ?_; refine fin_seq ?_; refine goes_seq ?_; refine goes_seq ?_; refine goes_region ?_; apply run_step rfl; (exact stp_move rfl rfl); apply run_step rfl; (exact stp_len rfl rfl rfl (by as_aux_lemma => kernel_rfl)); apply run_step rfl; (exact stp_bin rfl rfl rfl (binNeq c1)); refine run_nil ?_; refine fin_seq ?_)
          refine goes_cond rfl (fun _ => ?_) (fun e => by cases e)
          (refine goes_seq ?_; refine goes_region ?_; apply run_step rfl; (exact stp_buildZ [.slice none 0 0] rfl (by as_aux_lemma => kernel_rfl)); apply run_step rfl; (exact stp_storeAgg rfl rfl rfl rfl rfl rfl rfl rfl (by as_aux_lemma => kernel_rfl) rfl); apply run_step rfl; (exact stp_assign rfl rfl); refine run_nil ?_; refine fin_seq ?_; refine goes_ret ?_; refine fin_ret_then ?_; refine fin_ret_block ?_; refine fin_ret_then ?_; refine fin_ret_then ?_; refine fin_ret_block ?_; refine fin_ret_then ?_)
          exact fin_ret2 (.inl rfl) rfl (.cell rfl rfl rfl rfl rfl (by as_aux_lemma => kernel_rfl)) (.tmp rfl) trivial trivial
    · obtain rfl : f = 2 * N := by omega
      have hyes : b = true := by rw [← hg, hgN]; exact hgu
      subst hyes
      rw [if_pos rfl] at ho
      obtain ⟨rfl, rfl⟩ := Prod.mk.inj ho
      have l3 : (ivals (zerL ps N)).length = 2 * N := by rw [ivals_len]; exact dupL_len _ _ _
      have l4 : (ivals (oneL N)).length = 2 * N := by rw [ivals_len]; exact dupL_len _ _ _
      have l5 : (ivals (twoL ps N (2 * N))).length = 2 * N := by rw [ivals_len]; exact twoL_len _ _ _
      have hmp : irows (mpM ps) = [ivals (zerL ps N), ivals (oneL N), ivals (twoL ps N (2 * N))] := by rw [← hN]; rfl
      rw [show rowsRo (mpM ps) = ⟨false, 49, 1, .rows 2 [ivals (zerL ps N), ivals (oneL N), ivals (twoL ps N (2 * N))] []⟩ from congrArg (fun z => (⟨false, 49, 1, .rows 2 z []⟩ : Ch)) hmp] at hM
      rw [show imOw (mpM ps) = ⟨true, 49, 1, .rows 2 [ivals (zerL ps N), ivals (oneL N), ivals (twoL ps N (2 * N))] []⟩ from congrArg (fun z => (⟨true, 49, 1, .rows 2 z []⟩ : Ch)) hmp]
      generalize manB (mpM ps) = mb at *
      (refine goes_exit ?_; refine fin_exit_then ?_; refine fin_exit_then ?_; refine fin_exit_eq ?_; refine fin_seq ?_; refine goes_seq ?_; refine goes_region ?_; apply run_step rfl; (exact stp_move rfl rfl); apply run_step rfl; (exact stp_move rfl rfl); apply run_step rfl; (exact stp_move rfl rfl); apply run_step rfl; (first | exact stp_lit3R (E := 49) (F := 2) rfl (by as_aux_lemma => kernel_rfl) rfl rfl rfl rfl rfl rfl l3 l4 l5 rfl rfl rfl rfl | exact stp_buildS1 (n0 := 3) rfl rfl rfl (fun _ _ _ => by kernel_rfl)); apply run_step rfl; (first | exact stp_lit3R (E := 49) (F := 2) rfl (by as_aux_lemma => kernel_rfl) rfl rfl rfl rfl rfl rfl l3 l4 l5 rfl rfl rfl rfl | exact stp_buildS1 (n0 := 3) rfl rfl rfl (fun _ _ _ => by kernel_rfl)); apply run_step rfl; (exact stp_allocZ [.slice none 0 0] rfl (by as_aux_lemma => kernel_rfl)); apply run_step rfl; (exact stp_storeAgg rfl rfl rfl rfl rfl rfl rfl rfl (by as_aux_lemma => kernel_rfl) rfl); refine run_nil ?_; refine fin_seq ?_; refine goes_seq ?_)
      apply goes_draw 3 [] [[], [], [1], [0, 1, 2], [0, 1, 2, 3]] [158, 159, 160] [] (by kernel_rfl) (by kernel_rfl)
      · (apply draw_put rfl; (intro S1 hS; exact stp_loadAgg rfl (hS.op rfl) (hS.ch _ _ rfl) rfl rfl rfl (by as_aux_lemma => kernel_rfl)))
        (apply draw_put rfl; (intro S1 hS; exact stp_loadAgg rfl (hS.op rfl) (hS.ch _ _ rfl) rfl rfl rfl (by as_aux_lemma => kernel_rfl)))
        (apply draw_put rfl; (intro S1 hS; apply call_gate 108; exact stp_callR hM (by as_aux_lemma => kernel_rfl) rfl (opL_le hS rfl) ⟨⟨.inl rfl, trivial⟩, trivial⟩ (allIn_le hS ⟨⟨_, rfl, .inr rfl⟩, trivial⟩) rfl rfl))
        exact Draw.nil
      · rfl
      ((apply rest_one 3 rfl (by as_aux_lemma => kernel_rfl) rfl rfl; (exact stp_storeAgg rfl rfl rfl rfl rfl rfl rfl rfl (by as_aux_lemma => kernel_rfl) rfl)); (apply rest_one 4 rfl (by as_aux_lemma => kernel_rfl) rfl rfl; (exact stp_assign rfl rfl)); (refine rest_done (by as_aux_lemma => kernel_rfl) ?_; skip))
      (refine fin_seq ?_; refine goes_ret ?_)
      exact fin_ret2 (.inl rfl) rfl (.cell rfl rfl rfl rfl rfl (by as_aux_lemma => kernel_rfl)) (.tmp rfl) ⟨rfl, trivial⟩ trivial
end Go.Proofs.Ytpognnifgcacnaa

/- Lists of lists that are read, whatever shares their rows: from words to names. -/
namespace Go.Proofs.Ytpognnifgcacnaa
open Go.RowKit

/-- v is a slice that reads as lists of integers, each within its capacity -/
def RdSSc (w : World) (v : Value) (zss : List (List Int)) : Prop := ∃ ao c, v = .slice ao zss.length c ∧ zss.length ≤ 17592186044416 ∧ (0 < zss.length → zss.length ≤ c ∧ ∃ b off, ao = some ⟨b, off, none⟩ ∧ b < w.heap.size ∧
  ∀ j, j < zss.length → ∃ a' c', w.cell? ⟨b, off + j, none⟩ = some (.slice a' (lget zss j).length c') ∧ (lget zss j).length ≤ c' ∧ Ints w a' (lget zss j).length (lget zss j))
theorem RdSSc.rd {w : World} {v : Value} {zss : List (List Int)} (h : RdSSc w v zss) : RdSS w v zss := by
  obtain ⟨ao, c, rfl, hn, hc⟩ := h
  refine ⟨ao, _, c, rfl, rfl, hn, fun h0 => ?_⟩
  obtain ⟨_, b, off, e, _, h1⟩ := hc h0
  refine ⟨b, off, e, fun j hj => ?_⟩
  obtain ⟨a', c', h2, _, h3⟩ := h1 j hj
  exact ⟨_, h2, a', _, c', rfl, h3⟩
theorem RdSSc.below {w w' : World} {v : Value} {zss : List (List Int)} (h : RdSSc w v zss) (hb : Below w.heap.size w w') : RdSSc w' v zss := by
  obtain ⟨ao, c, rfl, hn, hc⟩ := h
  refine ⟨ao, c, rfl, hn, fun h0 => ?_⟩
  obtain ⟨h1, b, off, e, hlt, h2⟩ := hc h0
  refine ⟨h1, b, off, e, Nat.lt_of_lt_of_le hlt hb.size, fun j hj => ?_⟩
  obtain ⟨a', c', h3, h4, h5⟩ := h2 j hj
  exact ⟨a', c', (hb.cell (p := ⟨b, off + j, none⟩) hlt).trans h3, h4, h5.below hb⟩
theorem RdSSc.drewN {w : World} {v : Value} {zss : List (List Int)} (h : RdSSc w v zss) (m : Nat) : RdSSc (w.drewN m) v zss := h
theorem OwSS.rdc {E1 E : Nat} {w : World} {lo hi : Nat} {v : Value} {zss : List (List Int)} (h : OwSS E1 E w lo hi v zss) : RdSSc w v zss := by
  obtain ⟨ao, n, c, us, rfl, ho⟩ := h
  have hl := ho.len
  subst hl
  refine ⟨ao, c, rfl, by have := ho.own.2; omega, fun h0 => ?_⟩
  obtain ⟨g, rfl, _, hlt, hc, hcell, _⟩ := ho.own.form h0
  refine ⟨hc, g, 0, rfl, hlt, fun j hj => ?_⟩
  obtain ⟨u, d, hu, hd, ⟨a', n', c', rfl, h1⟩, _⟩ := ho.get hj
  have hd' : lget zss j = d := lget_get? hd
  rw [hd']
  have hl := h1.len
  rw [List.length_map] at hl
  subst hl
  refine ⟨a', c', by rw [Nat.zero_add, hcell j hj, hu], ?_, h1.ints⟩
  rcases Nat.eq_zero_or_pos d.length with h2 | h2
  · omega
  · obtain ⟨_, _, _, _, h3, _⟩ := h1.form h2; exact h3
theorem ofSSc {w : World} {v : Value} {zss : List (List Int)} (x E' E1' : Nat) (h : RdSSc w v zss) : ∃ hd r, v = .slice hd.ao zss.length hd.c ∧ Hv w x ⟨false, E', 1, .rows E1' (irows zss) []⟩ hd r := by
  obtain ⟨ao, c, rfl, hn, hc⟩ := h
  rcases Nat.eq_zero_or_pos zss.length with h0 | h0
  · refine ⟨⟨ao, c, 1⟩, fun _ => ⟨none, 0, 1⟩, rfl, fun η he => ⟨rfl, ?_, fun j hj => ?_⟩⟩
    · show (irows zss).length ≤ c * 1
      rw [irows_len]; omega
    · have hj : j < (irows zss).length := hj
      rw [irows_len] at hj; omega
  · obtain ⟨h1, b, off, rfl, hlt, h2⟩ := hc h0
    have hr : ∀ j, ∃ q : Hd, q.k = 1 ∧ (j < zss.length → w.cell? ⟨b, off + j, none⟩ = some (.slice q.ao (lget zss j).length q.c) ∧ VecR noOwn w q (ivals (lget zss j)).length fun i u => (ivals (lget zss j))[i]? = some u) := fun j => by
      by_cases hj : j < zss.length
      · obtain ⟨a', c', h3, h4, h5⟩ := h2 j hj
        refine ⟨⟨a', c', 1⟩, rfl, fun _ => ⟨h3, by rw [ivals_len]; show _ ≤ c' * 1; omega, fun i hi => ?_⟩⟩
        rw [ivals_len] at hi
        obtain ⟨b', o', e', hb', hcell⟩ := h5.all_ (by omega)
        exact ⟨b', o', I6 (iget (lget zss j) i), e', rfl, hb', hcell i hi, ivals_get hi⟩
      · exact ⟨⟨none, 0, 1⟩, rfl, fun h => absurd h hj⟩
    refine ⟨⟨some ⟨b, off, none⟩, c, 1⟩, fun j => Classical.choose (hr j), rfl, fun η he => ⟨rfl, ?_, fun j hj => ?_⟩⟩
    · show (irows zss).length ≤ c * 1
      rw [irows_len]; omega
    · have hj : j < zss.length := by have : j < (irows zss).length := hj; rwa [irows_len] at this
      obtain ⟨k1, k2⟩ := Classical.choose_spec (hr j)
      obtain ⟨k3, k4⟩ := k2 hj
      refine ⟨b, off, .slice (Classical.choose (hr j)).ao (lget zss j).length (Classical.choose (hr j)).c, rfl, rfl, hlt, k3, rfl, fun _ vs hvs => ?_⟩
      have hvd : vs = ivals (lget zss j) := by
        rw [irows_get hj] at hvs; exact (Option.some.inj hvs).symm
      subst hvd
      rw [he j]
      exact ⟨congrArg (fun m => Value.slice (Classical.choose (hr j)).ao m (Classical.choose (hr j)).c) (ivals_len _).symm, k1, k4⟩
end Go.Proofs.Ytpognnifgcacnaa

/- Maps of polygons: the reference's contract in words. -/
namespace Go.Proofs.Ytpognnifgcacnaa
open Go.RowKit

/-- what a list of polygons must be -/
structure PsOk (n : Int) (ps : List (List Int)) : Prop where
  few : lenSS ps ≤ 200
  len : ps.length ≤ 1000
  poly : ∀ j, j < ps.length → polyOk n (lget ps j) = true
  some_ : 0 < ps.length
theorem PsOk.three {n : Int} {ps : List (List Int)} (h : PsOk n ps) {j : Nat} (hj : j < ps.length) : 3 ≤ (lget ps j).length := by
  have := h.poly j hj
  unfold polyOk at this
  simp only [Bool.and_eq_true, decide_eq_true_eq] at this
  exact this.1
theorem len_le_len {ps : List (List Int)} (h : ∀ j, j < ps.length → 1 ≤ (lget ps j).length) : ∀ k, k ≤ ps.length → k ≤ lenSS (ps.take k)
  | 0, _ => Nat.zero_le _
  | k + 1, hk => by
    have := len_le_len h k (by omega)
    rw [lenSS_take (by omega)]
    have := h k (by omega)
    omega
theorem psOk_of {n : Int} {ps : List (List Int)} (h : polys n ps = true) : PsOk n ps := by
  unfold polys at h
  simp only [Bool.and_eq_true, decide_eq_true_eq] at h
  have h2 := polysUp_le (Nat.le_refl _) h.2
  rw [List.take_length] at h2
  have hp : ∀ j, j < ps.length → polyOk n (lget ps j) = true := fun j hj => by
    have := h.2
    unfold polysUp at this
    simp only [List.all_eq_true, List.mem_range, Bool.and_eq_true] at this
    exact (this j hj).1
  refine ⟨h2, ?_, hp, h.1⟩
  have := len_le_len (ps := ps) (fun j hj => by
    have := hp j hj
    unfold polyOk at this
    simp only [Bool.and_eq_true, decide_eq_true_eq] at this
    omega) ps.length (Nat.le_refl _)
  rw [List.take_length] at this
  omega
/-- is it a map -/
noncomputable def mpOk (ps : List (List Int)) : Bool := mpGood ps && manB (mpM ps)
/-- what both of the inner functions answer -/
def MpAns (ps : List (List Int)) (w : World) (e : Ending) (w' : World) : Prop :=
  ∃ r R, e = .returned (.tuple #[r, .bool (mpOk ps)]) ∧ OwM 2 49 w' w.heap.size w'.heap.size r R ∧ (mpOk ps = true → R = mpM ps) ∧ Below w.heap.size w w'
theorem callSSc {f : FuncId} {outs : List (Nm × Ch)} {res : AV} {d : List (List Int)} (hf : FC Try.prog f [(1003, rowsRo d)] [o1 (.sl 1003 0 d.length)] outs res []) {w : World} {v : Value} (h : RdSSc w v d) :
    Calls Try.prog f #[v] w fun e w' => ∃ v η ω, e = .returned v ∧ Den η res v ∧ Mem η ω w' (fun x => lk x outs) ∧ Below w.heap.size w w' ∧ ∀ b, b < w.heap.size → ω b = none := by
  obtain ⟨hd, r, rfl, hv⟩ := ofSSc 1003 49 2 h
  exact hf.call (l := [(1003, (rowsRo d, hd, r))]) (us := [_]) (fun p hp => by simp at hp; subst hp; exact hv) rfl (denL1 (den_sl (q := (rowsRo d, hd, r)) rfl))
theorem mpM_rows {ps : List (List Int)} : ∀ r ∈ mpM ps, r.length = 2 * lenSS ps := fun r hr => by
  unfold mpM at hr
  simp at hr
  rcases hr with rfl | rfl | rfl
  · exact dupL_len _ _ _
  · exact dupL_len _ _ _
  · exact twoL_len _ _ _
theorem specMap_any {n : Int} {v : Value} {ps : List (List Int)} (ok : PsOk n ps) (w : World) (h : RdSSc w v ps) : Calls Try.prog 116 #[v] w (MpAns ps w) := by
  unfold MpAns
  have h3 := ok.few
  cases hg : mpGood ps with
  | true =>
    have hF := mapS_fc ps _ rfl ok.few (fun j hj => ok.three hj) ok.len true hg _ _ rfl
    refine (callSSc hF h).mono ?_
    rintro e w' ⟨v, η, ω, rfl, hd, hm, hb, hn⟩
    obtain ⟨us, rfl, hus, ha⟩ : Den η (mpYes (manB (mpM ps))) v := hd
    obtain ⟨u0, g0, us0, rfl, hs0, ha0⟩ := ha 0 _ rfl
    obtain ⟨u1, g1, h2⟩ := ha 1 _ rfl
    have h2 : u1 = .bool (manB (mpM ps)) := h2
    subst h2
    obtain ⟨s0, k0, d0⟩ := ha0 0 _ rfl
    have e0 : us0 = #[s0] := by
      have hs0 : us0.size = 1 := hs0
      apply Array.ext (by simpa using hs0)
      intro i q1 q2
      obtain rfl : i = 0 := by simp at q2; omega
      rw [Array.getElem?_eq_getElem q1] at k0
      simpa using k0
    have eu : us = #[.agg us0, .bool (manB (mpM ps))] := by
      have hus : us.size = 2 := hus
      apply Array.ext (by simpa using hus)
      intro i q1 q2
      match i, q2 with
      | 0, _ => rw [Array.getElem?_eq_getElem q1] at g0; simpa using g0
      | 1, _ => rw [Array.getElem?_eq_getElem q1] at g1; simpa using g1
    subst e0 eu
    obtain ⟨ao, n, c, us', rfl, hor⟩ := toSS (zss := mpM ps) (x := 156) (E := 49) (F := 2) hm hn (by simp [lk]) d0 (by show 3 ≤ _; omega) (fun r hr => by rw [mpM_rows r hr]; omega)
    exact ⟨_, mpM ps, by unfold mpOk; rw [hg]; rfl, ⟨ao, n, c, us', rfl, hor⟩, fun _ => rfl, hb⟩
  | false =>
    have hF := mapS_fc ps _ rfl ok.few (fun j hj => ok.three hj) ok.len false hg _ _ rfl
    refine (callSSc hF h).mono ?_
    rintro e w' ⟨v, η, ω, rfl, hd, hm, hb, hn⟩
    obtain ⟨us, rfl, hus, ha⟩ : Den η mpNo v := hd
    obtain ⟨u0, g0, us0, rfl, hs0, ha0⟩ := ha 0 _ rfl
    obtain ⟨u1, g1, h2⟩ := ha 1 _ rfl
    have h2 : u1 = .bool false := h2
    subst h2
    obtain ⟨s0, k0, d0⟩ := ha0 0 _ rfl
    have d0 : s0 = .slice none 0 0 := d0
    subst d0
    have e0 : us0 = #[.slice none 0 0] := by
      have hs0 : us0.size = 1 := hs0
      apply Array.ext (by simpa using hs0)
      intro i q1 q2
      obtain rfl : i = 0 := by simp at q2; omega
      rw [Array.getElem?_eq_getElem q1] at k0
      simpa using k0
    have eu : us = #[.agg us0, .bool false] := by
      have hus : us.size = 2 := hus
      apply Array.ext (by simpa using hus)
      intro i q1 q2
      match i, q2 with
      | 0, _ => rw [Array.getElem?_eq_getElem q1] at g0; simpa using g0
      | 1, _ => rw [Array.getElem?_eq_getElem q1] at g1; simpa using g1
    subst e0 eu
    have hno : mpOk ps = false := by unfold mpOk; rw [hg]; rfl
    exact ⟨_, [], by rw [hno], ⟨none, 0, 0, [], rfl, OwR.empty_ (Own.nil_ _ _ _) (fun g hg => nomatch hg)⟩, fun e => absurd (hno.symm.trans e) (by simp), hb⟩
/-- the answer of both -/
noncomputable def mpC (n : Int) (ps : List (List Int)) : Int := if inB n 1 100 && polys n ps then (if mpOk ps then 0 else 5) else 2
noncomputable def mpR (n : Int) (ps : List (List Int)) : List (List Int) := if inB n 1 100 && polys n ps && mpOk ps then mpM ps else []
theorem inB_100 {n : Int} (h : inB n 1 100 = true) : 0 ≤ n ∧ n ≤ 1000 := by simp [inB] at h; omega
theorem own_nilM {w : World} {lo hi : Nat} : OwM 2 49 w lo hi (.agg #[.slice none 0 0]) [] := ⟨none, 0, 0, [], rfl, OwR.empty_ (Own.nil_ _ _ _) (fun g hg => nomatch hg)⟩
set_option maxRecDepth 100000 in
set_option maxHeartbeats 1600000 in
theorem api_specMp {v : Value} {ps : List (List Int)} (n : Int) (w : World) (h : RdSSc w v ps) :
    Calls Try.prog 45 #[.int .i64 n, v] w fun e w' => ∃ r, e = .returned (.tuple #[r, .int .i64 (mpC n ps)]) ∧ OwM 2 49 w' w.heap.size w'.heap.size r (mpR n ps) ∧ Below w.heap.size w w' := by
  obtain ⟨ao, m, c, rfl, hi⟩ := h.rd
  have kb := below_alloc1 w (.cells #[.slice none 0 0] 41)
  have k1 : Blk (w.alloc (.cells #[.slice none 0 0] 41)) w.heap.size 41 #[.slice none 0 0] := blk_at rfl
  have h1 := h.below kb
  have hi1 := hi.below kb
  have x0 := k1.cell 0
  have f0 := k1.frozen 0
  cases hn : inB n 1 100 with
  | false =>
    have hC : mpC n ps = 2 := by unfold mpC; rw [hn]; rfl
    have hR : mpR n ps = [] := by unfold mpR; rw [hn]; rfl
    rw [hC, hR]
    have HN := Lib.hid hn
    clear hn hC hR h1 hi1
    go_enter Try.func45, Try.ntmps45
    go_wp2_with (go_at_call 95; refine (specIn_any _ _ _ _).mono ?_; rintro e w' ⟨rfl, rfl⟩; rw [HN.out])
    exact bodyPost_ret (v := .tuple #[.agg #[.slice none 0 0], .int .i64 2]) (by simp [results, Try.f45, go_sem]) rfl ⟨_, rfl, own_nilM, kb⟩
  | true =>
    obtain ⟨hn0, hn1⟩ := inB_100 hn
    cases hp : polys n ps with
    | false =>
      have hC : mpC n ps = 2 := by unfold mpC; rw [hn, hp]; rfl
      have hR : mpR n ps = [] := by unfold mpR; rw [hn, hp]; rfl
      rw [hC, hR]
      have HN := Lib.hid hn
      have HP := Lib.hid hp
      clear hn hp hC hR h1
      go_enter Try.func45, Try.ntmps45
      go_wp2_with (first | (go_at_call 95; refine (specIn_any _ _ _ _).mono ?_; rintro e w' ⟨rfl, rfl⟩; rw [HN.out]) | (go_at_call 115; refine (specPolys_any n hn0 hn1 ao m c ps _ hi1).mono ?_; rintro e w2 ⟨rfl, b2⟩; rw [HP.out]; have x2 := (k1.belowS b2).cell 0; have f2 := (k1.belowS b2).frozen 0))
      exact bodyPost_ret (v := .tuple #[.agg #[.slice none 0 0], .int .i64 2]) (by simp [results, Try.f45, go_sem, x2]) rfl ⟨_, rfl, own_nilM, (below_tr b2 kb).setCell (Nat.le_refl _) _⟩
    | true =>
      have ok := psOk_of hp
      have HN := Lib.hid hn
      have HP := Lib.hid hp
      cases hk : mpOk ps with
      | false =>
        have hC : mpC n ps = 5 := by unfold mpC; rw [hn, hp, hk]; rfl
        have hR : mpR n ps = [] := by unfold mpR; rw [hn, hp, hk]; rfl
        rw [hC, hR]
        have HK := Lib.hid hk
        clear hn hp hC hR hk
        go_enter Try.func45, Try.ntmps45
        go_wp2_with (first | (go_at_call 95; refine (specIn_any _ _ _ _).mono ?_; rintro e w' ⟨rfl, rfl⟩; rw [HN.out]) | (go_at_call 115; refine (specPolys_any n hn0 hn1 ao m c ps _ hi1).mono ?_; rintro e w2 ⟨rfl, b2⟩; rw [HP.out]; have k2 := k1.belowS b2) | (go_at_call 116; refine (specMap_any ok w2 (h1.below b2)).mono ?_; rintro e w3 ⟨r, R, rfl, ho, hR3, b3⟩; rw [HK.out]; obtain ⟨a5, n5, c5, rfl⟩ := ho.form; have x3 := ((k2.belowS b3).alloc (.cells #[.slice a5 n5 c5] 41)).cell 0; have f3 := ((k2.belowS b3).alloc (.cells #[.slice a5 n5 c5] 41)).frozen 0; have k4 := (k2.belowS b3).alloc (.cells #[.slice a5 n5 c5] 41); have b4 := (below_tr b3 (below_tr b2 kb)).alloc (below_tr b3 (below_tr b2 kb)).size (.cells #[.slice a5 n5 c5] 41); have o4 := ho.below (below_alloc1 w3 (.cells #[.slice a5 n5 c5] 41)); have s3 := b3.size; have s2 := b2.size))
        exact bodyPost_ret (v := .tuple #[.agg #[.slice none 0 0], .int .i64 5]) (by simp [results, Try.f45, go_sem, x3]) rfl ⟨_, rfl, own_nilM, b4.setCell (Nat.le_refl _) _⟩
      | true =>
        have hC : mpC n ps = 0 := by unfold mpC; rw [hn, hp, hk]; rfl
        have hR : mpR n ps = mpM ps := by unfold mpR; rw [hn, hp, hk]; rfl
        rw [hC, hR]
        have HK := Lib.hid hk
        clear hn hp hC hR hk
        go_enter Try.func45, Try.ntmps45
        go_wp2_with (first | (go_at_call 95; refine (specIn_any _ _ _ _).mono ?_; rintro e w' ⟨rfl, rfl⟩; rw [HN.out]) | (go_at_call 115; refine (specPolys_any n hn0 hn1 ao m c ps _ hi1).mono ?_; rintro e w2 ⟨rfl, b2⟩; rw [HP.out]; have k2 := k1.belowS b2) | (go_at_call 116; refine (specMap_any ok w2 (h1.below b2)).mono ?_; rintro e w3 ⟨r, R, rfl, ho, hR3, b3⟩; rw [HK.out]; obtain ⟨a5, n5, c5, rfl⟩ := ho.form; have x3 := ((k2.belowS b3).alloc (.cells #[.slice a5 n5 c5] 41)).cell 0; have f3 := ((k2.belowS b3).alloc (.cells #[.slice a5 n5 c5] 41)).frozen 0; have k4 := (k2.belowS b3).alloc (.cells #[.slice a5 n5 c5] 41); have b4 := (below_tr b3 (below_tr b2 kb)).alloc (below_tr b3 (below_tr b2 kb)).size (.cells #[.slice a5 n5 c5] 41); have o4 := ho.below (below_alloc1 w3 (.cells #[.slice a5 n5 c5] 41)); have s3 := b3.size; have s2 := b2.size))
        obtain rfl := hR3 HK.out
        have e0 : ((w3.alloc (.cells #[.slice a5 n5 c5] 41)).setCell ⟨w.heap.size, 0, none⟩ (.slice a5 n5 c5)).cell? ⟨w.heap.size, 0, none⟩ = some (.slice a5 n5 c5) := (k4.set_ 0 _).cell 0
        have o5 : OwM 2 49 ((w3.alloc (.cells #[.slice a5 n5 c5] 41)).setCell ⟨w.heap.size, 0, none⟩ (.slice a5 n5 c5)) w2.heap.size w3.heap.size (.agg #[.slice a5 n5 c5]) (mpM ps) := by
          obtain ⟨a6, n6, c6, us, e6, ho6⟩ := o4
          exact ⟨a6, n6, c6, us, e6, ho6.same (innerS _) fun g hg _ _ => Below.heap_setCell _ _ _ g (by have := k1.lt; show g ≠ w.heap.size; omega)⟩
        exact bodyPost_ret (v := .tuple #[.agg #[.slice a5 n5 c5], .int .i64 0]) (by simp [results, Try.f45, go_sem, e0]) rfl ⟨_, rfl, o5.mono (by have := k1.lt; omega) (by simp [World.setCell]), b4.setCell (Nat.le_refl _) _⟩
end Go.Proofs.Ytpognnifgcacnaa

/- Maps of polygons: the program's contract, given that of its inner function. -/
namespace Go.Proofs.Ytpognnifgcacnaa
open Go.RowKit

/-- the contract of the inner function -/
def InnerMp : Prop := ∀ {n : Int} {v : Value} {ps : List (List Int)} (_ : PsOk n ps) (w : World) (_ : RdSSc w v ps), Calls Try.prog 118 #[v] w (MpAns ps w)
set_option maxRecDepth 100000 in
set_option maxHeartbeats 1600000 in
theorem implMp_of (hI : InnerMp) {v : Value} {ps : List (List Int)} (n : Int) (w : World) (h : RdSSc w v ps) :
    Calls Try.prog 46 #[.int .i64 n, v] w fun e w' => ∃ r, e = .returned (.tuple #[r, .int .i64 (mpC n ps)]) ∧ OwM 2 49 w' w.heap.size w'.heap.size r (mpR n ps) ∧ Below w.heap.size w w' := by
  obtain ⟨ao, m, c, rfl, hi⟩ := h.rd
  have hm := hi.2.1
  have HL := Lib.hid hi.1
  have kb := below_alloc1 w (.cells #[.slice none 0 0] 41)
  have k1 : Blk (w.alloc (.cells #[.slice none 0 0] 41)) w.heap.size 41 #[.slice none 0 0] := blk_at rfl
  have h1 := h.below kb
  have hi1 := hi.below kb
  cases hn : inB n 1 100 with
  | false =>
    have hC : mpC n ps = 2 := by unfold mpC; rw [hn]; rfl
    have hR : mpR n ps = [] := by unfold mpR; rw [hn]; rfl
    rw [hC, hR]
    have HN := Lib.hid hn
    clear hn hC hR h1
    go_enter Try.func46, Try.ntmps46
    go_wp2_with (go_at_call 97; refine (within_any _ _ _ _).mono ?_; rintro e w' ⟨rfl, rfl⟩; rw [HN.out])
    exact bodyPost_ret (v := .tuple #[.agg #[.slice none 0 0], .int .i64 2]) (by simp [results, Try.f46, go_sem]) rfl ⟨_, rfl, own_nilM, kb⟩
  | true =>
    obtain ⟨hn0, hn1⟩ := inB_100 hn
    have HN := Lib.hid hn
    by_cases hm0 : m = 0
    · subst hm0
      have hp : polys n ps = false := by unfold polys; rw [HL.out]; rfl
      have hC : mpC n ps = 2 := by unfold mpC; rw [hn, hp]; rfl
      have hR : mpR n ps = [] := by unfold mpR; rw [hn, hp]; rfl
      rw [hC, hR]
      clear hn hC hR h1 hp
      go_enter Try.func46, Try.ntmps46
      go_wp2_with (go_at_call 97; refine (within_any _ _ _ _).mono ?_; rintro e w' ⟨rfl, rfl⟩; rw [HN.out])
      exact bodyPost_ret (v := .tuple #[.agg #[.slice none 0 0], .int .i64 2]) (by simp [results, Try.f46, go_sem]) rfl ⟨_, rfl, own_nilM, kb⟩
    · have hz : ((m : Int) == 0) = false := by simp; omega
      obtain ⟨C, hC⟩ : ∃ C, C = mpC n ps := ⟨_, rfl⟩
      obtain ⟨R, hR⟩ : ∃ R, R = mpR n ps := ⟨_, rfl⟩
      have HC := Lib.hid hC
      have HR := Lib.hid hR
      rw [← hC, ← hR]
      clear hC hR hn
      have hno : polys n ps = false → C = 2 ∧ R = [] := fun hp => by rw [HC.out, HR.out]; unfold mpC mpR; rw [hp]; simp
      have HNO := Lib.hid hno
      clear hno
      go_enter Try.func46, Try.ntmps46
      go_wp2_with (go_at_call 97; refine (within_any _ _ _ _).mono ?_; rintro e w' ⟨rfl, hw⟩; rw [hw, HN.out]; clear hw w')
      generalize hw1 : w.alloc (.cells #[.slice none 0 0] 41) = w1 at *
      go_loopw [6, 22] (fun cv iv wr => ∃ k s : Nat, k ≤ m ∧ cv = .int .i64 s ∧ iv = .int .i64 k ∧ s ≤ 200 ∧ s = lenSS (ps.take k) ∧ polysUp n ps k = true ∧ Below w1.heap.size w1 wr) (fun _ i _ => m - (intOf i).toNat)
      case atStart => exact ⟨0, 0, Nat.zero_le _, rfl, rfl, by omega, by simp [lenSS], by simp [polysUp], Below.refl _ _⟩
      case round =>
        obtain ⟨k, s, hk, rfl, rfl, hs2, hs, hpre, hb⟩ := hrel
        have HS := Lib.hid hs
        have HP := Lib.hid hpre
        have hbw := below_tr hb kb
        clear hpre hs
        by_cases hlt : k < m
        · obtain ⟨b, off, a1, n1, c1, rfl, hc, hin⟩ := (hi1.below hb).at_ hlt
          have hn1' := hin.2.1
          have HN1 := Lib.hid hin.1
          have hkl : k < ps.length := by rw [HL.out]; exact hlt
          have HM := Lib.hid (show lenSS (ps.take (k + 1)) = s + n1 by rw [lenSS_take hkl, HN1.out, HS.out])
          cases hpk : polyOk n (lget ps k) with
          | false =>
            obtain ⟨rfl, rfl⟩ := HNO.out (polys_no hkl (by rw [hpk]; rfl))
            have HK := Lib.hid hpk
            clear hpk
            go_wp2_with (go_at_call 117; refine (isPoly_any n hn0 hn1 a1 n1 c1 _ _ hin).mono ?_; rintro e w2 ⟨rfl, b2⟩; rw [HK.out]; have x2 := (k1.belowS (below_tr b2 hb)).cell 0; have f2 := (k1.belowS (below_tr b2 hb)).frozen 0)
            exact bodyPost_ret (v := .tuple #[.agg #[.slice none 0 0], .int .i64 2]) (by simp [results, Try.f46, go_sem, x2]) rfl ⟨_, rfl, own_nilM, (below_tr b2 hbw).setCell (Nat.le_refl _) _⟩
          | true =>
            have HK := Lib.hid hpk
            clear hpk
            by_cases h200 : 200 < s + n1
            · obtain ⟨rfl, rfl⟩ := HNO.out (polys_no hkl (by rw [HM.out]; simp; omega))
              go_wp2_with (go_at_call 117; refine (isPoly_any n hn0 hn1 a1 n1 c1 _ _ hin).mono ?_; rintro e w2 ⟨rfl, b2⟩; rw [HK.out]; have x2 := (k1.belowS (below_tr b2 hb)).cell 0; have f2 := (k1.belowS (below_tr b2 hb)).frozen 0)
              exact bodyPost_ret (v := .tuple #[.agg #[.slice none 0 0], .int .i64 2]) (by simp [results, Try.f46, go_sem, x2]) rfl ⟨_, rfl, own_nilM, (below_tr b2 hbw).setCell (Nat.le_refl _) _⟩
            · go_wp2_with (go_at_call 117; refine (isPoly_any n hn0 hn1 a1 n1 c1 _ _ hin).mono ?_; rintro e w2 ⟨rfl, b2⟩; rw [HK.out])
              go_roundw
              case rel => exact ⟨k + 1, s + n1, by omega, by go_num, by go_num, by omega, HM.out.symm, by rw [polysUp_succ, HP.out, HK.out, HM.out]; simp; omega, below_tr b2 hb⟩
              case measure => simp [intOf]; omega
        · obtain rfl : k = m := by omega
          have hpp : polys n ps = true := by unfold polys; rw [HL.out, HP.out]; simp; omega
          have ok := psOk_of hpp
          have k2 := k1.belowS hb
          cases hkk : mpOk ps with
          | false =>
            obtain rfl : C = 5 := by rw [HC.out]; unfold mpC; rw [HN.out, hpp, hkk]; rfl
            obtain rfl : R = [] := by rw [HR.out]; unfold mpR; rw [HN.out, hpp, hkk]; rfl
            have HK := Lib.hid hkk
            clear hkk hpp
            go_wp2_with (go_at_call 118; refine (hI ok wr (h1.below hb)).mono ?_; rintro e w3 ⟨r, R3, rfl, ho, hR3, b3⟩; rw [HK.out]; obtain ⟨a5, n5, c5, rfl⟩ := ho.form; have x3 := ((k2.belowS b3).alloc (.cells #[.slice a5 n5 c5] 41)).cell 0; have f3 := ((k2.belowS b3).alloc (.cells #[.slice a5 n5 c5] 41)).frozen 0; have k4 := (k2.belowS b3).alloc (.cells #[.slice a5 n5 c5] 41); have b4 := (below_tr b3 hbw).alloc (below_tr b3 hbw).size (.cells #[.slice a5 n5 c5] 41); have o4 := ho.below (below_alloc1 w3 (.cells #[.slice a5 n5 c5] 41)); have s3 := b3.size; have s2 := hbw.size)
            exact bodyPost_ret (v := .tuple #[.agg #[.slice none 0 0], .int .i64 5]) (by simp [results, Try.f46, go_sem, x3]) rfl ⟨_, rfl, own_nilM, b4.setCell (Nat.le_refl _) _⟩
          | true =>
            obtain rfl : C = 0 := by rw [HC.out]; unfold mpC; rw [HN.out, hpp, hkk]; rfl
            obtain rfl : R = mpM ps := by rw [HR.out]; unfold mpR; rw [HN.out, hpp, hkk]; rfl
            have HK := Lib.hid hkk
            clear hkk hpp
            go_wp2_with (go_at_call 118; refine (hI ok wr (h1.below hb)).mono ?_; rintro e w3 ⟨r, R3, rfl, ho, hR3, b3⟩; rw [HK.out]; obtain ⟨a5, n5, c5, rfl⟩ := ho.form; have x3 := ((k2.belowS b3).alloc (.cells #[.slice a5 n5 c5] 41)).cell 0; have f3 := ((k2.belowS b3).alloc (.cells #[.slice a5 n5 c5] 41)).frozen 0; have k4 := (k2.belowS b3).alloc (.cells #[.slice a5 n5 c5] 41); have b4 := (below_tr b3 hbw).alloc (below_tr b3 hbw).size (.cells #[.slice a5 n5 c5] 41); have o4 := ho.below (below_alloc1 w3 (.cells #[.slice a5 n5 c5] 41)); have s3 := b3.size; have s2 := hbw.size)
            obtain rfl := hR3 HK.out
            have e0 : ((w3.alloc (.cells #[.slice a5 n5 c5] 41)).setCell ⟨w.heap.size, 0, none⟩ (.slice a5 n5 c5)).cell? ⟨w.heap.size, 0, none⟩ = some (.slice a5 n5 c5) := (k4.set_ 0 _).cell 0
            have hlt2 := k2.lt
            have o5 : OwM 2 49 ((w3.alloc (.cells #[.slice a5 n5 c5] 41)).setCell ⟨w.heap.size, 0, none⟩ (.slice a5 n5 c5)) wr.heap.size w3.heap.size (.agg #[.slice a5 n5 c5]) (mpM ps) := by
              obtain ⟨a6, n6, c6, us, e6, ho6⟩ := o4
              exact ⟨a6, n6, c6, us, e6, ho6.same (innerS _) fun g hg _ _ => Below.heap_setCell _ _ _ g (by show g ≠ w.heap.size; omega)⟩
            exact bodyPost_ret (v := .tuple #[.agg #[.slice a5 n5 c5], .int .i64 0]) (by simp [results, Try.f46, go_sem, e0]) rfl ⟨_, rfl, o5.mono (by omega) (by simp [World.setCell]), b4.setCell (Nat.le_refl _) _⟩
end Go.Proofs.Ytpognnifgcacnaa

/- A memory of names: append behind the front of a vector (a queue): in place, or to new memory; arrays of two integers. No program in sight. -/
namespace Go.Proofs.Ytpognnifgcacnaa
open Go.RowKit

section
variable {P : Program} {nt : Nat} {S S1 S2 : St} {w0 w : World} {ω0 : Beg} {ω : Own?} {η : Env} {a : Act} {Q : Exit → Act → World → Prop} {ops : Array Oper} {rest : List Oper}
variable {t : Nat} {ty : TypeId} {ps : String} {af : Array Edge} {gd : Option (Nat × Bool)} {x y : Operand} {av : AV} {o : Oper}
/-- a step that ends in one of two states -/
structure StpOr (P : Program) (nt : Nat) (o : Oper) (S S1 S2 : St) : Prop where
  go : ∀ w0 ω0 a w Q, Sat w0 ω0 nt S a w → o.wp P a w (fun a w => Sat w0 ω0 nt S1 a w ∨ Sat w0 ω0 nt S2 a w) Q
def pflat (q : List (Int × Int)) : List Int := q.flatMap fun p => [p.1, p.2]
theorem pflat_len : ∀ q : List (Int × Int), (pflat q).length = 2 * q.length
  | [] => rfl
  | p :: r => by have := pflat_len r; simp [pflat] at this ⊢; omega
end
end Go.Proofs.Ytpognnifgcacnaa

/- Lists of structs of two integers: words, the laws' helpers on []Kind. -/
namespace Go.Proofs.Ytpognnifgcacnaa
open Go.RowKit

/-- the cell of the j-th struct -/
def kA (ks : List (Int × Int)) (j : Nat) : Int := (ks.getD j (0, 0)).1
def kB (ks : List (Int × Int)) (j : Nat) : Int := (ks.getD j (0, 0)).2
theorem pflat_get : ∀ (ks : List (Int × Int)) (j : Nat), j < ks.length → (ivals (pflat ks))[j * 2]? = some (.int .i64 (kA ks j)) ∧ (ivals (pflat ks))[j * 2 + 1]? = some (.int .i64 (kB ks j))
  | [], j, h => absurd h (by simp)
  | p :: ks, 0, _ => by simp [pflat, ivals, kA, kB]
  | p :: ks, j + 1, h => by
    have ih := pflat_get ks j (by simpa using h)
    have e : ivals (pflat (p :: ks)) = .int .i64 p.1 :: .int .i64 p.2 :: ivals (pflat ks) := by simp [pflat, ivals]
    rw [e, show (j + 1) * 2 = j * 2 + 1 + 1 by omega]
    simp only [List.getElem?_cons_succ]
    exact ⟨by rw [ih.1]; simp [kA], by rw [ih.2]; simp [kB]⟩
theorem pflat_set : ∀ (A : List (Int × Int)) (p : Int × Int) (B : List (Int × Int)) (x y : Int), ((ivals (pflat (A ++ p :: B))).set (A.length * 2) (.int .i64 x)).set (A.length * 2 + 1) (.int .i64 y) = ivals (pflat (A ++ (x, y) :: B))
  | [], p, B, x, y => by simp [pflat, ivals]
  | q :: A, p, B, x, y => by
    have ih := pflat_set A p B x y
    have e : ∀ L, ivals (pflat (q :: L)) = .int .i64 q.1 :: .int .i64 q.2 :: ivals (pflat L) := fun L => by simp [pflat, ivals]
    rw [List.cons_append, e, List.length_cons, show (A.length + 1) * 2 = A.length * 2 + 1 + 1 by omega]
    simp only [List.set_cons_succ]
    rw [ih, List.cons_append, e]
/-- the slice at ao, of n structs, is a row of the call's own -/
def Own2 (w : World) (base E : Nat) (ao : Option Addr) (n c : Nat) (ks : List (Int × Int)) : Prop :=
  w.ownsRow base E 2 (.slice ao n c) n (ivals (pflat ks)) ∧ n ≤ 4398046511104
section
variable {w w' : World} {base E : Nat} {ao : Option Addr} {n c : Nat} {ks : List (Int × Int)}
theorem Own2.len (h : Own2 w base E ao n c ks) : ks.length = n := by
  have := h.1.1; rw [ivals_len, pflat_len] at this; omega
theorem Own2.lt (h : Own2 w base E ao n c ks) : ∀ g, bk ao = some g → base ≤ g ∧ g < w.heap.size := by
  have := h.1.lt
  rw [ownBlock_slice] at this; exact this
theorem Own2.same (h : Own2 w base E ao n c ks) (hs : ∀ g, bk ao = some g → w'.heap[g]? = w.heap[g]?) : Own2 w' base E ao n c ks := by
  refine ⟨⟨h.1.1, ?_⟩, h.2⟩
  rcases h.1.2 with h2 | ⟨g, cap, cur, hv, hg, hh, r⟩
  · exact Or.inl h2
  · refine Or.inr ⟨g, cap, cur, hv, hg, ?_, r⟩
    have : bk ao = some g := by injection hv with h1; subst h1; rfl
    rw [hs g this]; exact hh
theorem Own2.form (h : Own2 w base E ao n c ks) (hn : 0 < n) : ∃ g, ao = some ⟨g, 0, none⟩ ∧ base ≤ g ∧ g < w.heap.size ∧ n ≤ c ∧ (∀ j, j < n → w.cell? ⟨g, j * 2, none⟩ = some (.int .i64 (kA ks j)) ∧ w.cell? ⟨g, j * 2 + 1, none⟩ = some (.int .i64 (kB ks j))) ∧ (∀ j, w.frozen? ⟨g, j, none⟩ = false) := by
  have hl := h.len
  obtain ⟨g, cap, hv, hb, hlt⟩ := h.1.form (by omega)
  injection hv with h1 _ h2
  subst h1 h2
  refine ⟨g, rfl, hb, hlt, ?_, fun j hj => ?_, fun j => h.1.frozenAt j⟩
  · rcases h.1.2 with ⟨h2, _⟩ | ⟨g', cap', cur, hv, _, _, hnc, _⟩
    · cases h2
    · injection hv with _ _ h3; subst h3; exact hnc
  · have := pflat_get ks j (by omega)
    exact ⟨(h.1.cellAt (j * 2) (by omega)).trans this.1, (h.1.cellAt (j * 2 + 1) (by omega)).trans this.2⟩
end
def RdK (w : World) (v : Value) (ks : List (Int × Int)) : Prop := ∃ ao n c, v = .slice ao n c ∧ ks.length = n ∧ n ≤ 4398046511104 ∧ (0 < n → ∃ g, ao = some ⟨g, 0, none⟩ ∧ g < w.heap.size ∧ ∀ j, j < n → w.cell? ⟨g, j * 2, none⟩ = some (.int .i64 (kA ks j)) ∧ w.cell? ⟨g, j * 2 + 1, none⟩ = some (.int .i64 (kB ks j)))
theorem RdK.below {w w' : World} {v : Value} {ks : List (Int × Int)} (h : RdK w v ks) (hb : Below w.heap.size w w') : RdK w' v ks := by
  obtain ⟨ao, n, c, rfl, hl, hn, hc⟩ := h
  refine ⟨ao, n, c, rfl, hl, hn, fun h0 => ?_⟩
  obtain ⟨g, rfl, hg, hc⟩ := hc h0
  exact ⟨g, rfl, Nat.lt_of_lt_of_le hg hb.size, fun j hj => ⟨(World.cell?_of_block (hb.block g hg)).trans (hc j hj).1, (World.cell?_of_block (hb.block g hg)).trans (hc j hj).2⟩⟩
def OwnK (E : Nat) (w : World) (lo hi : Nat) (v : Value) (ks : List (Int × Int)) : Prop := ∃ ao n c, v = .slice ao n c ∧ Own2 w 0 E ao n c ks ∧ ∀ g, bk ao = some g → lo ≤ g ∧ g < hi
theorem OwnK.rd {E : Nat} {w : World} {lo hi : Nat} {v : Value} {ks : List (Int × Int)} (h : OwnK E w lo hi v ks) : RdK w v ks := by
  obtain ⟨ao, n, c, rfl, ho, _⟩ := h
  refine ⟨ao, n, c, rfl, ho.len, ho.2, fun h0 => ?_⟩
  obtain ⟨g, rfl, _, hg, _, hc, _⟩ := ho.form h0
  exact ⟨g, rfl, hg, hc⟩
theorem OwnK.below {E : Nat} {w w' : World} {lo hi : Nat} {v : Value} {ks : List (Int × Int)} (h : OwnK E w lo hi v ks) (hb : Below w.heap.size w w') : OwnK E w' lo hi v ks := by
  obtain ⟨ao, n, c, rfl, ho, h1⟩ := h
  exact ⟨ao, n, c, rfl, ho.same fun g hg => hb.block g (ho.lt g hg).2, h1⟩
theorem OwnK.only {E : Nat} {w w' : World} {lo hi : Nat} {v : Value} {ks : List (Int × Int)} (h : OwnK E w lo hi v ks) {l k : Nat} (hq : Only l k w w') (hd : hi ≤ l ∨ k ≤ lo) : OwnK E w' lo hi v ks := by
  obtain ⟨ao, n, c, rfl, ho, h1⟩ := h
  exact ⟨ao, n, c, rfl, ho.same fun g hg => hq.block g (ho.lt g hg).2 (by have := h1 g hg; omega), h1⟩
theorem Own2.stored {w : World} {base E g n c : Nat} {A B : List (Int × Int)} {p : Int × Int} (h : Own2 w base E (some ⟨g, 0, none⟩) n c (A ++ p :: B)) (x y : Int) :
    Own2 ((w.setCell ⟨g, A.length * 2, none⟩ (.int .i64 x)).setCell ⟨g, A.length * 2 + 1, none⟩ (.int .i64 y)) base E (some ⟨g, 0, none⟩) n c (A ++ (x, y) :: B) ∧ w.grownBy ((w.setCell ⟨g, A.length * 2, none⟩ (.int .i64 x)).setCell ⟨g, A.length * 2 + 1, none⟩ (.int .i64 y)) (some g) := by
  have h1 := h.1.stored (A.length * 2) (.int .i64 x)
  have h2 := h1.1.stored (A.length * 2 + 1) (.int .i64 y)
  refine ⟨⟨?_, h.2⟩, grown_tr h1.2 h2.2⟩
  have := h2.1
  rw [pflat_set] at this
  exact this
end Go.Proofs.Ytpognnifgcacnaa

/- Lists of lists of structs of two integers: words. -/
namespace Go.Proofs.Ytpognnifgcacnaa
open Go.RowKit

/-- the slice type S has elements of type E: structs of two integers -/
structure ET2 (P : Program) (S E : TypeId) (bytes : Nat) : Prop where
  und : P.underlying S = some (.slice E)
  info : (P.info? E).map (fun i => (i.zero, i.size, i.bytes)) = some (some (.agg #[.int .i64 0, .int .i64 0]), 2, bytes)
  small : bytes ≤ 32
section
variable {P : Program} {ops : Array Oper} {o : Oper} {rest : List Oper} {a : Act} {Q : Exit → Act → World → Prop}
end

/-- the slice at ao, of n structs, reads as ks -/
def Tgts (w : World) (ao : Option Addr) (n : Nat) (ks : List (Int × Int)) : Prop :=
  ks.length = n ∧ n ≤ 17592186044416 ∧ (0 < n → ∃ b off, ao = some ⟨b, off, none⟩ ∧ ∀ j, j < n → w.cell? ⟨b, off + j * 2, none⟩ = some (.int .i64 (kA ks j)) ∧ w.cell? ⟨b, off + j * 2 + 1, none⟩ = some (.int .i64 (kB ks j)))
theorem Tgts.below {w w' : World} {ao : Option Addr} {n : Nat} {ks : List (Int × Int)} (h : Tgts w ao n ks) (hb : Below w.heap.size w w') : Tgts w' ao n ks := by
  refine ⟨h.1, h.2.1, fun hn => ?_⟩
  obtain ⟨b, off, rfl, hc⟩ := h.2.2 hn
  exact ⟨b, off, rfl, fun j hj => ⟨(hb.cell (p := ⟨b, off + j * 2, none⟩) (World.block_lt_of_cell? w _ (hc j hj).1)).trans (hc j hj).1, (hb.cell (p := ⟨b, off + j * 2 + 1, none⟩) (World.block_lt_of_cell? w _ (hc j hj).2)).trans (hc j hj).2⟩⟩
theorem Tgts.at_ {w : World} {ao : Option Addr} {n : Nat} {ks : List (Int × Int)} (h : Tgts w ao n ks) {k : Nat} (hk : k < n) : ∃ b off, ao = some ⟨b, off, none⟩ ∧ w.cell? ⟨b, off + k * 2, none⟩ = some (.int .i64 (kA ks k)) ∧ w.cell? ⟨b, off + k * 2 + 1, none⟩ = some (.int .i64 (kB ks k)) := by
  obtain ⟨b, off, rfl, hc⟩ := h.2.2 (by omega)
  exact ⟨b, off, rfl, hc k hk⟩
theorem Tgts.nil_ (w : World) (ao : Option Addr) : Tgts w ao 0 [] := ⟨rfl, by omega, fun h => absurd h (by omega)⟩
def RdTs (w : World) (v : Value) (ks : List (Int × Int)) : Prop := ∃ ao n c, v = .slice ao n c ∧ Tgts w ao n ks
theorem RdTs.below {w w' : World} {v : Value} {ks : List (Int × Int)} (h : RdTs w v ks) (hb : Below w.heap.size w w') : RdTs w' v ks := by
  obtain ⟨ao, n, c, rfl, hi⟩ := h
  exact ⟨ao, n, c, rfl, hi.below hb⟩
/-- v is a slice that owns its structs -/
def OwTs (E : Nat) (w : World) (v : Value) (ks : List (Int × Int)) : Prop := ∃ ao n c, v = .slice ao n c ∧ Own2 w 0 E ao n c ks
theorem Own2.tgts {w : World} {base E : Nat} {ao : Option Addr} {n c : Nat} {ks : List (Int × Int)} (h : Own2 w base E ao n c ks) : Tgts w ao n ks := by
  refine ⟨h.len, by have := h.2; omega, fun h0 => ?_⟩
  obtain ⟨g, rfl, _, _, _, hc, _⟩ := h.form h0
  exact ⟨g, 0, rfl, fun j hj => by rw [Nat.zero_add]; exact hc j hj⟩
theorem Own2.mono {w : World} {base base' E : Nat} {ao : Option Addr} {n c : Nat} {ks : List (Int × Int)} (h : Own2 w base E ao n c ks) (hb : base' ≤ base) : Own2 w base' E ao n c ks := by
  refine ⟨⟨h.1.1, ?_⟩, h.2⟩
  rcases h.1.2 with h2 | ⟨g, cap, cur, hv, hg, r⟩
  · exact Or.inl h2
  · exact Or.inr ⟨g, cap, cur, hv, Nat.le_trans hb hg, r⟩
theorem OwTs.rd {E : Nat} {w : World} {v : Value} {ks : List (Int × Int)} (h : OwTs E w v ks) : RdTs w v ks := by
  obtain ⟨ao, n, c, rfl, ho⟩ := h
  exact ⟨ao, n, c, rfl, ho.tgts⟩
theorem innerTs (E : Nat) : Inner (OwTs E) :=
  { loc := fun {w w' u d} h hs => by
      obtain ⟨ao, n, c, rfl, ho⟩ := h
      exact ⟨ao, n, c, rfl, ho.same fun g hg => hs g (by rw [ownBlock_slice]; exact hg)⟩
    lt := fun {w u d} h g hg => by
      obtain ⟨ao, n, c, rfl, ho⟩ := h
      rw [ownBlock_slice] at hg
      exact (ho.lt g hg).2
    one := fun {w u d} h => by obtain ⟨ao, n, c, rfl, _⟩ := h; rfl }

/-- the slice at ao, of n slices of structs, reads as d -/
def Tgtss (w : World) (ao : Option Addr) (n : Nat) (d : List (List (Int × Int))) : Prop :=
  d.length = n ∧ n ≤ 17592186044416 ∧ (0 < n → ∃ b off, ao = some ⟨b, off, none⟩ ∧ ∀ j, j < n → ∃ u, w.cell? ⟨b, off + j, none⟩ = some u ∧ RdTs w u (lget d j))
theorem Tgtss.at_ {w : World} {ao : Option Addr} {n : Nat} {d : List (List (Int × Int))} (h : Tgtss w ao n d) {k : Nat} (hk : k < n) :
    ∃ b off a' n' c', ao = some ⟨b, off, none⟩ ∧ w.cell? ⟨b, off + k, none⟩ = some (.slice a' n' c') ∧ Tgts w a' n' (lget d k) := by
  obtain ⟨b, off, e, hc⟩ := h.2.2 (by omega)
  obtain ⟨u, h1, a', n', c', rfl, h2⟩ := hc k hk
  exact ⟨b, off, a', n', c', e, h1, h2⟩
theorem Tgtss.below {w w' : World} {ao : Option Addr} {n : Nat} {d : List (List (Int × Int))} (h : Tgtss w ao n d) (hb : Below w.heap.size w w') : Tgtss w' ao n d := by
  refine ⟨h.1, h.2.1, fun hn => ?_⟩
  obtain ⟨b, off, rfl, hc⟩ := h.2.2 hn
  refine ⟨b, off, rfl, fun j hj => ?_⟩
  obtain ⟨u, h1, h2⟩ := hc j hj
  exact ⟨u, (hb.cell (p := ⟨b, off + j, none⟩) (World.block_lt_of_cell? w _ h1)).trans h1, h2.below hb⟩
theorem Tgtss.nil_ (w : World) (ao : Option Addr) : Tgtss w ao 0 [] := ⟨rfl, by omega, fun h => absurd h (by omega)⟩
theorem OwR.tgtss {E1 : Nat} {w : World} {lo hi E : Nat} {ao : Option Addr} {n c : Nat} {us : List Value} {d : List (List (Int × Int))} (h : OwR (OwTs E1) w lo hi E ao n c us d) : Tgtss w ao n d := by
  refine ⟨h.len, by have := h.own.2; omega, fun hn => ?_⟩
  obtain ⟨g, rfl, _, _, _, _, _⟩ := h.own.form hn
  refine ⟨g, 0, rfl, fun j hj => ?_⟩
  obtain ⟨u, d', hu, hd, h1, _⟩ := h.get hj
  refine ⟨u, by rw [Nat.zero_add]; exact h.cell hu, ?_⟩
  rw [lget_get? hd]; exact h1.rd
def RdTT (w : World) (v : Value) (d : List (List (Int × Int))) : Prop := ∃ ao n c, v = .slice ao n c ∧ Tgtss w ao n d
theorem RdTT.below {w w' : World} {v : Value} {d : List (List (Int × Int))} (h : RdTT w v d) (hb : Below w.heap.size w w') : RdTT w' v d := by
  obtain ⟨ao, n, c, rfl, hi⟩ := h
  exact ⟨ao, n, c, rfl, hi.below hb⟩
/-- a struct of one such slice -/
def RdT (w : World) (v : Value) (d : List (List (Int × Int))) : Prop := ∃ ao n c, v = .agg #[.slice ao n c] ∧ Tgtss w ao n d
theorem RdT.below {w w' : World} {v : Value} {d : List (List (Int × Int))} (h : RdT w v d) (hb : Below w.heap.size w w') : RdT w' v d := by
  obtain ⟨ao, n, c, rfl, hi⟩ := h
  exact ⟨ao, n, c, rfl, hi.below hb⟩
def OwTT (E1 E : Nat) (w : World) (lo hi : Nat) (v : Value) (d : List (List (Int × Int))) : Prop := ∃ ao n c us, v = .slice ao n c ∧ OwR (OwTs E1) w lo hi E ao n c us d
def OwT (E1 E : Nat) (w : World) (lo hi : Nat) (v : Value) (d : List (List (Int × Int))) : Prop := ∃ ao n c us, v = .agg #[.slice ao n c] ∧ OwR (OwTs E1) w lo hi E ao n c us d
theorem OwTT.rd {E1 E : Nat} {w : World} {lo hi : Nat} {v : Value} {d : List (List (Int × Int))} (h : OwTT E1 E w lo hi v d) : RdTT w v d := by
  obtain ⟨ao, n, c, us, rfl, ho⟩ := h
  exact ⟨ao, n, c, rfl, ho.tgtss⟩
theorem OwT.rd {E1 E : Nat} {w : World} {lo hi : Nat} {v : Value} {d : List (List (Int × Int))} (h : OwT E1 E w lo hi v d) : RdT w v d := by
  obtain ⟨ao, n, c, us, rfl, ho⟩ := h
  exact ⟨ao, n, c, rfl, ho.tgtss⟩
theorem OwT.below {E1 E : Nat} {w w' : World} {lo hi : Nat} {v : Value} {d : List (List (Int × Int))} (h : OwT E1 E w lo hi v d) (hb : Below w.heap.size w w') : OwT E1 E w' lo hi v d := by
  obtain ⟨ao, n, c, us, rfl, ho⟩ := h
  exact ⟨ao, n, c, us, rfl, ho.below (innerTs E1) hb⟩
theorem OwT.only {E1 E : Nat} {w w' : World} {lo hi : Nat} {v : Value} {d : List (List (Int × Int))} (h : OwT E1 E w lo hi v d) {l k : Nat} (ho : Only l k w w') (hd : hi ≤ l ∨ k ≤ lo) : OwT E1 E w' lo hi v d := by
  obtain ⟨ao, n, c, us, rfl, h1⟩ := h
  exact ⟨ao, n, c, us, rfl, h1.only (innerTs E1) ho hd⟩
theorem OwT.mono {E1 E : Nat} {w : World} {lo hi lo' hi' : Nat} {v : Value} {d : List (List (Int × Int))} (h : OwT E1 E w lo hi v d) (h1 : lo' ≤ lo) (h2 : hi ≤ hi') : OwT E1 E w lo' hi' v d := by
  obtain ⟨ao, n, c, us, rfl, ho⟩ := h
  exact ⟨ao, n, c, us, rfl, ho.mono h1 h2⟩
theorem OwT.form {E1 E : Nat} {w : World} {lo hi : Nat} {v : Value} {d : List (List (Int × Int))} (h : OwT E1 E w lo hi v d) : ∃ ao n c, v = .agg #[.slice ao n c] := by
  obtain ⟨ao, n, c, us, rfl, _⟩ := h
  exact ⟨ao, n, c, rfl⟩
end Go.Proofs.Ytpognnifgcacnaa

/- The laws' helpers on Template: sizes, copies, comparison. -/
namespace Go.Proofs.Ytpognnifgcacnaa
open Go.RowKit

end Go.Proofs.Ytpognnifgcacnaa

/- Templates: what a template is; the reference's test. -/
namespace Go.Proofs.Ytpognnifgcacnaa
open Go.RowKit

/-- the piece and the move that are kept for piece j and index i -/
def tP (d : List (List (Int × Int))) (j i : Nat) : Int := kA (lget d j) i
def tM (d : List (List (Int × Int))) (j i : Nat) : Int := kB (lget d j) i
/-- moves x and y commute -/
def cmM (x y : Int) : Bool := decide (x = y ∨ x < 0 ∨ y < 0 ∨ (x + y = 2 ∧ x ≠ 1))
/-- index 0 and index 2 commute at piece j -/
def CmT (d : List (List (Int × Int))) (j : Nat) : Prop :=
  tP d (tP d j 0).toNat 2 = tP d (tP d j 2).toNat 0 ∧ tM d (tP d j 0).toNat 2 = tM d j 2 ∧ tM d (tP d j 2).toNat 0 = tM d j 0 ∧ cmM (tM d j 0) (tM d j 2) = true ∧ ¬ (tM d j 0 = tM d j 2 ∧ tP d (tP d j 0).toNat 2 = j)
def RgT (d : List (List (Int × Int))) (j i : Nat) : Prop := (0 ≤ tP d j i ∧ tP d j i ≤ (d.length : Int) - 1) ∧ -1 ≤ tM d j i ∧ tM d j i ≤ 2
def FxT (d : List (List (Int × Int))) (j i : Nat) : Prop := tP d j i = j ∧ tM d j i < 0
def BkT (d : List (List (Int × Int))) (j i : Nat) : Prop := tP d (tP d j i).toNat i = j ∧ tM d (tP d j i).toNat i = tM d j i
structure Tmp (d : List (List (Int × Int))) : Prop where
  one : 1 ≤ d.length
  few : d.length ≤ 12
  three : ∀ j, j < d.length → (lget d j).length = 3
  rng : ∀ j, j < d.length → ∀ i, i < 3 → RgT d j i
  fix : ∀ j, j < d.length → ∀ i, i < 3 → ¬ FxT d j i
  back : ∀ j, j < d.length → ∀ i, i < 3 → BkT d j i
  comm : ∀ j, j < d.length → CmT d j
end Go.Proofs.Ytpognnifgcacnaa

/- The composition of two templates: what it is; the state of both walks. -/
namespace Go.Proofs.Ytpognnifgcacnaa
open Go.RowKit

section
variable {P : Program} {ops : Array Oper} {rest : List Oper} {o : Oper} {a : Act} {Q : Exit → Act → World → Prop}
/-- append(s, x) of one struct: x lies in a block of its own, just laid -/
theorem wpList_ap2 {S E : TypeId} {bytes : Nat} (et : ET2 P S E bytes) (w : World) (hg : o.guard = none) (s x : Operand) (ho : o.op = .call { callee := .builtin .append, args := #[s, x], argTypes := #[S, S] })
    (base : Nat) (ao : Option Addr) (n c : Nat) (ks : List (Int × Int)) (hs : a.eval s = .slice ao n c) (hown : Own2 w base E ao n c ks) (u v : Int)
    (hx : a.eval x = .slice (some ⟨w.heap.size, 0, none⟩) 1 1) (hn : n + 1 ≤ 4398046511104) (hbase : base ≤ w.heap.size)
    (hK : ∀ ao' c' w', Own2 w' base E ao' (n + 1) c' (ks ++ [(u, v)]) → w.grownBy w' (bk ao) → (bk ao' = bk ao ∨ bk ao' = some (w.heap.size + 1)) → wpList P ops Q rest (a.put o.dst (.slice ao' (n + 1) c')) w') :
    wpList P ops Q (o :: rest) a (w.alloc (.cells #[.int .i64 u, .int .i64 v] E)) := by
  obtain ⟨i, hi, hz, hsz, hby⟩ := info_parts et.info
  refine wpList_append_own_at _ hg s x S ho base E i (.agg #[.int .i64 0, .int .i64 0]) 2 bytes et.und hi hz hsz hby rfl (by omega) (.slice ao n c) n (ivals (pflat ks)) hs (hown.1.alloc _) ⟨w.heap.size, 0, none⟩ 1 1 [.int .i64 u, .int .i64 v] hx rfl (by
      intro j y hj
      match j, hj with
      | 0, hj => simp at hj; subst hj; simp [Addr.add]
      | 1, hj => simp at hj; subst hj; simp [Addr.add]
      | j + 2, hj => simp at hj)
    (by intro y hy; simp at hy; rcases hy with rfl | rfl <;> rfl) (by simp [maxLen]; omega) (by have := et.small; have : (n + 1) * bytes ≤ (n + 1) * 32 := Nat.mul_le_mul_left _ this; omega) (by simp; omega) ?_
  intro v' w' h1 h2 _ h4
  rw [ownBlock_slice] at h2 h4
  have e : ivals (pflat ks) ++ [.int .i64 u, .int .i64 v] = ivals (pflat (ks ++ [(u, v)])) := by simp [pflat, ivals]
  rw [e] at h1
  have hl : ks.length = n := hown.len
  obtain ⟨g, cap, rfl, hb, hlt⟩ := h1.form (by omega)
  refine hK _ _ _ ⟨h1, hn⟩ (grown_tr (World.grownBy_alloc w _ _) h2) ?_
  rw [ownBlock_slice] at h4
  simpa using h4
end
theorem Own2.empty_ (w : World) {base E : Nat} (hb : base ≤ w.heap.size) : Own2 (w.alloc (.cells #[] E)) base E (some ⟨w.heap.size, 0, none⟩) 0 0 [] := by
  refine ⟨?_, by omega⟩
  have := World.ownsRow_lit (e := E) (size := 2) w #[] 0 hb (by simp [maxLen]) (by simp)
  simpa [pflat, ivals] using this
theorem Own2.nil_ (w : World) (base E : Nat) : Own2 w base E none 0 0 [] := ⟨World.ownsRow_nil _ _ _ _, by omega⟩
theorem Own2.below {w w' : World} {base E : Nat} {ao : Option Addr} {n c : Nat} {ks : List (Int × Int)} (h : Own2 w base E ao n c ks) (hb : Below w.heap.size w w') : Own2 w' base E ao n c ks := h.same fun g hg => hb.block g (h.lt g hg).2

/-- pushing a row of structs -/
theorem trows_push {T1 E lo : Nat} {wr w2 w3 w4 : World} {ao ao' ao2 : Option Addr} {m c n' c' c2 : Nat} {us : List Value} {ds : List (List (Int × Int))} {ks : List (Int × Int)}
    (hR : OwR (OwTs T1) wr lo wr.heap.size E ao m c us ds) (hlo : lo ≤ wr.heap.size) (hb : Below wr.heap.size wr w2) (hu : Own2 w2 wr.heap.size T1 ao' n' c' ks) (hb3 : Below w2.heap.size w2 w3)
    (hown : Own w4 lo E ao2 (m + 1) c2 (us ++ [.slice ao' n' c'])) (hg : w3.grownBy w4 (bk ao)) (hat : bk ao2 = bk ao ∨ ∃ g, bk ao2 = some g ∧ w2.heap.size ≤ g) :
    OwR (OwTs T1) w4 lo w4.heap.size E ao2 (m + 1) c2 (us ++ [.slice ao' n' c']) (ds ++ [ks]) := by
  have hR3 : OwR (OwTs T1) w3 lo wr.heap.size E ao m c us ds := hR.below (innerTs _) (hb.trans (hb3.mono hb.size))
  have s1 := hb.size
  have s2 := hb3.size
  have s3 := hg.size
  have hub : ∀ g, bk ao' = some g → wr.heap.size ≤ g ∧ g < w2.heap.size := hu.lt
  have hne : ∀ g, bk ao' = some g → bk ao ≠ some g := fun g h1 h2 => by have := hub g h1; have := hR.top g h2; omega
  have hu4 : OwTs T1 w4 (.slice ao' n' c') ks := (innerTs T1).loc (w := w2) ⟨ao', n', c', rfl, hu.mono (Nat.zero_le _)⟩ fun g h => by
    rw [ownBlock_slice] at h
    have := hub g h
    rw [hg.block g (by omega) (fun e => hne g h e.symm)]
    exact hb3.block g this.2
  refine hR3.push (innerTs _) hown hg hu4 (in_slice fun g h => ⟨by have := hub g h; omega, by have := hub g h; omega⟩) (fun g h => (hown.lt g h).2) (by omega) ?_ ?_
  · intro g h
    rcases hat with h1 | ⟨g1, h1, h5⟩
    · exact .inl (h1 ▸ h)
    · refine .inr fun j u hj e => ?_
      rw [h1] at h; obtain rfl := Option.some.inj h
      have := (hR3.rng j u hj _ e).2
      omega
  · intro g h
    rw [ownBlock_slice] at h
    have hh := hub g h
    refine ⟨fun e => ?_, fun j v hj e => ?_⟩
    · rcases hat with h1 | ⟨g1, h1, h5⟩
      · exact hne g h (h1 ▸ e)
      · rw [h1] at e; have := Option.some.inj e; omega
    · have := (hR3.rng j v hj _ e).2; omega

/-- the boxes of the arguments, of the result, of out; the rows of out -/
structure CmpSt (w wr : World) (va vb : Value) (ao : Option Addr) (m c : Nat) (us : List Value) (ds : List (List (Int × Int))) : Prop where
  tt : Blk wr w.heap.size 29 #[va]
  uu : Blk wr (w.heap.size + 1) 29 #[vb]
  res : Blk wr (w.heap.size + 2) 29 #[.slice none 0 0]
  box : Blk wr (w.heap.size + 3) 29 #[.slice ao m c]
  row : OwR (OwTs 143) wr (w.heap.size + 4) wr.heap.size 100 ao m c us ds
  size : w.heap.size + 4 ≤ wr.heap.size
  below : Below w.heap.size w wr
theorem CmpSt.push {w wr w2 w3 w4 : World} {va vb : Value} {m c' n1 c1 c2 : Nat} {ao' a1 ao2 : Option Addr} {us : List Value} {ds : List (List (Int × Int))} {ks : List (Int × Int)} (st : CmpSt w wr va vb ao' m c' us ds)
    (b2 : Below wr.heap.size wr w2) (o1 : Own2 w2 wr.heap.size 143 a1 n1 c1 ks) (b3 : Below w2.heap.size w2 w3) (o4 : Own w4 (w.heap.size + 4) 100 ao2 (m + 1) c2 (us ++ [.slice a1 n1 c1]))
    (g4 : w3.grownBy w4 (bk ao')) (hat : bk ao2 = bk ao' ∨ ∃ g, bk ao2 = some g ∧ w2.heap.size ≤ g) :
    CmpSt w (w4.setCell ⟨w.heap.size + 3, 0, none⟩ (.slice ao2 (m + 1) c2)) va vb ao2 (m + 1) c2 (us ++ [.slice a1 n1 c1]) (ds ++ [ks]) := by
  have hR := trows_push st.row (by have := st.size; omega) b2 o1 b3 o4 g4 hat
  have hsz := st.size
  have s2 := b2.size
  have s3 := b3.size
  have s4 := g4.size
  have B4 : Below (w.heap.size + 4) wr w4 := ((b2.trans (b3.mono s2)).mono hsz).grown g4 (by omega) (fun g hg => (st.row.own.lt g hg).1)
  have hh : (w4.setCell ⟨w.heap.size + 3, 0, none⟩ (.slice ao2 (m + 1) c2)).heap.size = w4.heap.size := by simp [World.setCell]
  refine ⟨(st.tt.below B4 (by omega)).far (by simp) _, (st.uu.below B4 (by omega)).far (by simp) _, (st.res.below B4 (by omega)).far (by simp) _, ?_, ?_, by rw [hh]; omega, (st.below.trans (B4.mono (by omega))).setCell (by simp) _⟩
  · have := (st.box.below B4 (by omega)).set_ 0 (.slice ao2 (m + 1) c2)
    simpa using this
  · rw [hh]
    exact hR.same (innerTs _) fun g h1 _ _ => Below.heap_setCell _ _ _ _ (by simp; omega)
theorem CmpSt.done {w wr : World} {va vb : Value} {m c' : Nat} {ao' : Option Addr} {us : List Value} {ds : List (List (Int × Int))} (st : CmpSt w wr va vb ao' m c' us ds) :
    Blk (wr.setCell ⟨w.heap.size + 2, 0, none⟩ (.slice ao' m c')) (w.heap.size + 2) 29 #[.slice ao' m c'] ∧
    OwR (OwTs 143) (wr.setCell ⟨w.heap.size + 2, 0, none⟩ (.slice ao' m c')) (w.heap.size + 4) (wr.setCell ⟨w.heap.size + 2, 0, none⟩ (.slice ao' m c')).heap.size 100 ao' m c' us ds ∧
    Below w.heap.size w (wr.setCell ⟨w.heap.size + 2, 0, none⟩ (.slice ao' m c')) := by
  have hh : (wr.setCell ⟨w.heap.size + 2, 0, none⟩ (.slice ao' m c')).heap.size = wr.heap.size := by simp [World.setCell]
  refine ⟨?_, ?_, st.below.setCell (by simp) _⟩
  · have := st.res.set_ 0 (.slice ao' m c')
    simpa using this
  · rw [hh]
    exact st.row.same (innerTs _) fun g h1 _ _ => Below.heap_setCell _ _ _ _ (by simp; omega)
theorem CmpSt.start {w w' : World} {va vb : Value} (hb : Below w.heap.size w w') (h1 : Blk w' w.heap.size 29 #[va]) (h2 : Blk w' (w.heap.size + 1) 29 #[vb]) (h3 : Blk w' (w.heap.size + 2) 29 #[.slice none 0 0]) (h4 : Blk w' (w.heap.size + 3) 29 #[.slice none 0 0]) (hs : w.heap.size + 4 ≤ w'.heap.size) :
    CmpSt w w' va vb none 0 0 [] [] := ⟨h1, h2, h3, h4, OwR.empty_ (Own.nil_ _ _ _) (fun g hg => by cases hg), hs, hb⟩
end Go.Proofs.Ytpognnifgcacnaa

/- Values that each own a block, all blocks different: lists of a call that grow side by side. No program in sight. -/
namespace Go.Proofs.Ytpognnifgcacnaa
open Go.RowKit

structure OwL {D : Type} (Ow1 : World → Value → D → Prop) (w : World) (lo : Nat) (us : List Value) (ds : List D) : Prop where
  len : ds.length = us.length
  el : ∀ (j : Nat) (u : Value) (d : D), us[j]? = some u → ds[j]? = some d → Ow1 w u d
  low : ∀ (j : Nat) (u : Value) (g : Nat), us[j]? = some u → u.ownBlock = some g → lo ≤ g
  apart : ∀ (i j : Nat) (u u' : Value) (g : Nat), i ≠ j → us[i]? = some u → us[j]? = some u' → u.ownBlock = some g → u'.ownBlock ≠ some g
section
variable {D : Type} {Ow1 : World → Value → D → Prop} {w w' : World} {lo : Nat} {us : List Value} {ds : List D}
theorem OwL.nil_ : OwL Ow1 w lo [] [] := ⟨rfl, fun _ _ _ h => by simp at h, fun _ _ _ h => by simp at h, fun _ _ _ _ _ _ h => by simp at h⟩
theorem OwL.get (h : OwL Ow1 w lo us ds) {j : Nat} (hj : j < us.length) : ∃ u d, us[j]? = some u ∧ ds[j]? = some d ∧ Ow1 w u d := by
  have h2 : j < ds.length := by rw [h.len]; exact hj
  exact ⟨_, _, List.getElem?_eq_getElem hj, List.getElem?_eq_getElem h2, h.el j _ _ (List.getElem?_eq_getElem hj) (List.getElem?_eq_getElem h2)⟩
theorem OwL.some_ (h : OwL Ow1 w lo us ds) {j : Nat} {u : Value} (hu : us[j]? = some u) : ∃ d, ds[j]? = some d ∧ Ow1 w u d := by
  have hj : j < us.length := (List.getElem?_eq_some_iff.1 hu).1
  have h2 : j < ds.length := by rw [h.len]; exact hj
  exact ⟨_, List.getElem?_eq_getElem h2, h.el j _ _ hu (List.getElem?_eq_getElem h2)⟩
theorem OwL.lt (I : Inner Ow1) (h : OwL Ow1 w lo us ds) {j : Nat} {u : Value} {g : Nat} (hu : us[j]? = some u) (hg : u.ownBlock = some g) : g < w.heap.size := by
  obtain ⟨d, _, h1⟩ := h.some_ hu
  exact I.lt h1 g hg
/-- none of the blocks has turned -/
theorem OwL.same (I : Inner Ow1) (h : OwL Ow1 w lo us ds) (hs : ∀ (j : Nat) (u : Value) (g : Nat), us[j]? = some u → u.ownBlock = some g → w'.heap[g]? = w.heap[g]?) : OwL Ow1 w' lo us ds :=
  ⟨h.len, fun j u d hu hd => I.loc (h.el j u d hu hd) fun g hg => hs j u g hu hg, h.low, h.apart⟩
theorem OwL.below (I : Inner Ow1) (h : OwL Ow1 w lo us ds) (hb : Below w.heap.size w w') : OwL Ow1 w' lo us ds := h.same I fun j u g hu hg => hb.block g (h.lt I hu hg)
theorem OwL.mono (h : OwL Ow1 w lo us ds) {lo' : Nat} (hl : lo' ≤ lo) : OwL Ow1 w lo' us ds := ⟨h.len, h.el, fun j u g hu hg => Nat.le_trans hl (h.low j u g hu hg), h.apart⟩
/-- element j has grown: its value is u' now, in its block or in a new one -/
theorem OwL.upd (I : Inner Ow1) (h : OwL Ow1 w lo us ds) {j : Nat} {u u' : Value} {d' : D} (hu : us[j]? = some u) (hg : w.grownBy w' u.ownBlock) (h' : Ow1 w' u' d')
    (hnew : u'.ownBlock = none ∨ u'.ownBlock = u.ownBlock ∨ ∃ g, u'.ownBlock = some g ∧ w.heap.size ≤ g) (hlo : lo ≤ w.heap.size) : OwL Ow1 w' lo (us.set j u') (ds.set j d') := by
  have hjl : j < us.length := (List.getElem?_eq_some_iff.1 hu).1
  have ap : ∀ (i : Nat) (v : Value) (g : Nat), i ≠ j → us[i]? = some v → v.ownBlock = some g → u'.ownBlock ≠ some g := fun i v g hij hv hgv e => by
    rcases hnew with hn | hn | ⟨g', hn, hge⟩
    · rw [hn] at e; cases e
    · rw [hn] at e; exact h.apart i j v u g hij hv hu hgv e
    · rw [hn] at e; obtain rfl := Option.some.inj e
      have := h.lt I hv hgv
      omega
  refine ⟨by rw [List.length_set, List.length_set]; exact h.len, fun i v d hv hd => ?_, fun i v g hv hgv => ?_, fun i k v v' g hik hv hv' hgv => ?_⟩
  · by_cases hij : j = i
    · subst hij
      rw [List.getElem?_set_self hjl] at hv
      obtain rfl := Option.some.inj hv
      rw [List.getElem?_set_self'] at hd
      cases hdd : ds[j]? with
      | none => rw [hdd] at hd; cases hd
      | some x => rw [hdd] at hd; simp at hd; subst hd; exact h'
    · rw [List.getElem?_set_ne hij] at hd hv
      exact I.loc (h.el i v d hv hd) fun g hgg => hg.block g (I.lt (h.el i v d hv hd) g hgg) fun e => h.apart i j v u g (fun e => hij e.symm) hv hu hgg e.symm
  · by_cases hij : j = i
    · subst hij
      rw [List.getElem?_set_self hjl] at hv
      obtain rfl := Option.some.inj hv
      rcases hnew with hn | hn | ⟨g', hn, hge⟩
      · rw [hn] at hgv; cases hgv
      · rw [hn] at hgv; exact h.low j u g hu hgv
      · rw [hn] at hgv; obtain rfl := Option.some.inj hgv; omega
    · rw [List.getElem?_set_ne hij] at hv
      exact h.low i v g hv hgv
  · by_cases hij : j = i
    · subst hij
      rw [List.getElem?_set_self hjl] at hv
      obtain rfl := Option.some.inj hv
      rw [List.getElem?_set_ne hik] at hv'
      intro e
      exact ap k v' g (fun e => hik e.symm) hv' e hgv
    · rw [List.getElem?_set_ne hij] at hv
      by_cases hkj : j = k
      · subst hkj
        rw [List.getElem?_set_self hjl] at hv'
        obtain rfl := Option.some.inj hv'
        exact ap i v g (fun e => hij e.symm) hv hgv
      · rw [List.getElem?_set_ne hkj] at hv'
        exact h.apart i k v v' g hik hv hv' hgv
/-- a new element in a new block -/
theorem OwL.push (I : Inner Ow1) (h : OwL Ow1 w lo us ds) (hb : Below w.heap.size w w') {u' : Value} {d' : D} (h' : Ow1 w' u' d') (hnew : ∀ g, u'.ownBlock = some g → w.heap.size ≤ g) (hlo : lo ≤ w.heap.size) : OwL Ow1 w' lo (us ++ [u']) (ds ++ [d']) := by
  have h2 := h.below I hb
  have hl := h.len
  have key : ∀ (i : Nat) (v : Value), (us ++ [u'])[i]? = some v → (us[i]? = some v) ∨ (i = us.length ∧ v = u') := fun i v hv => by
    rw [List.getElem?_append] at hv
    split at hv
    · exact .inl hv
    · rename_i hi
      have : i - us.length = 0 := by
        rcases Nat.eq_zero_or_pos (i - us.length) with h | h
        · exact h
        · rw [List.getElem?_eq_none (by simp; omega)] at hv; cases hv
      rw [this] at hv
      exact .inr ⟨by omega, by simpa using hv.symm⟩
  refine ⟨by simp [hl], fun i v d hv hd => ?_, fun i v g hv hgv => ?_, fun i k v v' g hik hv hv' hgv e => ?_⟩
  · rcases key i v hv with hv | ⟨rfl, rfl⟩
    · have hi : i < us.length := (List.getElem?_eq_some_iff.1 hv).1
      rw [List.getElem?_append_left (by omega)] at hd
      exact h2.el i v d hv hd
    · rw [List.getElem?_append_right (by omega), hl, Nat.sub_self] at hd
      simp at hd; subst hd; exact h'
  · rcases key i v hv with hv | ⟨rfl, rfl⟩
    · exact h.low i v g hv hgv
    · have := hnew g hgv; omega
  · rcases key i v hv with hv1 | ⟨hi, hi2⟩
    · rcases key k v' hv' with hv2 | ⟨hk, hk2⟩
      · exact h.apart i k v v' g hik hv1 hv2 hgv e
      · rw [hk2] at e
        have := h.lt I hv1 hgv; have := hnew g e; omega
    · rcases key k v' hv' with hv2 | ⟨hk, hk2⟩
      · rw [hi2] at hgv
        have := h.lt I hv2 e; have := hnew g hgv; omega
      · exact hik (hi.trans hk.symm)
end
end Go.Proofs.Ytpognnifgcacnaa

/- PolygonOf: the flags of a polygon, by the reference and by the program. -/
namespace Go.Proofs.Ytpognnifgcacnaa
open Go.RowKit

end Go.Proofs.Ytpognnifgcacnaa

/- polygonOf, the program's; PolygonOf, both. -/
namespace Go.Proofs.Ytpognnifgcacnaa
open Go.RowKit

theorem ofInt_i64 (a : Nat) (ha : a < 9223372036854775808) : (BitVec.ofInt 64 (a : Int)).toNat = a := by
  rw [BitVec.ofInt_natCast, BitVec.toNat_ofNat]; exact Nat.mod_eq_of_lt (by omega)
theorem i64_xor_nat (a b : Nat) (ha : a < 9223372036854775808) (hb : b < 9223372036854775808) : bits .xor .i64 (a : Int) (b : Int) = ((a ^^^ b : Nat) : Int) := by
  have hx : a ^^^ b < 2 ^ 63 := Nat.xor_lt_two_pow (by omega) (by omega)
  show IntKind.i64.wrap ((BitVec.ofInt 64 (a : Int) ^^^ BitVec.ofInt 64 (b : Int)).toNat : Int) = _
  rw [BitVec.toNat_xor, ofInt_i64 a ha, ofInt_i64 b hb, IntKind.wrap_i64]
  omega
theorem xor_one_div (k : Nat) : (k ^^^ 1) / 2 = k / 2 := by rw [Nat.xor_div_two]; simp
theorem xor_one_mod (k : Nat) : (k ^^^ 1) % 2 = (k + 1) % 2 := by
  have h := Nat.xor_mod_two_pow (a := k) (b := 1) (n := 1)
  rw [Nat.pow_one] at h
  rcases Nat.mod_two_eq_zero_or_one k with e | e
  · rw [h, e]; have : (0 ^^^ 1 % 2) = 1 := by decide
    omega
  · rw [h, e]; have : (1 ^^^ 1 % 2) = 0 := by decide
    omega
theorem xor_one_even {k : Nat} (h : k % 2 = 0) : k ^^^ 1 = k + 1 := by
  have h1 := xor_one_div k
  have h2 := xor_one_mod k
  omega
theorem xor_one_odd {k : Nat} (h : k % 2 = 1) : k ^^^ 1 = k - 1 := by
  have h1 := xor_one_div k
  have h2 := xor_one_mod k
  omega
theorem xor1_even {k : Nat} (h : k % 2 = 0) (hk : k ≤ 1048576) : bits .xor .i64 (k : Int) 1 = (k : Int) + 1 := by
  have := i64_xor_nat k 1 (by omega) (by omega)
  rw [xor_one_even h] at this
  simpa using this
theorem xor1_odd {k : Nat} (h : k % 2 = 1) (hk : k ≤ 1048576) : bits .xor .i64 (k : Int) 1 = (k : Int) - 1 := by
  have := i64_xor_nat k 1 (by omega) (by omega)
  rw [xor_one_odd h] at this
  have e : ((k - 1 : Nat) : Int) = (k : Int) - 1 := by omega
  rw [e] at this
  simpa using this

end Go.Proofs.Ytpognnifgcacnaa

/- Maps of polygons: the lists of the program's walk, and its map from sides to their flags. -/
namespace Go.Proofs.Ytpognnifgcacnaa
open Go.RowKit

/-- the sides of the first n corners -/
def sdA (ps : List (List Int)) (c : Nat) : Int × Int := (((2 * c : Nat) : Int), ((2 * nxP ps c + 1 : Nat) : Int))
def sdL (ps : List (List Int)) (n : Nat) : List (Int × Int) := (List.range n).map (sdA ps)
theorem sdL_succ (ps : List (List Int)) (n : Nat) : sdL ps (n + 1) = sdL ps n ++ [sdA ps n] := by simp [sdL, List.range_succ]
theorem sdL_kA {ps : List (List Int)} {n j : Nat} (h : j < n) : kA (sdL ps n) j = ((2 * j : Nat) : Int) ∧ kB (sdL ps n) j = ((2 * nxP ps j + 1 : Nat) : Int) := by
  unfold kA kB sdL
  simp [h, sdA]
theorem etPair : ET2 Try.prog 170 171 16 := ⟨Try.underlying170, by kernel_rfl, by omega⟩
/-- the vertices and the sides, as they grow -/
structure VS (w wr : World) (ps : List (List Int)) (j c : Nat) (a1 : Option Addr) (c1 : Nat) (a2 : Option Addr) (c2 : Nat) : Prop where
  bx : Blk wr w.heap.size 41 #[.slice none 0 0]
  vx : Own wr (w.heap.size + 1) 2 a1 (begP ps j) c1 (((ps.take j).flatten).map (Value.int .i64))
  sd : Own2 wr (w.heap.size + 1) 171 a2 c c2 (sdL ps c)
  bel : Below w.heap.size w wr
theorem sizeP_any (ao : Option Addr) (n c : Nat) (w : World) : Calls Try.prog 139 #[.slice ao n c] w fun e w' => e = .returned (.int .i64 n) ∧ w' = w := by
  go_enter Try.func139, Try.ntmps139
  go_wp2
  go_ret
  exact ⟨rfl, rfl⟩
theorem own_typP {w : World} {lo E n c : Nat} {ao : Option Addr} {xs : List Value} (h : Own w lo E ao n c xs) {g : Nat} (hg : bk ao = some g) : ∃ cs, w.heap[g]? = some (.cells cs E (0, 0)) := by
  rcases h.1.2 with h2 | ⟨g', cap, cur, hv, _, hh, _⟩
  · have h2 := h2.1
    injection h2 with h3; subst h3; cases hg
  · injection hv with h3; subst h3
    obtain rfl := Option.some.inj hg
    exact ⟨cur, hh⟩
theorem own2_typP {w : World} {lo E n c : Nat} {ao : Option Addr} {ks : List (Int × Int)} (h : Own2 w lo E ao n c ks) {g : Nat} (hg : bk ao = some g) : ∃ cs, w.heap[g]? = some (.cells cs E (0, 0)) := by
  rcases h.1.2 with h2 | ⟨g', cap, cur, hv, _, hh, _⟩
  · have h2 := h2.1
    injection h2 with h3; subst h3; cases hg
  · injection hv with h3; subst h3
    obtain rfl := Option.some.inj hg
    exact ⟨cur, hh⟩
theorem own_own2 {w : World} {lo lo' E E' n c n' c' : Nat} {ao ao' : Option Addr} {xs : List Value} {ks : List (Int × Int)} (h : Own w lo E ao n c xs) (h' : Own2 w lo' E' ao' n' c' ks) (hE : E ≠ E') : ∀ g, bk ao = some g → bk ao' ≠ some g := fun g hg e => by
  obtain ⟨cs, h1⟩ := own_typP h hg
  obtain ⟨cs', h2⟩ := own2_typP h' e
  rw [h1] at h2
  injection h2 with h2
  injection h2 with _ h2
  exact hE h2
theorem flat_take {ps : List (List Int)} {j : Nat} (h : j < ps.length) : (ps.take (j + 1)).flatten = (ps.take j).flatten ++ lget ps j := by
  rw [take_lget h]; simp
section
variable {w wr w' : World} {ps : List (List Int)} {j c : Nat} {a1 : Option Addr} {c1 : Nat} {a2 : Option Addr} {c2 : Nat}
theorem VS.lt (h : VS w wr ps j c a1 c1 a2 c2) : w.heap.size + 1 ≤ wr.heap.size := by have := h.bx.lt; omega
theorem VS.vert (h : VS w wr ps j c a1 c1 a2 c2) (hj : j < ps.length) {a1' : Option Addr} {c1' : Nat} (ho : Own w' (w.heap.size + 1) 2 a1' (begP ps j + (lget ps j).length) c1' (((ps.take j).flatten).map (Value.int .i64) ++ (lget ps j).map (Value.int .i64))) (hg : wr.grownBy w' (bk a1)) : VS w w' ps (j + 1) c a1' c1' a2 c2 := by
  have hlt := h.lt
  have hne : ∀ g, bk a1 = some g → w.heap.size + 1 ≤ g := fun g e => (h.vx.lt g e).1
  refine ⟨?_, ?_, ?_, ?_⟩
  · exact (hg.block _ (by omega) fun e => by have := hne _ e.symm; omega).trans h.bx
  · rw [begP_succ hj, flat_take hj, List.map_append]; exact ho
  · exact h.sd.same fun g hgb => hg.block g (h.sd.lt g hgb).2 fun e => own_own2 h.vx h.sd (by decide) g e.symm hgb
  · exact h.bel.grown hg (by omega) fun k e => by have := hne k e; omega
theorem VS.side (h : VS w wr ps j c a1 c1 a2 c2) {a2' : Option Addr} {c2' : Nat} {u v : Int} (hu : u = ((2 * c : Nat) : Int)) (hv : v = ((2 * nxP ps c + 1 : Nat) : Int)) (ho : Own2 w' (w.heap.size + 1) 171 a2' (c + 1) c2' (sdL ps c ++ [(u, v)])) (hg : wr.grownBy w' (bk a2)) : VS w w' ps j (c + 1) a1 c1 a2' c2' := by
  have hlt := h.lt
  have hne : ∀ g, bk a2 = some g → w.heap.size + 1 ≤ g := fun g e => (h.sd.lt g e).1
  subst hu hv
  refine ⟨?_, ?_, ?_, ?_⟩
  · exact (hg.block _ (by omega) fun e => by have := hne _ e.symm; omega).trans h.bx
  · exact h.vx.same fun g hgb => hg.block g (h.vx.lt g hgb).2 fun e => own_own2 h.vx h.sd (by decide) g hgb e.symm
  · rw [sdL_succ]; exact ho
  · exact h.bel.grown hg (by omega) fun k e => by have := hne k e; omega
theorem VS.start (w : World) (ps : List (List Int)) : VS w (w.alloc (.cells #[.slice none 0 0] 41)) ps 0 0 none 0 none 0 :=
  ⟨blk_at rfl, by rw [begP_zero]; exact Own.nil_ _ _ _, Own2.nil_ _ _ _, below_alloc1 _ _⟩
end
end Go.Proofs.Ytpognnifgcacnaa

/- Maps of polygons: three rows of moves, and a map from sides to lists of sides. -/
namespace Go.Proofs.Ytpognnifgcacnaa
open Go.RowKit

/-- three rows of F numbers, in four blocks behind those of w1 -/
structure MS (w1 wr : World) (g0 r0 r1 r2 F : Nat) (z0 z1 z2 : List Int) : Prop where
  mx : Own wr w1.heap.size 49 (some ⟨g0, 0, none⟩) 3 3 [.slice (some ⟨r0, 0, none⟩) F F, .slice (some ⟨r1, 0, none⟩) F F, .slice (some ⟨r2, 0, none⟩) F F]
  o0 : Own wr w1.heap.size 2 (some ⟨r0, 0, none⟩) F F (z0.map (Value.int .i64))
  o1 : Own wr w1.heap.size 2 (some ⟨r1, 0, none⟩) F F (z1.map (Value.int .i64))
  o2 : Own wr w1.heap.size 2 (some ⟨r2, 0, none⟩) F F (z2.map (Value.int .i64))
  ne : (r0 ≠ r1 ∧ r0 ≠ r2 ∧ r1 ≠ r2) ∧ g0 ≠ r0 ∧ g0 ≠ r1 ∧ g0 ≠ r2
  top : g0 < w1.heap.size + 4 ∧ r0 < w1.heap.size + 4 ∧ r1 < w1.heap.size + 4 ∧ r2 < w1.heap.size + 4
  bel : Below w1.heap.size w1 wr
  sz : w1.heap.size + 4 ≤ wr.heap.size
section
variable {w w1 wr w' : World} {g0 r0 r1 r2 F : Nat} {z0 z1 z2 : List Int}
theorem bk_lit (g : Nat) : bk (some ⟨g, 0, none⟩) = some g := rfl
theorem MS.keep (h : MS w1 wr g0 r0 r1 r2 F z0 z1 z2) (hs : ∀ g, g < w1.heap.size + 4 → w'.heap[g]? = wr.heap[g]?) (hb : Below w1.heap.size w1 w') (hz : wr.heap.size ≤ w'.heap.size) : MS w1 w' g0 r0 r1 r2 F z0 z1 z2 := by
  obtain ⟨t0, t1, t2, t3⟩ := h.top
  refine ⟨h.mx.same fun g e => ?_, h.o0.same fun g e => ?_, h.o1.same fun g e => ?_, h.o2.same fun g e => ?_, h.ne, h.top, hb, Nat.le_trans h.sz hz⟩ <;> (rw [bk_lit] at e; injection e with e; subst e; exact hs _ (by assumption))
theorem MS.below (h : MS w1 wr g0 r0 r1 r2 F z0 z1 z2) (hb : Below wr.heap.size wr w') : MS w1 w' g0 r0 r1 r2 F z0 z1 z2 :=
  h.keep (fun g hg => hb.block g (by have := h.sz; omega)) (h.bel.trans (hb.mono (by have := h.sz; omega))) hb.size
theorem MS.only (h : MS w1 wr g0 r0 r1 r2 F z0 z1 z2) {l k : Nat} (ho : Only l k wr w') (hl : w1.heap.size + 4 ≤ l) : MS w1 w' g0 r0 r1 r2 F z0 z1 z2 :=
  h.keep (fun g hg => ho.block g (by have := h.sz; omega) (.inl (by omega))) (h.bel.trans (ho.below (by omega) (by have := h.sz; omega))) ho.size
theorem MS.st0 (h : MS w1 wr g0 r0 r1 r2 F z0 z1 z2) (k : Nat) (x : Int) : MS w1 (wr.setCell ⟨r0, k, none⟩ (.int .i64 x)) g0 r0 r1 r2 F (z0.set k x) z1 z2 := by
  obtain ⟨⟨n1, n2, n3⟩, n4, n5, n6⟩ := h.ne
  obtain ⟨s1, t1⟩ := h.o0.stored k (.int .i64 x)
  have hr := (h.o0.lt r0 rfl).1
  refine ⟨h.mx.kept t1 (.inr ?_), by rw [List.map_set]; exact s1, h.o1.kept t1 (.inr ?_), h.o2.kept t1 (.inr ?_), h.ne, h.top, h.bel.setCell (by exact hr) _, by simpa [World.setCell] using h.sz⟩ <;> (simp only [bk_lit]; intro e; injection e with e; omega)
theorem MS.st1 (h : MS w1 wr g0 r0 r1 r2 F z0 z1 z2) (k : Nat) (x : Int) : MS w1 (wr.setCell ⟨r1, k, none⟩ (.int .i64 x)) g0 r0 r1 r2 F z0 (z1.set k x) z2 := by
  obtain ⟨⟨n1, n2, n3⟩, n4, n5, n6⟩ := h.ne
  obtain ⟨s1, t1⟩ := h.o1.stored k (.int .i64 x)
  have hr := (h.o1.lt r1 rfl).1
  refine ⟨h.mx.kept t1 (.inr ?_), h.o0.kept t1 (.inr ?_), by rw [List.map_set]; exact s1, h.o2.kept t1 (.inr ?_), h.ne, h.top, h.bel.setCell (by exact hr) _, by simpa [World.setCell] using h.sz⟩ <;> (simp only [bk_lit]; intro e; injection e with e; omega)
theorem MS.st2 (h : MS w1 wr g0 r0 r1 r2 F z0 z1 z2) (k : Nat) (x : Int) : MS w1 (wr.setCell ⟨r2, k, none⟩ (.int .i64 x)) g0 r0 r1 r2 F z0 z1 (z2.set k x) := by
  obtain ⟨⟨n1, n2, n3⟩, n4, n5, n6⟩ := h.ne
  obtain ⟨s1, t1⟩ := h.o2.stored k (.int .i64 x)
  have hr := (h.o2.lt r2 rfl).1
  refine ⟨h.mx.kept t1 (.inr ?_), h.o0.kept t1 (.inr ?_), h.o1.kept t1 (.inr ?_), by rw [List.map_set]; exact s1, h.ne, h.top, h.bel.setCell (by exact hr) _, by simpa [World.setCell] using h.sz⟩ <;> (simp only [bk_lit]; intro e; injection e with e; omega)
theorem MS.cells (h : MS w1 wr g0 r0 r1 r2 F z0 z1 z2) : wr.cell? ⟨g0, 0, none⟩ = some (.slice (some ⟨r0, 0, none⟩) F F) ∧ wr.cell? ⟨g0, 1, none⟩ = some (.slice (some ⟨r1, 0, none⟩) F F) ∧ wr.cell? ⟨g0, 2, none⟩ = some (.slice (some ⟨r2, 0, none⟩) F F) := by
  obtain ⟨g', e, -, -, -, hc, -⟩ := h.mx.form (by omega)
  injection e with e; injection e with e; subst e
  exact ⟨hc 0 (by omega), hc 1 (by omega), hc 2 (by omega)⟩
theorem MS.int (w1 : World) {wr : World} {r F : Nat} {z : List Int} (h : Own wr w1.heap.size 2 (some ⟨r, 0, none⟩) F F (z.map (Value.int .i64))) {k : Nat} (hk : k < F) : wr.cell? ⟨r, k, none⟩ = some (.int .i64 (iget z k)) ∧ wr.frozen? ⟨r, k, none⟩ = false := by
  have hl := h.len
  rw [List.length_map] at hl
  obtain ⟨g', e, -, -, -, hc, hf⟩ := h.form (by omega)
  injection e with e; injection e with e; subst e
  refine ⟨?_, hf k⟩
  rw [hc k hk, List.getElem?_map, List.getElem?_eq_getElem (by omega), iget_lt (by omega)]; rfl
theorem MS.lens (h : MS w1 wr g0 r0 r1 r2 F z0 z1 z2) : z0.length = F ∧ z1.length = F ∧ z2.length = F := by
  have a := h.o0.len; have b := h.o1.len; have c := h.o2.len
  simp at a b c
  exact ⟨a, b, c⟩
theorem MS.owM (h : MS w1 wr g0 r0 r1 r2 F z0 z1 z2) {lo : Nat} (hlo : lo ≤ w1.heap.size) : OwM 2 49 wr lo wr.heap.size (.agg #[.slice (some ⟨g0, 0, none⟩) 3 3]) [z0, z1, z2] := by
  obtain ⟨⟨n1, n2, n3⟩, n4, n5, n6⟩ := h.ne
  have hsz := h.sz
  obtain ⟨t0, t1, t2, t3⟩ := h.top
  have b0 := (h.o0.lt r0 rfl).1; have b1 := (h.o1.lt r1 rfl).1; have b2 := (h.o2.lt r2 rfl).1
  refine ⟨_, _, _, _, rfl, { own := h.mx.mono hlo, top := fun g e => ?_, len := rfl, el := ?_, rng := ?_, out := ?_, apart := ?_ }⟩
  · rw [bk_lit] at e; injection e with e; omega
  · intro j u d hu hd
    match j, hu, hd with
    | 0, hu, hd => simp at hu hd; subst hu hd; exact ⟨_, _, _, rfl, h.o0.mono (Nat.zero_le _)⟩
    | 1, hu, hd => simp at hu hd; subst hu hd; exact ⟨_, _, _, rfl, h.o1.mono (Nat.zero_le _)⟩
    | 2, hu, hd => simp at hu hd; subst hu hd; exact ⟨_, _, _, rfl, h.o2.mono (Nat.zero_le _)⟩
  · intro j u hu g hg
    match j, hu with
    | 0, hu => simp at hu; subst hu; rw [ownBlock_slice, bk_lit] at hg; injection hg with hg; omega
    | 1, hu => simp at hu; subst hu; rw [ownBlock_slice, bk_lit] at hg; injection hg with hg; omega
    | 2, hu => simp at hu; subst hu; rw [ownBlock_slice, bk_lit] at hg; injection hg with hg; omega
  · intro j u g hu hg e
    rw [bk_lit] at e; injection e with e
    match j, hu with
    | 0, hu => simp at hu; subst hu; rw [ownBlock_slice, bk_lit] at hg; injection hg with hg; omega
    | 1, hu => simp at hu; subst hu; rw [ownBlock_slice, bk_lit] at hg; injection hg with hg; omega
    | 2, hu => simp at hu; subst hu; rw [ownBlock_slice, bk_lit] at hg; injection hg with hg; omega
  · intro i j u u' g hij hu hu' hg e
    have key : ∀ (j : Nat) (u : Value), [Value.slice (some ⟨r0, 0, none⟩) F F, .slice (some ⟨r1, 0, none⟩) F F, .slice (some ⟨r2, 0, none⟩) F F][j]? = some u → u.ownBlock = some g → (j = 0 ∧ g = r0) ∨ (j = 1 ∧ g = r1) ∨ (j = 2 ∧ g = r2) := fun j u hu hg => by
      match j, hu with
      | 0, hu => simp at hu; subst hu; rw [ownBlock_slice, bk_lit] at hg; injection hg with hg; exact .inl ⟨rfl, hg.symm⟩
      | 1, hu => simp at hu; subst hu; rw [ownBlock_slice, bk_lit] at hg; injection hg with hg; exact .inr (.inl ⟨rfl, hg.symm⟩)
      | 2, hu => simp at hu; subst hu; rw [ownBlock_slice, bk_lit] at hg; injection hg with hg; exact .inr (.inr ⟨rfl, hg.symm⟩)
    rcases key i u hu hg with ⟨a, b⟩ | ⟨a, b⟩ | ⟨a, b⟩ <;> rcases key j u' hu' e with ⟨c, d⟩ | ⟨c, d⟩ | ⟨c, d⟩ <;> omega
theorem madeI (W : World) {F g base : Nat} (hF : F ≤ 1000) (hg : W.heap.size = g) (hb : base ≤ W.heap.size) : Own (W.alloc (.cells (madeCells #[.int .i64 0] F) 2)) base 2 (some ⟨g, 0, none⟩) F F ((List.replicate F (0 : Int)).map (Value.int .i64)) := by
  rw [List.map_replicate]
  exact own_made (etI : ET Try.prog 49 2 (.int .i64 0) _) hg (by omega) hb
theorem MS.make (w1 : World) {F r0 r1 r2 : Nat} (hF : F ≤ 1000) (h0 : r0 = w1.heap.size ∨ r0 = w1.heap.size + 1 ∨ r0 = w1.heap.size + 2) (h1 : r1 = w1.heap.size ∨ r1 = w1.heap.size + 1 ∨ r1 = w1.heap.size + 2) (h2 : r2 = w1.heap.size ∨ r2 = w1.heap.size + 1 ∨ r2 = w1.heap.size + 2) (ne : r0 ≠ r1 ∧ r0 ≠ r2 ∧ r1 ≠ r2) :
    MS w1 ((((w1.alloc (.cells (madeCells #[.int .i64 0] F) 2)).alloc (.cells (madeCells #[.int .i64 0] F) 2)).alloc (.cells (madeCells #[.int .i64 0] F) 2)).alloc (.cells #[.slice (some ⟨r0, 0, none⟩) F F, .slice (some ⟨r1, 0, none⟩) F F, .slice (some ⟨r2, 0, none⟩) F F] 49)) (w1.heap.size + 3) r0 r1 r2 F (List.replicate F 0) (List.replicate F 0) (List.replicate F 0) := by
  have hro : ∀ r, r = w1.heap.size ∨ r = w1.heap.size + 1 ∨ r = w1.heap.size + 2 → Own ((((w1.alloc (.cells (madeCells #[.int .i64 0] F) 2)).alloc (.cells (madeCells #[.int .i64 0] F) 2)).alloc (.cells (madeCells #[.int .i64 0] F) 2)).alloc (.cells #[.slice (some ⟨r0, 0, none⟩) F F, .slice (some ⟨r1, 0, none⟩) F F, .slice (some ⟨r2, 0, none⟩) F F] 49)) w1.heap.size 2 (some ⟨r, 0, none⟩) F F ((List.replicate F (0 : Int)).map (Value.int .i64)) := fun r hr => by
    rcases hr with rfl | rfl | rfl
    · exact (((madeI w1 hF rfl (Nat.le_refl _)).alloc _).alloc _).alloc _
    · exact ((madeI _ hF (by simp) (by simp)).alloc _).alloc _
    · exact (madeI _ hF (by simp) (by simp; omega)).alloc _
  refine ⟨?_, hro r0 h0, hro r1 h1, hro r2 h2, ⟨ne, by omega, by omega, by omega⟩, by omega, ?_, by simp⟩
  · exact own_lit (us := [.slice (some ⟨r0, 0, none⟩) F F, .slice (some ⟨r1, 0, none⟩) F F, .slice (some ⟨r2, 0, none⟩) F F]) (by simp) (by simp; omega) (by simp)
  · exact (below_alloc3 w1 _ _ _).alloc (by simp; omega) _
theorem MS.drew (h : MS w1 wr g0 r0 r1 r2 F z0 z1 z2) : MS w1 wr.drew g0 r0 r1 r2 F z0 z1 z2 := h.below (below_drew1 wr)
end
end Go.Proofs.Ytpognnifgcacnaa

/- Maps of polygons: maps from pairs to slices. -/
namespace Go.Proofs.Ytpognnifgcacnaa
open Go.RowKit

def kv (k : Int × Int) : Value := .agg #[.int .i64 k.1, .int .i64 k.2]
theorem kv_eq (k l : Int × Int) (w : World) : (Op.equalIn 10000 171 (kv k) (kv l)).run Try.prog w = .ok (decide (k = l)) w := by
  obtain ⟨x, y⟩ := k
  obtain ⟨x', y'⟩ := l
  rw [kv, kv, show (10000 : Nat) = 9999 + 1 from rfl, Op.equalIn]
  simp only [Sem.run_bind, run_underlying Try.underlying171, Result.andThen_ok]
  simp only [Std.Legacy.Range.forIn_eq_forIn_range', Std.Legacy.Range.size, Nat.sub_zero, Nat.add_sub_cancel, Nat.div_one, List.range'_succ, List.range'_zero, List.forIn_cons, List.forIn_nil]
  go_simp
  by_cases h1 : x = x' <;> by_cases h2 : y = y' <;> simp [h1, h2]
theorem kv_check (b : Bool) (k : Int × Int) (w : World) : (Instr.checkKey b 10000 171 (kv k)).run Try.prog w = .ok () w := by
  obtain ⟨x, y⟩ := k
  have u := run_underlying (P := Try.prog) Try.underlying2
  rw [kv]
  have h : ∀ n, (Instr.checkKey b (n + 1 + 1) 171 (.agg #[.int .i64 x, .int .i64 y])).run Try.prog w = .ok () w := fun n => by
    rw [Instr.checkKey]
    simp only [Sem.run_bind, run_underlying Try.underlying171, Result.andThen_ok]
    simp only [Std.Legacy.Range.forIn_eq_forIn_range', Std.Legacy.Range.size, Nat.sub_zero, Nat.add_sub_cancel, Nat.div_one, List.range'_succ, List.range'_zero, List.forIn_cons, List.forIn_nil]
    simp [Instr.checkKey, go_sem, run_underlying Try.underlying2]
  exact h 9998
/-- where a key is -/
def fndK (k : Int × Int) : List (Int × Int) → Nat → Option Nat
  | [], _ => none
  | a :: r, i => if k = a then some i else fndK k r (i + 1)
/-- the block holds a map of these keys to these values -/
def MapG (w : World) (b : Nat) (ks : List (Int × Int)) (us : List Value) : Prop :=
  ∃ es clock, w.heap[b]? = some (.map es clock) ∧ es.toList.map (·.key) = ks.map kv ∧ es.toList.map (·.val) = us ∧ (∀ e ∈ es.toList, e.born < clock) ∧ (es.toList.map (·.born)).Nodup
theorem MapG.lt {w : World} {b : Nat} {ks : List (Int × Int)} {us : List Value} (h : MapG w b ks us) : b < w.heap.size := by
  obtain ⟨es, k, hb, _⟩ := h
  exact (Array.getElem?_eq_some_iff.1 hb).1
theorem MapG.same {w w' : World} {b : Nat} {ks : List (Int × Int)} {us : List Value} (h : MapG w b ks us) (hs : w'.heap[b]? = w.heap[b]?) : MapG w' b ks us := by
  obtain ⟨es, k, hb, r⟩ := h
  exact ⟨es, k, hs.trans hb, r⟩
theorem MapG.lens {w : World} {b : Nat} {ks : List (Int × Int)} {us : List Value} (h : MapG w b ks us) : us.length = ks.length := by
  obtain ⟨es, c, hb, h1, h2, _⟩ := h
  have := congrArg List.length h1
  have := congrArg List.length h2
  simp at *; omega
theorem MapG.new (w : World) : MapG (w.alloc (.map #[] 0)) w.heap.size [] [] := ⟨#[], 0, heap_alloc_new w _, rfl, rfl, by simp, by simp⟩
def uget (us : List Value) (m : Nat) : Value := us.getD m (.slice none 0 0)
theorem fndK_sh (k : Int × Int) : ∀ (r : List (Int × Int)) (n m : Nat), fndK k r (n + m) = (fndK k r n).map (· + m)
  | [], n, m => rfl
  | c :: r, n, m => by
    unfold fndK
    split
    · rfl
    · rw [show n + m + 1 = (n + 1) + m by omega]; exact fndK_sh k r (n + 1) m
theorem findG_run (k : Int × Int) (w : World) : ∀ (es : List MapEntry) (ks : List (Int × Int)) (us : List Value) (i : Nat), es.map (·.key) = ks.map kv → es.map (·.val) = us → (Instr.findAsking 171 (kv k) es i).run Try.prog w = .ok ((fndK k ks 0).map fun m => (i + m, uget us m)) w
  | [], ks, us, i, h, hu => by
    cases ks with
    | nil => simp [Instr.findAsking, fndK, Sem.run_pure]
    | cons a r => simp at h
  | e :: es, ks, us, i, h, hu => by
    cases ks with
    | nil => simp at h
    | cons a r =>
      simp at h hu
      subst hu
      have ih := findG_run k w es r _ (i + 1) h.2 rfl
      simp only [Instr.findAsking, Sem.run_bind, h.1, Op.equal, Op.maxDepth, kv_eq, Result.andThen_ok]
      by_cases hk : k = a
      · simp [hk, fndK, Sem.run_pure, uget]
      · rw [decide_eq_false hk]
        simp only [Bool.false_eq_true, if_false]
        rw [ih]
        have := fndK_sh k r 0 1
        simp only [fndK, hk, if_false]
        rw [this]
        cases fndK k r 0 with
        | none => rfl
        | some m => simp [uget]; omega
theorem keyG_run (k : Int × Int) (w : World) {es : List MapEntry} {ks : List (Int × Int)} {us : List Value} (h : es.map (·.key) = ks.map kv) (hu : es.map (·.val) = us) : (Instr.findKey 171 (kv k) es).run Try.prog w = .ok ((fndK k ks 0).map fun m => (m, uget us m)) w := by
  have hr := findG_run k w es ks us 0 h hu
  simp only [Nat.zero_add] at hr
  unfold Instr.findKey
  simp only [Sem.run_bind, run_underlying Try.underlying171, Result.andThen_ok]
  cases es with
  | nil =>
    cases ks with
    | nil => rfl
    | cons a r => simp at h
  | cons e es => exact hr
theorem lookG_run (k : Int × Int) {w : World} {b : Nat} {ks : List (Int × Int)} {us : List Value} (h : MapG w b ks us) :
    (Instr.lookup 172 (.map (some b)) (kv k) false).run Try.prog w = .ok (match fndK k ks 0 with | some m => uget us m | none => .slice none 0 0) w := by
  obtain ⟨es, clock, hb, hm, hu, _⟩ := h
  have hz : (zeroValue 170).run Try.prog w = .ok (.slice none 0 0) w := by simp [go_sem, run_underlying Try.underlying170]
  have hk := keyG_run k w hm hu
  cases hf : fndK k ks 0 with
  | none =>
    rw [hf] at hk
    simp [Instr.lookup, run_underlying Try.underlying172, MapKept.run_getObj_map hb, kv_check, hk, hz, Result.andThen]
  | some m =>
    rw [hf] at hk
    simp [Instr.lookup, run_underlying Try.underlying172, MapKept.run_getObj_map hb, kv_check, hk, Result.andThen]
theorem fndK_lt (k : Int × Int) : ∀ (ks : List (Int × Int)) (m : Nat), fndK k ks 0 = some m → m < ks.length ∧ ks[m]? = some k
  | [], m, h => by simp [fndK] at h
  | a :: r, m, h => by
    unfold fndK at h
    split at h
    · rename_i e; injection h with h; subst h; exact ⟨by simp, by rw [e]; rfl⟩
    · rw [fndK_sh k r 0 1] at h
      cases hf : fndK k r 0 with
      | none => rw [hf] at h; simp at h
      | some q =>
        rw [hf] at h; simp at h; subst h
        obtain ⟨h1, h2⟩ := fndK_lt k r q hf
        exact ⟨by simp; omega, by simpa using h2⟩
theorem kv_bits (k : Int × Int) (n : Nat) : Instr.sameBits (n + 2) (kv k) (kv k) = true := by
  simp [kv, Instr.sameBits]
theorem putG_old (k : Int × Int) {w : World} {b m : Nat} {ks : List (Int × Int)} {us : List Value} (h : MapG w b ks us) (hf : fndK k ks 0 = some m) (v : Value) :
    ∃ o, (Instr.mapUpdate 172 (.map (some b)) (kv k) v).run Try.prog w = .ok () (Go.ChangeMaps.setBlock w b o) ∧ MapG (Go.ChangeMaps.setBlock w b o) b ks (us.set m v) := by
  have hlt := h.lt
  obtain ⟨es, clock, hb, hm, hu, hbn, hnd⟩ := h
  have hk := keyG_run k w hm hu
  rw [hf] at hk
  obtain ⟨hml, hmk⟩ := fndK_lt k ks m hf
  have hel : es.size = ks.length := by have := congrArg List.length hm; simpa using this
  have hme : m < es.size := by omega
  have hkey : es[m].key = kv k := by
    have h1 := congrArg (fun l => l[m]?) hm
    simp [hml, hme] at h1
    rw [List.getElem?_eq_getElem hml] at hmk
    have hmk2 : ks[m] = k := Option.some.inj hmk
    rw [hmk2] at h1
    exact h1
  have hm2 : ((es.modify m fun e => { e with key := kv k, val := v }).toList.map (·.key)) = ks.map kv := by
    rw [← hm]
    apply List.ext_getElem?
    intro i
    simp [Array.getElem?_modify, List.getElem?_modify]
    by_cases hi : m = i
    · subst hi; simp [hme, hkey]
    · simp [hi]; rfl
  have hu2 : ((es.modify m fun e => { e with key := kv k, val := v }).toList.map (·.val)) = us.set m v := by
    rw [← hu]
    apply List.ext_getElem?
    intro i
    simp [List.getElem?_modify, List.getElem?_set]
    by_cases hi : m = i
    · subst hi; simp [hme]
    · simp [hi]; rfl
  have hb2 : ((es.modify m fun e => { e with key := kv k, val := v }).toList.map (·.born)) = es.toList.map (·.born) := by
    apply List.ext_getElem?
    intro i
    simp [List.getElem?_modify]
    by_cases hi : m = i
    · subst hi; simp [hme]
    · simp [hi]; rfl
  refine ⟨.map (es.modify m fun e => { e with key := kv k, val := v }) clock, ?_, ?_⟩
  · have hkeep : (Instr.keyThatStays (kv k) (kv k)).run Try.prog w = .ok (kv k) w := by
      unfold Instr.keyThatStays
      rw [show (10000 : Nat) = 9998 + 2 from rfl, kv_bits]
      rfl
    simp [Instr.mapUpdate, run_underlying Try.underlying172, MapKept.run_getObj_map hb, kv_check, hk, MapKept.run_setObj_map _ hb, Result.andThen, Go.ChangeMaps.setBlock, hme, hkey, hkeep]
  · refine ⟨es.modify m fun e => { e with key := kv k, val := v }, clock, by simp [Go.ChangeMaps.setBlock, hlt], hm2, hu2, ?_, by rw [hb2]; exact hnd⟩
    intro e he
    have : e.born ∈ es.toList.map (·.born) := by rw [← hb2]; exact List.mem_map_of_mem he
    obtain ⟨e', he', hee⟩ := List.mem_map.1 this
    have := hbn e' he'
    omega
theorem putG_new (k : Int × Int) {w : World} {b : Nat} {ks : List (Int × Int)} {us : List Value} (h : MapG w b ks us) (hf : fndK k ks 0 = none) (v : Value) :
    ∃ o, (Instr.mapUpdate 172 (.map (some b)) (kv k) v).run Try.prog w = .ok () (Go.ChangeMaps.setBlock w b o) ∧ MapG (Go.ChangeMaps.setBlock w b o) b (ks ++ [k]) (us ++ [v]) := by
  have hlt := h.lt
  obtain ⟨es, clock, hb, hm, hu, hbn, hnd⟩ := h
  have hk := keyG_run k w hm hu
  rw [hf] at hk
  refine ⟨.map (es.push { key := kv k, val := v, born := clock }) (clock + 1), ?_, ?_⟩
  · simp [Instr.mapUpdate, run_underlying Try.underlying172, MapKept.run_getObj_map hb, kv_check, hk, MapKept.run_setObj_map _ hb, Result.andThen, Go.ChangeMaps.setBlock]
  · refine ⟨es.push { key := kv k, val := v, born := clock }, clock + 1, by simp [Go.ChangeMaps.setBlock, hlt], by simp [hm], by simp [hu], ?_, ?_⟩
    · intro e he
      simp at he
      rcases he with he | he
      · have := hbn e (by simpa using he); omega
      · subst he; exact Nat.lt_succ_self _
    · simp only [Array.toList_push, List.map_append, List.map_cons, List.map_nil]
      rw [List.nodup_append]
      refine ⟨hnd, by simp, fun a ha c hc => ?_⟩
      simp at hc
      obtain ⟨e, he, hee⟩ := List.mem_map.1 ha
      have := hbn e he
      omega
theorem only_blockG (w : World) (b : Nat) (o : Obj) : Only b (b + 1) w (Go.ChangeMaps.setBlock w b o) := by
  refine ⟨rfl, rfl, rfl, by simp [Go.ChangeMaps.setBlock], fun k hk hd => ?_⟩
  simp [Go.ChangeMaps.setBlock, Array.getElem?_setIfInBounds]
  intro h; omega
section
variable (w : World) {ops : Array Oper} {rest : List Oper} {o : Oper} {a : Act} {Q : Exit → Act → World → Prop}
end
/-- the move that changes the edge at a corner -/
def x1P (f : Nat) : Int := if f % 2 = 0 then (f : Int) + 1 else (f : Int) - 1
theorem oneL_of {z : List Int} {N : Nat} (hl : z.length = 2 * N) (h : ∀ i, i < 2 * N → iget z i = x1P i) : z = oneL N := by
  refine iget_ext (by rw [hl]; exact (dupL_len _ _ _).symm) fun k hk => ?_
  rw [h k (by omega)]
  obtain ⟨a, b⟩ := dupL_get (fun c => ((2 * c + 1 : Nat) : Int)) (fun c => ((2 * c : Nat) : Int)) N (k / 2) (by omega)
  unfold x1P
  split
  · have e : 2 * (k / 2) = k := by omega
    rw [e] at a
    show _ = iget (dupL _ _ N) k
    rw [a]; omega
  · have e : 2 * (k / 2) + 1 = k := by omega
    rw [e] at b
    show _ = iget (dupL _ _ N) k
    rw [b]; omega
end Go.Proofs.Ytpognnifgcacnaa

/- Maps of polygons: the state of the loop over sides. -/
namespace Go.Proofs.Ytpognnifgcacnaa
open Go.RowKit

/-- one struct more, at the end of a row of the call's own, in a region that draws its order -/
theorem step_apP {P : Program} {S E : TypeId} {bytes : Nat} (et : ET2 P S E bytes) {ops : Array Oper} {o : Oper} {a : Act} {Q : Exit → Act → World → Prop} {w : World} {K : Act → World → Prop} {X : Prop} (hg : o.guard = none) (s x : Operand) (ho : o.op = .call { callee := .builtin .append, args := #[s, x], argTypes := #[S, S] })
    (base : Nat) (ao : Option Addr) (n c : Nat) (ks : List (Int × Int)) (hs : a.eval s = .slice ao n c) (hown : Own2 w base E ao n c ks) (u v : Int) (xb xc : Nat)
    (hx : a.eval x = .slice (some ⟨xb, 0, none⟩) 1 xc) (hc : w.cell? ⟨xb, 0, none⟩ = some (.int .i64 u)) (hc2 : w.cell? ⟨xb, 1, none⟩ = some (.int .i64 v)) (hn : n + 1 ≤ 4398046511104) (hbase : base ≤ w.heap.size)
    (h : ∀ ao' c' w', Own2 w' base E ao' (n + 1) c' (ks ++ [(u, v)]) → w.grownBy w' (bk ao) → (bk ao' = bk ao ∨ bk ao' = some w.heap.size) → K (a.put o.dst (.slice ao' (n + 1) c')) w') : if Region.wanted o (yielded ops a.tmps) = true then Oper.wp P o a w K Q else X := by
  obtain ⟨i, hi, hz, hsz, hby⟩ := info_parts et.info
  have hw : Region.wanted o (yielded ops a.tmps) = true := by simp [Region.wanted, hg]
  rw [if_pos hw]
  obtain ⟨v', w', hr, h2, h3, h4, h5⟩ := run_append_own_at (P := P) w base S o.type E i (.agg #[.int .i64 0, .int .i64 0]) 2 bytes et.und hi hz hsz hby rfl (by omega) (.slice ao n c) n (ivals (pflat ks)) hown.1 ⟨xb, 0, none⟩ 1 xc [.int .i64 u, .int .i64 v] rfl
    (by
      intro j u' hu'
      match j, hu' with
      | 0, hu' => simp at hu'; subst hu'; rw [Addr.add_lit]; exact hc
      | 1, hu' => simp at hu'; subst hu'; rw [Addr.add_lit]; exact hc2)
    (by intro y hy; simp at hy; rcases hy with rfl | rfl <;> rfl) (by simp [maxLen]; omega) (by have := et.small; have : (n + 1) * bytes ≤ (n + 1) * 32 := Nat.mul_le_mul_left _ this; omega) hbase
  unfold Oper.wp execOp
  simp only [ho, resolve, invoke, builtin, Sem.run_bind, Sem.run_pure, Result.andThen_ok, List.map_toArray, List.map_cons, List.map_nil, hs, hx, hr]
  have e : ivals (pflat ks) ++ [.int .i64 u, .int .i64 v] = ivals (pflat (ks ++ [(u, v)])) := by simp [pflat, ivals]
  rw [e] at h2
  obtain ⟨g, cap, rfl, hb, hlt⟩ := h2.form (by omega)
  rw [ownBlock_slice] at h3
  refine h _ _ _ ⟨h2, hn⟩ h3 ?_
  rw [ownBlock_slice, ownBlock_slice] at h5
  exact h5

theorem by_tail {α β γ δ : Type} {H : α → β → Prop} (G : α → β → γ → δ → Prop) {R : Prop} (main : (∀ a b c d, H a b → G a b c d) → R) (tl : ∀ a b c d, H a b → G a b c d) : R := main tl
theorem own2_up {w : World} {lo E n c : Nat} {ao : Option Addr} {ks : List (Int × Int)} (h : Own2 w 0 E ao n c ks) (hl : ∀ g, bk ao = some g → lo ≤ g) : Own2 w lo E ao n c ks := by
  refine ⟨⟨h.1.1, ?_⟩, h.2⟩
  rcases h.1.2 with h2 | ⟨g, cap, cur, hv, _, r⟩
  · exact .inl h2
  · refine .inr ⟨g, cap, cur, hv, ?_, r⟩
    injection hv with h3
    subst h3
    exact hl g rfl
/-- side c, from its lesser vertex; its vertices -/
def nrmS (ps : List (List Int)) (c : Nat) : Int × Int := if vtx ps (nxP ps c) < vtx ps c then (((2 * nxP ps c + 1 : Nat) : Int), ((2 * c : Nat) : Int)) else (((2 * c : Nat) : Int), ((2 * nxP ps c + 1 : Nat) : Int))
def keyS (ps : List (List Int)) (c : Nat) : Int × Int := if vtx ps (nxP ps c) < vtx ps c then (vtx ps (nxP ps c), vtx ps c) else (vtx ps c, vtx ps (nxP ps c))
/-- the sides of the first n corners, by their vertices -/
def gF (ps : List (List Int)) : Nat → List (Int × Int) × List (List (Int × Int))
  | 0 => ([], [])
  | c + 1 => match fndK (keyS ps c) (gF ps c).1 0 with
    | some m => ((gF ps c).1, (gF ps c).2.set m (lget (gF ps c).2 m ++ [nrmS ps c]))
    | none => ((gF ps c).1 ++ [keyS ps c], (gF ps c).2 ++ [[nrmS ps c]])
def z0F (ps : List (List Int)) (N : Nat) : Nat → List Int
  | 0 => List.replicate (2 * N) 0
  | c + 1 => ((z0F ps N c).set (2 * c) ((2 * nxP ps c + 1 : Nat) : Int)).set (2 * nxP ps c + 1) ((2 * c : Nat) : Int)
structure DS (wB wi : World) (g0 r0 r1 r2 N mb : Nat) (ps : List (List Int)) (c : Nat) (us : List Value) : Prop where
  ms : MS wB wi g0 r0 r1 r2 (2 * N) (z0F ps N c) (oneL N) (List.replicate (2 * N) 0)
  mg : MapG wi mb (gF ps c).1 us
  ol : OwL (OwTs 171) wi (mb + 1) us (gF ps c).2
section
variable {wB wi w' : World} {g0 r0 r1 r2 N mb : Nat} {ps : List (List Int)} {c : Nat} {us : List Value}
/-- what keeps the blocks keeps all -/
theorem DS.below (h : DS wB wi g0 r0 r1 r2 N mb ps c us) (hb : Below wi.heap.size wi w') : DS wB w' g0 r0 r1 r2 N mb ps c us :=
  ⟨h.ms.below hb, h.mg.same (hb.block mb h.mg.lt), h.ol.below (innerTs _) hb⟩
/-- the two moves of a side -/
theorem DS.moves (h : DS wB wi g0 r0 r1 r2 N mb ps c us) (hmb : wB.heap.size + 4 ≤ mb) (k l : Nat) (x y : Int) : MS wB ((wi.setCell ⟨r0, k, none⟩ (.int .i64 x)).setCell ⟨r0, l, none⟩ (.int .i64 y)) g0 r0 r1 r2 (2 * N) (((z0F ps N c).set k x).set l y) (oneL N) (List.replicate (2 * N) 0) ∧ MapG ((wi.setCell ⟨r0, k, none⟩ (.int .i64 x)).setCell ⟨r0, l, none⟩ (.int .i64 y)) mb (gF ps c).1 us ∧ OwL (OwTs 171) ((wi.setCell ⟨r0, k, none⟩ (.int .i64 x)).setCell ⟨r0, l, none⟩ (.int .i64 y)) (mb + 1) us (gF ps c).2 := by
  have hr := h.ms.top.2.1
  have hs : ∀ g, g ≠ r0 → ((wi.setCell ⟨r0, k, none⟩ (.int .i64 x)).setCell ⟨r0, l, none⟩ (.int .i64 y)).heap[g]? = wi.heap[g]? := fun g hg => (Below.heap_setCell _ _ _ g (by exact hg)).trans (Below.heap_setCell _ _ _ g (by exact hg))
  exact ⟨(h.ms.st0 k x).st0 l y, h.mg.same (hs mb (by omega)), h.ol.same (innerTs _) fun j u g hu hg => hs g (by have := h.ol.low j u g hu hg; omega)⟩
end
end Go.Proofs.Ytpognnifgcacnaa
