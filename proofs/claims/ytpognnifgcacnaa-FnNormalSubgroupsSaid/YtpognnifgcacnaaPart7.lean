/- GroupOrder, IndexOfSubgroup: the program's functions, and all four in words. -/
import Derived.Test.YtpognnifgcacnaaPart6
import Derived.Test.YtpognnifgcacnaaPart3
import Derived.Test.YtpognnifgcacnaaProg
import Derived.Test.YtpognnifgcacnaaPart1
import Derived.Test.YtpognnifgcacnaaPart5
import Derived.Lib.AppendZeros
import Derived.Deep.AppendLies
import Derived.RegionTactic
namespace Go.Proofs.Ytpognnifgcacnaa
open Go.RowKit

set_option maxRecDepth 100000 in
set_option maxHeartbeats 1000000 in
theorem implIndex_fc (g : Int) (rels ws : List (List Int)) (h1 : Fit rels) (h2 : Fit ws) :
    FC Try.prog 65 [(1002, rowsRo ws), (1003, rowsRo rels)] [pA g rels.length, o1 (.sl 1002 0 ws.length)] [] (.tup [.one (.val (I6 (idxR (g, rels) ws))), .one (.val (I6 (idxC (g, rels) ws)))]) [] := by
  have hC := implCode_fc g rels ws h1 h2
  refine fc_enter (nt := 27) Try.func65 rfl rfl (by simp) fun w0 ω0 => ?_
  by_cases hok : withOk (g, rels) ws = true
  · obtain ⟨ng, rfl, hG⟩ := good_of hok
    rw [withC_ok hok] at hC
    unfold idxR idxC
    rw [if_pos hok, if_pos hok]
    (refine goes_seq ?_; refine goes_region ?_; apply run_step rfl; (exact stp_box rfl rfl rfl rfl); apply run_step rfl; (exact stp_assign rfl rfl); apply run_step rfl; (exact stp_assign rfl rfl); refine run_nil ?_; refine fin_seq ?_; refine goes_seq ?_; refine goes_seq ?_; refine goes_region ?_; apply run_step rfl; (exact stp_loadAgg rfl rfl rfl rfl rfl rfl (by as_aux_lemma => kernel_rfl)); apply run_step rfl; (exact stp_move rfl rfl); apply run_step rfl; (apply call_gate 111; exact stp_callR hC (by as_aux_lemma => kernel_rfl) rfl rfl ⟨⟨.inl rfl, .inl rfl, trivial⟩, rfl, trivial⟩ ⟨⟨_, rfl, .inl rfl⟩, ⟨_, rfl, .inl rfl⟩, trivial⟩ rfl rfl); apply run_step rfl; (exact stp_assign rfl rfl); refine run_nil ?_; refine fin_seq ?_; refine goes_seq ?_; refine goes_region ?_; apply run_step rfl; (exact stp_move rfl rfl); apply run_step rfl; (exact stp_bin rfl rfl rfl rfl); refine run_nil ?_; refine fin_seq ?_)
    refine goes_cond rfl (fun e => by cases e) (fun _ => ?_)
    have hX : cosX ((ng : Int), rels) ws = runC ng rels ws := by unfold cosX; rw [Int.toNat_natCast]
    rw [hX]
    cases hf : (runC ng rels ws).2.2 with
    | true =>
      have hT := implTable_no hG hf
      rw [if_pos rfl, if_pos rfl]
      (refine goes_skip ?_; refine fin_seq ?_; refine goes_seq ?_; refine goes_region ?_; apply run_step rfl; (exact stp_loadAgg rfl rfl rfl rfl rfl rfl (by as_aux_lemma => kernel_rfl)); apply run_step rfl; (exact stp_move rfl rfl); apply run_step rfl; (apply call_gate 138; exact stp_callR hT (by as_aux_lemma => kernel_rfl) rfl rfl ⟨⟨.inl rfl, .inl rfl, trivial⟩, rfl, trivial⟩ ⟨⟨_, rfl, .inl rfl⟩, ⟨_, rfl, .inl rfl⟩, trivial⟩ rfl rfl); apply run_step rfl; (exact stp_move rfl rfl); apply run_step rfl; (exact stp_extract rfl rfl rfl); apply run_step rfl; (exact stp_extract rfl rfl rfl); apply run_step rfl; (exact stp_assign rfl rfl); apply run_step rfl; (exact stp_assign rfl rfl); refine run_nil ?_; refine fin_seq ?_; refine goes_seq ?_; refine goes_seq ?_; refine goes_region ?_; apply run_step rfl; (exact stp_move rfl rfl); apply run_step rfl; (exact stp_not rfl rfl); refine run_nil ?_; refine fin_seq ?_)
      refine goes_cond rfl (fun _ => ?_) (fun e => by cases e)
      (refine goes_seq ?_; refine goes_region ?_; apply run_step rfl; (exact stp_assign rfl rfl); apply run_step rfl; (exact stp_assign rfl rfl); refine run_nil ?_; refine fin_seq ?_; refine goes_ret ?_; refine fin_ret_then ?_)
      exact fin_ret2 (.inl rfl) rfl (.tmp rfl) (.tmp rfl) trivial trivial
    | false =>
      have hT := implTable_yes hG hf
      have hN : cosN ((ng : Int), rels) ws = (lget (tableC ng (runC ng rels ws).1 (runC ng rels ws).2.1) 0).length := by
        unfold cosN; rw [hX, Int.toNat_natCast, tableC_rowlen _ _ hG.pos]
      rw [if_neg (by simp), if_neg (by simp), hN]
      have hrow : (irows (tableC ng (runC ng rels ws).1 (runC ng rels ws).2.1))[0]? = some (ivals (lget (tableC ng (runC ng rels ws).1 (runC ng rels ws).2.1) 0)) := irows_get (by rw [tableC_length]; exact hG.pos)
      have hlen : (irows (tableC ng (runC ng rels ws).1 (runC ng rels ws).2.1)).length = ng := by rw [irows_len, tableC_length]
      have hpos := hG.pos
      generalize tableC ng (runC ng rels ws).1 (runC ng rels ws).2.1 = T at *
      have hS := sizeE_fc 131 0 (lget T 0).length
      (refine goes_skip ?_; refine fin_seq ?_; refine goes_seq ?_; refine goes_region ?_; apply run_step rfl; (exact stp_loadAgg rfl rfl rfl rfl rfl rfl (by as_aux_lemma => kernel_rfl)); apply run_step rfl; (exact stp_move rfl rfl); apply run_step rfl; (apply call_gate 138; exact stp_callN hT (by as_aux_lemma => kernel_rfl) rfl rfl ⟨⟨.inl rfl, .inl rfl, trivial⟩, rfl, trivial⟩ ⟨⟨_, rfl, .inl rfl⟩, ⟨_, rfl, .inl rfl⟩, trivial⟩ rfl rfl rfl); apply run_step rfl; (exact stp_move rfl rfl); apply run_step rfl; (exact stp_extract rfl rfl rfl); apply run_step rfl; (exact stp_extract rfl rfl rfl); apply run_step rfl; (exact stp_assign rfl rfl); apply run_step rfl; (exact stp_assign rfl rfl); refine run_nil ?_; refine fin_seq ?_; refine goes_seq ?_; refine goes_seq ?_; refine goes_region ?_; apply run_step rfl; (exact stp_move rfl rfl); apply run_step rfl; (exact stp_not rfl rfl); refine run_nil ?_; refine fin_seq ?_)
      refine goes_cond rfl (fun e => by cases e) (fun _ => ?_)
      (refine goes_skip ?_; refine fin_seq ?_; refine goes_seq ?_; refine goes_region ?_; apply run_step rfl; (exact stp_move rfl rfl); apply run_step rfl; (first | exact stp_ix (j := 0) rfl rfl rfl rfl rfl (by as_aux_lemma => kernel_rfl) rfl hpos (Nat.le_of_eq hlen.symm) | (apply call_gate 139; exact stp_callR hS (by as_aux_lemma => kernel_rfl) rfl rfl ⟨rfl, trivial⟩ trivial rfl rfl)); apply run_step rfl; (exact stp_loadR rfl (by as_aux_lemma => kernel_rfl) rfl rfl rfl (by first | assumption | exact ivals_get (by assumption) | exact irows_get (by assumption) | exact ivals_get (by omega) | exact irows_get (by omega) | rfl) (by first | exact ivals_len _ | assumption | rfl)); apply run_step rfl; (first | exact stp_ix (j := 0) rfl rfl rfl rfl rfl (by as_aux_lemma => kernel_rfl) rfl hpos (Nat.le_of_eq hlen.symm) | (apply call_gate 139; exact stp_callR hS (by as_aux_lemma => kernel_rfl) rfl rfl ⟨rfl, trivial⟩ trivial rfl rfl)); apply run_step rfl; (exact stp_assign rfl rfl); apply run_step rfl; (exact stp_assign rfl rfl); refine run_nil ?_; refine fin_seq ?_; refine goes_ret ?_)
      exact fin_ret2 (.inl rfl) rfl (.tmp rfl) (.tmp rfl) trivial trivial
  · rw [withC_no hok] at hC
    unfold idxR idxC
    rw [if_neg hok, if_neg hok]
    (refine goes_seq ?_; refine goes_region ?_; apply run_step rfl; (exact stp_box rfl rfl rfl rfl); apply run_step rfl; (exact stp_assign rfl rfl); apply run_step rfl; (exact stp_assign rfl rfl); refine run_nil ?_; refine fin_seq ?_; refine goes_seq ?_; refine goes_seq ?_; refine goes_region ?_; apply run_step rfl; (exact stp_loadAgg rfl rfl rfl rfl rfl rfl (by as_aux_lemma => kernel_rfl)); apply run_step rfl; (exact stp_move rfl rfl); apply run_step rfl; (apply call_gate 111; exact stp_callR hC (by as_aux_lemma => kernel_rfl) rfl rfl ⟨⟨.inl rfl, .inl rfl, trivial⟩, rfl, trivial⟩ ⟨⟨_, rfl, .inl rfl⟩, ⟨_, rfl, .inl rfl⟩, trivial⟩ rfl rfl); apply run_step rfl; (exact stp_assign rfl rfl); refine run_nil ?_; refine fin_seq ?_; refine goes_seq ?_; refine goes_region ?_; apply run_step rfl; (exact stp_move rfl rfl); apply run_step rfl; (exact stp_bin rfl rfl rfl rfl); refine run_nil ?_; refine fin_seq ?_)
    refine goes_cond rfl (fun _ => ?_) (fun e => by cases e)
    (refine goes_seq ?_; refine goes_region ?_; apply run_step rfl; (exact stp_move rfl rfl); apply run_step rfl; (exact stp_assign rfl rfl); apply run_step rfl; (exact stp_assign rfl rfl); refine run_nil ?_; refine fin_seq ?_; refine goes_ret ?_; refine fin_ret_then ?_)
    exact fin_ret2 (.inl rfl) rfl (.tmp rfl) (.tmp rfl) trivial trivial

theorem fit_nil : Fit [] := ⟨by simp, fun zs h => by simp at h⟩
theorem lk_one {α : Type} {x y : Nat} {c d : α} (h : lk y [(x, c)] = some d) : d = c := by
  simp only [lk] at h
  cases hb : Nat.beq y x with
  | true => rw [hb] at h; simpa using h.symm
  | false => rw [hb] at h; simp at h
theorem noFlat {rels : List (List Int)} : ∀ y c, lk y [(1003, rowsRo rels)] = some c → ∀ l, c.d ≠ .flat l := fun y c h l e => by
  rw [lk_one h] at e; cases e
/-- nil for the words -/
theorem FC.nilW {f : FuncId} {g : Int} {rels : List (List Int)} {outs : List (Nm × Ch)} {res : AV} (h : FC Try.prog f [(1002, rowsRo []), (1003, rowsRo rels)] [pA g rels.length, o1 (.sl 1002 0 0)] outs res []) : FC Try.prog f [(1003, rowsRo rels)] [pA g rels.length, vv (.slice none 0 0)] outs res [] :=
  FC.nil2 (x := 1002) h rfl rfl rfl (fun t av h => by cases h) noFlat
set_option maxRecDepth 100000 in
theorem specGroup_fc (g : Int) (rels : List (List Int)) (h1 : Fit rels) :
    FC Try.prog 69 [(1003, rowsRo rels)] [pA g rels.length] [] (.tup [.one (.val (I6 (idxR (g, rels) []))), .one (.val (I6 (idxC (g, rels) [])))]) [] := by
  have hI := (specIndex_fc g rels [] h1 fit_nil).nilW
  refine fc_enter (nt := 8) Try.func69 rfl rfl (by simp) fun w0 ω0 => ?_
  (refine goes_seq ?_; refine goes_region ?_; apply run_step rfl; (exact stp_box rfl rfl rfl rfl); apply run_step rfl; (exact stp_assign rfl rfl); apply run_step rfl; (exact stp_assign rfl rfl); refine run_nil ?_; refine fin_seq ?_; refine goes_seq ?_; refine goes_region ?_; apply run_step rfl; (exact stp_loadAgg rfl rfl rfl rfl rfl rfl (by as_aux_lemma => kernel_rfl)); apply run_step rfl; (apply call_gate 66; exact stp_callR hI (by as_aux_lemma => kernel_rfl) rfl rfl ⟨⟨.inl rfl, .inl rfl, trivial⟩, rfl, trivial⟩ ⟨⟨_, rfl, .inl rfl⟩, trivial⟩ rfl rfl); apply run_step rfl; (exact stp_extract rfl rfl rfl); apply run_step rfl; (exact stp_extract rfl rfl rfl); apply run_step rfl; (exact stp_assign rfl rfl); apply run_step rfl; (exact stp_assign rfl rfl); refine run_nil ?_; refine fin_seq ?_; refine goes_ret ?_)
  exact fin_ret2 (.inl rfl) rfl (.tmp rfl) (.tmp rfl) trivial trivial
theorem withOk_nil {g : Int} {rels : List (List Int)} : withOk (g, rels) [] = isPres (g, rels) := by unfold withOk wordsTo; simp
set_option maxRecDepth 100000 in
set_option maxHeartbeats 1000000 in
theorem implGroup_fc (g : Int) (rels : List (List Int)) (h1 : Fit rels) :
    FC Try.prog 57 [(1003, rowsRo rels)] [pA g rels.length] [] (.tup [.one (.val (I6 (idxR (g, rels) []))), .one (.val (I6 (idxC (g, rels) [])))]) [] := by
  have hC := isPres_fc g rels h1
  refine fc_enter (nt := 20) Try.func57 rfl rfl (by simp) fun w0 ω0 => ?_
  by_cases hok : withOk (g, rels) [] = true
  · obtain ⟨ng, rfl, hG⟩ := good_of hok
    rw [← withOk_nil, hok] at hC
    unfold idxR idxC
    rw [if_pos hok, if_pos hok]
    (refine goes_seq ?_; refine goes_region ?_; apply run_step rfl; (exact stp_box rfl rfl rfl rfl); apply run_step rfl; (exact stp_assign rfl rfl); apply run_step rfl; (exact stp_assign rfl rfl); refine run_nil ?_; refine fin_seq ?_; refine goes_seq ?_; refine goes_seq ?_; refine goes_region ?_; apply run_step rfl; (exact stp_loadAgg rfl rfl rfl rfl rfl rfl (by as_aux_lemma => kernel_rfl)); apply run_step rfl; (apply call_gate 137; exact stp_callR hC (by as_aux_lemma => kernel_rfl) rfl rfl ⟨⟨.inl rfl, .inl rfl, trivial⟩, trivial⟩ ⟨⟨_, rfl, .inl rfl⟩, trivial⟩ rfl rfl); apply run_step rfl; (exact stp_not rfl rfl); refine run_nil ?_; refine fin_seq ?_)
    refine goes_cond rfl (fun e => by cases e) (fun _ => ?_)
    have hX : cosX ((ng : Int), rels) [] = runC ng rels [] := by unfold cosX; rw [Int.toNat_natCast]
    rw [hX]
    cases hf : (runC ng rels []).2.2 with
    | true =>
      have hT := (implTable_no hG hf).nilW
      rw [if_pos rfl, if_pos rfl]
      (refine goes_skip ?_; refine fin_seq ?_; refine goes_seq ?_; refine goes_region ?_; apply run_step rfl; (exact stp_loadAgg rfl rfl rfl rfl rfl rfl (by as_aux_lemma => kernel_rfl)); apply run_step rfl; (apply call_gate 138; exact stp_callR hT (by as_aux_lemma => kernel_rfl) rfl rfl ⟨⟨.inl rfl, .inl rfl, trivial⟩, rfl, trivial⟩ ⟨⟨_, rfl, .inl rfl⟩, trivial⟩ rfl rfl); apply run_step rfl; (exact stp_move rfl rfl); apply run_step rfl; (exact stp_extract rfl rfl rfl); apply run_step rfl; (exact stp_extract rfl rfl rfl); apply run_step rfl; (exact stp_assign rfl rfl); apply run_step rfl; (exact stp_assign rfl rfl); refine run_nil ?_; refine fin_seq ?_; refine goes_seq ?_; refine goes_seq ?_; refine goes_region ?_; apply run_step rfl; (exact stp_move rfl rfl); apply run_step rfl; (exact stp_not rfl rfl); refine run_nil ?_; refine fin_seq ?_)
      refine goes_cond rfl (fun _ => ?_) (fun e => by cases e)
      (refine goes_seq ?_; refine goes_region ?_; apply run_step rfl; (exact stp_assign rfl rfl); apply run_step rfl; (exact stp_assign rfl rfl); refine run_nil ?_; refine fin_seq ?_; refine goes_ret ?_; refine fin_ret_then ?_)
      exact fin_ret2 (.inl rfl) rfl (.tmp rfl) (.tmp rfl) trivial trivial
    | false =>
      have hT := (implTable_yes hG hf).nilW
      have hN : cosN ((ng : Int), rels) [] = (lget (tableC ng (runC ng rels []).1 (runC ng rels []).2.1) 0).length := by
        unfold cosN; rw [hX, Int.toNat_natCast, tableC_rowlen _ _ hG.pos]
      rw [if_neg (by simp), if_neg (by simp), hN]
      have hrow : (irows (tableC ng (runC ng rels []).1 (runC ng rels []).2.1))[0]? = some (ivals (lget (tableC ng (runC ng rels []).1 (runC ng rels []).2.1) 0)) := irows_get (by rw [tableC_length]; exact hG.pos)
      have hlen : (irows (tableC ng (runC ng rels []).1 (runC ng rels []).2.1)).length = ng := by rw [irows_len, tableC_length]
      have hpos := hG.pos
      generalize tableC ng (runC ng rels []).1 (runC ng rels []).2.1 = T at *
      have hS := sizeE_fc 131 0 (lget T 0).length
      (refine goes_skip ?_; refine fin_seq ?_; refine goes_seq ?_; refine goes_region ?_; apply run_step rfl; (exact stp_loadAgg rfl rfl rfl rfl rfl rfl (by as_aux_lemma => kernel_rfl)); apply run_step rfl; (apply call_gate 138; exact stp_callN hT (by as_aux_lemma => kernel_rfl) rfl rfl ⟨⟨.inl rfl, .inl rfl, trivial⟩, rfl, trivial⟩ ⟨⟨_, rfl, .inl rfl⟩, trivial⟩ rfl rfl rfl); apply run_step rfl; (exact stp_move rfl rfl); apply run_step rfl; (exact stp_extract rfl rfl rfl); apply run_step rfl; (exact stp_extract rfl rfl rfl); apply run_step rfl; (exact stp_assign rfl rfl); apply run_step rfl; (exact stp_assign rfl rfl); refine run_nil ?_; refine fin_seq ?_; refine goes_seq ?_; refine goes_seq ?_; refine goes_region ?_; apply run_step rfl; (exact stp_move rfl rfl); apply run_step rfl; (exact stp_not rfl rfl); refine run_nil ?_; refine fin_seq ?_)
      refine goes_cond rfl (fun e => by cases e) (fun _ => ?_)
      (refine goes_skip ?_; refine fin_seq ?_; refine goes_seq ?_; refine goes_region ?_; apply run_step rfl; (exact stp_move rfl rfl); apply run_step rfl; (first | exact stp_ix (j := 0) rfl rfl rfl rfl rfl (by as_aux_lemma => kernel_rfl) rfl hpos (Nat.le_of_eq hlen.symm) | (apply call_gate 139; exact stp_callR hS (by as_aux_lemma => kernel_rfl) rfl rfl ⟨rfl, trivial⟩ trivial rfl rfl)); apply run_step rfl; (exact stp_loadR rfl (by as_aux_lemma => kernel_rfl) rfl rfl rfl (by first | assumption | exact ivals_get (by assumption) | exact irows_get (by assumption) | exact ivals_get (by omega) | exact irows_get (by omega) | rfl) (by first | exact ivals_len _ | assumption | rfl)); apply run_step rfl; (first | exact stp_ix (j := 0) rfl rfl rfl rfl rfl (by as_aux_lemma => kernel_rfl) rfl hpos (Nat.le_of_eq hlen.symm) | (apply call_gate 139; exact stp_callR hS (by as_aux_lemma => kernel_rfl) rfl rfl ⟨rfl, trivial⟩ trivial rfl rfl)); apply run_step rfl; (exact stp_assign rfl rfl); apply run_step rfl; (exact stp_assign rfl rfl); refine run_nil ?_; refine fin_seq ?_; refine goes_ret ?_)
      exact fin_ret2 (.inl rfl) rfl (.tmp rfl) (.tmp rfl) trivial trivial
  · have hp : isPres (g, rels) = false := by rw [withOk_nil] at hok; simpa using hok
    rw [hp] at hC
    unfold idxR idxC
    rw [if_neg hok, if_neg hok]
    (refine goes_seq ?_; refine goes_region ?_; apply run_step rfl; (exact stp_box rfl rfl rfl rfl); apply run_step rfl; (exact stp_assign rfl rfl); apply run_step rfl; (exact stp_assign rfl rfl); refine run_nil ?_; refine fin_seq ?_; refine goes_seq ?_; refine goes_seq ?_; refine goes_region ?_; apply run_step rfl; (exact stp_loadAgg rfl rfl rfl rfl rfl rfl (by as_aux_lemma => kernel_rfl)); apply run_step rfl; (apply call_gate 137; exact stp_callR hC (by as_aux_lemma => kernel_rfl) rfl rfl ⟨⟨.inl rfl, .inl rfl, trivial⟩, trivial⟩ ⟨⟨_, rfl, .inl rfl⟩, trivial⟩ rfl rfl); apply run_step rfl; (exact stp_not rfl rfl); refine run_nil ?_; refine fin_seq ?_)
    refine goes_cond rfl (fun _ => ?_) (fun e => by cases e)
    (refine goes_seq ?_; refine goes_region ?_; apply run_step rfl; (exact stp_assign rfl rfl); apply run_step rfl; (exact stp_assign rfl rfl); refine run_nil ?_; refine fin_seq ?_; refine goes_ret ?_; refine fin_ret_then ?_)
    exact fin_ret2 (.inl rfl) rfl (.tmp rfl) (.tmp rfl) trivial trivial

/-! in words -/
theorem api_implIndex {E1 E E1' E' : Nat} {lo hi lo' hi' : Nat} {v v' : Value} {d : PresD} {ws : List (List Int)} (w : World) (h : OwP E1 E w lo hi v d) (h' : OwSS E1' E' w lo' hi' v' ws) :
    Calls Try.prog 65 #[v, v'] w fun e w' => e = .returned (.tuple #[.int .i64 (idxR d ws), .int .i64 (idxC d ws)]) ∧ Below w.heap.size w w' := two_vals (callPW (fun k1 k2 => implIndex_fc d.1 d.2 ws k1 k2) h h')
theorem api_specGroup {E1 E : Nat} {lo hi : Nat} {v : Value} {d : PresD} (w : World) (h : OwP E1 E w lo hi v d) :
    Calls Try.prog 69 #[v] w fun e w' => e = .returned (.tuple #[.int .i64 (idxR d []), .int .i64 (idxC d [])]) ∧ Below w.heap.size w w' := two_vals (callP (fun k1 => specGroup_fc d.1 d.2 k1) h)
theorem api_implGroup {E1 E : Nat} {lo hi : Nat} {v : Value} {d : PresD} (w : World) (h : OwP E1 E w lo hi v d) :
    Calls Try.prog 57 #[v] w fun e w' => e = .returned (.tuple #[.int .i64 (idxR d []), .int .i64 (idxC d [])]) ∧ Below w.heap.size w w' := two_vals (callP (fun k1 => implGroup_fc d.1 d.2 k1) h)
end Go.Proofs.Ytpognnifgcacnaa

/- The table of a subgroup: l11Small, cosetTable; CosetTable. guards: -/
namespace Go.Proofs.Ytpognnifgcacnaa
open Go.RowKit

def smallOk (d : PresD) (ws : List (List Int)) : Bool := !(cosX d ws).2.2 && decide (cosN d ws ≤ 400)
theorem cosX_nat (ng : Nat) (rels ws : List (List Int)) : cosX ((ng : Int), rels) ws = runC ng rels ws := by unfold cosX; rw [Int.toNat_natCast]
theorem cosN_nat (ng : Nat) (rels ws : List (List Int)) : cosN ((ng : Int), rels) ws = (numbered ng (runC ng rels ws).1 (runC ng rels ws).2.1).1.length := by unfold cosN; rw [cosX_nat, Int.toNat_natCast]
theorem cosTab_nat (ng : Nat) (rels ws : List (List Int)) : cosTab ((ng : Int), rels) ws = tableC ng (runC ng rels ws).1 (runC ng rels ws).2.1 := by unfold cosTab; rw [cosX_nat, Int.toNat_natCast]
theorem cosTab_row {ng : Nat} {rels ws : List (List Int)} {g : Nat} (h : g < ng) : (lget (cosTab ((ng : Int), rels) ws) g).length = cosN ((ng : Int), rels) ws := by rw [cosTab_nat, cosN_nat, tableC_rowlen _ _ h]
theorem cosTab_len (ng : Nat) (rels ws : List (List Int)) : (cosTab ((ng : Int), rels) ws).length = ng := by rw [cosTab_nat, tableC_length]
theorem cosN_le {ng : Nat} {rels ws : List (List Int)} (h : Good ng rels ws) (hf : (runC ng rels ws).2.2 = false) : cosN ((ng : Int), rels) ws ≤ 2000 := by
  rw [cosN_nat]
  have hF := full_run h.rl h.wl hf
  exact Nat.le_trans (numbered_ok hF).1.le (runC_ok h.rl h.wl).hi
def ctR (d : PresD) (ws : List (List Int)) : List (List Int) := if withOk d ws = true then (if smallOk d ws = true then cosTab d ws else []) else []
def ctC (d : PresD) (ws : List (List Int)) : Int := if withOk d ws = true then (if smallOk d ws = true then 0 else 3) else 1
set_option maxRecDepth 100000 in
set_option maxHeartbeats 1000000 in
theorem specSmall_yes {ng : Nat} {rels ws : List (List Int)} (hG : Good ng rels ws) (hs : smallOk ((ng : Int), rels) ws = true) :
    FC Try.prog 107 [(1002, rowsRo ws), (1003, rowsRo rels)] [pA ng rels.length, o1 (.sl 1002 0 ws.length)] [(1005, imOw (cosTab ((ng : Int), rels) ws))] (.tup [.one (.sl 1005 0 ng), .one (.val (I6 0))]) [] := by
  have hs2 : (runC ng rels ws).2.2 = false ∧ cosN ((ng : Int), rels) ws ≤ 400 := by unfold smallOk at hs; rw [cosX_nat] at hs; simpa using hs
  have hT : FC Try.prog 144 [(1002, rowsRo ws), (1003, rowsRo rels)] [pA ng rels.length, o1 (.sl 1002 0 ws.length)] [(1005, imOw (cosTab ((ng : Int), rels) ws))] (.tup [.one (.sl 1005 0 ng), .one (.val (.bool true))]) [] := by
    rw [cosTab_nat]
    exact (specTable_yes hG hs2.1).nm [(69, 1005), (1002, 1002), (1003, 1003)] (by kernel_rfl)
  have hlen : (irows (cosTab ((ng : Int), rels) ws)).length = ng := by rw [irows_len, cosTab_len]
  have hpos := hG.pos
  have hr0 : (lget (cosTab ((ng : Int), rels) ws) 0).length ≤ 400 := by rw [cosTab_row hpos]; exact hs2.2
  have hrow : (irows (cosTab ((ng : Int), rels) ws))[0]? = some (ivals (lget (cosTab ((ng : Int), rels) ws) 0)) := irows_get (by rw [← irows_len, hlen]; exact hpos)
  generalize cosTab ((ng : Int), rels) ws = T at *
  refine fc_enter (nt := 24) Try.func107 rfl rfl (by simp) fun w0 ω0 => ?_
  (refine goes_seq ?_; refine goes_region ?_; apply run_step rfl; (exact stp_box rfl rfl rfl rfl); apply run_step rfl; (exact stp_assign rfl rfl); apply run_step rfl; (exact stp_assign rfl rfl); refine run_nil ?_; refine fin_seq ?_; refine goes_seq ?_; refine goes_region ?_; apply run_step rfl; (exact stp_loadAgg rfl rfl rfl rfl rfl rfl (by as_aux_lemma => kernel_rfl)); apply run_step rfl; (exact stp_move rfl rfl); apply run_step rfl; (first | (apply call_gate 144; exact stp_callN hT (by as_aux_lemma => kernel_rfl) rfl rfl ⟨⟨.inl rfl, .inl rfl, trivial⟩, rfl, trivial⟩ ⟨⟨_, rfl, .inl rfl⟩, ⟨_, rfl, .inl rfl⟩, trivial⟩ rfl rfl rfl) | exact stp_ix (j := 0) rfl rfl rfl rfl rfl (by as_aux_lemma => kernel_rfl) rfl hpos (Nat.le_of_eq hlen.symm)); apply run_step rfl; (exact stp_move rfl rfl); apply run_step rfl; (exact stp_extract rfl rfl rfl); apply run_step rfl; (exact stp_extract rfl rfl rfl); apply run_step rfl; (exact stp_assign rfl rfl); apply run_step rfl; (exact stp_assign rfl rfl); refine run_nil ?_; refine fin_seq ?_; refine goes_seq ?_; refine goes_seq ?_; refine goes_region ?_; apply run_step rfl; (exact stp_move rfl rfl); apply run_step rfl; (exact stp_not rfl rfl); apply run_step rfl; (exact stp_move rfl rfl); apply run_gYes rfl rfl rfl; (exact stp_move rfl rfl); apply run_gYes rfl rfl rfl; (first | (apply call_gate 144; exact stp_callN hT (by as_aux_lemma => kernel_rfl) rfl rfl ⟨⟨.inl rfl, .inl rfl, trivial⟩, rfl, trivial⟩ ⟨⟨_, rfl, .inl rfl⟩, ⟨_, rfl, .inl rfl⟩, trivial⟩ rfl rfl rfl) | exact stp_ix (j := 0) rfl rfl rfl rfl rfl (by as_aux_lemma => kernel_rfl) rfl hpos (Nat.le_of_eq hlen.symm)); apply run_gYes rfl rfl rfl; (exact stp_loadR rfl (by as_aux_lemma => kernel_rfl) rfl rfl rfl (by first | assumption | exact ivals_get (by assumption) | exact irows_get (by assumption) | exact ivals_get (by omega) | exact irows_get (by omega) | rfl) (by first | exact ivals_len _ | assumption | rfl)); apply run_gYes rfl rfl rfl; (exact stp_len rfl rfl rfl (by as_aux_lemma => kernel_rfl)); apply run_gYes rfl rfl rfl; (exact stp_bin rfl rfl rfl rfl); apply run_step rfl; (exact stp_pickF rfl rfl rfl); refine run_nil ?_; refine fin_seq ?_)
  refine goes_cond rfl (fun e => ?_) (fun _ => ?_)
  · exfalso; simp at e; omega
  · (refine goes_skip ?_; refine fin_seq ?_; refine goes_seq ?_; refine goes_region ?_; apply run_step rfl; (exact stp_move rfl rfl); apply run_step rfl; (exact stp_assign rfl rfl); apply run_step rfl; (exact stp_assign rfl rfl); refine run_nil ?_; refine fin_seq ?_; refine goes_ret ?_)
    exact fin_ret2 (.inl rfl) rfl (.tmp rfl) (.tmp rfl) ⟨rfl, trivial⟩ trivial
set_option maxRecDepth 100000 in
set_option maxHeartbeats 1000000 in
theorem specSmall_no {ng : Nat} {rels ws : List (List Int)} (hG : Good ng rels ws) (hs : ¬ smallOk ((ng : Int), rels) ws = true) :
    FC Try.prog 107 [(1002, rowsRo ws), (1003, rowsRo rels)] [pA ng rels.length, o1 (.sl 1002 0 ws.length)] [] (.tup [.one (.val (.slice none 0 0)), .one (.val (I6 3))]) [] := by
  unfold smallOk at hs; rw [cosX_nat] at hs
  refine fc_enter (nt := 24) Try.func107 rfl rfl (by simp) fun w0 ω0 => ?_
  cases hf : (runC ng rels ws).2.2 with
  | true =>
    have hT := specTable_no hG hf
    (refine goes_seq ?_; refine goes_region ?_; apply run_step rfl; (exact stp_box rfl rfl rfl rfl); apply run_step rfl; (exact stp_assign rfl rfl); apply run_step rfl; (exact stp_assign rfl rfl); refine run_nil ?_; refine fin_seq ?_; refine goes_seq ?_; refine goes_region ?_; apply run_step rfl; (exact stp_loadAgg rfl rfl rfl rfl rfl rfl (by as_aux_lemma => kernel_rfl)); apply run_step rfl; (exact stp_move rfl rfl); apply run_step rfl; (apply call_gate 144; exact stp_callR hT (by as_aux_lemma => kernel_rfl) rfl rfl ⟨⟨.inl rfl, .inl rfl, trivial⟩, rfl, trivial⟩ ⟨⟨_, rfl, .inl rfl⟩, ⟨_, rfl, .inl rfl⟩, trivial⟩ rfl rfl); apply run_step rfl; (exact stp_move rfl rfl); apply run_step rfl; (exact stp_extract rfl rfl rfl); apply run_step rfl; (exact stp_extract rfl rfl rfl); apply run_step rfl; (exact stp_assign rfl rfl); apply run_step rfl; (exact stp_assign rfl rfl); refine run_nil ?_; refine fin_seq ?_; refine goes_seq ?_; refine goes_seq ?_; refine goes_region ?_; apply run_step rfl; (exact stp_move rfl rfl); apply run_step rfl; (exact stp_not rfl rfl); apply run_step rfl; (exact stp_move rfl rfl); apply run_gNo rfl rfl rfl rfl rfl; apply run_gNo rfl rfl rfl rfl rfl; apply run_gNo rfl rfl rfl rfl rfl; apply run_gNo rfl rfl rfl rfl rfl; apply run_gNo rfl rfl rfl rfl rfl; apply run_step rfl; (exact stp_pickT rfl rfl rfl); refine run_nil ?_; refine fin_seq ?_)
    refine goes_cond rfl (fun _ => ?_) (fun e => by cases e)
    (refine goes_seq ?_; refine goes_region ?_; apply run_step rfl; (exact stp_assign rfl rfl); apply run_step rfl; (exact stp_assign rfl rfl); refine run_nil ?_; refine fin_seq ?_; refine goes_ret ?_; refine fin_ret_then ?_)
    exact fin_ret2 (.inl rfl) rfl (.tmp rfl) (.tmp rfl) trivial trivial
  | false =>
    have hn : 400 < cosN ((ng : Int), rels) ws := by rw [hf] at hs; simpa using hs
    have hT : FC Try.prog 144 [(1002, rowsRo ws), (1003, rowsRo rels)] [pA ng rels.length, o1 (.sl 1002 0 ws.length)] [(1005, imOw (cosTab ((ng : Int), rels) ws))] (.tup [.one (.sl 1005 0 ng), .one (.val (.bool true))]) [] := by
      rw [cosTab_nat]
      exact (specTable_yes hG hf).nm [(69, 1005), (1002, 1002), (1003, 1003)] (by kernel_rfl)
    have hlen : (irows (cosTab ((ng : Int), rels) ws)).length = ng := by rw [irows_len, cosTab_len]
    have hpos := hG.pos
    have hr0 : 400 < (lget (cosTab ((ng : Int), rels) ws) 0).length := by rw [cosTab_row hpos]; exact hn
    have hrow : (irows (cosTab ((ng : Int), rels) ws))[0]? = some (ivals (lget (cosTab ((ng : Int), rels) ws) 0)) := irows_get (by rw [← irows_len, hlen]; exact hpos)
    clear hs hn
    generalize cosTab ((ng : Int), rels) ws = T at *
    (refine goes_seq ?_; refine goes_region ?_; apply run_step rfl; (exact stp_box rfl rfl rfl rfl); apply run_step rfl; (exact stp_assign rfl rfl); apply run_step rfl; (exact stp_assign rfl rfl); refine run_nil ?_; refine fin_seq ?_; refine goes_seq ?_; refine goes_region ?_; apply run_step rfl; (exact stp_loadAgg rfl rfl rfl rfl rfl rfl (by as_aux_lemma => kernel_rfl)); apply run_step rfl; (exact stp_move rfl rfl); apply run_step rfl; (first | (apply call_gate 144; exact stp_callN hT (by as_aux_lemma => kernel_rfl) rfl rfl ⟨⟨.inl rfl, .inl rfl, trivial⟩, rfl, trivial⟩ ⟨⟨_, rfl, .inl rfl⟩, ⟨_, rfl, .inl rfl⟩, trivial⟩ rfl rfl rfl) | exact stp_ix (j := 0) rfl rfl rfl rfl rfl (by as_aux_lemma => kernel_rfl) rfl hpos (Nat.le_of_eq hlen.symm)); apply run_step rfl; (exact stp_move rfl rfl); apply run_step rfl; (exact stp_extract rfl rfl rfl); apply run_step rfl; (exact stp_extract rfl rfl rfl); apply run_step rfl; (exact stp_assign rfl rfl); apply run_step rfl; (exact stp_assign rfl rfl); refine run_nil ?_; refine fin_seq ?_; refine goes_seq ?_; refine goes_seq ?_; refine goes_region ?_; apply run_step rfl; (exact stp_move rfl rfl); apply run_step rfl; (exact stp_not rfl rfl); apply run_step rfl; (exact stp_move rfl rfl); apply run_gYes rfl rfl rfl; (exact stp_move rfl rfl); apply run_gYes rfl rfl rfl; (first | (apply call_gate 144; exact stp_callN hT (by as_aux_lemma => kernel_rfl) rfl rfl ⟨⟨.inl rfl, .inl rfl, trivial⟩, rfl, trivial⟩ ⟨⟨_, rfl, .inl rfl⟩, ⟨_, rfl, .inl rfl⟩, trivial⟩ rfl rfl rfl) | exact stp_ix (j := 0) rfl rfl rfl rfl rfl (by as_aux_lemma => kernel_rfl) rfl hpos (Nat.le_of_eq hlen.symm)); apply run_gYes rfl rfl rfl; (exact stp_loadR rfl (by as_aux_lemma => kernel_rfl) rfl rfl rfl (by first | assumption | exact ivals_get (by assumption) | exact irows_get (by assumption) | exact ivals_get (by omega) | exact irows_get (by omega) | rfl) (by first | exact ivals_len _ | assumption | rfl)); apply run_gYes rfl rfl rfl; (exact stp_len rfl rfl rfl (by as_aux_lemma => kernel_rfl)); apply run_gYes rfl rfl rfl; (exact stp_bin rfl rfl rfl rfl); apply run_step rfl; (exact stp_pickF rfl rfl rfl); refine run_nil ?_; refine fin_seq ?_)
    refine goes_cond rfl (fun _ => ?_) (fun e => ?_)
    · (refine goes_seq ?_; refine goes_region ?_; apply run_step rfl; (exact stp_assign rfl rfl); apply run_step rfl; (exact stp_assign rfl rfl); refine run_nil ?_; refine fin_seq ?_; refine goes_ret ?_; refine fin_ret_then ?_)
      exact fin_ret2 (.inl rfl) rfl (.tmp rfl) (.tmp rfl) trivial trivial
    · exfalso; simp at e; omega

set_option maxRecDepth 100000 in
set_option maxHeartbeats 1000000 in
theorem implSmall_yes {ng : Nat} {rels ws : List (List Int)} (hG : Good ng rels ws) (hs : smallOk ((ng : Int), rels) ws = true) :
    FC Try.prog 113 [(1002, rowsRo ws), (1003, rowsRo rels)] [pA ng rels.length, o1 (.sl 1002 0 ws.length)] [(1005, imOw (cosTab ((ng : Int), rels) ws))] (.tup [.one (.sl 1005 0 ng), .one (.val (I6 0))]) [] := by
  have hs2 : (runC ng rels ws).2.2 = false ∧ cosN ((ng : Int), rels) ws ≤ 400 := by unfold smallOk at hs; rw [cosX_nat] at hs; simpa using hs
  have hT : FC Try.prog 138 [(1002, rowsRo ws), (1003, rowsRo rels)] [pA ng rels.length, o1 (.sl 1002 0 ws.length)] [(1005, imOw (cosTab ((ng : Int), rels) ws))] (.tup [.one (.sl 1005 0 ng), .one (.val (.bool true))]) [] := by
    rw [cosTab_nat]
    exact (implTable_yes hG hs2.1).nm [(131, 1005), (1002, 1002), (1003, 1003)] (by kernel_rfl)
  have hlen : (irows (cosTab ((ng : Int), rels) ws)).length = ng := by rw [irows_len, cosTab_len]
  have hpos := hG.pos
  have hr0 : (lget (cosTab ((ng : Int), rels) ws) 0).length ≤ 400 := by rw [cosTab_row hpos]; exact hs2.2
  have hrow : (irows (cosTab ((ng : Int), rels) ws))[0]? = some (ivals (lget (cosTab ((ng : Int), rels) ws) 0)) := irows_get (by rw [← irows_len, hlen]; exact hpos)
  generalize cosTab ((ng : Int), rels) ws = T at *
  refine fc_enter (nt := 24) Try.func113 rfl rfl (by simp) fun w0 ω0 => ?_
  (refine goes_seq ?_; refine goes_region ?_; apply run_step rfl; (exact stp_box rfl rfl rfl rfl); apply run_step rfl; (exact stp_assign rfl rfl); apply run_step rfl; (exact stp_assign rfl rfl); refine run_nil ?_; refine fin_seq ?_; refine goes_seq ?_; refine goes_region ?_; apply run_step rfl; (exact stp_loadAgg rfl rfl rfl rfl rfl rfl (by as_aux_lemma => kernel_rfl)); apply run_step rfl; (exact stp_move rfl rfl); apply run_step rfl; (first | (apply call_gate 138; exact stp_callN hT (by as_aux_lemma => kernel_rfl) rfl rfl ⟨⟨.inl rfl, .inl rfl, trivial⟩, rfl, trivial⟩ ⟨⟨_, rfl, .inl rfl⟩, ⟨_, rfl, .inl rfl⟩, trivial⟩ rfl rfl rfl) | exact stp_ix (j := 0) rfl rfl rfl rfl rfl (by as_aux_lemma => kernel_rfl) rfl hpos (Nat.le_of_eq hlen.symm)); apply run_step rfl; (exact stp_move rfl rfl); apply run_step rfl; (exact stp_extract rfl rfl rfl); apply run_step rfl; (exact stp_extract rfl rfl rfl); apply run_step rfl; (exact stp_assign rfl rfl); apply run_step rfl; (exact stp_assign rfl rfl); refine run_nil ?_; refine fin_seq ?_; refine goes_seq ?_; refine goes_seq ?_; refine goes_region ?_; apply run_step rfl; (exact stp_move rfl rfl); apply run_step rfl; (exact stp_not rfl rfl); apply run_step rfl; (exact stp_move rfl rfl); apply run_gYes rfl rfl rfl; (exact stp_move rfl rfl); apply run_gYes rfl rfl rfl; (first | (apply call_gate 138; exact stp_callN hT (by as_aux_lemma => kernel_rfl) rfl rfl ⟨⟨.inl rfl, .inl rfl, trivial⟩, rfl, trivial⟩ ⟨⟨_, rfl, .inl rfl⟩, ⟨_, rfl, .inl rfl⟩, trivial⟩ rfl rfl rfl) | exact stp_ix (j := 0) rfl rfl rfl rfl rfl (by as_aux_lemma => kernel_rfl) rfl hpos (Nat.le_of_eq hlen.symm)); apply run_gYes rfl rfl rfl; (exact stp_loadR rfl (by as_aux_lemma => kernel_rfl) rfl rfl rfl (by first | assumption | exact ivals_get (by assumption) | exact irows_get (by assumption) | exact ivals_get (by omega) | exact irows_get (by omega) | rfl) (by first | exact ivals_len _ | assumption | rfl)); apply run_gYes rfl rfl rfl; (exact stp_len rfl rfl rfl (by as_aux_lemma => kernel_rfl)); apply run_gYes rfl rfl rfl; (exact stp_bin rfl rfl rfl rfl); apply run_step rfl; (exact stp_pickF rfl rfl rfl); refine run_nil ?_; refine fin_seq ?_)
  refine goes_cond rfl (fun e => ?_) (fun _ => ?_)
  · exfalso; simp at e; omega
  · (refine goes_skip ?_; refine fin_seq ?_; refine goes_seq ?_; refine goes_region ?_; apply run_step rfl; (exact stp_move rfl rfl); apply run_step rfl; (exact stp_assign rfl rfl); apply run_step rfl; (exact stp_assign rfl rfl); refine run_nil ?_; refine fin_seq ?_; refine goes_ret ?_)
    exact fin_ret2 (.inl rfl) rfl (.tmp rfl) (.tmp rfl) ⟨rfl, trivial⟩ trivial
set_option maxRecDepth 100000 in
set_option maxHeartbeats 1000000 in
theorem implSmall_no {ng : Nat} {rels ws : List (List Int)} (hG : Good ng rels ws) (hs : ¬ smallOk ((ng : Int), rels) ws = true) :
    FC Try.prog 113 [(1002, rowsRo ws), (1003, rowsRo rels)] [pA ng rels.length, o1 (.sl 1002 0 ws.length)] [] (.tup [.one (.val (.slice none 0 0)), .one (.val (I6 3))]) [] := by
  unfold smallOk at hs; rw [cosX_nat] at hs
  refine fc_enter (nt := 24) Try.func113 rfl rfl (by simp) fun w0 ω0 => ?_
  cases hf : (runC ng rels ws).2.2 with
  | true =>
    have hT := implTable_no hG hf
    (refine goes_seq ?_; refine goes_region ?_; apply run_step rfl; (exact stp_box rfl rfl rfl rfl); apply run_step rfl; (exact stp_assign rfl rfl); apply run_step rfl; (exact stp_assign rfl rfl); refine run_nil ?_; refine fin_seq ?_; refine goes_seq ?_; refine goes_region ?_; apply run_step rfl; (exact stp_loadAgg rfl rfl rfl rfl rfl rfl (by as_aux_lemma => kernel_rfl)); apply run_step rfl; (exact stp_move rfl rfl); apply run_step rfl; (apply call_gate 138; exact stp_callR hT (by as_aux_lemma => kernel_rfl) rfl rfl ⟨⟨.inl rfl, .inl rfl, trivial⟩, rfl, trivial⟩ ⟨⟨_, rfl, .inl rfl⟩, ⟨_, rfl, .inl rfl⟩, trivial⟩ rfl rfl); apply run_step rfl; (exact stp_move rfl rfl); apply run_step rfl; (exact stp_extract rfl rfl rfl); apply run_step rfl; (exact stp_extract rfl rfl rfl); apply run_step rfl; (exact stp_assign rfl rfl); apply run_step rfl; (exact stp_assign rfl rfl); refine run_nil ?_; refine fin_seq ?_; refine goes_seq ?_; refine goes_seq ?_; refine goes_region ?_; apply run_step rfl; (exact stp_move rfl rfl); apply run_step rfl; (exact stp_not rfl rfl); apply run_step rfl; (exact stp_move rfl rfl); apply run_gNo rfl rfl rfl rfl rfl; apply run_gNo rfl rfl rfl rfl rfl; apply run_gNo rfl rfl rfl rfl rfl; apply run_gNo rfl rfl rfl rfl rfl; apply run_gNo rfl rfl rfl rfl rfl; apply run_step rfl; (exact stp_pickT rfl rfl rfl); refine run_nil ?_; refine fin_seq ?_)
    refine goes_cond rfl (fun _ => ?_) (fun e => by cases e)
    (refine goes_seq ?_; refine goes_region ?_; apply run_step rfl; (exact stp_assign rfl rfl); apply run_step rfl; (exact stp_assign rfl rfl); refine run_nil ?_; refine fin_seq ?_; refine goes_ret ?_; refine fin_ret_then ?_)
    exact fin_ret2 (.inl rfl) rfl (.tmp rfl) (.tmp rfl) trivial trivial
  | false =>
    have hn : 400 < cosN ((ng : Int), rels) ws := by rw [hf] at hs; simpa using hs
    have hT : FC Try.prog 138 [(1002, rowsRo ws), (1003, rowsRo rels)] [pA ng rels.length, o1 (.sl 1002 0 ws.length)] [(1005, imOw (cosTab ((ng : Int), rels) ws))] (.tup [.one (.sl 1005 0 ng), .one (.val (.bool true))]) [] := by
      rw [cosTab_nat]
      exact (implTable_yes hG hf).nm [(131, 1005), (1002, 1002), (1003, 1003)] (by kernel_rfl)
    have hlen : (irows (cosTab ((ng : Int), rels) ws)).length = ng := by rw [irows_len, cosTab_len]
    have hpos := hG.pos
    have hr0 : 400 < (lget (cosTab ((ng : Int), rels) ws) 0).length := by rw [cosTab_row hpos]; exact hn
    have hrow : (irows (cosTab ((ng : Int), rels) ws))[0]? = some (ivals (lget (cosTab ((ng : Int), rels) ws) 0)) := irows_get (by rw [← irows_len, hlen]; exact hpos)
    clear hs hn
    generalize cosTab ((ng : Int), rels) ws = T at *
    (refine goes_seq ?_; refine goes_region ?_; apply run_step rfl; (exact stp_box rfl rfl rfl rfl); apply run_step rfl; (exact stp_assign rfl rfl); apply run_step rfl; (exact stp_assign rfl rfl); refine run_nil ?_; refine fin_seq ?_; refine goes_seq ?_; refine goes_region ?_; apply run_step rfl; (exact stp_loadAgg rfl rfl rfl rfl rfl rfl (by as_aux_lemma => kernel_rfl)); apply run_step rfl; (exact stp_move rfl rfl); apply run_step rfl; (first | (apply call_gate 138; exact stp_callN hT (by as_aux_lemma => kernel_rfl) rfl rfl ⟨⟨.inl rfl, .inl rfl, trivial⟩, rfl, trivial⟩ ⟨⟨_, rfl, .inl rfl⟩, ⟨_, rfl, .inl rfl⟩, trivial⟩ rfl rfl rfl) | exact stp_ix (j := 0) rfl rfl rfl rfl rfl (by as_aux_lemma => kernel_rfl) rfl hpos (Nat.le_of_eq hlen.symm)); apply run_step rfl; (exact stp_move rfl rfl); apply run_step rfl; (exact stp_extract rfl rfl rfl); apply run_step rfl; (exact stp_extract rfl rfl rfl); apply run_step rfl; (exact stp_assign rfl rfl); apply run_step rfl; (exact stp_assign rfl rfl); refine run_nil ?_; refine fin_seq ?_; refine goes_seq ?_; refine goes_seq ?_; refine goes_region ?_; apply run_step rfl; (exact stp_move rfl rfl); apply run_step rfl; (exact stp_not rfl rfl); apply run_step rfl; (exact stp_move rfl rfl); apply run_gYes rfl rfl rfl; (exact stp_move rfl rfl); apply run_gYes rfl rfl rfl; (first | (apply call_gate 138; exact stp_callN hT (by as_aux_lemma => kernel_rfl) rfl rfl ⟨⟨.inl rfl, .inl rfl, trivial⟩, rfl, trivial⟩ ⟨⟨_, rfl, .inl rfl⟩, ⟨_, rfl, .inl rfl⟩, trivial⟩ rfl rfl rfl) | exact stp_ix (j := 0) rfl rfl rfl rfl rfl (by as_aux_lemma => kernel_rfl) rfl hpos (Nat.le_of_eq hlen.symm)); apply run_gYes rfl rfl rfl; (exact stp_loadR rfl (by as_aux_lemma => kernel_rfl) rfl rfl rfl (by first | assumption | exact ivals_get (by assumption) | exact irows_get (by assumption) | exact ivals_get (by omega) | exact irows_get (by omega) | rfl) (by first | exact ivals_len _ | assumption | rfl)); apply run_gYes rfl rfl rfl; (exact stp_len rfl rfl rfl (by as_aux_lemma => kernel_rfl)); apply run_gYes rfl rfl rfl; (exact stp_bin rfl rfl rfl rfl); apply run_step rfl; (exact stp_pickF rfl rfl rfl); refine run_nil ?_; refine fin_seq ?_)
    refine goes_cond rfl (fun _ => ?_) (fun e => ?_)
    · (refine goes_seq ?_; refine goes_region ?_; apply run_step rfl; (exact stp_assign rfl rfl); apply run_step rfl; (exact stp_assign rfl rfl); refine run_nil ?_; refine fin_seq ?_; refine goes_ret ?_; refine fin_ret_then ?_)
      exact fin_ret2 (.inl rfl) rfl (.tmp rfl) (.tmp rfl) trivial trivial
    · exfalso; simp at e; omega

set_option maxRecDepth 100000 in
set_option maxHeartbeats 1000000 in
theorem specCT_no (g : Int) (rels ws : List (List Int)) (h1 : Fit rels) (h2 : Fit ws) (hn : ¬ (withOk (g, rels) ws = true ∧ smallOk (g, rels) ws = true)) :
    FC Try.prog 61 [(1002, rowsRo ws), (1003, rowsRo rels)] [pA g rels.length, o1 (.sl 1002 0 ws.length)] [] (.tup [.one (.val (.slice none 0 0)), .one (.val (I6 (ctC (g, rels) ws)))]) [] := by
  have hC := specCode_fc g rels ws h1 h2
  refine fc_enter (nt := 18) Try.func61 rfl rfl (by simp) fun w0 ω0 => ?_
  unfold ctC
  by_cases hok : withOk (g, rels) ws = true
  · obtain ⟨ng, rfl, hG⟩ := good_of hok
    have hs : ¬ smallOk ((ng : Int), rels) ws = true := fun h => hn ⟨hok, h⟩
    have hT := specSmall_no hG hs
    rw [withC_ok hok] at hC
    rw [if_pos hok, if_neg hs]
    (refine goes_seq ?_; refine goes_region ?_; apply run_step rfl; (exact stp_box rfl rfl rfl rfl); apply run_step rfl; (exact stp_assign rfl rfl); apply run_step rfl; (exact stp_assign rfl rfl); refine run_nil ?_; refine fin_seq ?_; refine goes_seq ?_; refine goes_seq ?_; refine goes_region ?_; apply run_step rfl; (exact stp_loadAgg rfl rfl rfl rfl rfl rfl (by as_aux_lemma => kernel_rfl)); apply run_step rfl; (exact stp_move rfl rfl); apply run_step rfl; (apply call_gate 141; exact stp_callR hC (by as_aux_lemma => kernel_rfl) rfl rfl ⟨⟨.inl rfl, .inl rfl, trivial⟩, rfl, trivial⟩ ⟨⟨_, rfl, .inl rfl⟩, ⟨_, rfl, .inl rfl⟩, trivial⟩ rfl rfl); apply run_step rfl; (exact stp_assign rfl rfl); refine run_nil ?_; refine fin_seq ?_; refine goes_seq ?_; refine goes_region ?_; apply run_step rfl; (exact stp_move rfl rfl); apply run_step rfl; (exact stp_bin rfl rfl rfl rfl); refine run_nil ?_; refine fin_seq ?_)
    refine goes_cond rfl (fun e => by cases e) (fun _ => ?_)
    (refine goes_skip ?_; refine fin_seq ?_; refine goes_seq ?_; refine goes_region ?_; apply run_step rfl; (exact stp_loadAgg rfl rfl rfl rfl rfl rfl (by as_aux_lemma => kernel_rfl)); apply run_step rfl; (exact stp_move rfl rfl); apply run_step rfl; (apply call_gate 107; exact stp_callR hT (by as_aux_lemma => kernel_rfl) rfl rfl ⟨⟨.inl rfl, .inl rfl, trivial⟩, rfl, trivial⟩ ⟨⟨_, rfl, .inl rfl⟩, ⟨_, rfl, .inl rfl⟩, trivial⟩ rfl rfl); apply run_step rfl; (exact stp_extract rfl rfl rfl); apply run_step rfl; (exact stp_extract rfl rfl rfl); apply run_step rfl; (exact stp_assign rfl rfl); apply run_step rfl; (exact stp_assign rfl rfl); refine run_nil ?_; refine fin_seq ?_; refine goes_ret ?_)
    exact fin_ret2 (.inl rfl) rfl (.tmp rfl) (.tmp rfl) trivial trivial
  · rw [withC_no hok] at hC
    rw [if_neg hok]
    (refine goes_seq ?_; refine goes_region ?_; apply run_step rfl; (exact stp_box rfl rfl rfl rfl); apply run_step rfl; (exact stp_assign rfl rfl); apply run_step rfl; (exact stp_assign rfl rfl); refine run_nil ?_; refine fin_seq ?_; refine goes_seq ?_; refine goes_seq ?_; refine goes_region ?_; apply run_step rfl; (exact stp_loadAgg rfl rfl rfl rfl rfl rfl (by as_aux_lemma => kernel_rfl)); apply run_step rfl; (exact stp_move rfl rfl); apply run_step rfl; (apply call_gate 141; exact stp_callR hC (by as_aux_lemma => kernel_rfl) rfl rfl ⟨⟨.inl rfl, .inl rfl, trivial⟩, rfl, trivial⟩ ⟨⟨_, rfl, .inl rfl⟩, ⟨_, rfl, .inl rfl⟩, trivial⟩ rfl rfl); apply run_step rfl; (exact stp_assign rfl rfl); refine run_nil ?_; refine fin_seq ?_; refine goes_seq ?_; refine goes_region ?_; apply run_step rfl; (exact stp_move rfl rfl); apply run_step rfl; (exact stp_bin rfl rfl rfl rfl); refine run_nil ?_; refine fin_seq ?_)
    refine goes_cond rfl (fun _ => ?_) (fun e => by cases e)
    (refine goes_seq ?_; refine goes_region ?_; apply run_step rfl; (exact stp_move rfl rfl); apply run_step rfl; (exact stp_assign rfl rfl); apply run_step rfl; (exact stp_assign rfl rfl); refine run_nil ?_; refine fin_seq ?_; refine goes_ret ?_; refine fin_ret_then ?_)
    exact fin_ret2 (.inl rfl) rfl (.tmp rfl) (.tmp rfl) trivial trivial
set_option maxRecDepth 100000 in
set_option maxHeartbeats 1000000 in
theorem specCT_yes (ng : Nat) (rels ws : List (List Int)) (h1 : Fit rels) (h2 : Fit ws) (hok : withOk ((ng : Int), rels) ws = true) (hG : Good ng rels ws) (hs : smallOk ((ng : Int), rels) ws = true) :
    FC Try.prog 61 [(1002, rowsRo ws), (1003, rowsRo rels)] [pA ng rels.length, o1 (.sl 1002 0 ws.length)] [(1005, imOw (cosTab ((ng : Int), rels) ws))] (.tup [.one (.sl 1005 0 ng), .one (.val (I6 0))]) [] := by
  have hC := specCode_fc ng rels ws h1 h2
  refine fc_enter (nt := 18) Try.func61 rfl rfl (by simp) fun w0 ω0 => ?_
  have hT := specSmall_yes hG hs
  rw [withC_ok hok] at hC
  (refine goes_seq ?_; refine goes_region ?_; apply run_step rfl; (exact stp_box rfl rfl rfl rfl); apply run_step rfl; (exact stp_assign rfl rfl); apply run_step rfl; (exact stp_assign rfl rfl); refine run_nil ?_; refine fin_seq ?_; refine goes_seq ?_; refine goes_seq ?_; refine goes_region ?_; apply run_step rfl; (exact stp_loadAgg rfl rfl rfl rfl rfl rfl (by as_aux_lemma => kernel_rfl)); apply run_step rfl; (exact stp_move rfl rfl); apply run_step rfl; (apply call_gate 141; exact stp_callR hC (by as_aux_lemma => kernel_rfl) rfl rfl ⟨⟨.inl rfl, .inl rfl, trivial⟩, rfl, trivial⟩ ⟨⟨_, rfl, .inl rfl⟩, ⟨_, rfl, .inl rfl⟩, trivial⟩ rfl rfl); apply run_step rfl; (exact stp_assign rfl rfl); refine run_nil ?_; refine fin_seq ?_; refine goes_seq ?_; refine goes_region ?_; apply run_step rfl; (exact stp_move rfl rfl); apply run_step rfl; (exact stp_bin rfl rfl rfl rfl); refine run_nil ?_; refine fin_seq ?_)
  refine goes_cond rfl (fun e => by cases e) (fun _ => ?_)
  (refine goes_skip ?_; refine fin_seq ?_; refine goes_seq ?_; refine goes_region ?_; apply run_step rfl; (exact stp_loadAgg rfl rfl rfl rfl rfl rfl (by as_aux_lemma => kernel_rfl)); apply run_step rfl; (exact stp_move rfl rfl); apply run_step rfl; (apply call_gate 107; exact stp_callN hT (by as_aux_lemma => kernel_rfl) rfl rfl ⟨⟨.inl rfl, .inl rfl, trivial⟩, rfl, trivial⟩ ⟨⟨_, rfl, .inl rfl⟩, ⟨_, rfl, .inl rfl⟩, trivial⟩ rfl rfl rfl); apply run_step rfl; (exact stp_extract rfl rfl rfl); apply run_step rfl; (exact stp_extract rfl rfl rfl); apply run_step rfl; (exact stp_assign rfl rfl); apply run_step rfl; (exact stp_assign rfl rfl); refine run_nil ?_; refine fin_seq ?_; refine goes_ret ?_)
  exact fin_ret2 (.inl rfl) rfl (.tmp rfl) (.tmp rfl) ⟨rfl, trivial⟩ trivial
end Go.Proofs.Ytpognnifgcacnaa

/- Words in a table: l11Elements, elementTable, l11Lead, applied; IsIdentityWord. guards: -/
namespace Go.Proofs.Ytpognnifgcacnaa
open Go.RowKit

theorem cosTab_leads {ng : Nat} {rels ws : List (List Int)} (h : Good ng rels ws) (hf : (runC ng rels ws).2.2 = false) : Leads (cosTab ((ng : Int), rels) ws) (cosN ((ng : Int), rels) ws) := by
  refine ⟨fun k hk => cosTab_row (by rw [cosTab_len] at hk; exact hk), fun k hk x hx => ?_⟩
  rw [cosTab_len] at hk
  have hF := full_run h.rl h.wl hf
  rw [cosTab_nat]
  rw [cosN_nat] at hx ⊢
  have := tableC_entry hF hx hk
  have he : iget (lget (tableC ng (runC ng rels ws).1 (runC ng rels ws).2.1) k) x = tabC (runC ng rels ws).1 (runC ng rels ws).2.1 (numbered ng (runC ng rels ws).1 (runC ng rels ws).2.1) k x := by
    simp [tableC, lget, iget, hk, hx, tabC]
  rw [he]
  exact this
theorem smallOk_run {ng : Nat} {rels ws : List (List Int)} (hs : smallOk ((ng : Int), rels) ws = true) : (runC ng rels ws).2.2 = false ∧ cosN ((ng : Int), rels) ws ≤ 400 := by
  unfold smallOk at hs; rw [cosX_nat] at hs; simpa using hs
theorem tabLoop_grow {ng : Nat} {im : List (List Int)} {less : List Int} (hF : Full ng im less) : ∀ (f i : Nat) (s : NSt), TOK less.length less s → NGrow s (tabLoop ng im less f i s)
  | 0, _, s, _ => NGrow.refl s
  | f + 1, i, s, h => by
    unfold tabLoop
    split
    · rename_i hlt
      obtain ⟨h1, h2, _⟩ := tabRow_ok hF h hlt ng (Nat.le_refl _)
      exact NGrow.trans h2 (tabLoop_grow hF f (i + 1) _ h1)
    · exact NGrow.refl s
theorem numbered_grow {ng : Nat} {im : List (List Int)} {less : List Int} (hF : Full ng im less) : NGrow (tabStart less.length) (numbered ng im less) := tabLoop_grow hF _ _ _ (tabStart_ok hF)
theorem cosN_pos {ng : Nat} {rels ws : List (List Int)} (h : Good ng rels ws) (hf : (runC ng rels ws).2.2 = false) : 0 < cosN ((ng : Int), rels) ws := by
  rw [cosN_nat]
  have hF := full_run h.rl h.wl hf
  obtain ⟨hk, _⟩ := numbered_ok hF
  have hF0 := hF.pos
  rcases Nat.eq_zero_or_pos (numbered ng (runC ng rels ws).1 (runC ng rels ws).2.1).1.length with h0 | h0
  · exfalso
    have g1 : NGrow (tabStart (runC ng rels ws).2.1.length) (numbered ng (runC ng rels ws).1 (runC ng rels ws).2.1) := numbered_grow hF
    have := g1.len
    simp [tabStart] at this
    omega
  · exact h0

section
variable {η : Env} {ω : Own?} {w : World} {ins : List (Nm × Ch)}
theorem rdE {x i : Nat} {own : Bool} {E F : Nat} {zss : List (List Int)} {v : Value} (hm : Mem η ω w (fun x => lk x ins)) (hx : lk x ins = some ⟨own, E, 1, .rows F (irows zss) []⟩) (hi : i < zss.length) (hv : Den1 η (.esl x i 0 (lget zss i).length) v) (hn : (lget zss i).length ≤ 17592186044416) : ∃ ao c, v = .slice ao (lget zss i).length c ∧ Ints w ao (lget zss i).length (lget zss i) := by
  obtain ⟨h, h1, h2, h3⟩ := hm.1 x _ hx
  obtain ⟨ao, rfl, h4, _⟩ := hv.2 h h1
  have h3 : Vec own ω w (x, none) h E (irows zss).length (cellsOK η ω w own x (.rows F (irows zss) [])) := h3
  obtain ⟨b', o', u', g1, g2, g3, g4⟩ := h3.get (j := i) (by rw [irows_len]; exact hi)
  obtain ⟨k1, k2, k3⟩ := g4 (by simp) (ivals (lget zss i)) (irows_get hi)
  rw [h4 rfl]
  refine ⟨_, _, rfl, rfl, hn, fun h0 => ?_⟩
  obtain ⟨b2, o2, u2, m1, _, _⟩ := k3.get (j := 0) (by rw [ivals_len]; exact h0)
  refine ⟨b2, o2, m1, fun j hj => ?_⟩
  obtain ⟨b3, o3, u3, n1, n2, n3⟩ := k3.get (j := j) (by rw [ivals_len]; exact hj)
  rw [m1] at n1; injection n1 with n1; injection n1 with n1 n1'; subst n1 n1'
  rw [ivals_get hj] at n3
  rw [n2, ← n3]
end
theorem three_of {us : List Value} {u0 u1 u2 : Value} (hl : us.length = 3) (g0 : us[0]? = some u0) (g1 : us[1]? = some u1) (g2 : us[2]? = some u2) : us = [u0, u1, u2] := by
  match us, hl with
  | [p, q, r], _ => simp at g0 g1 g2; rw [g0, g1, g2]
theorem specLeadE_fc (T ws : List (List Int)) (i : Nat) (x m n : Nat) (hn : T.length = n) (hT : Leads T m) (hx : x < m) (hm4 : m ≤ 1000000) (hn4 : n ≤ 1000000) (hi0 : i < ws.length) (hW : ∀ z ∈ lget ws i, 0 ≤ z ∧ z < T.length) (hWl : (lget ws i).length ≤ 1000000000) :
    FC Try.prog 135 [(1005, imRo T), (1002, rowsRo ws)] [o1 (.sl 1005 0 n), vv (I6 x), o1 (.esl 1002 i 0 (lget ws i).length)] [] (vv (I6 (leadL T x (lget ws i)))) [] :=
  fc_of_calls fun w η ω us hm ⟨hl, ha⟩ => by
    subst hn
    obtain ⟨u0, g0, d0⟩ := ha 0 _ rfl
    obtain ⟨u1, g1, d1⟩ := ha 1 _ rfl
    obtain ⟨u2, g2, d2⟩ := ha 2 _ rfl
    have d1 : u1 = I6 x := d1
    subst d1
    obtain ⟨ao, c, rfl, hi⟩ := rdSS (x := 1005) (zss := T) hm rfl d0 (by omega) fun zs hz => by
      obtain ⟨j, hj, rfl⟩ := List.getElem_of_mem hz
      rw [← lget_lt hj, hT.len j hj]; omega
    obtain ⟨ao', c', rfl, hi'⟩ := rdE (x := 1002) (zss := ws) hm rfl hi0 d2 (by omega)
    rw [three_of hl g0 g1 g2]
    refine (specLead_any ao _ c T ao' _ c' _ x m w hi hi' hx hT hW).mono ?_
    rintro e w' ⟨rfl, rfl⟩
    exact ⟨rfl, Below.refl _ _⟩
theorem implLeadE_fc (T ws : List (List Int)) (i : Nat) (x m n : Nat) (hn : T.length = n) (hT : Leads T m) (hx : x < m) (hm4 : m ≤ 1000000) (hn4 : n ≤ 1000000) (hi0 : i < ws.length) (hW : ∀ z ∈ lget ws i, 0 ≤ z ∧ z < T.length) (hWl : (lget ws i).length ≤ 1000000000) :
    FC Try.prog 133 [(1005, imRo T), (1002, rowsRo ws)] [o1 (.sl 1005 0 n), o1 (.esl 1002 i 0 (lget ws i).length), vv (I6 x)] [] (vv (I6 (leadL T x (lget ws i)))) [] :=
  fc_of_calls fun w η ω us hm ⟨hl, ha⟩ => by
    subst hn
    obtain ⟨u0, g0, d0⟩ := ha 0 _ rfl
    obtain ⟨u1, g1, d1⟩ := ha 1 _ rfl
    obtain ⟨u2, g2, d2⟩ := ha 2 _ rfl
    have d2 : u2 = I6 x := d2
    subst d2
    obtain ⟨ao, c, rfl, hi⟩ := rdSS (x := 1005) (zss := T) hm rfl d0 (by omega) fun zs hz => by
      obtain ⟨j, hj, rfl⟩ := List.getElem_of_mem hz
      rw [← lget_lt hj, hT.len j hj]; omega
    obtain ⟨ao', c', rfl, hi'⟩ := rdE (x := 1002) (zss := ws) hm rfl hi0 d1 (by omega)
    rw [three_of hl g0 g1 g2]
    refine (applied_any ao _ c T ao' _ c' _ x m w hi hi' hx hT hW).mono ?_
    rintro e w' ⟨rfl, rfl⟩
    exact ⟨rfl, Below.refl _ _⟩
/-! in words -/
end Go.Proofs.Ytpognnifgcacnaa

/- Orders of words: l11Order, periodOf; OrderOfElement. -/
namespace Go.Proofs.Ytpognnifgcacnaa
open Go.RowKit

section
variable {T : List (List Int)} {W : List Int} {m : Nat}
end
theorem cosTab_invol {ng : Nat} {rels ws : List (List Int)} (h : Good ng rels ws) (hf : (runC ng rels ws).2.2 = false) : Invol (cosTab ((ng : Int), rels) ws) (cosN ((ng : Int), rels) ws) := fun k hk x hx => by
  rw [cosTab_len] at hk
  have hF := full_run h.rl h.wl hf
  rw [cosTab_nat]
  rw [cosN_nat] at hx
  have hr := tableC_entry hF hx hk
  have hb := tEnt_back hF (runC_back h.rl h.wl).2 hx hk
  have he : ∀ y, y < (numbered ng (runC ng rels ws).1 (runC ng rels ws).2.1).1.length → iget (lget (tableC ng (runC ng rels ws).1 (runC ng rels ws).2.1) k) y = tEnt ng (runC ng rels ws).1 (runC ng rels ws).2.1 y k := fun y hy => by
    simp [tableC, lget, iget, hk, hy, tEnt]
  have hr : 0 ≤ tEnt ng (runC ng rels ws).1 (runC ng rels ws).2.1 x k ∧ tEnt ng (runC ng rels ws).1 (runC ng rels ws).2.1 x k < _ := hr
  rw [he x hx, he _ (by omega)]
  exact hb

end Go.Proofs.Ytpognnifgcacnaa

/- What the table of cosets tells, of the program's own numbers. No program in sight. -/
namespace Go.Proofs.Ytpognnifgcacnaa

theorem nodup_iget {zs : List Int} (h : ∀ i j, i < zs.length → j < zs.length → iget zs i = iget zs j → i = j) : zs.Nodup := by
  rw [List.nodup_iff_pairwise_ne, List.pairwise_iff_getElem]
  intro i j hi hj hij e
  have := h i j hi hj (by rw [iget_lt hi, iget_lt hj]; exact e)
  omega
theorem permGo_ok {n : Nat} : ∀ (zs : List Int) (seen : List Bool), seen.length = n → (∀ z ∈ zs, 0 ≤ z ∧ z < n) → zs.Nodup → (∀ z ∈ zs, seen.getD z.toNat false = false) → permGo n seen zs = true
  | [], _, _, _, _, _ => rfl
  | z :: r, seen, hs, hz, hn, hf => by
    rw [List.nodup_cons] at hn
    have h0 := hz z (by simp)
    unfold permGo
    rw [Bool.and_eq_true, Bool.and_eq_true]
    refine ⟨⟨inB_true.2 (by omega), by rw [hf z (by simp)]; rfl⟩, permGo_ok r _ (by rw [List.length_set]; exact hs) (fun x hx => hz x (by simp [hx])) hn.2 fun x hx => ?_⟩
    have hx0 := hz x (by simp [hx])
    have hne : z ≠ x := fun e => hn.1 (e ▸ hx)
    have := hf x (by simp [hx])
    rw [List.getD_eq_getElem?_getD] at this ⊢
    rw [List.getElem?_set_ne (by omega)]
    exact this
theorem isPerm_ok {zs : List Int} (hl : zs.length ≤ 400) (hz : ∀ k, k < zs.length → 0 ≤ iget zs k ∧ iget zs k < zs.length) (hi : ∀ i j, i < zs.length → j < zs.length → iget zs i = iget zs j → i = j) : isPerm zs = true := by
  unfold isPerm
  rw [Bool.and_eq_true]
  refine ⟨decide_eq_true hl, permGo_ok zs _ (by simp) (fun z hzm => ?_) (nodup_iget hi) fun z hzm => ?_⟩
  · obtain ⟨j, hj, rfl⟩ := List.getElem_of_mem hzm
    rw [← iget_lt hj]; exact hz j hj
  · rw [List.getD_eq_getElem?_getD, List.getElem?_replicate]
    split <;> rfl
/-- what the laws ask of a table of cosets -/
structure CtOk (d : PresD) (ws : List (List Int)) (n : Nat) : Prop where
  len : ((ctR d ws).length : Int) = d.1
  pos : 0 < (ctR d ws).length
  leads : Leads (ctR d ws) n
  idxc : idxC d ws = 0
  idxr : idxR d ws = (n : Int)
  n1 : 1 ≤ n
  n4 : n ≤ 400
  holdc : holdC d (ctR d ws) = 0
  holdr : holdR d (ctR d ws) = true
  low : ∀ i, i < ws.length → ∀ z ∈ lget ws i, 0 ≤ z ∧ z < (ctR d ws).length
  home : ∀ i, i < ws.length → leadL (ctR d ws) (0 : Nat) (lget ws i) = ((0 : Nat) : Int)
  few : ws.length ≤ 24
  dvd : idxC d [] = 0 → ∃ m : Nat, idxR d [] = (m : Int) ∧ n ∣ m ∧ m ≤ 2000
theorem ctC_zero {d : PresD} {ws : List (List Int)} (h : ctC d ws = 0) : withOk d ws = true ∧ smallOk d ws = true := by
  unfold ctC at h
  split at h
  · split at h
    · exact ⟨by assumption, by assumption⟩
    · cases h
  · cases h
theorem idx_zero {d : PresD} {ws : List (List Int)} (h : idxC d ws = 0) : withOk d ws = true ∧ (cosX d ws).2.2 = false := by
  unfold idxC at h
  split at h
  · split at h
    · cases h
    · rename_i h1 h2
      exact ⟨h1, by simpa using h2⟩
  · cases h
theorem ct_ok {d : PresD} {ws : List (List Int)} (h : ctC d ws = 0) : ∃ n, CtOk d ws n := by
  obtain ⟨g, rels⟩ := d
  obtain ⟨hw, hsm⟩ := ctC_zero h
  obtain ⟨ng, rfl, hG⟩ := good_of hw
  have hs := smallOk_run hsm
  have hR : ctR ((ng : Int), rels) ws = cosTab ((ng : Int), rels) ws := by unfold ctR; rw [if_pos hw, if_pos hsm]
  have hT := cosTab_leads hG hs.1
  have hI := cosTab_invol hG hs.1
  have hm := cosN_pos hG hs.1
  have hRan : Ran ng rels ws := ⟨hG.rl, hG.wl, hs.1⟩
  have hTe : cosTab ((ng : Int), rels) ws = ctb ng rels ws := cosTab_nat ng rels ws
  have hNe : cosN ((ng : Int), rels) ws = cnm ng rels ws := cosN_nat ng rels ws
  have hlen := cosTab_len ng rels ws
  have hng := hG.pos
  have hp : isPres ((ng : Int), rels) = true := by
    unfold withOk at hw
    rw [Bool.and_eq_true] at hw; exact hw.1
  have hrow : (lget (cosTab ((ng : Int), rels) ws) 0).length = cosN ((ng : Int), rels) ws := hT.len 0 (by omega)
  have hrel : ∀ i, i < rels.length → ∀ x, x < cosN ((ng : Int), rels) ws → leadL (cosTab ((ng : Int), rels) ws) (x : Nat) (lget rels i) = (x : Int) := fun i hi x hx => by
    rw [hTe]; exact ctb_rels hG.rl hG.wl hs.1 (lget_mem hi) (by rw [← hNe]; exact hx)
  have hperms : isPerms (cosTab ((ng : Int), rels) ws) = true := isPerms_true.2 fun k hk => by
    have hl := hT.len k hk
    refine ⟨isPerm_ok (by rw [hl]; exact hs.2) (fun x hx => by rw [hl] at hx ⊢; exact hT.within k hk x hx) (fun i j hi hj e => ?_), by rw [hl, hrow]⟩
    rw [hl] at hi hj
    have a := hI k hk i hi
    have b := hI k hk j hj
    rw [e] at a; omega
  have hargs : holdArgs ((ng : Int), rels) (cosTab ((ng : Int), rels) ws) = true := by
    unfold holdArgs
    rw [hp, hperms, hlen]; simp
  have hB : holdB rels (cosTab ((ng : Int), rels) ws) = true := by
    unfold holdB
    rw [Bool.and_eq_true]
    refine ⟨involsL_true.2 fun k hk => isIden_true.2 fun i hi => ?_, fixAll_true.2 fun i hi x hx => ?_⟩
    · rw [length_thenL] at hi
      rw [iget_thenL hi]
      rw [hT.len k hk] at hi
      exact hI k hk i hi
    · rw [hrow] at hx
      exact hrel i hi x hx
  refine ⟨cosN ((ng : Int), rels) ws, ?_⟩
  refine { len := ?_, pos := ?_, leads := ?_, idxc := ?_, idxr := ?_, n1 := hm, n4 := hs.2, holdc := ?_, holdr := ?_, low := ?_, home := ?_, few := hG.w, dvd := ?_ }
  · rw [hR, hlen]
  · rw [hR, hlen]; exact hng
  · rw [hR]; exact hT
  · unfold idxC; rw [if_pos hw, cosX_nat, if_neg (by rw [hs.1]; decide)]
  · unfold idxR; rw [if_pos hw, cosX_nat, if_neg (by rw [hs.1]; decide)]
  · rw [hR]; unfold holdC; rw [if_pos hargs]
  · rw [hR]; unfold holdR; rw [hargs, hB]; rfl
  · intro i hi z hz
    rw [hR, hlen]
    exact hG.wl _ (lget_mem hi) z hz
  · intro i hi
    rw [hR, hTe]
    exact ctb_words hG.rl hG.wl hs.1 (lget_mem hi)
  · intro h0
    obtain ⟨hw0, hx0⟩ := idx_zero h0
    obtain ⟨ng', hng', hG0⟩ := good_of hw0
    have hng'' : ng' = ng := by omega
    subst hng''
    rw [cosX_nat] at hx0
    have hRan0 : Ran ng' rels [] := ⟨hG0.rl, hG0.wl, hx0⟩
    refine ⟨cosN ((ng' : Int), rels) [], ?_, ?_, cosN_le hG0 hx0⟩
    · unfold idxR; rw [if_pos hw0, cosX_nat, if_neg (by rw [hx0]; decide)]
    · rw [hNe, cosN_nat ng' rels []]
      exact hRan0.divides hRan (fun w hw x hx => ctb_rels hG.rl hG.wl hs.1 hw hx) (fun w hw => by simp at hw)
end Go.Proofs.Ytpognnifgcacnaa

/- IsNormalSubgroup. -/
namespace Go.Proofs.Ytpognnifgcacnaa
open Go.RowKit

def fixAllB (T ws : List (List Int)) (n : Nat) : Bool := (List.range ws.length).all fun i => (List.range n).all fun c => leadL T ((c : Nat) : Int) (lget ws i) == (c : Int)
theorem fixAllB_iff {T ws : List (List Int)} {n : Nat} : fixAllB T ws n = true ↔ ∀ i, i < ws.length → ∀ c, c < n → leadL T ((c : Nat) : Int) (lget ws i) = (c : Int) := by
  unfold fixAllB
  simp only [List.all_eq_true, List.mem_range, beq_iff_eq]
def nrR (d : PresD) (ws : List (List Int)) : Bool := if ctC d ws = 0 then fixAllB (cosTab d ws) ws (cosN d ws) else false
theorem ctC_ok {d : PresD} {ws : List (List Int)} (h : withOk d ws = true ∧ smallOk d ws = true) : ctC d ws = 0 := by unfold ctC; rw [if_pos h.1, if_pos h.2]
theorem ctC_no {d : PresD} {ws : List (List Int)} (h : ¬ (withOk d ws = true ∧ smallOk d ws = true)) : ctC d ws ≠ 0 := by
  unfold ctC
  split
  · split
    · exact fun _ => h ⟨by assumption, by assumption⟩
    · decide
  · decide

set_option maxRecDepth 100000 in
set_option maxHeartbeats 2000000 in
theorem specNr_fc (g : Int) (rels ws : List (List Int)) (h1 : Fit rels) (h2 : Fit ws) :
    FC Try.prog 78 [(1002, rowsRo ws), (1003, rowsRo rels)] [pA g rels.length, o1 (.sl 1002 0 ws.length)] [] (.tup [.one (.val (.bool (nrR (g, rels) ws))), .one (.val (I6 (ctC (g, rels) ws)))]) [] := by
  refine fc_enter (nt := 42) Try.func78 rfl rfl (by simp) fun w0 ω0 => ?_
  by_cases hk : withOk (g, rels) ws = true ∧ smallOk (g, rels) ws = true
  · obtain ⟨ng, rfl, hG⟩ := good_of hk.1
    have hE := specCT_yes ng rels ws h1 h2 hk.1 hG hk.2
    have hs := smallOk_run hk.2
    have hL : ∀ i x, i < ws.length → x < cosN ((ng : Int), rels) ws → FC Try.prog 135 [(1005, imRo (cosTab ((ng : Int), rels) ws)), (1002, rowsRo ws)] [o1 (.sl 1005 0 ng), vv (I6 x), o1 (.esl 1002 i 0 (lget ws i).length)] [] (vv (I6 (leadL (cosTab ((ng : Int), rels) ws) x (lget ws i)))) [] := fun i x hi hx =>
      specLeadE_fc _ ws i x _ ng (cosTab_len _ _ _) (cosTab_leads hG hs.1) hx (by omega) (by have := hG.hi; omega) hi (by rw [cosTab_len]; exact hG.wl _ (lget_mem hi)) (hG.wn _ (lget_mem hi))
    have hc := ctC_ok hk
    unfold nrR
    rw [hc, if_pos rfl]
    have hlen : (irows (cosTab ((ng : Int), rels) ws)).length = ng := by rw [irows_len, cosTab_len]
    have hpos := hG.pos
    have hr0 : (lget (cosTab ((ng : Int), rels) ws) 0).length = cosN ((ng : Int), rels) ws := cosTab_row hpos
    have hrow : (irows (cosTab ((ng : Int), rels) ws))[0]? = some (ivals (lget (cosTab ((ng : Int), rels) ws) 0)) := irows_get (by rw [← irows_len, hlen]; exact hpos)
    have hN := hs.2
    have hwl := hG.w
    generalize cosN ((ng : Int), rels) ws = N at *
    generalize cosTab ((ng : Int), rels) ws = T at *
    (refine goes_seq ?_; refine goes_region ?_; apply run_step rfl; (exact stp_box rfl rfl rfl rfl); apply run_step rfl; (exact stp_assign rfl rfl); apply run_step rfl; (exact stp_assign rfl rfl); refine run_nil ?_; refine fin_seq ?_; refine goes_seq ?_; refine goes_region ?_; apply run_step rfl; (exact stp_loadAgg rfl rfl rfl rfl rfl rfl (by as_aux_lemma => kernel_rfl)); apply run_step rfl; (exact stp_move rfl rfl); apply run_step rfl; (apply call_gate 61; exact stp_callN hE (by as_aux_lemma => kernel_rfl) rfl rfl ⟨⟨.inl rfl, .inl rfl, trivial⟩, rfl, trivial⟩ ⟨⟨_, rfl, .inl rfl⟩, ⟨_, rfl, .inl rfl⟩, trivial⟩ rfl rfl rfl); apply run_step rfl; (exact stp_move rfl rfl); apply run_step rfl; (exact stp_extract rfl rfl rfl); apply run_step rfl; (exact stp_extract rfl rfl rfl); apply run_step rfl; (exact stp_assign rfl rfl); apply run_step rfl; (exact stp_assign rfl rfl); refine run_nil ?_; refine fin_seq ?_; refine goes_seq ?_; refine goes_seq ?_; refine goes_region ?_; apply run_step rfl; (exact stp_move rfl rfl); apply run_step rfl; (exact stp_bin rfl rfl rfl rfl); refine run_nil ?_; refine fin_seq ?_)
    refine goes_cond rfl (fun e => by cases e) (fun _ => ?_)
    (refine goes_skip ?_; refine fin_seq ?_; refine goes_seq ?_; refine goes_seq ?_; refine goes_region ?_; apply run_step rfl; (exact stp_assign rfl rfl); refine run_nil ?_; refine fin_seq ?_; refine goes_block ?_)
    refine goes_loop (fun i : Nat => St.of [(1, o1 (.sl 1002 0 ws.length)), (6, o1 (.sl 1005 0 ng)), (8, vv (I6 i))] [(1005, imOw T), (1002, rowsRo ws)]) (fun i => i ≤ ws.length ∧ ∀ j, j < i → ∀ c, c < N → leadL T ((c : Nat) : Int) (lget ws j) = (c : Int)) (fun i => ws.length - i) 0 ⟨Nat.zero_le _, fun j hj => by omega⟩ (Wk.of ⟨rfl, rfl, rfl, trivial⟩ ⟨rfl, rfl, trivial⟩ trivial) ?_
    rintro i ⟨hi, hfix⟩
    (refine goes_seq ?_; refine goes_seq ?_; refine goes_region ?_; apply run_step rfl; (exact stp_move rfl rfl); apply run_step rfl; (exact stp_move rfl rfl); apply run_step rfl; (exact stp_len rfl rfl rfl (by as_aux_lemma => kernel_rfl)); apply run_step rfl; (exact stp_bin rfl rfl rfl rfl); refine run_nil ?_; refine fin_seq ?_)
    refine goes_if rfl (fun hlt => ?_) (fun hlt => ?_)
    · have hlt' : i < ws.length := by omega
      have hroww : (irows ws)[i]? = some (ivals (lget ws i)) := irows_get hlt'
      (refine goes_skip ?_; refine fin_seq ?_; refine goes_seq ?_; refine goes_block ?_; refine goes_seq ?_; refine goes_region ?_; apply run_step rfl; (exact stp_assign rfl rfl); refine run_nil ?_; refine fin_seq ?_; refine goes_block ?_)
      refine goes_loop (fun c : Nat => St.of [(1, o1 (.sl 1002 0 ws.length)), (6, o1 (.sl 1005 0 ng)), (8, vv (I6 i)), (9, vv (I6 c))] [(1005, imOw T), (1002, rowsRo ws)]) (fun c => c ≤ N ∧ ∀ x, x < c → leadL T ((x : Nat) : Int) (lget ws i) = (x : Int)) (fun c => N - c) 0 ⟨Nat.zero_le _, fun x hx => by omega⟩ (Wk.of ⟨rfl, rfl, rfl, rfl, trivial⟩ ⟨rfl, rfl, trivial⟩ trivial) ?_
      rintro c ⟨hcN, hfx⟩
      (refine goes_seq ?_; refine goes_seq ?_; refine goes_region ?_; apply run_step rfl; (exact stp_move rfl rfl); apply run_step rfl; (exact stp_move rfl rfl); apply run_step rfl; (exact stp_ix (j := 0) rfl rfl rfl rfl rfl (by as_aux_lemma => kernel_rfl) rfl hpos (Nat.le_of_eq hlen.symm)); apply run_step rfl; (exact stp_loadR rfl (by as_aux_lemma => kernel_rfl) rfl rfl rfl (by first | assumption | exact ivals_get (by assumption) | exact irows_get (by assumption) | exact ivals_get (by omega) | exact irows_get (by omega) | rfl) (by first | exact ivals_len _ | assumption | rfl)); apply run_step rfl; (exact stp_len rfl rfl rfl (by as_aux_lemma => kernel_rfl)); apply run_step rfl; (exact stp_bin rfl rfl rfl rfl); refine run_nil ?_; refine fin_seq ?_)
      refine goes_if rfl (fun hcl => ?_) (fun hcl => ?_)
      · have hcl' : c < N := by omega
        have hLc := hL i c hlt' hcl'
        (refine goes_skip ?_; refine fin_seq ?_; refine goes_seq ?_; refine goes_block ?_; refine goes_seq ?_; refine goes_region ?_; apply run_step rfl; (exact stp_move rfl rfl); apply run_step rfl; (exact stp_move rfl rfl); apply run_step rfl; (exact stp_move rfl rfl); apply run_step rfl; (exact stp_move rfl rfl); apply run_step rfl; (exact stp_ix rfl rfl rfl rfl rfl (by as_aux_lemma => kernel_rfl) (by first | rfl | exact (Int.toNat_of_nonneg (by omega)).symm) (by first | assumption | omega | (simp; omega)) (by first | exact Nat.le_refl _ | exact Nat.le_of_eq (ivals_len _).symm | exact Nat.le_of_eq (irows_len _).symm | (refine Nat.le_trans ?_ (Nat.le_of_eq (ivals_len _).symm); (first | omega | (simp; done) | (simp; omega))) | (refine Nat.le_trans ?_ (Nat.le_of_eq (irows_len _).symm); (first | omega | (simp; done) | (simp; omega))))); apply run_step rfl; (exact stp_loadR rfl (by as_aux_lemma => kernel_rfl) rfl rfl rfl (by first | assumption | exact ivals_get (by assumption) | exact irows_get (by assumption) | exact ivals_get (by omega) | exact irows_get (by omega) | rfl) (by first | exact ivals_len _ | assumption | rfl)); apply run_step rfl; (apply call_gate 135; exact stp_callR hLc (by as_aux_lemma => kernel_rfl) rfl rfl ⟨rfl, rfl, rfl, trivial⟩ ⟨⟨_, rfl, .inr rfl⟩, ⟨_, rfl, .inl rfl⟩, trivial⟩ rfl rfl); apply run_step rfl; (exact stp_move rfl rfl); apply run_step rfl; (exact stp_bin rfl rfl rfl rfl); refine run_nil ?_; refine fin_seq ?_)
        refine goes_cond rfl (fun hne => ?_) (fun hne => ?_)
        · have hne' : leadL T (c : Int) (lget ws i) ≠ (c : Int) := by simpa using hne
          have hno : fixAllB T ws N = false := by rw [← Bool.not_eq_true]; exact fun h => hne' (fixAllB_iff.1 h i hlt' c hcl')
          rw [hno]
          (refine goes_seq ?_; refine goes_region ?_; apply run_step rfl; (exact stp_assign rfl rfl); apply run_step rfl; (exact stp_assign rfl rfl); refine run_nil ?_; refine fin_seq ?_; refine goes_ret ?_; refine fin_ret_block ?_; refine fin_ret_then ?_; refine fin_ret_then ?_; refine fin_ret_block ?_; refine fin_ret_block ?_; refine fin_ret_then ?_; refine fin_ret_then ?_; refine fin_ret_block ?_; refine fin_ret_then ?_)
          exact fin_ret2 (.inl rfl) rfl (.tmp rfl) (.tmp rfl) trivial trivial
        · have heq : leadL T (c : Int) (lget ws i) = (c : Int) := by simpa using hne
          (refine goes_skip ?_; refine fin_block ?_; refine fin_seq ?_; refine goes_region ?_; apply run_step rfl; (exact stp_move rfl rfl); apply run_step rfl; (exact stp_add rfl rfl rfl (by first | exact IntWalk.i64_in _ (by omega) | rfl)); apply run_step rfl; (exact stp_assign rfl rfl); refine run_nil ?_)
          exact fin_round (c + 1) ⟨hcl', fun x hx => by
            by_cases e : x = c
            · subst e; exact heq
            · exact hfx x (by omega)⟩ (by omega) (Wk.of ⟨rfl, rfl, rfl, rfl, trivial⟩ ⟨rfl, rfl, trivial⟩ trivial)
      · obtain rfl : c = N := by omega
        (refine goes_exit ?_; refine fin_exit_then ?_; refine fin_exit_then ?_; refine fin_exit_eq ?_; refine fin_block ?_; refine fin_seq ?_; refine goes_region ?_; apply run_step rfl; (exact stp_move rfl rfl); apply run_step rfl; (exact stp_add rfl rfl rfl (by first | exact IntWalk.i64_in _ (by omega) | rfl)); apply run_step rfl; (exact stp_assign rfl rfl); refine run_nil ?_)
        exact fin_round (i + 1) ⟨hlt', fun j hj => by
          by_cases e : j = i
          · subst e; exact hfx
          · exact hfix j (by omega)⟩ (by omega) (Wk.of ⟨rfl, rfl, rfl, trivial⟩ ⟨rfl, rfl, trivial⟩ trivial)
    · obtain rfl : i = ws.length := by omega
      have hyes : fixAllB T ws N = true := fixAllB_iff.2 hfix
      rw [hyes]
      (refine goes_exit ?_; refine fin_exit_then ?_; refine fin_exit_then ?_; refine fin_exit_eq ?_; refine fin_seq ?_; refine goes_seq ?_; refine goes_region ?_; apply run_step rfl; (exact stp_assign rfl rfl); apply run_step rfl; (exact stp_assign rfl rfl); refine run_nil ?_; refine fin_seq ?_; refine goes_ret ?_)
      exact fin_ret2 (.inl rfl) rfl (.tmp rfl) (.tmp rfl) trivial trivial
  · have hE := specCT_no g rels ws h1 h2 hk
    have hc := ctC_no hk
    unfold nrR
    rw [if_neg hc]
    (refine goes_seq ?_; refine goes_region ?_; apply run_step rfl; (exact stp_box rfl rfl rfl rfl); apply run_step rfl; (exact stp_assign rfl rfl); apply run_step rfl; (exact stp_assign rfl rfl); refine run_nil ?_; refine fin_seq ?_; refine goes_seq ?_; refine goes_region ?_; apply run_step rfl; (exact stp_loadAgg rfl rfl rfl rfl rfl rfl (by as_aux_lemma => kernel_rfl)); apply run_step rfl; (exact stp_move rfl rfl); apply run_step rfl; (apply call_gate 61; exact stp_callR hE (by as_aux_lemma => kernel_rfl) rfl rfl ⟨⟨.inl rfl, .inl rfl, trivial⟩, rfl, trivial⟩ ⟨⟨_, rfl, .inl rfl⟩, ⟨_, rfl, .inl rfl⟩, trivial⟩ rfl rfl); apply run_step rfl; (exact stp_move rfl rfl); apply run_step rfl; (exact stp_extract rfl rfl rfl); apply run_step rfl; (exact stp_extract rfl rfl rfl); apply run_step rfl; (exact stp_assign rfl rfl); apply run_step rfl; (exact stp_assign rfl rfl); refine run_nil ?_; refine fin_seq ?_; refine goes_seq ?_; refine goes_seq ?_; refine goes_region ?_; apply run_step rfl; (exact stp_move rfl rfl); apply run_step rfl; (exact stp_bin rfl rfl rfl rfl); refine run_nil ?_; refine fin_seq ?_)
    refine goes_cond rfl (fun _ => ?_) (fun e => ?_)
    · (refine goes_seq ?_; refine goes_region ?_; apply run_step rfl; (exact stp_move rfl rfl); apply run_step rfl; (exact stp_assign rfl rfl); apply run_step rfl; (exact stp_assign rfl rfl); refine run_nil ?_; refine fin_seq ?_; refine goes_ret ?_; refine fin_ret_then ?_)
      exact fin_ret2 (.inl rfl) rfl (.tmp rfl) (.tmp rfl) trivial trivial
    · exfalso; simp at e; exact hc e

set_option maxRecDepth 100000 in
set_option maxHeartbeats 2000000 in
theorem implNr_fc (g : Int) (rels ws : List (List Int)) (h1 : Fit rels) (h2 : Fit ws) :
    FC Try.prog 77 [(1002, rowsRo ws), (1003, rowsRo rels)] [pA g rels.length, o1 (.sl 1002 0 ws.length)] [] (.tup [.one (.val (.bool (nrR (g, rels) ws))), .one (.val (I6 (ctC (g, rels) ws)))]) [] := by
  have hC := implCode_fc g rels ws h1 h2
  refine fc_enter (nt := 48) Try.func77 rfl rfl (by simp) fun w0 ω0 => ?_
  by_cases hok : withOk (g, rels) ws = true
  · obtain ⟨ng, rfl, hG⟩ := good_of hok
    rw [withC_ok hok] at hC
    (refine goes_seq ?_; refine goes_region ?_; apply run_step rfl; (exact stp_box rfl rfl rfl rfl); apply run_step rfl; (exact stp_assign rfl rfl); apply run_step rfl; (exact stp_assign rfl rfl); refine run_nil ?_; refine fin_seq ?_; refine goes_seq ?_; refine goes_seq ?_; refine goes_region ?_; apply run_step rfl; (exact stp_loadAgg rfl rfl rfl rfl rfl rfl (by as_aux_lemma => kernel_rfl)); apply run_step rfl; (exact stp_move rfl rfl); apply run_step rfl; (apply call_gate 111; exact stp_callR hC (by as_aux_lemma => kernel_rfl) rfl rfl ⟨⟨.inl rfl, .inl rfl, trivial⟩, rfl, trivial⟩ ⟨⟨_, rfl, .inl rfl⟩, ⟨_, rfl, .inl rfl⟩, trivial⟩ rfl rfl); apply run_step rfl; (exact stp_assign rfl rfl); refine run_nil ?_; refine fin_seq ?_; refine goes_seq ?_; refine goes_region ?_; apply run_step rfl; (exact stp_move rfl rfl); apply run_step rfl; (exact stp_bin rfl rfl rfl rfl); refine run_nil ?_; refine fin_seq ?_)
    refine goes_cond rfl (fun e => by cases e) (fun _ => ?_)
    by_cases hsm : smallOk ((ng : Int), rels) ws = true
    · have hE := implSmall_yes hG hsm
      have hs := smallOk_run hsm
      have hL : ∀ i x, i < ws.length → x < cosN ((ng : Int), rels) ws → FC Try.prog 133 [(1005, imRo (cosTab ((ng : Int), rels) ws)), (1002, rowsRo ws)] [o1 (.sl 1005 0 ng), o1 (.esl 1002 i 0 (lget ws i).length), vv (I6 x)] [] (vv (I6 (leadL (cosTab ((ng : Int), rels) ws) x (lget ws i)))) [] := fun i x hi hx =>
        implLeadE_fc _ ws i x _ ng (cosTab_len _ _ _) (cosTab_leads hG hs.1) hx (by omega) (by have := hG.hi; omega) hi (by rw [cosTab_len]; exact hG.wl _ (lget_mem hi)) (hG.wn _ (lget_mem hi))
      have hc := ctC_ok ⟨hok, hsm⟩
      unfold nrR
      rw [hc, if_pos rfl]
      have hlen : (irows (cosTab ((ng : Int), rels) ws)).length = ng := by rw [irows_len, cosTab_len]
      have hpos := hG.pos
      have hr0 : (lget (cosTab ((ng : Int), rels) ws) 0).length = cosN ((ng : Int), rels) ws := cosTab_row hpos
      have hrow : (irows (cosTab ((ng : Int), rels) ws))[0]? = some (ivals (lget (cosTab ((ng : Int), rels) ws) 0)) := irows_get (by rw [← irows_len, hlen]; exact hpos)
      have hN := hs.2
      have hwl := hG.w
      have hSz : FC Try.prog 139 [] [o1 (.esl 1005 0 0 (lget (cosTab ((ng : Int), rels) ws) 0).length)] [] (vv (I6 (cosN ((ng : Int), rels) ws))) [] := by
        have := sizeE_fc 1005 0 (lget (cosTab ((ng : Int), rels) ws) 0).length
        rwa [hr0] at this ⊢
      generalize cosN ((ng : Int), rels) ws = N at *
      generalize cosTab ((ng : Int), rels) ws = T at *
      (refine goes_skip ?_; refine fin_seq ?_; refine goes_seq ?_; refine goes_region ?_; apply run_step rfl; (exact stp_loadAgg rfl rfl rfl rfl rfl rfl (by as_aux_lemma => kernel_rfl)); apply run_step rfl; (exact stp_move rfl rfl); apply run_step rfl; (apply call_gate 113; exact stp_callN hE (by as_aux_lemma => kernel_rfl) rfl rfl ⟨⟨.inl rfl, .inl rfl, trivial⟩, rfl, trivial⟩ ⟨⟨_, rfl, .inl rfl⟩, ⟨_, rfl, .inl rfl⟩, trivial⟩ rfl rfl rfl); apply run_step rfl; (exact stp_move rfl rfl); apply run_step rfl; (exact stp_extract rfl rfl rfl); apply run_step rfl; (exact stp_extract rfl rfl rfl); apply run_step rfl; (exact stp_assign rfl rfl); apply run_step rfl; (exact stp_assign rfl rfl); refine run_nil ?_; refine fin_seq ?_; refine goes_seq ?_; refine goes_seq ?_; refine goes_region ?_; apply run_step rfl; (exact stp_move rfl rfl); apply run_step rfl; (exact stp_bin rfl rfl rfl rfl); refine run_nil ?_; refine fin_seq ?_)
      refine goes_cond rfl (fun e => by cases e) (fun _ => ?_)
      (refine goes_skip ?_; refine fin_seq ?_; refine goes_seq ?_; refine goes_seq ?_; refine goes_region ?_; apply run_step rfl; (exact stp_move rfl rfl); apply run_step rfl; (exact stp_len rfl rfl rfl (by as_aux_lemma => kernel_rfl)); apply run_step rfl; (exact stp_move rfl rfl); refine run_nil ?_; refine fin_seq ?_; refine goes_block ?_)
      refine goes_loop (fun i : Nat => St.of [(7, o1 (.sl 1005 0 ng)), (27, o1 (.sl 1002 0 ws.length)), (28, vv (I6 ws.length)), (29, vv (I6 i))] [(1005, imOw T), (1002, rowsRo ws)]) (fun i => i ≤ ws.length ∧ ∀ j, j < i → ∀ c, c < N → leadL T ((c : Nat) : Int) (lget ws j) = (c : Int)) (fun i => ws.length - i) 0 ⟨Nat.zero_le _, fun j hj => by omega⟩ (Wk.of ⟨rfl, rfl, rfl, rfl, trivial⟩ ⟨rfl, rfl, trivial⟩ trivial) ?_
      rintro i ⟨hi, hfix⟩
      (refine goes_seq ?_; refine goes_region ?_; apply run_step rfl; (exact stp_bin rfl rfl rfl rfl); refine run_nil ?_; refine fin_seq ?_; refine goes_seq ?_)
      refine goes_if rfl (fun hlt => ?_) (fun hlt => ?_)
      · have hlt' : i < ws.length := by omega
        have hroww : (irows ws)[i]? = some (ivals (lget ws i)) := irows_get hlt'
        (refine goes_skip ?_; refine fin_seq ?_; refine goes_seq ?_; refine goes_block ?_; refine goes_seq ?_; refine goes_region ?_; apply run_step rfl; (exact stp_ix rfl rfl rfl rfl rfl (by as_aux_lemma => kernel_rfl) (by first | rfl | exact (Int.toNat_of_nonneg (by omega)).symm) (by first | assumption | omega | (simp; omega)) (by first | exact Nat.le_refl _ | exact Nat.le_of_eq (ivals_len _).symm | exact Nat.le_of_eq (irows_len _).symm | (refine Nat.le_trans ?_ (Nat.le_of_eq (ivals_len _).symm); (first | omega | (simp; done) | (simp; omega))) | (refine Nat.le_trans ?_ (Nat.le_of_eq (irows_len _).symm); (first | omega | (simp; done) | (simp; omega))))); apply run_step rfl; (exact stp_loadR rfl (by as_aux_lemma => kernel_rfl) rfl rfl rfl (by first | assumption | exact ivals_get (by assumption) | exact irows_get (by assumption) | exact ivals_get (by omega) | exact irows_get (by omega) | rfl) (by first | exact ivals_len _ | assumption | rfl)); apply run_step rfl; (exact stp_assign rfl rfl); refine run_nil ?_; refine fin_seq ?_; refine goes_seq ?_; refine goes_region ?_; apply run_step rfl; (exact stp_move rfl rfl); apply run_step rfl; (first | exact stp_ix (j := 0) rfl rfl rfl rfl rfl (by as_aux_lemma => kernel_rfl) rfl hpos (Nat.le_of_eq hlen.symm) | (apply call_gate 139; exact stp_callR hSz (by as_aux_lemma => kernel_rfl) rfl rfl ⟨rfl, trivial⟩ trivial rfl rfl)); apply run_step rfl; (exact stp_loadR rfl (by as_aux_lemma => kernel_rfl) rfl rfl rfl (by first | assumption | exact ivals_get (by assumption) | exact irows_get (by assumption) | exact ivals_get (by omega) | exact irows_get (by omega) | rfl) (by first | exact ivals_len _ | assumption | rfl)); apply run_step rfl; (first | exact stp_ix (j := 0) rfl rfl rfl rfl rfl (by as_aux_lemma => kernel_rfl) rfl hpos (Nat.le_of_eq hlen.symm) | (apply call_gate 139; exact stp_callR hSz (by as_aux_lemma => kernel_rfl) rfl rfl ⟨rfl, trivial⟩ trivial rfl rfl)); apply run_step rfl; (exact stp_move rfl rfl); refine run_nil ?_; refine fin_seq ?_; refine goes_block ?_)
        refine goes_loop (fun c : Nat => St.of [(7, o1 (.sl 1005 0 ng)), (27, o1 (.sl 1002 0 ws.length)), (28, vv (I6 ws.length)), (29, vv (I6 i)), (10, o1 (.esl 1002 i 0 (lget ws i).length)), (36, vv (I6 N)), (37, vv (I6 c))] [(1005, imOw T), (1002, rowsRo ws)]) (fun c => c ≤ N ∧ ∀ x, x < c → leadL T ((x : Nat) : Int) (lget ws i) = (x : Int)) (fun c => N - c) 0 ⟨Nat.zero_le _, fun x hx => by omega⟩ (Wk.of ⟨rfl, rfl, rfl, rfl, rfl, rfl, rfl, trivial⟩ ⟨rfl, rfl, trivial⟩ trivial) ?_
        rintro c ⟨hcN, hfx⟩
        (refine goes_seq ?_; refine goes_region ?_; apply run_step rfl; (exact stp_bin rfl rfl rfl rfl); refine run_nil ?_; refine fin_seq ?_; refine goes_seq ?_)
        refine goes_if rfl (fun hcl => ?_) (fun hcl => ?_)
        · have hcl' : c < N := by omega
          have hLc := hL i c hlt' hcl'
          (refine goes_skip ?_; refine fin_seq ?_; refine goes_seq ?_; refine goes_block ?_; refine goes_seq ?_; refine goes_region ?_; apply run_step rfl; (exact stp_move rfl rfl); apply run_step rfl; (exact stp_assign rfl rfl); refine run_nil ?_; refine fin_seq ?_; refine goes_seq ?_; refine goes_region ?_; apply run_step rfl; (exact stp_move rfl rfl); apply run_step rfl; (exact stp_move rfl rfl); apply run_step rfl; (exact stp_move rfl rfl); apply run_step rfl; (apply call_gate 133; exact stp_callR hLc (by as_aux_lemma => kernel_rfl) rfl rfl ⟨rfl, rfl, rfl, trivial⟩ ⟨⟨_, rfl, .inr rfl⟩, ⟨_, rfl, .inl rfl⟩, trivial⟩ rfl rfl); apply run_step rfl; (exact stp_move rfl rfl); apply run_step rfl; (exact stp_bin rfl rfl rfl rfl); refine run_nil ?_; refine fin_seq ?_)
          refine goes_cond rfl (fun hne => ?_) (fun hne => ?_)
          · have hne' : leadL T (c : Int) (lget ws i) ≠ (c : Int) := by simpa using hne
            have hno : fixAllB T ws N = false := by rw [← Bool.not_eq_true]; exact fun h => hne' (fixAllB_iff.1 h i hlt' c hcl')
            rw [hno]
            (refine goes_seq ?_; refine goes_region ?_; apply run_step rfl; (exact stp_assign rfl rfl); apply run_step rfl; (exact stp_assign rfl rfl); refine run_nil ?_; refine fin_seq ?_; refine goes_ret ?_; refine fin_ret_block ?_; refine fin_ret_then ?_; refine fin_ret_then ?_; refine fin_ret_block ?_; refine fin_ret_block ?_; refine fin_ret_then ?_; refine fin_ret_then ?_; refine fin_ret_block ?_; refine fin_ret_then ?_)
            exact fin_ret2 (.inl rfl) rfl (.tmp rfl) (.tmp rfl) trivial trivial
          · have heq : leadL T (c : Int) (lget ws i) = (c : Int) := by simpa using hne
            (refine goes_skip ?_; refine fin_block ?_; refine fin_seq ?_; refine goes_region ?_; apply run_step rfl; (exact stp_add rfl rfl rfl (by first | exact IntWalk.i64_in _ (by omega) | rfl)); apply run_step rfl; (exact stp_move rfl rfl); refine run_nil ?_)
            exact fin_round (c + 1) ⟨hcl', fun x hx => by
              by_cases e : x = c
              · subst e; exact heq
              · exact hfx x (by omega)⟩ (by omega) (Wk.of ⟨rfl, rfl, rfl, rfl, rfl, rfl, rfl, trivial⟩ ⟨rfl, rfl, trivial⟩ trivial)
        · obtain rfl : c = N := by omega
          (refine goes_exit ?_; refine fin_exit_then ?_; refine fin_exit_then ?_; refine fin_exit_eq ?_; refine fin_block ?_; refine fin_seq ?_; refine goes_region ?_; apply run_step rfl; (exact stp_add rfl rfl rfl (by first | exact IntWalk.i64_in _ (by omega) | rfl)); apply run_step rfl; (exact stp_move rfl rfl); refine run_nil ?_)
          exact fin_round (i + 1) ⟨hlt', fun j hj => by
            by_cases e : j = i
            · subst e; exact hfx
            · exact hfix j (by omega)⟩ (by omega) (Wk.of ⟨rfl, rfl, rfl, rfl, trivial⟩ ⟨rfl, rfl, trivial⟩ trivial)
      · obtain rfl : i = ws.length := by omega
        have hyes : fixAllB T ws N = true := fixAllB_iff.2 hfix
        rw [hyes]
        (refine goes_exit ?_; refine fin_exit_then ?_; refine fin_exit_then ?_; refine fin_exit_eq ?_; refine fin_seq ?_; refine goes_seq ?_; refine goes_region ?_; apply run_step rfl; (exact stp_assign rfl rfl); apply run_step rfl; (exact stp_assign rfl rfl); refine run_nil ?_; refine fin_seq ?_; refine goes_ret ?_)
        exact fin_ret2 (.inl rfl) rfl (.tmp rfl) (.tmp rfl) trivial trivial
    · have hE := implSmall_no hG hsm
      have hc : ctC ((ng : Int), rels) ws = 3 := by unfold ctC; rw [if_pos hok, if_neg hsm]
      unfold nrR
      rw [hc, if_neg (by decide)]
      (refine goes_skip ?_; refine fin_seq ?_; refine goes_seq ?_; refine goes_region ?_; apply run_step rfl; (exact stp_loadAgg rfl rfl rfl rfl rfl rfl (by as_aux_lemma => kernel_rfl)); apply run_step rfl; (exact stp_move rfl rfl); apply run_step rfl; (apply call_gate 113; exact stp_callR hE (by as_aux_lemma => kernel_rfl) rfl rfl ⟨⟨.inl rfl, .inl rfl, trivial⟩, rfl, trivial⟩ ⟨⟨_, rfl, .inl rfl⟩, ⟨_, rfl, .inl rfl⟩, trivial⟩ rfl rfl); apply run_step rfl; (exact stp_move rfl rfl); apply run_step rfl; (exact stp_extract rfl rfl rfl); apply run_step rfl; (exact stp_extract rfl rfl rfl); apply run_step rfl; (exact stp_assign rfl rfl); apply run_step rfl; (exact stp_assign rfl rfl); refine run_nil ?_; refine fin_seq ?_; refine goes_seq ?_; refine goes_seq ?_; refine goes_region ?_; apply run_step rfl; (exact stp_move rfl rfl); apply run_step rfl; (exact stp_bin rfl rfl rfl rfl); refine run_nil ?_; refine fin_seq ?_)
      refine goes_cond rfl (fun _ => ?_) (fun e => by cases e)
      (refine goes_seq ?_; refine goes_region ?_; apply run_step rfl; (exact stp_move rfl rfl); apply run_step rfl; (exact stp_assign rfl rfl); apply run_step rfl; (exact stp_assign rfl rfl); refine run_nil ?_; refine fin_seq ?_; refine goes_ret ?_; refine fin_ret_then ?_)
      exact fin_ret2 (.inl rfl) rfl (.tmp rfl) (.tmp rfl) trivial trivial
  · rw [withC_no hok] at hC
    have hc : ctC (g, rels) ws = 1 := by unfold ctC; rw [if_neg hok]
    unfold nrR
    rw [hc, if_neg (by decide)]
    (refine goes_seq ?_; refine goes_region ?_; apply run_step rfl; (exact stp_box rfl rfl rfl rfl); apply run_step rfl; (exact stp_assign rfl rfl); apply run_step rfl; (exact stp_assign rfl rfl); refine run_nil ?_; refine fin_seq ?_; refine goes_seq ?_; refine goes_seq ?_; refine goes_region ?_; apply run_step rfl; (exact stp_loadAgg rfl rfl rfl rfl rfl rfl (by as_aux_lemma => kernel_rfl)); apply run_step rfl; (exact stp_move rfl rfl); apply run_step rfl; (apply call_gate 111; exact stp_callR hC (by as_aux_lemma => kernel_rfl) rfl rfl ⟨⟨.inl rfl, .inl rfl, trivial⟩, rfl, trivial⟩ ⟨⟨_, rfl, .inl rfl⟩, ⟨_, rfl, .inl rfl⟩, trivial⟩ rfl rfl); apply run_step rfl; (exact stp_assign rfl rfl); refine run_nil ?_; refine fin_seq ?_; refine goes_seq ?_; refine goes_region ?_; apply run_step rfl; (exact stp_move rfl rfl); apply run_step rfl; (exact stp_bin rfl rfl rfl rfl); refine run_nil ?_; refine fin_seq ?_)
    refine goes_cond rfl (fun _ => ?_) (fun e => by cases e)
    (refine goes_seq ?_; refine goes_region ?_; apply run_step rfl; (exact stp_move rfl rfl); apply run_step rfl; (exact stp_assign rfl rfl); apply run_step rfl; (exact stp_assign rfl rfl); refine run_nil ?_; refine fin_seq ?_; refine goes_ret ?_; refine fin_ret_then ?_)
    exact fin_ret2 (.inl rfl) rfl (.tmp rfl) (.tmp rfl) trivial trivial
theorem api_specNr {E1 E E1' E' : Nat} {lo hi lo' hi' : Nat} {v v' : Value} {d : PresD} {ws : List (List Int)} (w : World) (h : OwP E1 E w lo hi v d) (h' : OwSS E1' E' w lo' hi' v' ws) :
    Calls Try.prog 78 #[v, v'] w fun e w' => e = .returned (.tuple #[.bool (nrR d ws), .int .i64 (ctC d ws)]) ∧ Below w.heap.size w w' := two_vals (callPW (fun k1 k2 => specNr_fc d.1 d.2 ws k1 k2) h h')
theorem api_implNr {E1 E E1' E' : Nat} {lo hi lo' hi' : Nat} {v v' : Value} {d : PresD} {ws : List (List Int)} (w : World) (h : OwP E1 E w lo hi v d) (h' : OwSS E1' E' w lo' hi' v' ws) :
    Calls Try.prog 77 #[v, v'] w fun e w' => e = .returned (.tuple #[.bool (nrR d ws), .int .i64 (ctC d ws)]) ∧ Below w.heap.size w w' := two_vals (callPW (fun k1 k2 => implNr_fc d.1 d.2 ws k1 k2) h h')
end Go.Proofs.Ytpognnifgcacnaa

/- IsDiagram, the program's and the reference's. -/
namespace Go.Proofs.Ytpognnifgcacnaa
open Go.RowKit

end Go.Proofs.Ytpognnifgcacnaa

/- The presentation of a diagram: what both call. -/
namespace Go.Proofs.Ytpognnifgcacnaa
open Go.RowKit

theorem repL_succ {α : Type} (zs : List α) (j : Nat) : repL zs (j + 1) = repL zs j ++ zs := by rw [repL_add, repL_one]

theorem wrap64_idN {i : Nat} (h : i ≤ 1048576) : wrap64 (i : Int) = i := by unfold wrap64; omega

theorem meas_down {i : Nat} {z : Int} (h : z = (i : Int)) : (intOf (.int .i64 z)).toNat < (intOf (.int .i64 ((i + 1 : Nat) : Int))).toNat := by subst h; simp [intOf]

set_option maxHeartbeats 400000 in
theorem specPower_any (ao : Option Addr) (n c k : Nat) (zs : List Int) (w : World) (h : Ints w ao n zs) (hk : k ≤ 1048576) (hnk : n * k ≤ 1048576) :
    Calls Try.prog 131 #[.slice ao n c, .int .i64 k] w fun e w' => ∃ ao' c', e = .returned (.slice ao' (n * k) c') ∧ Own w' w.heap.size 2 ao' (n * k) c' ((repL zs k).map (Value.int .i64)) ∧ Below w.heap.size w w' := by
  go_enter Try.func131, Try.ntmps131
  go_wp2
  go_loopw [1, 5] (fun i v wr => ∃ (j a' : Nat) (ao' : Option Addr) (c' : Nat), j ≤ k ∧ i = .int .i64 ((k - j : Nat) : Int) ∧ v = .slice ao' a' c' ∧ a' = n * j ∧ Own wr w.heap.size 2 ao' a' c' ((repL zs j).map (Value.int .i64)) ∧ Below w.heap.size w wr) (fun i _ _ => (intOf i).toNat)
  case atStart => exact ⟨0, 0, _, _, Nat.zero_le _, rfl, rfl, by simp, Own.empty_ w _ (Nat.le_refl _), (Below.refl _ _).alloc (Nat.le_refl _) _⟩
  case round =>
    obtain ⟨j, a', ao', c', hj, rfl, rfl, ha, ho, hb⟩ := hrel
    have HA := Lib.hid ha
    clear ha
    by_cases hlt : j < k
    · have hm : n * (j + 1) ≤ n * k := Nat.mul_le_mul_left _ hlt
      have hm2 : n * (j + 1) = n * j + n := Nat.mul_succ _ _
      have hi := h.below hb
      have hsz : a' + n ≤ 4398046511104 := by have := HA.out; omega
      have hbs := hb.size
      have HE := Lib.hid (show a' + n = n * (j + 1) by have := HA.out; omega)
      obtain ⟨i, hi2⟩ : ∃ i : Nat, k - j = i + 1 := ⟨k - j - 1, by omega⟩
      have HI := Lib.hid (show k - (j + 1) = i by omega)
      have hj1 : j + 1 ≤ k := hlt
      have HW := Lib.hid (wrap64_idN (i := i) (by omega))
      rw [hi2]
      clear hm hm2 hi2 h hnk hj hlt
      go_wp2_with (at_builtin; refine wpList_apN etI _ rfl _ _ rfl w.heap.size _ _ _ _ rfl ho ao n c zs rfl hi hsz hbs ?_; intro ao2 c2 w2 ho2 hg2 hblk)
      have hol := ho.lt
      clear ho hi
      go_wp2
      go_roundw
      case rel =>
        refine ⟨j + 1, _, ao2, c2, hj1, by rw [HI.out, HW.out], rfl, HE.out, ?_, hb.grown hg2 hbs (fun g hg => (hol g hg).1)⟩
        rw [repL_succ, List.map_append]; exact ho2
      case measure => exact meas_down HW.out
    · obtain rfl : j = k := by omega
      rw [Nat.sub_self]
      go_wp2
      go_ret
      rw [← HA.out]
      exact ⟨_, _, rfl, ho, hb⟩
end Go.Proofs.Ytpognnifgcacnaa

/- The presentation of a diagram: the data, and how one relator more is laid. -/
namespace Go.Proofs.Ytpognnifgcacnaa
open Go.RowKit

/-- one element more, at the end of a row of the call's own, in a region that draws its order -/
theorem step_ap1 {P : Program} {S E : TypeId} {z : Value} {bytes : Nat} (et : ET P S E z bytes) {ops : Array Oper} {o : Oper} {a : Act} {Q : Exit → Act → World → Prop} {w : World} {K : Act → World → Prop} {X : Prop} (hg : o.guard = none) (s x : Operand) (ho : o.op = .call { callee := .builtin .append, args := #[s, x], argTypes := #[S, S] })
    (base : Nat) (ao : Option Addr) (n c : Nat) (xs : List Value) (hs : a.eval s = .slice ao n c) (hown : Own w base E ao n c xs) (u : Value) (xb xc : Nat)
    (hx : a.eval x = .slice (some ⟨xb, 0, none⟩) 1 xc) (hc : w.cell? ⟨xb, 0, none⟩ = some u) (hu : u.oneCell' = true) (hn : n + 1 ≤ 4398046511104) (hbase : base ≤ w.heap.size)
    (h : ∀ ao' c' w', Own w' base E ao' (n + 1) c' (xs ++ [u]) → w.grownBy w' (bk ao) → (bk ao' = bk ao ∨ bk ao' = some w.heap.size) → K (a.put o.dst (.slice ao' (n + 1) c')) w') : if Region.wanted o (yielded ops a.tmps) = true then Oper.wp P o a w K Q else X := by
  obtain ⟨i, hi, hz, hsz, hby⟩ := info_parts et.info
  have hw : Region.wanted o (yielded ops a.tmps) = true := by simp [Region.wanted, hg]
  rw [if_pos hw]
  obtain ⟨v', w', hr, h2, h3, h4, h5⟩ := run_append_own_at (P := P) w base S o.type E i z 1 bytes et.und hi hz hsz hby (by rw [et.one]; rfl) (by omega) (.slice ao n c) n xs hown.1 ⟨xb, 0, none⟩ 1 xc [u] rfl
    (by
      intro j u' hu'
      match j, hu' with
      | 0, hu' => simp at hu'; subst hu'; rw [Addr.add_lit]; exact hc)
    (by intro v hv; simp at hv; subst hv; exact hu) (by simp [maxLen]; omega) (by have := et.small; have : (n + 1) * bytes ≤ (n + 1) * 32 := Nat.mul_le_mul_left _ this; omega) hbase
  unfold Oper.wp execOp
  simp only [ho, resolve, invoke, builtin, Sem.run_bind, Sem.run_pure, Result.andThen_ok, List.map_toArray, List.map_cons, List.map_nil, hs, hx, hr]
  obtain ⟨g, cap, rfl, hb, hlt⟩ := h2.form (by omega)
  rw [ownBlock_slice] at h3
  refine h _ _ _ ⟨h2, hn⟩ h3 ?_
  rw [ownBlock_slice, ownBlock_slice] at h5
  exact h5

/-- a list of the call's own, just made, is laid at the end of a row of lists -/
theorem rows_push {T1 E lo : Nat} {wr w2 w3 w4 : World} {ao ao' ao2 : Option Addr} {m c n' c' c2 : Nat} {us : List Value} {ds : List (List Int)} {zs : List Int}
    (hR : OwR (OwS T1) wr lo wr.heap.size E ao m c us ds) (hlo : lo ≤ wr.heap.size) (hb : Below wr.heap.size wr w2) (hu : Own w2 wr.heap.size T1 ao' n' c' (zs.map (Value.int .i64))) (hb3 : Below w2.heap.size w2 w3)
    (hown : Own w4 lo E ao2 (m + 1) c2 (us ++ [.slice ao' n' c'])) (hg : w3.grownBy w4 (bk ao)) (hat : bk ao2 = bk ao ∨ bk ao2 = some w3.heap.size) :
    OwR (OwS T1) w4 lo w4.heap.size E ao2 (m + 1) c2 (us ++ [.slice ao' n' c']) (ds ++ [zs]) := by
  have hR3 : OwR (OwS T1) w3 lo wr.heap.size E ao m c us ds := hR.below (innerS _) (hb.trans (hb3.mono hb.size))
  have s1 := hb.size
  have s2 := hb3.size
  have s3 := hg.size
  have hub : ∀ g, bk ao' = some g → wr.heap.size ≤ g ∧ g < w2.heap.size := hu.lt
  have hne : ∀ g, bk ao' = some g → bk ao ≠ some g := fun g h1 h2 => by have := hub g h1; have := hR.top g h2; omega
  have hu4 : OwS T1 w4 (.slice ao' n' c') zs := (innerS T1).loc (w := w2) ⟨ao', n', c', rfl, hu.mono (Nat.zero_le _)⟩ fun g h => by
    rw [ownBlock_slice] at h
    have := hub g h
    rw [hg.block g (by omega) (fun e => hne g h e.symm)]
    exact hb3.block g this.2
  refine hR3.push (innerS _) hown hg hu4 (in_slice fun g h => ⟨by have := hub g h; omega, by have := hub g h; omega⟩) (fun g h => (hown.lt g h).2) (by omega) ?_ ?_
  · intro g h
    rcases hat with h1 | h1
    · exact .inl (h1 ▸ h)
    · refine .inr fun j u hj e => ?_
      rw [h1] at h; obtain rfl := Option.some.inj h
      have := (hR3.rng j u hj _ e).2
      omega
  · intro g h
    rw [ownBlock_slice] at h
    have hh := hub g h
    refine ⟨fun e => ?_, fun j v hj e => ?_⟩
    · rcases hat with h1 | h1
      · exact hne g h (h1 ▸ e)
      · rw [h1] at e; have := Option.some.inj e; omega
    · have := (hR3.rng j v hj _ e).2; omega
end Go.Proofs.Ytpognnifgcacnaa

/- The laws' helpers on []int64 in the words of Nest. -/
namespace Go.Proofs.Ytpognnifgcacnaa
open Go.RowKit

end Go.Proofs.Ytpognnifgcacnaa

/- The laws' helpers on [][]int64. -/
namespace Go.Proofs.Ytpognnifgcacnaa
open Go.RowKit

theorem etSS : ET Try.prog 39 49 (.slice none 0 0) 24 := ⟨Try.underlying39, by kernel_rfl, rfl, by omega⟩

end Go.Proofs.Ytpognnifgcacnaa

/- WithRelators, the reference's parts: l01Own, l01Own2, l11Code. -/
namespace Go.Proofs.Ytpognnifgcacnaa
open Go.RowKit

set_option maxRecDepth 100000 in
set_option maxHeartbeats 400000 in
theorem own_any (ao : Option Addr) (n c : Nat) (zs : List Int) (w : World) (h : Ints w ao n zs) (hn : n ≤ 1048576) :
    Calls Try.prog 121 #[.slice ao n c] w fun e w' => ∃ ao' c', e = .returned (.slice ao' n c') ∧ Own w' w.heap.size 2 ao' n c' (zs.map (Value.int .i64)) ∧ Below w.heap.size w w' := by
  have h2 : Ints (w.alloc (.cells #[] 2)) ao n zs := h.below (below_alloc1 _ _)
  have H2 := Lib.hid h2
  clear h2
  go_enter Try.func121, Try.ntmps121
  go_wp2_with (at_builtin; refine wpList_apN etI _ rfl _ _ rfl w.heap.size _ 0 0 [] rfl (Own.empty_ w _ (Nat.le_refl _)) ao n c zs rfl H2.out (by omega) (by simp) ?_; intro ao2 c2 w2 ho2 hg2 hblk)
  go_ret
  refine ⟨_, _, rfl, by simpa using ho2, (below_alloc1 w _).grown hg2 (by simp) (fun g hg => ?_)⟩
  simp [bk] at hg; omega

/-- a list of the call's own, just made, is laid at the end of a row of lists -/
theorem rows_push2 {T1 E lo : Nat} {wr w2 w3 w4 : World} {ao ao' ao2 : Option Addr} {m c n' c' c2 : Nat} {us : List Value} {ds : List (List Int)} {zs : List Int}
    (hR : OwR (OwS T1) wr lo wr.heap.size E ao m c us ds) (hlo : lo ≤ wr.heap.size) (hb : Below wr.heap.size wr w2) (hu : Own w2 wr.heap.size T1 ao' n' c' (zs.map (Value.int .i64))) (hb3 : Below w2.heap.size w2 w3)
    (hown : Own w4 lo E ao2 (m + 1) c2 (us ++ [.slice ao' n' c'])) (hg : w3.grownBy w4 (bk ao)) (hat : bk ao2 = bk ao ∨ ∃ g, bk ao2 = some g ∧ w2.heap.size ≤ g) :
    OwR (OwS T1) w4 lo w4.heap.size E ao2 (m + 1) c2 (us ++ [.slice ao' n' c']) (ds ++ [zs]) := by
  have hR3 : OwR (OwS T1) w3 lo wr.heap.size E ao m c us ds := hR.below (innerS _) (hb.trans (hb3.mono hb.size))
  have s1 := hb.size
  have s2 := hb3.size
  have s3 := hg.size
  have hub : ∀ g, bk ao' = some g → wr.heap.size ≤ g ∧ g < w2.heap.size := hu.lt
  have hne : ∀ g, bk ao' = some g → bk ao ≠ some g := fun g h1 h2 => by have := hub g h1; have := hR.top g h2; omega
  have hu4 : OwS T1 w4 (.slice ao' n' c') zs := (innerS T1).loc (w := w2) ⟨ao', n', c', rfl, hu.mono (Nat.zero_le _)⟩ fun g h => by
    rw [ownBlock_slice] at h
    have := hub g h
    rw [hg.block g (by omega) (fun e => hne g h e.symm)]
    exact hb3.block g this.2
  refine hR3.push (innerS _) hown hg hu4 (in_slice fun g h => ⟨by have := hub g h; omega, by have := hub g h; omega⟩) (fun g h => (hown.lt g h).2) (by omega) ?_ ?_
  · intro g h
    rcases hat with h1 | ⟨g1, h1, h5⟩
    · exact .inl (h1 ▸ h)
    · refine .inr fun j u hj e => ?_
      rw [h1] at h; obtain rfl := Option.some.inj h
      have := (hR3.rng j u hj _ e).2
      omega
  · intro g h
    rw [ownBlock_slice] at h
    have hh := hub g h
    refine ⟨fun e => ?_, fun j v hj e => ?_⟩
    · rcases hat with h1 | ⟨g1, h1, h5⟩
      · exact hne g h (h1 ▸ e)
      · rw [h1] at e; have := Option.some.inj e; omega
    · have := (hR3.rng j v hj _ e).2; omega
set_option maxRecDepth 100000 in
set_option maxHeartbeats 800000 in
theorem own2_any (ao : Option Addr) (n c : Nat) (zss : List (List Int)) (w : World) (h : Intss w ao n zss) (hn : zss.length + lenSS zss ≤ 1048576) :
    Calls Try.prog 152 #[.slice ao n c] w fun e w' => ∃ v, e = .returned v ∧ OwSS 2 49 w' w.heap.size w'.heap.size v zss ∧ Below w.heap.size w w' := by
  have HL := Lib.hid h.1
  have hn1 : n ≤ 1048576 := by have := HL.out; omega
  go_enter Try.func152, Try.ntmps152
  go_wp2
  go_loopw [4, 3] (fun i v wr => ∃ (k : Nat) (ao' : Option Addr) (c' : Nat) (us : List Value), k ≤ n ∧ i = .int .i64 k ∧ v = .slice ao' k c' ∧ OwR (OwS 2) wr w.heap.size wr.heap.size 49 ao' k c' us (zss.take k) ∧ Below w.heap.size w wr) (fun i _ _ => n - (intOf i).toNat)
  case atStart => exact ⟨0, _, _, [], Nat.zero_le _, rfl, rfl, OwR.empty_ (Own.empty_ w _ (Nat.le_refl _)) (by intro g hg; simp [bk] at hg; simp; omega), below_alloc1 _ _⟩
  case round =>
    obtain ⟨k, ao', c', us, hk, rfl, rfl, ho, hb⟩ := hrel
    by_cases hlt : k < n
    · obtain ⟨b, off, a1, n1, c1, rfl, hc, h1⟩ := (h.below hb).at_ hlt
      have hkl : k < zss.length := by rw [HL.out]; exact hlt
      have hsz : n1 ≤ 1048576 := by have := len_le_lenSS hkl; have := h1.1; omega
      have hbs := hb.size
      have HT := Lib.hid (take_lget hkl)
      clear hkl
      go_wp2_with fail
      refine (own_any a1 n1 c1 (lget zss k) _ h1 hsz).mono ?_
      rintro e w2 ⟨a2, c2, rfl, o2, b2⟩
      have ho2 := ho.own.below b2
      have hs2 := b2.size
      go_wp2_with (at_builtin; refine wpList_ap1 etSS _ rfl _ _ rfl w.heap.size ao' k c' us rfl ho2 (.slice a2 n1 c2) rfl rfl (by omega) (by omega) ?_; intro ao3 c3 w3 o3 g3 hat)
      have hR := rows_push2 ho hbs b2 o2 (Below.refl _ _) o3 g3 (hat.imp id fun e => ⟨_, e, by omega⟩)
      have hB := (below_tr b2 hb).grown g3 (by omega) (fun g hg => (ho.own.lt g hg).1)
      clear ho ho2 o2 b2 o3 g3 hat h1 hb
      go_wp2
      go_roundw
      case rel => exact ⟨k + 1, ao3, c3, _, by omega, by go_num, rfl, by rw [HT.out]; exact hR, hB⟩
      case measure => simp [intOf]; omega
    · obtain rfl : k = n := by omega
      rw [List.take_of_length_le (Nat.le_of_eq HL.out)] at ho
      go_wp2_with fail
      go_ret
      exact ⟨_, rfl, ⟨_, _, _, us, rfl, ho⟩, hb⟩
end Go.Proofs.Ytpognnifgcacnaa

/- slices.Grow and slices.Concat at [][]int64, of two lists: the rows are shared. -/
namespace Go.Proofs.Ytpognnifgcacnaa
open Go.RowKit

/-- the headers of the rows -/
theorem Intss.heads {w : World} {ao : Option Addr} {n : Nat} {zss : List (List Int)} (h : Intss w ao n zss) : ∃ us, Vals w ao n us ∧ (∀ u ∈ us, u.oneCell' = true) ∧ ∀ j u, us[j]? = some u → RdS w u (lget zss j) := by
  rcases Nat.eq_zero_or_pos n with h0 | h0
  · subst h0
    exact ⟨[], ⟨rfl, by omega, fun h => absurd h (by omega)⟩, fun u hu => (nomatch hu), fun j u hu => by simp at hu⟩
  · obtain ⟨b, off, e, hc⟩ := h.2.2 h0
    have hget : ∀ j u, ((List.range n).map fun j => (w.cell? ⟨b, off + j, none⟩).getD undef)[j]? = some u → j < n ∧ w.cell? ⟨b, off + j, none⟩ = some u ∧ RdS w u (lget zss j) := fun j u hu => by
      rw [List.getElem?_map] at hu
      obtain ⟨i, hi, rfl⟩ := Option.map_eq_some_iff.1 hu
      have hj : j < n := by
        have := (List.getElem?_eq_some_iff.1 hi).1
        simpa using this
      rw [List.getElem?_range hj] at hi
      obtain rfl := Option.some.inj hi
      obtain ⟨u, h1, h2⟩ := hc j hj
      rw [h1]
      exact ⟨hj, rfl, h2⟩
    refine ⟨_, ⟨by simp, h.2.1, fun _ => ⟨b, off, e, fun j u hu => (hget j u hu).2.1⟩⟩, fun u hu => ?_, fun j u hu => (hget j u hu).2.2⟩
    obtain ⟨j, hj, e2⟩ := List.getElem_of_mem hu
    obtain ⟨_, _, a', n', c', e3, _⟩ := hget j u (by rw [← e2]; exact List.getElem?_eq_getElem hj)
    rw [e3]; rfl
theorem Vals.below {w w' : World} {ao : Option Addr} {n : Nat} {us : List Value} (h : Vals w ao n us) (hb : Below w.heap.size w w') : Vals w' ao n us := by
  refine ⟨h.1, h.2.1, fun h0 => ?_⟩
  obtain ⟨b, off, e, hc⟩ := h.2.2 h0
  refine ⟨b, off, e, fun j u hu => ?_⟩
  have := hc j u hu
  exact (hb.cell (p := ⟨b, off + j, none⟩) (World.block_lt_of_cell? w _ this)).trans this

set_option maxRecDepth 100000 in
set_option maxHeartbeats 800000 in
theorem growSS_any (n : Nat) (w : World) (hn : n ≤ 1048576) :
    Calls Try.prog 215 #[.slice none 0 0, .int .i64 n] w fun e w' => ∃ ao' c', e = .returned (.slice ao' 0 c') ∧ Own w' w.heap.size 49 ao' 0 c' [] ∧ Below w.heap.size w w' := by
  by_cases h0 : n = 0
  · subst h0
    go_enter Try.func215, Try.ntmps215
    go_wp2
    go_ret
    exact ⟨_, _, rfl, Own.nil_ _ _ _, Below.refl _ _⟩
  · have q0 : (0 : Int) < (n : Int) := by omega
    obtain ⟨i, hi, hz, hsz, hby⟩ := info_parts etSS.info
    have hr := Lib.run_append_nil_zeros (P := Try.prog) w 39 3 39 49 i (.slice none 0 0) .i64 .i64 etSS.und (by kernel_rfl) hi hz n (by omega) (by omega) (by omega) (by have := etSS.small; rw [hby]; omega)
    have hge := grownCap_ge w n 0 49
    have hle := grownCap_le_maxLen w n 0 49 (by simp [maxLen]; omega)
    obtain ⟨cap, hcap⟩ : ∃ cap, grownCap w n 0 49 = cap := ⟨_, rfl⟩
    rw [hcap] at hr hge hle
    have hzs : (Builtin.zeroCells (Value.slice none 0 0).cells n ++ Builtin.zeroCells (Value.slice none 0 0).cells (cap - n)).size = cap := by
      rw [Array.size_append]
      simp only [size_zeroCells]
      have : (Value.slice none 0 0).cells.size = 1 := rfl
      rw [this]; omega
    obtain ⟨cs, hcs⟩ : ∃ cs, Builtin.zeroCells (Value.slice none 0 0).cells n ++ Builtin.zeroCells (Value.slice none 0 0).cells (cap - n) = cs := ⟨_, rfl⟩
    rw [hcs] at hr hzs
    have HRR := Lib.hid hr
    have HZ := Lib.hid hzs
    have HI := Lib.hid (And.intro hi hz)
    clear hr hcs hcap hzs hi hz hsz hby
    go_enter Try.func215, Try.ntmps215
    go_wp2_with (at_builtin; refine Lib.wpList_append_run _ rfl _ _ _ _ rfl _ _ rfl rfl _ _ HRR.out ?_)
    go_ret
    refine ⟨_, _, rfl, ⟨⟨rfl, .inr ⟨w.heap.size, cap, cs, rfl, Nat.le_refl _, heap_alloc_new w _, Nat.zero_le _, hle, by rw [HZ.out, Nat.mul_one], by simp⟩⟩, by omega⟩, ?_⟩
    exact (below_alloc1 w _).trans ((below_drew1 _).mono (by simp))
/-- the rows of a fresh list: each reads as it did in the world w0 -/
def HeadsZ (w0 : World) (lo : Nat) (w : World) (al : Option Addr) (n : Nat) (Z : List (List Int)) : Prop := 0 < n → ∃ b, al = some ⟨b, 0, none⟩ ∧ lo ≤ b ∧ b < w.heap.size ∧ ∀ j, j < n → ∃ u, w.cell? ⟨b, j, none⟩ = some u ∧ RdS w0 u (lget Z j)
set_option maxRecDepth 100000 in
set_option maxHeartbeats 1600000 in
theorem concat_any (w0 : World) (b0 : Nat) (c0 : Nat) (a1 a2 : Option Addr) (n1 c1 n2 c2 : Nat) (R W : List (List Int)) (w : World) (k0 : w.cell? ⟨b0, 0, none⟩ = some (.slice a1 n1 c1)) (k1 : w.cell? ⟨b0, 1, none⟩ = some (.slice a2 n2 c2)) (hb00 : Below w0.heap.size w0 w) (h1 : Intss w0 a1 n1 R) (h2 : Intss w0 a2 n2 W) (hn1 : n1 ≤ 100000) (hn2 : n2 ≤ 100000) :
    Calls Try.prog 183 #[.slice (some ⟨b0, 0, none⟩) 2 c0] w fun e w' => ∃ ao c, e = .returned (.slice ao (n1 + n2) c) ∧ HeadsZ w0 w.heap.size w' ao (n1 + n2) (R ++ W) ∧ Below w.heap.size w w' := by
  have hb0 := World.block_lt_of_cell? w _ k0
  obtain ⟨us1, v1, o1, r1⟩ := h1.heads
  obtain ⟨us2, v2, o2, r2⟩ := h2.heads
  have v1 := v1.below hb00
  have v2 := v2.below hb00
  have hl1 := h1.1
  have hl2 := h2.1
  have hG := growSS_any (n1 + n2) w (by omega)
  rw [Int.natCast_add] at hG
  have HG := Lib.hid hG
  have HLS := Lib.hid (And.intro hl1 hl2)
  clear hG hl1 hl2
  have V1 := Lib.hid (And.intro v1 (And.intro o1 r1))
  have V2 := Lib.hid (And.intro v2 (And.intro o2 r2))
  clear h1 h2 v1 o1 r1 v2 o2 r2
  go_enter Try.func183, Try.ntmps183
  go_wp2_with fail
  refine wp_loop_rounds 3 ?_
  rw [rounds_succ]
  go_wp2_with fail
  rw [rounds_succ]
  go_wp2_with fail
  rw [rounds_succ]
  go_wp2_with fail
  refine HG.out.mono ?_
  rintro e w1 ⟨ag, cg, rfl, og, bg⟩
  have k0' := (bg.cell (p := ⟨b0, 0, none⟩) hb0).trans k0
  have k1' := (bg.cell (p := ⟨b0, 1, none⟩) hb0).trans k1
  have hs1 := bg.size
  clear k0 k1
  have OG := Lib.hid og
  have BG := Lib.hid bg
  clear og bg
  go_wp2_with fail
  refine wp_loop_rounds 3 ?_
  rw [rounds_succ]
  go_wp2_with (at_builtin; refine wpList_apV etSS _ rfl _ _ rfl w.heap.size ag 0 cg [] rfl OG.out a1 n1 c1 us1 rfl (V1.out.1.below BG.out) V1.out.2.1 (by omega) hs1 ?_; intro ao2 c2' w2 o2 g2 hat2)
  have B2 := BG.out.grown g2 hs1 (fun g hg => (OG.out.lt g hg).1)
  rw [Nat.zero_add, List.nil_append] at o2
  have O2 := Lib.hid o2
  have k1'' := (B2.cell (p := ⟨b0, 1, none⟩) hb0).trans ((BG.out.cell (p := ⟨b0, 1, none⟩) hb0).symm.trans k1')
  have hs2 := B2.size
  have HB2 := Lib.hid B2
  clear o2 g2 hat2 B2 k0' k1'
  try rw [Nat.zero_add]
  go_wp2_with fail
  rw [rounds_succ]
  go_wp2_with (at_builtin; refine wpList_apV etSS _ rfl _ _ rfl w.heap.size ao2 n1 c2' us1 rfl O2.out a2 n2 c2 us2 rfl (V2.out.1.below HB2.out) V2.out.2.1 (by omega) hs2 ?_; intro ao3 c3' w3 o3 g3 hat3)
  have B3 := HB2.out.grown g3 hs2 (fun g hg => (O2.out.lt g hg).1)
  have O3 := Lib.hid o3
  have HB3 := Lib.hid B3
  clear o3 g3 hat3 B3 k1''
  go_wp2_with fail
  rw [rounds_succ]
  go_wp2_with fail
  go_ret
  refine ⟨ao3, c3', rfl, ?_, HB3.out⟩
  obtain ⟨hl1, hl2⟩ := HLS.out
  have hu1 := V1.out.1.1
  have hu2 := V2.out.1.1
  intro h0
  obtain ⟨g, rfl, hg1, hg2, _, hc, _⟩ := O3.out.form h0
  have hlt := (O3.out.lt g rfl).2
  refine ⟨g, rfl, (O3.out.lt g rfl).1, hlt, fun j hj => ?_⟩
  rw [hc j hj]
  by_cases h : j < n1
  · rw [List.getElem?_append_left (by omega), List.getElem?_eq_getElem (by omega)]
    refine ⟨_, rfl, ?_⟩
    have := V1.out.2.2 j _ (List.getElem?_eq_getElem (by omega))
    rw [show lget (R ++ W) j = lget R j by rw [lget_lt (by rw [List.length_append]; omega), lget_lt (by omega), List.getElem_append_left (by omega)]]
    exact this
  · rw [List.getElem?_append_right (by omega), List.getElem?_eq_getElem (by omega)]
    refine ⟨_, rfl, ?_⟩
    have := V2.out.2.2 (j - us1.length) _ (List.getElem?_eq_getElem (by omega))
    rw [show lget (R ++ W) j = lget W (j - us1.length) by rw [lget_lt (by rw [List.length_append]; omega), lget_lt (by omega), List.getElem_append_right (by omega)]; congr 1; omega]
    exact this
end Go.Proofs.Ytpognnifgcacnaa

/- The code of a presentation and words: see 11Code (this text is kept for those that import it). -/
namespace Go.Proofs.Ytpognnifgcacnaa
end Go.Proofs.Ytpognnifgcacnaa

/- The presentation of a diagram: the reference's walk. -/
namespace Go.Proofs.Ytpognnifgcacnaa
open Go.RowKit

/-- the box of the result, the box of p, its relators -/
structure CoxSt (w wr : World) (N : Nat) (ao : Option Addr) (m c : Nat) (us : List Value) (ds : List (List Int)) : Prop where
  res : Blk wr w.heap.size 72 #[.int .i64 0, .slice none 0 0]
  box : Blk wr (w.heap.size + 1) 72 #[.int .i64 N, .slice ao m c]
  row : OwR (OwS 2) wr (w.heap.size + 2) wr.heap.size 49 ao m c us ds
  size : w.heap.size + 2 ≤ wr.heap.size
  below : Below w.heap.size w wr
  few : m ≤ 1000

theorem CoxSt.push {w wr w2 w3 w4 : World} {N m c' n1 c1 c2 : Nat} {ao' a1 ao2 : Option Addr} {us : List Value} {ds : List (List Int)} {zs : List Int} (st : CoxSt w wr N ao' m c' us ds) (hm : m + 1 ≤ 1000)
    (b2 : Below wr.heap.size wr w2) (o1 : Own w2 wr.heap.size 2 a1 n1 c1 (zs.map (Value.int .i64))) (b3 : Below w2.heap.size w2 w3) (o4 : Own w4 (w.heap.size + 2) 49 ao2 (m + 1) c2 (us ++ [.slice a1 n1 c1]))
    (g4 : w3.grownBy w4 (bk ao')) (hat : bk ao2 = bk ao' ∨ bk ao2 = some w3.heap.size) :
    CoxSt w (w4.setCell ⟨w.heap.size + 1, 1, none⟩ (.slice ao2 (m + 1) c2)) N ao2 (m + 1) c2 (us ++ [.slice a1 n1 c1]) (ds ++ [zs]) := by
  have hR := rows_push st.row st.size b2 o1 b3 o4 g4 hat
  have hsz := st.size
  have s2 := b2.size
  have s3 := b3.size
  have s4 := g4.size
  have B4 : Below (w.heap.size + 2) wr w4 := ((b2.trans (b3.mono s2)).mono hsz).grown g4 (by omega) (fun g hg => (st.row.own.lt g hg).1)
  have hh : (w4.setCell ⟨w.heap.size + 1, 1, none⟩ (.slice ao2 (m + 1) c2)).heap.size = w4.heap.size := by simp [World.setCell]
  refine ⟨(st.res.below B4 (by omega)).far (by simp) _, ?_, ?_, by rw [hh]; omega, (st.below.trans (B4.mono (by omega))).setCell (by simp) _, hm⟩
  · have := (st.box.below B4 (by omega)).set_ 1 (.slice ao2 (m + 1) c2)
    simpa using this
  · rw [hh]
    exact hR.same (innerS _) fun g h1 _ _ => Below.heap_setCell _ _ _ _ (by simp; omega)

theorem CoxSt.done {w wr : World} {N m c' : Nat} {ao' : Option Addr} {us : List Value} {ds : List (List Int)} (st : CoxSt w wr N ao' m c' us ds) :
    Blk ((wr.setCell ⟨w.heap.size, 0, none⟩ (.int .i64 N)).setCell ⟨w.heap.size, 1, none⟩ (.slice ao' m c')) w.heap.size 72 #[.int .i64 N, .slice ao' m c'] ∧
    OwR (OwS 2) ((wr.setCell ⟨w.heap.size, 0, none⟩ (.int .i64 N)).setCell ⟨w.heap.size, 1, none⟩ (.slice ao' m c')) (w.heap.size + 2) ((wr.setCell ⟨w.heap.size, 0, none⟩ (.int .i64 N)).setCell ⟨w.heap.size, 1, none⟩ (.slice ao' m c')).heap.size 49 ao' m c' us ds ∧
    Below w.heap.size w ((wr.setCell ⟨w.heap.size, 0, none⟩ (.int .i64 N)).setCell ⟨w.heap.size, 1, none⟩ (.slice ao' m c')) := by
  have hh : ((wr.setCell ⟨w.heap.size, 0, none⟩ (.int .i64 N)).setCell ⟨w.heap.size, 1, none⟩ (.slice ao' m c')).heap.size = wr.heap.size := by simp [World.setCell]
  refine ⟨?_, ?_, (st.below.setCell (by simp) _).setCell (by simp) _⟩
  · have := (st.res.set_ 0 (.int .i64 N)).set_ 1 (.slice ao' m c')
    simpa using this
  · rw [hh]
    exact st.row.same (innerS _) fun g h1 _ _ => by rw [Below.heap_setCell _ _ _ _ (by simp; omega), Below.heap_setCell _ _ _ _ (by simp; omega)]

end Go.Proofs.Ytpognnifgcacnaa

/- slices.Clone at []int64. -/
namespace Go.Proofs.Ytpognnifgcacnaa
open Go.RowKit

set_option maxHeartbeats 400000 in
theorem clone_any (ao : Option Addr) (n c : Nat) (zs : List Int) (w : World) (h : Ints w ao n zs) (hn : n ≤ 1048576) :
    Calls Try.prog 184 #[.slice ao n c] w fun e w' => ∃ ao' c', e = .returned (.slice ao' n c') ∧ Own w' w.heap.size 2 ao' n c' (zs.map (Value.int .i64)) ∧ Below w.heap.size w w' := by
  have he := fun (w : World) => Lib.run_eql_slice_nil (P := Try.prog) w 49 2 ao n c 0 0 Try.underlying49
  cases ao with
  | none =>
    obtain ⟨rfl, rfl⟩ := h.of_none
    go_enter Try.func184, Try.ntmps184
    go_wp2
    go_ret
    exact ⟨_, _, rfl, Own.nil_ _ _ _, Below.refl _ _⟩
  | some ad =>
    have h2 : Ints (w.alloc (.cells #[] 2)) (some ad) n zs := h.below ((Below.refl _ _).alloc (Nat.le_refl _) _)
    have H2 := Lib.hid h2
    clear h2
    go_enter Try.func184, Try.ntmps184
    go_wp2_with (at_builtin; refine wpList_apN etI _ rfl _ _ rfl w.heap.size _ 0 0 [] rfl (Own.empty_ w _ (Nat.le_refl _)) (some ad) n c zs rfl H2.out (by omega) (by simp) ?_; intro ao2 c2 w2 ho2 hg2 hblk)
    go_ret
    refine ⟨_, _, rfl, by simpa using ho2, ((Below.refl _ _).alloc (Nat.le_refl _) _).grown hg2 (by simp) (fun g hg => ?_)⟩
    simp [bk] at hg; omega
end Go.Proofs.Ytpognnifgcacnaa

/- withRelators, the program's. -/
namespace Go.Proofs.Ytpognnifgcacnaa
open Go.RowKit

def neL (zss : List (List Int)) : List (List Int) := zss.filter fun z => decide (0 < z.length)
theorem neL_succ {zss : List (List Int)} {k : Nat} (h : k < zss.length) : neL (zss.take (k + 1)) = neL (zss.take k) ++ (if 0 < (lget zss k).length then [lget zss k] else []) := by
  unfold neL
  rw [take_lget h, List.filter_append]
  congr 1
  by_cases e : 0 < (lget zss k).length
  · rw [if_pos e, List.filter_cons_of_pos (by simpa using e)]; rfl
  · rw [if_neg e, List.filter_cons_of_neg (by simpa using e)]; rfl
/-- the heads stay, and the row of the result does not lie over them -/
def HeadsA (w0 : World) (lo : Nat) (w : World) (al : Option Addr) (n : Nat) (Z : List (List Int)) (ao : Option Addr) : Prop := 0 < n → ∃ b, al = some ⟨b, 0, none⟩ ∧ lo ≤ b ∧ b < w.heap.size ∧ bk ao ≠ some b ∧ ∀ j, j < n → ∃ u, w.cell? ⟨b, j, none⟩ = some u ∧ RdS w0 u (lget Z j)
theorem HeadsZ.start {w0 w : World} {lo n : Nat} {al : Option Addr} {Z : List (List Int)} (h : HeadsZ w0 lo w al n Z) : HeadsA w0 lo w al n Z none := fun h0 => by
  obtain ⟨b, e, h1, h2, h3⟩ := h h0
  exact ⟨b, e, h1, h2, by simp [bk], h3⟩
theorem HeadsA.push {w0 wr w2 w3 w4 : World} {lo n : Nat} {al ao' ao2 : Option Addr} {Z : List (List Int)} (h : HeadsA w0 lo wr al n Z ao') (b2 : Below wr.heap.size wr w2) (b3 : Below w2.heap.size w2 w3) (g4 : w3.grownBy w4 (bk ao')) (hat : bk ao2 = bk ao' ∨ bk ao2 = some w3.heap.size) {p : Addr} (hp : p.block < lo) (v : Value) :
    HeadsA w0 lo (w4.setCell p v) al n Z ao2 := fun h0 => by
  obtain ⟨b, e, h1, h2, h3, h4⟩ := h h0
  have s2 := b2.size
  have s3 := b3.size
  have s4 := g4.size
  refine ⟨b, e, h1, by simp [World.setCell]; omega, ?_, fun j hj => ?_⟩
  · rcases hat with e1 | e1
    · rw [e1]; exact h3
    · rw [e1]; intro e2; have := Option.some.inj e2; omega
  · obtain ⟨u, h5, h6⟩ := h4 j hj
    refine ⟨u, ?_, h6⟩
    rw [← h5]
    refine World.cell?_of_block ?_
    rw [Below.heap_setCell _ _ _ _ (by simp; omega), g4.block b (by omega) (fun e => h3 e.symm), b3.block b (by omega), b2.block b h2]
theorem HeadsA.at_ {w0 w : World} {lo n : Nat} {al ao : Option Addr} {Z : List (List Int)} (h : HeadsA w0 lo w al n Z ao) (hb : Below w0.heap.size w0 w) {k : Nat} (hk : k < n) : ∃ b a1 n1 c1, al = some ⟨b, 0, none⟩ ∧ w.cell? ⟨b, k, none⟩ = some (.slice a1 n1 c1) ∧ Ints w a1 n1 (lget Z k) := by
  obtain ⟨b, e, _, _, _, h4⟩ := h (by omega)
  obtain ⟨u, h5, a1, n1, c1, rfl, h6⟩ := h4 k hk
  exact ⟨b, a1, n1, c1, e, h5, h6.below hb⟩
theorem neL_len (zss : List (List Int)) : (neL zss).length ≤ zss.length := List.length_filter_le _ _
/-- at most 24 relators: they and code 0; more: nothing and code 3 -/
def wrK (Z : List (List Int)) : Int := if (neL Z).length ≤ 24 then 0 else 3
def wrV (N : Int) (Z : List (List Int)) : PresD := if (neL Z).length ≤ 24 then (N, neL Z) else (0, [])
set_option maxRecDepth 100000 in
set_option maxHeartbeats 3200000 in
theorem withI_any (N : Nat) (hN : N ≤ 5) (ap aw : Option Addr) (np cp nw cw : Nat) (R W : List (List Int)) (w : World) (h1 : Intss w ap np R) (h2 : Intss w aw nw W) (hR : np ≤ 24) (hW : nw ≤ 24) (hl : ∀ z ∈ R ++ W, z.length ≤ 1000) :
    Calls Try.prog 112 #[.agg #[.int .i64 N, .slice ap np cp], .slice aw nw cw] w fun e w' => ∃ v, e = .returned (.tuple #[v, .int .i64 (wrK (R ++ W))]) ∧ OwP 2 49 w' w.heap.size w'.heap.size v (wrV N (R ++ W)) ∧ Below w.heap.size w w' := by
  have hl1 := h1.1
  have hl2 := h2.1
  go_enter Try.func112, Try.ntmps112
  go_wp2_with fail
  obtain ⟨w1, hw1⟩ : ∃ w1, w1 = w.alloc (.cells #[.int .i64 N, .slice ap np cp] 72) := ⟨_, rfl⟩
  have hs1 : w1.heap.size = w.heap.size + 1 := by rw [hw1]; simp
  have hb1 : Below w.heap.size w w1 := by rw [hw1]; exact below_alloc1 _ _
  rw [← hw1]
  have r0 : Blk ((w1.alloc (.cells #[.int .i64 0, .slice none 0 0] 72)).alloc (.cells #[.int .i64 N, .slice none 0 0] 72)) w1.heap.size 72 #[.int .i64 0, .slice none 0 0] := (blk_at rfl).alloc _
  have r1 : Blk ((w1.alloc (.cells #[.int .i64 0, .slice none 0 0] 72)).alloc (.cells #[.int .i64 N, .slice none 0 0] 72)) (w1.heap.size + 1) 72 #[.int .i64 N, .slice none 0 0] := blk_at (by simp)
  rw [← hs1]
  have k0 : (((w1.alloc (.cells #[.int .i64 0, .slice none 0 0] 72)).alloc (.cells #[.int .i64 N, .slice none 0 0] 72)).alloc (.cells #[.slice ap np cp, .slice aw nw cw] 39)).cell? ⟨w1.heap.size + 1 + 1, 0, none⟩ = some (.slice ap np cp) := (blk_at (by simp)).cell 0
  have k1 : (((w1.alloc (.cells #[.int .i64 0, .slice none 0 0] 72)).alloc (.cells #[.int .i64 N, .slice none 0 0] 72)).alloc (.cells #[.slice ap np cp, .slice aw nw cw] 39)).cell? ⟨w1.heap.size + 1 + 1, 1, none⟩ = some (.slice aw nw cw) := (blk_at (by simp)).cell 1
  have hb2 : Below w1.heap.size w1 (((w1.alloc (.cells #[.int .i64 0, .slice none 0 0] 72)).alloc (.cells #[.int .i64 N, .slice none 0 0] 72)).alloc (.cells #[.slice ap np cp, .slice aw nw cw] 39)) := (below_alloc2 _ _ _).alloc (by simp; omega) _
  refine (concat_any w _ 2 ap aw np cp nw cw R W _ k0 k1 (hb1.trans (hb2.mono (by omega))) h1 h2 (by omega) (by omega)).mono ?_
  rintro e wq ⟨al, cl, rfl, hz, bq⟩
  have bq2 := below_tr bq hb2
  have r2 := (r0.alloc (.cells #[.slice ap np cp, .slice aw nw cw] 39)).belowS bq
  have r3 := (r1.alloc (.cells #[.slice ap np cp, .slice aw nw cw] 39)).belowS bq
  have hsq := bq.size
  have hz2 := hz.start
  obtain ⟨Z, hZ⟩ : ∃ Z, Z = R ++ W := ⟨_, rfl⟩
  rw [← hZ] at hz2 hl
  have hlz : Z.length = np + nw := by rw [hZ, List.length_append]; omega
  have HZ := Lib.hid hZ
  have hn48 : np + nw ≤ 48 := by omega
  have hcast : ((np : Int) + (nw : Int)) = ((np + nw : Nat) : Int) := by omega
  clear hz h1 h2 hl1 hl2 k0 k1 r0 r1 hb2 bq hw1 hZ
  generalize np + nw = n at *
  have HW1 := Lib.hid (And.intro hs1 hb1)
  have HL := Lib.hid (And.intro hl hlz)
  clear hl hlz hb1 hs1
  have NS : neL (Z.take 0) = [] := rfl
  go_wp2_with fail
  go_loopw [18] (fun i wr => ∃ (k m : Nat) (ao' : Option Addr) (c' : Nat) (us : List Value), i = .int .i64 k ∧ k ≤ n ∧ CoxSt w1 wr N ao' m c' us (neL (Z.take k)) ∧ HeadsA w (w1.heap.size + 2) wr al n Z ao') (fun i _ => n - (intOf i).toNat)
  case atStart => exact ⟨0, 0, none, 0, [], rfl, Nat.zero_le _, ⟨r2, r3, by rw [NS]; exact OwR.empty_ (Own.nil_ _ _ _) (fun g hg => by cases hg), by simp at hsq ⊢; omega, bq2, by omega⟩, fun h0 => by obtain ⟨b, e, h1, h2⟩ := hz2 h0; exact ⟨b, e, by simp at h1; omega, h2⟩⟩
  case round =>
    obtain ⟨k, m, ao', c', us, rfl, hk, st, hh⟩ := hrel
    clear r2 r3 hz2 bq2 hsq NS
    have hbw : Below w.heap.size w wr := HW1.out.2.trans (st.below.mono (by have := HW1.out.1; omega))
    by_cases hlt : k < n
    · obtain ⟨b, a1, n1, c1, rfl, hc, hi⟩ := hh.at_ hbw hlt
      have x0 := st.box.cell 0
      have x1 := st.box.cell 1
      have f1 := st.box.frozen 1
      simp at x0 x1
      have ST := Lib.hid st
      have HH := Lib.hid hh
      have HT := Lib.hid (neL_succ (zss := Z) (k := k) (by have := HL.out.2; omega))
      have hil := hi.1
      have hmem : lget Z k ∈ Z := by rw [lget_lt (by have := HL.out.2; omega)]; exact List.getElem_mem _
      have hn1 : n1 ≤ 1000 := by have := HL.out.1 _ hmem; omega
      have hm : m + 1 ≤ 1000 := by have h1 := st.row.len; have h2 := neL_len (Z.take k); rw [List.length_take] at h2; omega
      have HM := Lib.hid hm
      have hI : Ints wr.drew a1 n1 (lget Z k) := hi.below (below_drew1 _)
      have HI := Lib.hid hI
      have hsz := st.size
      clear st hh hi hmem hm hbw hI
      by_cases h0 : 0 < n1
      · have HO : Hid ((if 0 < (lget Z k).length then [lget Z k] else []) = [lget Z k]) := Lib.hid (if_pos (by omega))
        clear hil
        go_wp2_with fail
        go_region_law (first | (refine step_ap1 (o := ⟨some 30, _, _, _, _, _⟩) etSS rfl (.tmp 26) (.tmp 29) rfl (w1.heap.size + 2) ao' m c' us rfl (ST.out.row.own.below B3) (.slice a2 n1 c2) w2.heap.size 1 rfl ((blk_at rfl).cell 0) rfl (by have := HM.out; omega) (by have := B3.size; simp at *; omega) ?_; intro ao2 c3 w4 o4 g4 hat; have B4S : Below (w1.heap.size + 2) wr w4 := (B3S.grown g4 (by have := B3.size; omega) (fun g hg => (ST.out.row.own.lt g hg).1)); have x4 : w4.cell? ⟨w1.heap.size + 1, 1, none⟩ = some (.slice ao' m c') := (ST.out.box.below B4S (by omega)).cell 1; have f4 : w4.frozen? ⟨w1.heap.size + 1, 1, none⟩ = false := (ST.out.box.below B4S (by omega)).frozen 1) | (go_simp; go_at_call 184; refine (clone_any a1 n1 c1 (lget Z k) _ HI.out (by omega)).mono ?_; rintro e w2 ⟨a2, c2, rfl, o1, b1⟩; have B2 : Below wr.heap.size wr w2 := below_tr b1 (below_drew1 _); have B2S := B2.mono hsz; have B3 : Below wr.heap.size wr (w2.alloc (.cells #[.slice a2 n1 c2] 49)) := B2.alloc B2.size _; have B3S := B3.mono hsz; have x2 : w2.cell? ⟨w1.heap.size + 1, 1, none⟩ = some (.slice ao' m c') := (ST.out.box.below B2S (by omega)).cell 1; have x3 : (w2.alloc (.cells #[.slice a2 n1 c2] 49)).cell? ⟨w1.heap.size + 1, 1, none⟩ = some (.slice ao' m c') := (ST.out.box.below B3S (by omega)).cell 1))
        all_goals
          have st2 := ST.out.push HM.out B2 (o1.mono (Nat.le_of_eq (by rfl))) (below_alloc1 _ _) o4 g4 hat
          have hh2 := HH.out.push B2 (below_alloc1 _ _) g4 hat (p := ⟨w1.heap.size + 1, 1, none⟩) (by simp) (.slice ao2 (m + 1) c3)
          have hs4 := B4S.size
          generalize w4.setCell ⟨w1.heap.size + 1, 1, none⟩ (.slice ao2 (m + 1) c3) = wf at *
          clear B2 B2S B3 B3S B4S x0 x1 x2 x3 x4 f1 f4 o1 b1 o4 g4 hat ST HH
          go_wp2_with fail
          go_roundw
          case rel => exact ⟨k + 1, m + 1, ao2, c3, _, by go_num, by omega, by rw [HT.out, HO.out]; exact st2, hh2⟩
          case measure => simp [intOf]; omega
      · have HO : Hid ((if 0 < (lget Z k).length then [lget Z k] else []) = []) := Lib.hid (if_neg (by omega))
        obtain rfl : n1 = 0 := by omega
        clear hil
        go_wp2_with fail
        go_roundw
        case rel => exact ⟨k + 1, m, ao', c', us, by go_num, by omega, by rw [HT.out, HO.out, List.append_nil]; exact ST.out, HH.out⟩
        case measure => simp [intOf]; omega
    · obtain rfl : k = n := by omega
      have x0 := st.box.cell 0
      have x1 := st.box.cell 1
      have y0 := st.res.cell 0
      have y1 := st.res.cell 1
      have f0 := st.res.frozen 0
      have f1 := st.res.frozen 1
      simp at x0 x1 y0 y1
      have hlen := st.row.len
      have hTZ : Z.take k = Z := List.take_of_length_le (by have := HL.out.2; omega)
      rw [hTZ] at st hlen
      have ST := Lib.hid st
      have HLEN := Lib.hid hlen
      clear st hh hbw hlen
      by_cases h24 : m ≤ 24
      · have c24 : decide ((m : Int) > 24) = false := by simp; omega
        have h24z : (neL Z).length ≤ 24 := by rw [HLEN.out]; exact h24
        have hK : wrK (R ++ W) = 0 := by rw [← HZ.out]; unfold wrK; rw [if_pos h24z]
        have hV : wrV N (R ++ W) = ((N : Int), neL Z) := by rw [← HZ.out]; unfold wrV; rw [if_pos h24z]
        have HK := Lib.hid (And.intro hK hV)
        clear hK hV h24z
        go_wp2_with fail
        have st2 := ST.out.done
        generalize (wr.setCell ⟨w1.heap.size, 0, none⟩ (.int .i64 N)).setCell ⟨w1.heap.size, 1, none⟩ (.slice ao' m c') = wf at *
        have e0 := st2.1.cell 0
        have e1 := st2.1.cell 1
        simp at e0 e1
        have hs1 := HW1.out.1
        refine bodyPost_ret (v := .tuple #[.agg #[.int .i64 N, .slice ao' m c'], .int .i64 0]) (by simp [results, Try.f112, go_sem, e0, e1]) rfl ⟨_, by rw [HK.out.1], ?_, HW1.out.2.trans (st2.2.2.mono (by omega))⟩
        rw [HK.out.2]
        exact ⟨ao', m, c', us, rfl, st2.2.1.mono (by omega) (Nat.le_refl _)⟩
      · have c24 : decide ((m : Int) > 24) = true := by simp; omega
        have h24z : ¬ (neL Z).length ≤ 24 := by rw [HLEN.out]; exact h24
        have hK : wrK (R ++ W) = 3 := by rw [← HZ.out]; unfold wrK; rw [if_neg h24z]
        have hV : wrV N (R ++ W) = (0, []) := by rw [← HZ.out]; unfold wrV; rw [if_neg h24z]
        have HK := Lib.hid (And.intro hK hV)
        clear hK hV h24z
        go_wp2_with fail
        have st2 := ((ST.out.res.set_ 0 (.int .i64 0)).set_ 1 (.slice none 0 0))
        have hbf := (ST.out.below.setCell (p := ⟨w1.heap.size, 0, none⟩) (by simp) (.int .i64 0)).setCell (p := ⟨w1.heap.size, 1, none⟩) (by simp) (.slice none 0 0)
        have hsf : w1.heap.size + 2 ≤ ((wr.setCell ⟨w1.heap.size, 0, none⟩ (.int .i64 0)).setCell ⟨w1.heap.size, 1, none⟩ (.slice none 0 0)).heap.size := by have := ST.out.size; simp [World.setCell]; omega
        generalize (wr.setCell ⟨w1.heap.size, 0, none⟩ (.int .i64 0)).setCell ⟨w1.heap.size, 1, none⟩ (.slice none 0 0) = wf at *
        have e0 := st2.cell 0
        have e1 := st2.cell 1
        simp at e0 e1
        have hs1 := HW1.out.1
        refine bodyPost_ret (v := .tuple #[.agg #[.int .i64 0, .slice none 0 0], .int .i64 3]) (by simp [results, Try.f112, go_sem, e0, e1]) rfl ⟨_, by rw [HK.out.1], ?_, HW1.out.2.trans (hbf.mono (by omega))⟩
        rw [HK.out.2]
        exact ⟨none, 0, 0, [], rfl, OwR.empty_ (Own.nil_ _ _ _) (fun g hg => by cases hg)⟩
end Go.Proofs.Ytpognnifgcacnaa

/- WithRelators, the reference's. -/
namespace Go.Proofs.Ytpognnifgcacnaa
open Go.RowKit

/-- the presentation with the words that are not empty laid behind its relators -/
def wrR (d : PresD) (ws : List (List Int)) : PresD := if withOk d ws = true then wrV d.1 (d.2 ++ ws) else (0, [])
def wrC (d : PresD) (ws : List (List Int)) : Int := if withOk d ws = true then wrK (d.2 ++ ws) else 1

theorem withOk_pres {d : PresD} {ws : List (List Int)} (h : withOk d ws = true) : isPres d = true ∧ wordsTo d.1 0 ws = true := by
  unfold withOk at h; simpa using h
theorem isPres_few {d : PresD} (h : isPres d = true) : d.2.length ≤ 24 ∧ neL d.2 = d.2 ∧ ∀ z ∈ d.2, z.length ≤ 64 := by
  unfold isPres at h
  simp only [Bool.and_eq_true, decide_eq_true_eq, List.all_eq_true] at h
  refine ⟨h.1.2, List.filter_eq_self.2 fun z hz => by have := h.2 z hz; simp; omega, fun z hz => ?_⟩
  have := (h.2 z hz).1
  unfold isWordTo at this
  simp only [Bool.and_eq_true, decide_eq_true_eq] at this
  exact this.1
theorem wordsTo_few {g : Int} {k : Nat} {ws : List (List Int)} (h : wordsTo g k ws = true) : ws.length ≤ 24 ∧ ∀ z ∈ ws, z.length ≤ 64 := by
  unfold wordsTo at h
  simp only [Bool.and_eq_true, decide_eq_true_eq, List.all_eq_true] at h
  refine ⟨h.1, fun z hz => ?_⟩
  have := (h.2 z hz).1
  unfold isWordTo at this
  simp only [Bool.and_eq_true, decide_eq_true_eq] at this
  exact this.1
theorem neL_app (R W : List (List Int)) : neL (R ++ W) = neL R ++ neL W := List.filter_append ..

theorem lenSS_upto {zss : List (List Int)} {k : Nat} (h : ∀ zs ∈ zss, zs.length ≤ k) : lenSS zss ≤ zss.length * k := by
  induction zss with
  | nil => simp [lenSS]
  | cons z t ih =>
    have h1 := h z (by simp)
    have h2 := ih fun x hx => h x (by simp [hx])
    simp [lenSS, Nat.add_mul] at *
    omega
section
variable {D : Type} {Ow1 : World → Value → D → Prop} {w w' : World} {lo hi E : Nat} {ao : Option Addr} {n c : Nat} {us : List Value} {ds : List D}
/-- the row's own blocks have not turned -/
theorem OwR.same2 (I : Inner Ow1) (h : OwR Ow1 w lo hi E ao n c us ds) (hs : ∀ g, (bk ao = some g ∨ ∃ (j : Nat) (u : Value), us[j]? = some u ∧ u.ownBlock = some g) → w'.heap[g]? = w.heap[g]?) : OwR Ow1 w' lo hi E ao n c us ds :=
  { own := h.own.same fun g hg => hs g (.inl hg)
    top := h.top, len := h.len, rng := h.rng, out := h.out, apart := h.apart
    el := fun j u d hu hd => I.loc (h.el j u d hu hd) fun g hg => hs g (.inr ⟨j, u, hu, hg⟩) }
end

/-- the box of the result (rb), the box of the presentation that grows (bx), its relators -/
structure WsSt (w wr : World) (rb bx lo : Nat) (N : Int) (ao : Option Addr) (m c : Nat) (us : List Value) (ds : List (List Int)) : Prop where
  res : Blk wr rb 72 #[.int .i64 0, .slice none 0 0]
  box : Blk wr bx 72 #[.int .i64 N, .slice ao m c]
  row : OwR (OwS 2) wr lo wr.heap.size 49 ao m c us ds
  far : bk ao ≠ some bx ∧ ∀ (j : Nat) (u : Value), us[j]? = some u → u.ownBlock ≠ some bx
  at_ : w.heap.size ≤ rb ∧ rb < lo ∧ w.heap.size ≤ bx ∧ rb ≠ bx ∧ lo ≤ wr.heap.size
  below : Below w.heap.size w wr
  few : m ≤ 1000

theorem WsSt.push {w wr w2 w3 w4 : World} {rb bx lo m c' n1 c1 c2 : Nat} {N : Int} {ao' a1 ao2 : Option Addr} {us : List Value} {ds : List (List Int)} {zs : List Int} (st : WsSt w wr rb bx lo N ao' m c' us ds) (hm : m + 1 ≤ 1000)
    (b2 : Below wr.heap.size wr w2) (o1 : Own w2 wr.heap.size 2 a1 n1 c1 (zs.map (Value.int .i64))) (b3 : Below w2.heap.size w2 w3) (o4 : Own w4 lo 49 ao2 (m + 1) c2 (us ++ [.slice a1 n1 c1]))
    (g4 : w3.grownBy w4 (bk ao')) (hat : bk ao2 = bk ao' ∨ bk ao2 = some w3.heap.size) :
    WsSt w (w4.setCell ⟨bx, 1, none⟩ (.slice ao2 (m + 1) c2)) rb bx lo N ao2 (m + 1) c2 (us ++ [.slice a1 n1 c1]) (ds ++ [zs]) := by
  obtain ⟨h1, h2, h3, h4, h5⟩ := st.at_
  have hR := rows_push st.row h5 b2 o1 b3 o4 g4 hat
  have s2 := b2.size
  have s3 := b3.size
  have s4 := g4.size
  have hbx := st.box.lt
  have B4 : Below w.heap.size w w4 := (st.below.trans ((b2.trans (b3.mono s2)).mono (by omega))).grown g4 (by omega) (fun g hg => by have := (st.row.own.lt g hg).1; omega)
  have hh : (w4.setCell ⟨bx, 1, none⟩ (.slice ao2 (m + 1) c2)).heap.size = w4.heap.size := by simp [World.setCell]
  have k : ∀ g, g < wr.heap.size → bk ao' ≠ some g → w4.heap[g]? = wr.heap[g]? := fun g hg hne => by
    rw [g4.block g (by omega) (fun e => hne e.symm), b3.block g (by omega), b2.block g hg]
  have hf : bk ao2 ≠ some bx ∧ ∀ (j : Nat) (u : Value), (us ++ [.slice a1 n1 c1])[j]? = some u → u.ownBlock ≠ some bx := by
    refine ⟨?_, fun j u hj => ?_⟩
    · rcases hat with e | e
      · rw [e]; exact st.far.1
      · rw [e]; intro e2; have := Option.some.inj e2; omega
    · rw [List.getElem?_append] at hj
      split at hj
      · exact st.far.2 j u hj
      · have hj0 : j - us.length = 0 := by
          rcases Nat.eq_zero_or_pos (j - us.length) with h | h
          · exact h
          · rw [List.getElem?_eq_none (by simp; omega)] at hj; cases hj
        rw [hj0] at hj
        obtain rfl : Value.slice a1 n1 c1 = u := by simpa using hj
        rw [ownBlock_slice]
        intro e; have := (o1.lt _ e).1; omega
  refine ⟨?_, ?_, ?_, hf, ⟨h1, h2, h3, h4, by rw [hh]; omega⟩, B4.setCell (by simp; omega) _, hm⟩
  · refine Blk.far ?_ (by simp; omega) _
    unfold Blk
    rw [k rb (by omega) (fun e => by have := (st.row.own.lt _ e).1; omega)]
    exact st.res
  · have : Blk w4 bx 72 #[.int .i64 N, .slice ao' m c'] := by unfold Blk; rw [k bx hbx st.far.1]; exact st.box
    simpa using this.set_ 1 (.slice ao2 (m + 1) c2)
  · rw [hh]
    refine hR.same2 (innerS _) fun g hg => Below.heap_setCell _ _ _ _ ?_
    rcases hg with hg | ⟨j, u, hj, hg⟩
    · intro e; exact hf.1 (by simp at e; rw [← e]; exact hg)
    · intro e; exact hf.2 j u hj (by simp at e; rw [← e]; exact hg)

theorem WsSt.done {w wr : World} {rb bx lo m c' : Nat} {N : Int} {ao' : Option Addr} {us : List Value} {ds : List (List Int)} (st : WsSt w wr rb bx lo N ao' m c' us ds) (x : Int) (y : Value) :
    Blk ((wr.setCell ⟨rb, 0, none⟩ (.int .i64 x)).setCell ⟨rb, 1, none⟩ y) rb 72 #[.int .i64 x, y] ∧
    OwR (OwS 2) ((wr.setCell ⟨rb, 0, none⟩ (.int .i64 x)).setCell ⟨rb, 1, none⟩ y) lo ((wr.setCell ⟨rb, 0, none⟩ (.int .i64 x)).setCell ⟨rb, 1, none⟩ y).heap.size 49 ao' m c' us ds ∧
    Below w.heap.size w ((wr.setCell ⟨rb, 0, none⟩ (.int .i64 x)).setCell ⟨rb, 1, none⟩ y) := by
  obtain ⟨h1, h2, h3, h4, h5⟩ := st.at_
  have hh : ((wr.setCell ⟨rb, 0, none⟩ (.int .i64 x)).setCell ⟨rb, 1, none⟩ y).heap.size = wr.heap.size := by simp [World.setCell]
  refine ⟨?_, ?_, (st.below.setCell (by simp; omega) _).setCell (by simp; omega) _⟩
  · have := (st.res.set_ 0 (.int .i64 x)).set_ 1 y
    simpa using this
  · rw [hh]
    exact st.row.same (innerS _) fun g h1 _ _ => by rw [Below.heap_setCell _ _ _ _ (by simp; omega), Below.heap_setCell _ _ _ _ (by simp; omega)]

theorem WsSt.start1 {w w1 w2 : World} {rb n2 c2 : Nat} {N : Int} {a2 : Option Addr} {us : List Value} {ds : List (List Int)} (k1 : Blk w1 rb 72 #[.int .i64 0, .slice none 0 0]) (hb : Below w.heap.size w w1) (h1 : w.heap.size ≤ rb)
    (b2 : Below w1.heap.size w1 w2) (o2 : OwR (OwS 2) w2 w1.heap.size w2.heap.size 49 a2 n2 c2 us ds) (hf : n2 ≤ 1000) : WsSt w (w2.alloc (.cells #[.int .i64 N, .slice a2 n2 c2] 72)) rb w2.heap.size w1.heap.size N a2 n2 c2 us ds := by
  have hs := b2.size
  have hl := k1.lt
  refine ⟨(k1.belowS b2).alloc _, blk_at rfl, (o2.below (innerS _) (below_alloc1 _ _)).mono (Nat.le_refl _) (by simp), ⟨fun e => by have := o2.top _ e; omega, fun j u hj e => by have := (o2.rng j u hj _ e).2; omega⟩, ⟨h1, hl, by have := hb.size; omega, by omega, by simp; omega⟩, (hb.trans (b2.mono hb.size)).alloc (by have := hb.size; omega) _, hf⟩
theorem WsSt.start2 {w w1 w2 : World} {rb lo n2 c2 : Nat} {N : Int} {a2 : Option Addr} {us : List Value} {ds : List (List Int)} (k1 : Blk w1 rb 72 #[.int .i64 0, .slice none 0 0]) (hb : Below w.heap.size w w1) (h1 : w.heap.size ≤ rb)
    (b2 : Below (w1.alloc (.cells #[.int .i64 0, .slice none 0 0] 72)).heap.size (w1.alloc (.cells #[.int .i64 0, .slice none 0 0] 72)) w2) (hlo : lo = w1.heap.size + 1) (o2 : OwR (OwS 2) w2 lo w2.heap.size 49 a2 n2 c2 us ds) (hf : n2 ≤ 1000) :
    WsSt w ((w2.setCell ⟨w1.heap.size, 0, none⟩ (.int .i64 N)).setCell ⟨w1.heap.size, 1, none⟩ (.slice a2 n2 c2)) rb w1.heap.size (w1.heap.size + 1) N a2 n2 c2 us ds := by
  subst hlo
  simp only [World.alloc, Array.size_push] at b2
  have b2 : Below (w1.heap.size + 1) (w1.alloc (.cells #[.int .i64 0, .slice none 0 0] 72)) w2 := b2
  have hs := b2.size
  simp at hs
  have hl := k1.lt
  have hbs := hb.size
  have hh : ((w2.setCell ⟨w1.heap.size, 0, none⟩ (.int .i64 N)).setCell ⟨w1.heap.size, 1, none⟩ (.slice a2 n2 c2)).heap.size = w2.heap.size := by simp [World.setCell]
  have kx : Blk w2 w1.heap.size 72 #[.int .i64 0, .slice none 0 0] := (blk_at (w := w1) rfl).below b2 (by omega)
  refine ⟨(((k1.alloc _).below b2 (by omega)).far (by simp; omega) _).far (by simp; omega) _, by simpa using (kx.set_ 0 (.int .i64 N)).set_ 1 (.slice a2 n2 c2), ?_, ⟨fun e => by have := (o2.own.lt _ e).1; omega, fun j u hj e => by have := (o2.rng j u hj _ e).1; omega⟩, ⟨h1, by omega, by omega, by omega, by rw [hh]; omega⟩, ((((hb.trans ((below_alloc1 w1 _).mono hbs)).trans (b2.mono (by omega))).setCell (by simp; omega) _).setCell (by simp; omega) _), hf⟩
  rw [hh]
  exact o2.same (innerS _) fun g h1 _ _ => by rw [Below.heap_setCell _ _ _ _ (by simp; omega), Below.heap_setCell _ _ _ _ (by simp; omega)]

set_option maxRecDepth 100000 in
set_option maxHeartbeats 3200000 in
theorem withS_any {v : Value} {d : PresD} (ao : Option Addr) (n c : Nat) (ws : List (List Int)) (w : World) (h : RdP w v d) (h' : Intss w ao n ws) :
    Calls Try.prog 80 #[v, .slice ao n c] w fun e w' => ∃ v, e = .returned (.tuple #[v, .int .i64 (wrC d ws)]) ∧ OwP 2 49 w' w.heap.size w'.heap.size v (wrR d ws) ∧ Below w.heap.size w w' := by
  cases hp : withOk d ws with
  | false =>
    have hC : wrC d ws = 1 := by unfold wrC; rw [hp]; rfl
    have hR : wrR d ws = (0, []) := by unfold wrR; rw [hp]; rfl
    have hW : withC d ws = 1 := by unfold withC; rw [hp]; rfl
    obtain ⟨ro, rn, rc, rfl, hr⟩ := h
    go_enter Try.func80, Try.ntmps80
    have hb := below_alloc2 w (.cells #[.int .i64 d.1, .slice ro rn rc] 72) (.cells #[.int .i64 0, .slice none 0 0] 72)
    have kb : Blk ((w.alloc (.cells #[.int .i64 d.1, .slice ro rn rc] 72)).alloc (.cells #[.int .i64 0, .slice none 0 0] 72)) (w.heap.size + 1) 72 #[.int .i64 0, .slice none 0 0] := blk_at (by simp)
    have h1 : RdP ((w.alloc (.cells #[.int .i64 d.1, .slice ro rn rc] 72)).alloc (.cells #[.int .i64 0, .slice none 0 0] 72)) (.agg #[.int .i64 d.1, .slice ro rn rc]) d := ⟨ro, rn, rc, rfl, hr.below hb⟩
    have h2 := h'.below hb
    have HP := Lib.hid (And.intro hC (And.intro hR hW))
    clear hC hR hW hr h'
    go_wp2_with fail
    refine (specCode_any ao n c ws _ h1 h2).mono ?_
    rintro e w1 ⟨rfl, b1⟩
    rw [HP.out.2.2]
    have k1 := kb.belowS b1
    have y0 := k1.cell 0
    have y1 := k1.cell 1
    have f0 := k1.frozen 0
    have f1 := k1.frozen 1
    simp at y0 y1
    have B1 := below_tr b1 hb
    clear h1 h2 hb kb b1
    go_wp2_with fail
    have st2 := ((k1.set_ 0 (.int .i64 0)).set_ 1 (.slice none 0 0))
    have hbf := (B1.setCell (p := ⟨w.heap.size + 1, 0, none⟩) (by simp) (.int .i64 0)).setCell (p := ⟨w.heap.size + 1, 1, none⟩) (by simp) (.slice none 0 0)
    generalize (w1.setCell ⟨w.heap.size + 1, 0, none⟩ (.int .i64 0)).setCell ⟨w.heap.size + 1, 1, none⟩ (.slice none 0 0) = wf at *
    have e0 := st2.cell 0
    have e1 := st2.cell 1
    simp at e0 e1
    refine bodyPost_ret (v := .tuple #[.agg #[.int .i64 0, .slice none 0 0], .int .i64 1]) (by simp [results, Try.f80, go_sem, e0, e1]) rfl ⟨_, by rw [HP.out.1], ?_, hbf⟩
    rw [HP.out.2.1]
    exact ⟨none, 0, 0, [], rfl, OwR.empty_ (Own.nil_ _ _ _) (fun g hg => by cases hg)⟩
  | true =>
    have hC : wrC d ws = wrK (d.2 ++ ws) := by unfold wrC; rw [hp]; rfl
    have hR : wrR d ws = wrV d.1 (d.2 ++ ws) := by unfold wrR; rw [hp]; rfl
    have hW : withC d ws = 0 := by unfold withC; rw [hp]; rfl
    obtain ⟨hp1, hp2⟩ := withOk_pres hp
    obtain ⟨q1, q2, q3⟩ := isPres_few hp1
    obtain ⟨q4, q5⟩ := wordsTo_few hp2
    have hll : d.2.length + lenSS d.2 ≤ 1048576 := by have := lenSS_upto q3; omega
    obtain ⟨ro, rn, rc, rfl, hr⟩ := h
    go_enter Try.func80, Try.ntmps80
    have HLL := Lib.hid hll
    have hb := below_alloc2 w (.cells #[.int .i64 d.1, .slice ro rn rc] 72) (.cells #[.int .i64 0, .slice none 0 0] 72)
    have kp : Blk ((w.alloc (.cells #[.int .i64 d.1, .slice ro rn rc] 72)).alloc (.cells #[.int .i64 0, .slice none 0 0] 72)) w.heap.size 72 #[.int .i64 d.1, .slice ro rn rc] := (blk_at rfl).alloc _
    have kb : Blk ((w.alloc (.cells #[.int .i64 d.1, .slice ro rn rc] 72)).alloc (.cells #[.int .i64 0, .slice none 0 0] 72)) (w.heap.size + 1) 72 #[.int .i64 0, .slice none 0 0] := blk_at (by simp)
    have h1 : RdP ((w.alloc (.cells #[.int .i64 d.1, .slice ro rn rc] 72)).alloc (.cells #[.int .i64 0, .slice none 0 0] 72)) (.agg #[.int .i64 d.1, .slice ro rn rc]) d := ⟨ro, rn, rc, rfl, hr.below hb⟩
    have h2 := h'.below hb
    have HP := Lib.hid (And.intro hC (And.intro hR hW))
    have HR := Lib.hid hr
    have HI := Lib.hid h'
    have hn := h'.1
    have hrn := hr.1
    clear hC hR hW hr h'
    go_wp2_with fail
    refine (specCode_any ao n c ws _ h1 h2).mono ?_
    rintro e w1 ⟨rfl, b1⟩
    rw [HP.out.2.2]
    have k0 := kp.belowS b1
    have k1 := kb.belowS b1
    have z0 := k0.cell 0
    have z1 := k0.cell 1
    simp at z0 z1
    have B1 := below_tr b1 hb
    have s1 : w.heap.size + 2 ≤ w1.heap.size := by have := b1.size; simp at this; omega
    have K0 := Lib.hid k0
    have K1 := Lib.hid k1
    clear h1 h2 hb kb b1 kp k0 k1
    go_wp2_with fail
    rename_i K hK
    have tail : ∀ (bx lo : Nat) (wf : World) (a2 : Option Addr) (n2 c2 : Nat) (us2 : List Value), WsSt w wf (w.heap.size + 1) bx lo d.1 a2 n2 c2 us2 d.2 → K { tmps := #[.agg #[.int .i64 d.1, .slice ro rn rc], .slice ao n c, .pointer (some ⟨w.heap.size, 0, none⟩), undef, .pointer (some ⟨w.heap.size + 1, 0, none⟩), .int .i64 0, .int .i64 0, .pointer (some ⟨bx, 0, none⟩), undef, .agg #[.int .i64 d.1, .slice ro rn rc], .slice ao n c, .int .i64 0, .int .i64 0, .bool false, undef, undef, .pointer (some ⟨w.heap.size, 0, none⟩), .int .i64 d.1, .pointer (some ⟨w.heap.size, 1, none⟩), .slice ro rn rc, .slice a2 n2 c2, .agg #[.int .i64 d.1, .slice a2 n2 c2], undef, undef, undef, undef, undef, undef, undef, undef, undef, undef, undef, undef, undef, undef, undef, undef, undef, undef, undef, undef, undef, undef, undef, undef, undef, undef, undef, undef], defers := [] } wf := by
      intro bx lo wf a2 n2 c2 us2 st0
      refine hK _ _ ?_
      clear hK z0 z1 B1 s1 K0 K1
      go_wp2_with fail
      go_loopw [8] (fun i wr => ∃ (k m : Nat) (ao' : Option Addr) (c' : Nat) (us : List Value), i = .int .i64 k ∧ k ≤ n ∧ WsSt w wr (w.heap.size + 1) bx lo d.1 ao' m c' us (d.2 ++ neL (ws.take k))) (fun i _ => n - (intOf i).toNat)
      case atStart => exact ⟨0, n2, a2, c2, us2, rfl, Nat.zero_le _, by rw [show neL (ws.take 0) = [] from rfl, List.append_nil]; exact st0⟩
      case round =>
        obtain ⟨k, m, ao', c', us, rfl, hk, st⟩ := hrel
        clear st0
        by_cases hlt : k < n
        · obtain ⟨b, off, a1, n1, c1, rfl, hc, hi⟩ := (HI.out.below st.below).at_ hlt
          have x0 := st.box.cell 0
          have x1 := st.box.cell 1
          have f1 := st.box.frozen 1
          simp at x0 x1
          have ST := Lib.hid st
          have HT := Lib.hid (neL_succ (zss := ws) (k := k) (by omega))
          have hil := hi.1
          have hmem : lget ws k ∈ ws := by rw [lget_lt (by omega)]; exact List.getElem_mem _
          have hn1 : n1 ≤ 64 := by have := q5 _ hmem; omega
          have hm : m + 1 ≤ 1000 := by have h1 := st.row.len; have h2 := neL_len (ws.take k); rw [List.length_take] at h2; rw [List.length_append] at h1; omega
          have HM := Lib.hid hm
          have hI : Ints wr.drew a1 n1 (lget ws k) := hi.below (below_drew1 _)
          have HII := Lib.hid hI
          have hpos := st.at_
          have hbx := st.box.lt
          clear st hi hmem hm hI
          by_cases h0 : 0 < n1
          · have HO : Hid ((if 0 < (lget ws k).length then [lget ws k] else []) = [lget ws k]) := Lib.hid (if_pos (by omega))
            clear hil
            go_wp2_with fail
            go_region_law (first | (refine step_ap1 (o := ⟨some 42, _, _, _, _, _⟩) etSS rfl (.tmp 35) (.tmp 41) rfl lo ao' m c' us rfl (ST.out.row.own.below B3) (.slice a2' n1 c2') w2.heap.size 1 rfl ((blk_at rfl).cell 0) rfl (by have := HM.out; omega) (by have := B3.size; simp at *; omega) ?_; intro ao2 c3 w4 o4 g4 hat; have B4 : Below lo wr w4 := ((B3.mono hpos.2.2.2.2).grown g4 (by have := B3.size; omega) (fun g hg => (ST.out.row.own.lt g hg).1)); have k4 : Blk w4 bx 72 #[.int .i64 d.1, .slice ao' m c'] := (g4.block bx (by have := B3.size; omega) (fun e => ST.out.far.1 e.symm)).trans (ST.out.box.belowS B3); have x4 : w4.cell? ⟨bx, 1, none⟩ = some (.slice ao' m c') := k4.cell 1; have f4 : w4.frozen? ⟨bx, 1, none⟩ = false := k4.frozen 1) | (go_simp; go_at_call 121; refine (own_any a1 n1 c1 (lget ws k) _ HII.out (by omega)).mono ?_; rintro e w2 ⟨a2', c2', rfl, o1, b1⟩; have B2 : Below wr.heap.size wr w2 := below_tr b1 (below_drew1 _); have B3 : Below wr.heap.size wr (w2.alloc (.cells #[.slice a2' n1 c2'] 49)) := B2.alloc B2.size _; have x2 : w2.cell? ⟨bx, 1, none⟩ = some (.slice ao' m c') := (ST.out.box.belowS B2).cell 1; have x3 : (w2.alloc (.cells #[.slice a2' n1 c2'] 49)).cell? ⟨bx, 1, none⟩ = some (.slice ao' m c') := (ST.out.box.belowS B3).cell 1))
            all_goals
              have st2 := ST.out.push HM.out B2 (o1.mono (Nat.le_of_eq (by rfl))) (below_alloc1 _ _) o4 g4 hat
              have hs4 := B4.size
              generalize w4.setCell ⟨bx, 1, none⟩ (.slice ao2 (m + 1) c3) = wf2 at *
              clear B2 B3 B4 x0 x1 x2 x3 x4 k4 f1 f4 o1 b1 o4 g4 hat ST
              go_wp2_with fail
              go_roundw
              case rel => exact ⟨k + 1, m + 1, ao2, c3, _, by go_num, by omega, by rw [HT.out, HO.out, ← List.append_assoc]; exact st2⟩
              case measure => simp [intOf]; omega
          · have HO : Hid ((if 0 < (lget ws k).length then [lget ws k] else []) = []) := Lib.hid (if_neg (by omega))
            obtain rfl : n1 = 0 := by omega
            clear hil
            go_wp2_with fail
            go_roundw
            case rel => exact ⟨k + 1, m, ao', c', us, by go_num, by omega, by rw [HT.out, HO.out, List.append_nil]; exact ST.out⟩
            case measure => simp [intOf]; omega
        · obtain rfl : k = n := by omega
          have x0 := st.box.cell 0
          have x1 := st.box.cell 1
          have y0 := st.res.cell 0
          have y1 := st.res.cell 1
          have f0 := st.res.frozen 0
          have f1 := st.res.frozen 1
          simp at x0 x1 y0 y1
          have hlen := st.row.len
          have hTZ : ws.take k = ws := List.take_of_length_le (by omega)
          rw [hTZ] at st hlen
          have hNE : d.2 ++ neL ws = neL (d.2 ++ ws) := by rw [neL_app, q2]
          rw [hNE] at st hlen
          have ST := Lib.hid st
          have HLEN := Lib.hid hlen
          clear st hlen hNE
          by_cases h24 : m ≤ 24
          · have c24 : decide ((m : Int) > 24) = false := by simp; omega
            have h24z : (neL (d.2 ++ ws)).length ≤ 24 := by rw [HLEN.out]; exact h24
            have hK : wrC d ws = 0 := by rw [HP.out.1]; unfold wrK; rw [if_pos h24z]
            have hV : wrR d ws = (d.1, neL (d.2 ++ ws)) := by rw [HP.out.2.1]; unfold wrV; rw [if_pos h24z]
            have HK := Lib.hid (And.intro hK hV)
            clear hK hV h24z
            go_wp2_with fail
            have st2 := ST.out.done d.1 (.slice ao' m c')
            have hpos := ST.out.at_
            generalize (wr.setCell ⟨w.heap.size + 1, 0, none⟩ (.int .i64 d.1)).setCell ⟨w.heap.size + 1, 1, none⟩ (.slice ao' m c') = wf2 at *
            have e0 := st2.1.cell 0
            have e1 := st2.1.cell 1
            simp at e0 e1
            refine bodyPost_ret (v := .tuple #[.agg #[.int .i64 d.1, .slice ao' m c'], .int .i64 0]) (by simp [results, Try.f80, go_sem, e0, e1]) rfl ⟨_, by rw [HK.out.1], ?_, st2.2.2⟩
            rw [HK.out.2]
            exact ⟨ao', m, c', us, rfl, st2.2.1.mono (by omega) (Nat.le_refl _)⟩
          · have c24 : decide ((m : Int) > 24) = true := by simp; omega
            have h24z : ¬ (neL (d.2 ++ ws)).length ≤ 24 := by rw [HLEN.out]; exact h24
            have hK : wrC d ws = 3 := by rw [HP.out.1]; unfold wrK; rw [if_neg h24z]
            have hV : wrR d ws = (0, []) := by rw [HP.out.2.1]; unfold wrV; rw [if_neg h24z]
            have HK := Lib.hid (And.intro hK hV)
            clear hK hV h24z
            go_wp2_with fail
            have st2 := ST.out.done 0 (.slice none 0 0)
            generalize (wr.setCell ⟨w.heap.size + 1, 0, none⟩ (.int .i64 0)).setCell ⟨w.heap.size + 1, 1, none⟩ (.slice none 0 0) = wf2 at *
            have e0 := st2.1.cell 0
            have e1 := st2.1.cell 1
            simp at e0 e1
            refine bodyPost_ret (v := .tuple #[.agg #[.int .i64 0, .slice none 0 0], .int .i64 3]) (by simp [results, Try.f80, go_sem, e0, e1]) rfl ⟨_, by rw [HK.out.1], ?_, st2.2.2⟩
            rw [HK.out.2]
            exact ⟨none, 0, 0, [], rfl, OwR.empty_ (Own.nil_ _ _ _) (fun g hg => by cases hg)⟩
    have za0 : (w1.alloc (.cells #[.int .i64 0, .slice none 0 0] 72)).cell? ⟨w.heap.size, 0, none⟩ = some (.int .i64 d.1) := (K0.out.alloc _).cell 0
    have za1 : (w1.alloc (.cells #[.int .i64 0, .slice none 0 0] 72)).cell? ⟨w.heap.size, 1, none⟩ = some (.slice ro rn rc) := (K0.out.alloc _).cell 1
    go_region_law (go_simp; go_at_call 152; refine (own2_any ro rn rc d.2 _ (HR.out.below (below_tr (by first | exact below_drew1 _ | exact (below_drew1 _).alloc (by simp) _) B1)) HLL.out).mono ?_; rintro e w2 ⟨v2, rfl, ⟨a2, n2, c2, us2, rfl, o2⟩, b2⟩; (try have kx : Blk w2 w1.heap.size 72 #[.int .i64 0, .slice none 0 0] := Blk.belowS (w := (w1.alloc (.cells #[.int .i64 0, .slice none 0 0] 72)).drew) (blk_at (w := w1) rfl :) b2); (try have kx0 := kx.cell 0); (try have kx1 := kx.cell 1); (try have kf0 := kx.frozen 0); (try have kf1 := kx.frozen 1); (try simp at kx0 kx1); have kz := K0.out.belowS (below_tr b2 (by first | exact below_drew1 _ | exact (below_drew1 _).alloc (by simp) _)); have z0' : w2.cell? ⟨w.heap.size, 0, none⟩ = some (.int .i64 d.1) := kz.cell 0; have z0'' : (w2.alloc (.cells #[.int .i64 0, .slice none 0 0] 72)).cell? ⟨w.heap.size, 0, none⟩ = some (.int .i64 d.1) := (kz.alloc _).cell 0)
    all_goals first
      | exact tail _ _ _ _ _ _ _ (WsSt.start1 K1.out B1 (by omega) (below_tr b2 (below_drew1 _)) o2 (by have := o2.len; omega))
      | exact tail _ _ _ _ _ _ _ (WsSt.start2 K1.out B1 (by omega) (below_tr b2 (below_drew1 _)) (by first | simp | (show (w1.alloc _).heap.size = _; simp)) o2 (by have := o2.len; omega))
end Go.Proofs.Ytpognnifgcacnaa

/- WithRelators, the program's. -/
namespace Go.Proofs.Ytpognnifgcacnaa
open Go.RowKit

set_option maxRecDepth 100000 in
set_option maxHeartbeats 3200000 in
theorem withW_any {v : Value} {d : PresD} (ao : Option Addr) (n c : Nat) (ws : List (List Int)) (w : World) (h : RdP w v d) (h' : Intss w ao n ws) :
    Calls Try.prog 79 #[v, .slice ao n c] w fun e w' => ∃ v, e = .returned (.tuple #[v, .int .i64 (wrC d ws)]) ∧ OwP 2 49 w' w.heap.size w'.heap.size v (wrR d ws) ∧ Below w.heap.size w w' := by
  obtain ⟨ro, rn, rc, rfl, hr⟩ := h
  have hb := below_alloc2 w (.cells #[.int .i64 d.1, .slice ro rn rc] 72) (.cells #[.int .i64 0, .slice none 0 0] 72)
  have kp : Blk ((w.alloc (.cells #[.int .i64 d.1, .slice ro rn rc] 72)).alloc (.cells #[.int .i64 0, .slice none 0 0] 72)) w.heap.size 72 #[.int .i64 d.1, .slice ro rn rc] := (blk_at rfl).alloc _
  have kb : Blk ((w.alloc (.cells #[.int .i64 d.1, .slice ro rn rc] 72)).alloc (.cells #[.int .i64 0, .slice none 0 0] 72)) (w.heap.size + 1) 72 #[.int .i64 0, .slice none 0 0] := blk_at (by simp)
  have h1 : RdP ((w.alloc (.cells #[.int .i64 d.1, .slice ro rn rc] 72)).alloc (.cells #[.int .i64 0, .slice none 0 0] 72)) (.agg #[.int .i64 d.1, .slice ro rn rc]) d := ⟨ro, rn, rc, rfl, hr.below hb⟩
  have h2 := h'.below hb
  have HR := Lib.hid hr
  have HI := Lib.hid h'
  cases hp : withOk d ws with
  | false =>
    have hC : wrC d ws = 1 := by unfold wrC; rw [hp]; rfl
    have hR : wrR d ws = (0, []) := by unfold wrR; rw [hp]; rfl
    have hW : withC d ws = 1 := by unfold withC; rw [hp]; rfl
    have HP := Lib.hid (And.intro hC (And.intro hR hW))
    clear hC hR hW hr h'
    go_enter Try.func79, Try.ntmps79
    go_wp2_with fail
    refine (implCode_any ao n c ws _ h1 h2).mono ?_
    rintro e w1 ⟨rfl, b1⟩
    rw [HP.out.2.2]
    have k1 := kb.belowS b1
    have y0 := k1.cell 0
    have y1 := k1.cell 1
    have f0 := k1.frozen 0
    have f1 := k1.frozen 1
    simp at y0 y1
    have B1 := below_tr b1 hb
    clear h1 h2 hb kb b1 kp
    go_wp2_with fail
    have st2 := ((k1.set_ 0 (.int .i64 0)).set_ 1 (.slice none 0 0))
    have hbf := (B1.setCell (p := ⟨w.heap.size + 1, 0, none⟩) (by simp) (.int .i64 0)).setCell (p := ⟨w.heap.size + 1, 1, none⟩) (by simp) (.slice none 0 0)
    generalize (w1.setCell ⟨w.heap.size + 1, 0, none⟩ (.int .i64 0)).setCell ⟨w.heap.size + 1, 1, none⟩ (.slice none 0 0) = wf at *
    have e0 := st2.cell 0
    have e1 := st2.cell 1
    simp at e0 e1
    refine bodyPost_ret (v := .tuple #[.agg #[.int .i64 0, .slice none 0 0], .int .i64 1]) (by simp [results, Try.f79, go_sem, e0, e1]) rfl ⟨_, by rw [HP.out.1], ?_, hbf⟩
    rw [HP.out.2.1]
    exact ⟨none, 0, 0, [], rfl, OwR.empty_ (Own.nil_ _ _ _) (fun g hg => by cases hg)⟩
  | true =>
    have hC : wrC d ws = wrK (d.2 ++ ws) := by unfold wrC; rw [hp]; rfl
    have hR : wrR d ws = wrV d.1 (d.2 ++ ws) := by unfold wrR; rw [hp]; rfl
    have hW : withC d ws = 0 := by unfold withC; rw [hp]; rfl
    obtain ⟨hp1, hp2⟩ := withOk_pres hp
    obtain ⟨q1, q2, q3⟩ := isPres_few hp1
    obtain ⟨q4, q5⟩ := wordsTo_few hp2
    have hg := isPres_gens hp1
    have HG := Lib.hid hg
    clear hg
    have HP := Lib.hid (And.intro hC (And.intro hR hW))
    have hn := h'.1
    have hrn := hr.1
    clear hC hR hW hr h'
    go_enter Try.func79, Try.ntmps79
    go_wp2_with fail
    refine (implCode_any ao n c ws _ h1 h2).mono ?_
    rintro e w1 ⟨rfl, b1⟩
    rw [HP.out.2.2]
    have k0 := kp.belowS b1
    have k1 := kb.belowS b1
    have z0 := k0.cell 0
    have z1 := k0.cell 1
    simp at z0 z1
    have B1 := below_tr b1 hb
    have s1 : w.heap.size + 2 ≤ w1.heap.size := by have := b1.size; simp at this; omega
    have K1 := Lib.hid k1
    clear h1 h2 hb kb b1 kp k0 k1
    go_wp2_with fail
    have hg := HG.out
    obtain ⟨N, hN⟩ : ∃ N : Nat, d.1 = (N : Int) := ⟨d.1.toNat, by omega⟩
    rw [hN]
    refine (withI_any N (by omega) ro ao rn rc n c d.2 ws _ (HR.out.below B1) (HI.out.below B1) (by omega) (by omega) (fun z hz => ?_)).mono ?_
    · rcases List.mem_append.1 hz with h | h
      · have := q3 z h; omega
      · have := q5 z h; omega
    rintro e w2 ⟨v2, rfl, ⟨a2, n2, c2, us2, rfl, o2⟩, b2⟩
    have k1 := K1.out.belowS b2
    have y0 := k1.cell 0
    have y1 := k1.cell 1
    have f0 := k1.frozen 0
    have f1 := k1.frozen 1
    simp at y0 y1
    have B2 := below_tr b2 B1
    have s2 := b2.size
    clear z0 z1
    go_wp2_with fail
    obtain ⟨D, hD⟩ : ∃ D, D = wrV N (d.2 ++ ws) := ⟨_, rfl⟩
    rw [← hD] at o2 ⊢
    have hDR : wrR d ws = D := by rw [HP.out.2.1, hD, hN]
    have hDC := HP.out.1
    rw [hDC, hDR]
    have st2 := (k1.set_ 0 (.int .i64 D.1)).set_ 1 (.slice a2 n2 c2)
    have hbf := (B2.setCell (p := ⟨w.heap.size + 1, 0, none⟩) (by simp) (.int .i64 D.1)).setCell (p := ⟨w.heap.size + 1, 1, none⟩) (by simp) (.slice a2 n2 c2)
    have hrow := o2.same (w' := (w2.setCell ⟨w.heap.size + 1, 0, none⟩ (.int .i64 D.1)).setCell ⟨w.heap.size + 1, 1, none⟩ (.slice a2 n2 c2)) (innerS _) fun g h1 _ _ => by rw [Below.heap_setCell _ _ _ _ (by simp; omega), Below.heap_setCell _ _ _ _ (by simp; omega)]
    have hh : ((w2.setCell ⟨w.heap.size + 1, 0, none⟩ (.int .i64 D.1)).setCell ⟨w.heap.size + 1, 1, none⟩ (.slice a2 n2 c2)).heap.size = w2.heap.size := by simp [World.setCell]
    generalize (w2.setCell ⟨w.heap.size + 1, 0, none⟩ (.int .i64 D.1)).setCell ⟨w.heap.size + 1, 1, none⟩ (.slice a2 n2 c2) = wf at *
    have e0 := st2.cell 0
    have e1 := st2.cell 1
    simp at e0 e1
    refine bodyPost_ret (v := .tuple #[.agg #[.int .i64 D.1, .slice a2 n2 c2], .int .i64 (wrK (d.2 ++ ws))]) (by simp [results, Try.f79, go_sem, e0, e1]) rfl ⟨_, rfl, ?_, hbf⟩
    exact ⟨a2, n2, c2, us2, rfl, hrow.mono (by omega) (by omega)⟩
end Go.Proofs.Ytpognnifgcacnaa

/- WithRelators: the contracts that the law calls. -/
namespace Go.Proofs.Ytpognnifgcacnaa
open Go.RowKit

theorem api_specWR {v v' : Value} {d : PresD} {qs : List (List Int)} (w : World) (h : RdP w v d) (h' : RdSS w v' qs) :
    Calls Try.prog 80 #[v, v'] w fun e w' => ∃ v, e = .returned (.tuple #[v, .int .i64 (wrC d qs)]) ∧ OwP 2 49 w' w.heap.size w'.heap.size v (wrR d qs) ∧ Below w.heap.size w w' := by
  obtain ⟨ao, n, c, rfl, hi⟩ := h'
  exact withS_any ao n c qs w h hi
theorem api_implWR {v v' : Value} {d : PresD} {qs : List (List Int)} (w : World) (h : RdP w v d) (h' : RdSS w v' qs) :
    Calls Try.prog 79 #[v, v'] w fun e w' => ∃ v, e = .returned (.tuple #[v, .int .i64 (wrC d qs)]) ∧ OwP 2 49 w' w.heap.size w'.heap.size v (wrR d qs) ∧ Below w.heap.size w w' := by
  obtain ⟨ao, n, c, rfl, hi⟩ := h'
  exact withW_any ao n c qs w h hi
end Go.Proofs.Ytpognnifgcacnaa

/- When a subgroup is normal, of the program's own numbers. No program in sight. -/
namespace Go.Proofs.Ytpognnifgcacnaa

theorem surj_inj {φ : Nat → Nat} {n m : Nat} (hnm : n ≤ m) (hs : ∀ j, j < m → ∃ x, x < n ∧ φ x = j) {x y : Nat} (hx : x < n) (hy : y < n) (e : φ x = φ y) : x = y := by
  rcases Nat.decEq x y with hne | he
  · exfalso
    have h1 := nodup_len (List.range m) (((List.range n).erase x).map φ) List.nodup_range fun j hj => by
      obtain ⟨z, hz, hz2⟩ := hs j (List.mem_range.1 hj)
      rw [List.mem_map]
      by_cases hzx : z = x
      · exact ⟨y, (List.mem_erase_of_ne (fun e => hne e.symm)).2 (List.mem_range.2 hy), by rw [← e, ← hzx]; exact hz2⟩
      · exact ⟨z, (List.mem_erase_of_ne hzx).2 (List.mem_range.2 hz), hz2⟩
    rw [List.length_map, List.length_erase_of_mem (List.mem_range.2 hx), List.length_range, List.length_range] at h1
    omega
  · exact he
theorem lead_neL {T : List (List Int)} {Z : List (List Int)} {w : List Int} {x : Int} (h : ∀ v ∈ neL Z, leadL T x v = x) (hw : w ∈ Z) : leadL T x w = x := by
  cases w with
  | nil => rfl
  | cons a r => exact h _ (List.mem_filter.2 ⟨hw, by simp⟩)
theorem wrC_ok {d : PresD} {ws : List (List Int)} (h : wrC d ws = 0) : wrR d ws = (d.1, neL (d.2 ++ ws)) := by
  unfold wrC at h
  split at h
  · rename_i h1
    unfold wrK at h
    split at h
    · rename_i h2
      unfold wrR wrV
      rw [if_pos h1, if_pos h2]
    · cases h
  · cases h
theorem fixAllB_true {T ws : List (List Int)} {n : Nat} : fixAllB T ws n = true ↔ ∀ w ∈ ws, ∀ x, x < n → leadL T ((x : Nat) : Int) w = (x : Int) := by
  unfold fixAllB
  rw [List.all_eq_true]
  refine ⟨fun h w hw x hx => ?_, fun h i hi => ?_⟩
  · obtain ⟨j, hj, rfl⟩ := List.getElem_of_mem hw
    have := h j (List.mem_range.2 hj)
    rw [List.all_eq_true] at this
    have := this x (List.mem_range.2 hx)
    rw [lget_lt hj] at this
    simpa using this
  · rw [List.all_eq_true]
    intro x hx
    have := h _ (lget_mem (List.mem_range.1 hi)) x (List.mem_range.1 hx)
    simpa using this
theorem nr_ok {d : PresD} {ws : List (List Int)} (h : ctC d ws = 0) (h2 : wrC d ws = 0) : ∃ n : Nat, idxC d ws = 0 ∧ idxR d ws = (n : Int) ∧ 1 ≤ n ∧ n ≤ 400 ∧
    (idxC (wrR d ws) [] = 0 → ∃ m : Nat, idxR (wrR d ws) [] = (m : Int) ∧ 1 ≤ m ∧ m ≤ 2000 ∧ m ∣ n ∧ nrR d ws = decide (n = m)) := by
  obtain ⟨n, H⟩ := ct_ok h
  refine ⟨n, H.idxc, H.idxr, H.n1, H.n4, fun h3 => ?_⟩
  obtain ⟨g, rels⟩ := d
  obtain ⟨hw, hsm⟩ := ctC_zero h
  obtain ⟨ng, rfl, hG⟩ := good_of hw
  have hs := smallOk_run hsm
  have hRan : Ran ng rels ws := ⟨hG.rl, hG.wl, hs.1⟩
  have hn : n = cosN ((ng : Int), rels) ws := by
    have := H.idxr
    unfold idxR at this
    rw [if_pos hw, cosX_nat, if_neg (by rw [hs.1]; decide)] at this
    omega
  have hTe : cosTab ((ng : Int), rels) ws = ctb ng rels ws := cosTab_nat ng rels ws
  have hNe : cosN ((ng : Int), rels) ws = cnm ng rels ws := cosN_nat ng rels ws
  rw [wrC_ok h2] at h3 ⊢
  dsimp only at h3 ⊢
  generalize hR' : neL (rels ++ ws) = R' at *
  obtain ⟨hw0, hx0⟩ := idx_zero h3
  obtain ⟨ng', hng', hG0⟩ := good_of hw0
  have hng'' : ng' = ng := by omega
  subst hng''
  rw [cosX_nat] at hx0
  have hRan0 : Ran ng' R' [] := ⟨hG0.rl, hG0.wl, hx0⟩
  have hNe0 : cosN ((ng' : Int), R') [] = cnm ng' R' [] := cosN_nat ng' R' []
  have hold : ∀ w ∈ rels ++ ws, ∀ x, x < cnm ng' R' [] → leadL (ctb ng' R' []) (x : Nat) w = (x : Int) := fun w hw x hx =>
    lead_neL (Z := rels ++ ws) (fun v hv => ctb_rels hG0.rl hG0.wl hx0 (by rw [← hR']; exact hv) hx) hw
  have hz0 : 0 < cnm ng' R' [] := cosA_zero.1
  have hz : 0 < cnm ng' rels ws := cosA_zero.1
  have hdiv : cnm ng' R' [] ∣ cnm ng' rels ws := hRan.divides hRan0 (fun w hw x hx => hold w (by simp [hw]) x hx) (fun w hw => hold w (by simp [hw]) 0 hz0)
  refine ⟨cosN ((ng' : Int), R') [], ?_, by rw [hNe0]; exact hz0, cosN_le hG0 hx0, by rw [hn, hNe, hNe0]; exact hdiv, ?_⟩
  · unfold idxR; rw [if_pos hw0, cosX_nat, if_neg (by rw [hx0]; decide)]
  · unfold nrR
    rw [if_pos h, hn, hTe, hNe, hNe0]
    by_cases e : cnm ng' rels ws = cnm ng' R' []
    · rw [decide_eq_true e]
      refine fixAllB_true.2 fun w hw x hx => ?_
      obtain ⟨φ, p0, p1, p2⟩ := hRan.map hRan0 hz0 (fun w hw x hx => hold w (by simp [hw]) x hx) (fun w hw => hold w (by simp [hw]) 0 hz0)
      have hwl := hG.wl w hw
      have hl : (ctb ng' rels ws).length = ng' := ctb_len
      obtain ⟨y, y1, y2⟩ := lead_nat hRan.leads (w := w) (by rw [hl]; exact hwl) hx
      have h5 := p2 w x hwl hx
      rw [hold w (by simp [hw]) (φ x) (p1 x hx), y1, Int.toNat_natCast] at h5
      have h6 := surj_inj (φ := φ) (n := cnm ng' rels ws) (m := cnm ng' R' []) (by omega) (fun j hj => by
        obtain ⟨u, u1, u2⟩ := tab_reach hRan0.full j hj
        have u2 : leadL (ctb ng' R' []) (0 : Nat) u = (j : Int) := u2
        have h7 := p2 u 0 u1 hz
        rw [p0, u2] at h7
        obtain ⟨q, q1, q2⟩ := lead_nat hRan.leads (w := u) (by rw [hl]; exact u1) hz
        rw [q1, Int.toNat_natCast] at h7
        exact ⟨q, q2, by omega⟩) y2 hx (by omega)
      rw [y1, h6]
    · rw [decide_eq_false e]
      cases hb : fixAllB (ctb ng' rels ws) ws (cnm ng' rels ws) with
      | false => rfl
      | true =>
        exfalso
        have hf := fixAllB_true.1 hb
        have hd2 := hRan0.divides hRan (fun w hw x hx => by
          rw [← hR'] at hw
          have := (List.mem_filter.1 hw).1
          rcases List.mem_append.1 this with h8 | h8
          · exact ctb_rels hG.rl hG.wl hs.1 h8 hx
          · exact hf w h8 x hx) (fun w hw => by simp at hw)
        have a := Nat.le_of_dvd hz hdiv
        have b := Nat.le_of_dvd hz0 hd2
        omega
end Go.Proofs.Ytpognnifgcacnaa

/- Draws of words: l11DrawWord, l11Power. -/
namespace Go.Proofs.Ytpognnifgcacnaa
open Go.RowKit

theorem only_grown {lo hi : Nat} {a w w' : World} {row : Option Nat} (h : Only lo hi a w) (hg : w.grownBy w' row) (hr : ∀ g, row = some g → a.heap.size ≤ g) : Only lo hi a w' :=
  ⟨hg.os.trans h.os, hg.tape.trans h.tape, hg.output.trans h.output, Nat.le_trans h.size hg.size, fun k hk hd => (hg.block k (Nat.lt_of_lt_of_le hk h.size) (fun e => by have := hr k e.symm; omega)).trans (h.block k hk hd)⟩
theorem Src.grown {w w' : World} {sb : Nat} {row : Option Nat} (h : Src w sb) (hg : w.grownBy w' row) (hr : ∀ g, row = some g → sb < g) : Src w' sb := by
  obtain ⟨ao, n, c, k, hh, h1, h2, h3, h4⟩ := h.box
  have hlt := h1.lt
  refine ⟨ao, n, c, k, hh, (hg.block sb hlt (fun e => by have := hr sb e.symm; omega)).trans h1, h2, h3, h4.1, fun hn => ?_⟩
  obtain ⟨b, off, e, hb, hc⟩ := h4.2 hn
  refine ⟨b, off, e, hb, fun j hj => ?_⟩
  obtain ⟨x, hx, hcx⟩ := hc j hj
  exact ⟨x, hx, (World.cell?_of_block (hg.block b (World.block_lt_of_cell? w _ hcx) (fun e => by have := hr b e.symm; omega))).trans hcx⟩
/-- a word whose letters lie below n -/
def Low (n : Int) (zs : List Int) : Prop := ∀ z ∈ zs, 0 ≤ z ∧ z < n

set_option maxHeartbeats 3200000 in
theorem drawWord_any (sb : Nat) (letters most : Nat) (w : World) (h : Src w sb) (hsb : sb < w.heap.size) (hl1 : 1 ≤ letters) (hl : letters ≤ 100) (hm : most ≤ 100) :
    Calls Try.prog 130 #[.pointer (some ⟨sb, 0, none⟩), .int .i64 letters, .int .i64 most] w fun e w' => ∃ (ao : Option Addr) (n c : Nat) (zs : List Int), e = .returned (.slice ao n c) ∧ n ≤ most ∧ Low letters zs ∧ Own w' w.heap.size 2 ao n c (zs.map (Value.int .i64)) ∧ Src w' sb ∧ Only sb (sb + 1) w w' := by
  go_enter Try.func130, Try.ntmps130
  have h1 : Src (w.alloc (.cells #[] 2)) sb := h.grown (row := none) (World.grownBy_alloc w _ none) (fun g hg => by cases hg)
  go_wp2_with fail
  refine (next_any sb _ _ h1 (by omega)).mono ?_
  rintro e w2 ⟨r, rfl, -, r2, s2, o2⟩
  have hr := r2 (by omega)
  have O2 : Only sb (sb + 1) w w2 := (only_grown (Only.refl sb (sb + 1) w) (World.grownBy_alloc w _ none) (fun g hg => by cases hg)).trans o2
  have P2 : Own w2 w.heap.size 2 (some ⟨w.heap.size, 0, none⟩) 0 0 [] := (Own.empty_ w _ (Nat.le_refl _)).only o2 (lo' := w.heap.size) (hi' := w.heap.size + 1) (fun g hg => by simp [bk] at hg; omega) (.inr (by omega))
  have z2 := O2.size
  clear h1 o2 r2
  go_wp2_with fail
  go_loopw [7, 8] (fun wv kv wr => ∃ (k a : Nat) (ao : Option Addr) (c : Nat) (zs : List Int), kv = .int .i64 k ∧ wv = .slice ao a c ∧ a + k = r ∧ Low letters zs ∧ Own wr w.heap.size 2 ao a c (zs.map (Value.int .i64)) ∧ Src wr sb ∧ Only sb (sb + 1) w wr) (fun _ kv _ => (intOf kv).toNat)
  case atStart => exact ⟨r, 0, _, 0, [], rfl, rfl, by omega, fun _ h => (by simp at h), P2, s2, O2⟩
  case round =>
    obtain ⟨k, a, ao, c, zs, rfl, rfl, hak, hlow, ho, hs, hO⟩ := hrel
    clear P2 s2 O2 z2
    by_cases hk : 0 < k
    · go_wp2_with fail
      refine (next_any sb _ _ hs (by omega)).mono ?_
      rintro e w3 ⟨q, rfl, -, q2, s3, o3⟩
      have hq := q2 (by omega)
      have hsz := hO.size
      have O3 := hO.trans o3
      have hsz3 := O3.size
      have P3 : Own w3 w.heap.size 2 ao a c (zs.map (Value.int .i64)) := ho.only o3 (lo' := w.heap.size) (hi' := wr.heap.size) (fun g hg => ⟨(ho.lt g hg).1, (ho.lt g hg).2⟩) (.inr (by omega))
      clear q2 o3 hs hO ho
      have hol := P3.lt
      have PH := Lib.hid P3
      clear P3
      go_wp2_with (at_builtin; refine wpList_ap1 etI _ rfl _ _ rfl w.heap.size ao a c _ rfl PH.out (.int .i64 (q : Int)) rfl rfl (by omega) hsz3 ?_; intro ao2 c2 w4 ho2 hg2 hblk)
      have HO := Lib.hid ho2
      have s4 := s3.grown hg2 (fun g hg => by have := (hol g hg).1; omega)
      have O4 := only_grown O3 hg2 (fun g hg => (hol g hg).1)
      clear ho2 hblk s3 O3 hg2
      go_wp2
      go_roundw
      case rel =>
        refine ⟨k - 1, a + 1, ao2, c2, zs ++ [(q : Int)], by go_num, rfl, by omega, fun z hz => ?_, by rw [List.map_append]; exact HO.out, s4, O4⟩
        rcases List.mem_append.1 hz with hz | hz
        · exact hlow z hz
        · simp at hz; omega
      case measure => simp [intOf]; omega
    · obtain rfl : k = 0 := by omega
      go_wp2
      go_ret
      exact ⟨ao, a, c, zs, rfl, by omega, hlow, ho, hs, hO⟩

set_option maxHeartbeats 3200000 in
theorem pick_any (sb : Nat) (ao : Option Addr) (n c : Nat) (zs : List Int) (w : World) (h : Src w sb) (hz : Ints w ao n zs) (hn : 1 ≤ n) (hn2 : n ≤ 100) (hne : bk ao ≠ some sb) :
    Calls Try.prog 124 #[.pointer (some ⟨sb, 0, none⟩), .slice ao n c] w fun e w' => ∃ r : Nat, r < n ∧ e = .returned (.int .i64 (iget zs r)) ∧ Src w' sb ∧ Only sb (sb + 1) w w' := by
  go_enter Try.func124, Try.ntmps124
  go_wp2_with fail
  refine (next_any sb _ _ h (by omega)).mono ?_
  rintro e w2 ⟨r, rfl, -, r2, s2, o2⟩
  have hr := r2 (by omega)
  have hr2 : r < n := by omega
  have hz2 : Ints w2 ao n zs := hz.same fun g hg hlt => o2.block g hlt (by
    have : g ≠ sb := fun e => by subst e; exact hne hg
    omega)
  obtain ⟨b, off, rfl, hc⟩ := hz2.at_ hr2
  clear r2 hz hz2
  go_wp2
  go_ret
  exact ⟨r, hr2, rfl, s2, o2⟩
end Go.Proofs.Ytpognnifgcacnaa
