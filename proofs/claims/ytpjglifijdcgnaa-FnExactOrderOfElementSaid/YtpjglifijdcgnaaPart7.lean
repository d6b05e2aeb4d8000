/- The table of a subgroup: l11Small, cosetTable; CosetTable. guards: -/
import Derived.Test.YtpjglifijdcgnaaPart6
import Derived.Test.YtpjglifijdcgnaaPart3
import Derived.Test.YtpjglifijdcgnaaPart1
import Derived.Deep.RegionHeld3
namespace Go.Proofs.Ytpjglifijdcgnaa
open Go.RowKit

def smallOk (d : PresD) (ws : List (List Int)) : Bool := !(cosX d ws).2.2 && decide (cosN d ws ≤ 400)
theorem cosX_nat (ng : Nat) (rels ws : List (List Int)) : cosX ((ng : Int), rels) ws = runC ng rels ws := by unfold cosX; rw [Int.toNat_natCast]
theorem cosN_nat (ng : Nat) (rels ws : List (List Int)) : cosN ((ng : Int), rels) ws = (numbered ng (runC ng rels ws).1 (runC ng rels ws).2.1).1.length := by unfold cosN; rw [cosX_nat, Int.toNat_natCast]
theorem cosTab_nat (ng : Nat) (rels ws : List (List Int)) : cosTab ((ng : Int), rels) ws = tableC ng (runC ng rels ws).1 (runC ng rels ws).2.1 := by unfold cosTab; rw [cosX_nat, Int.toNat_natCast]
theorem cosTab_row {ng : Nat} {rels ws : List (List Int)} {g : Nat} (h : g < ng) : (lget (cosTab ((ng : Int), rels) ws) g).length = cosN ((ng : Int), rels) ws := by rw [cosTab_nat, cosN_nat, tableC_rowlen _ _ h]
theorem cosTab_len (ng : Nat) (rels ws : List (List Int)) : (cosTab ((ng : Int), rels) ws).length = ng := by rw [cosTab_nat, tableC_length]
theorem cosN_le {ng : Nat} {rels ws : List (List Int)} (h : Good ng rels ws) (hf : (runC ng rels ws).2.2 = false) : cosN ((ng : Int), rels) ws ≤ 2000 := by
  rw [cosN_nat]
  have hF := full_run h.rl h.wl hf
  exact Nat.le_trans (numbered_ok hF).1.le (runC_ok h.rl h.wl).hi
def ctR (d : PresD) (ws : List (List Int)) : List (List Int) := if withOk d ws = true then (if smallOk d ws = true then cosTab d ws else []) else []
def ctC (d : PresD) (ws : List (List Int)) : Int := if withOk d ws = true then (if smallOk d ws = true then 0 else 3) else 1
theorem lenSS_le {zss : List (List Int)} {k : Nat} (h : ∀ zs ∈ zss, zs.length ≤ k) : lenSS zss ≤ zss.length * k := by
  unfold lenSS
  induction zss with
  | nil => simp
  | cons a r ih =>
    have h1 := h a (by simp)
    have h2 := ih fun z hz => h z (by simp [hz])
    simp only [List.map_cons, List.sum_cons, List.length_cons, Nat.add_mul]
    omega
theorem rows_of {zss : List (List Int)} {k : Nat} (h : ∀ g, g < zss.length → (lget zss g).length = k) : ∀ zs ∈ zss, zs.length = k := fun zs hz => by
  obtain ⟨j, hj, rfl⟩ := List.getElem_of_mem hz
  rw [← lget_lt hj]; exact h j hj
theorem ctR_small (d : PresD) (ws : List (List Int)) : (ctR d ws).length ≤ 5 ∧ lenSS (ctR d ws) ≤ 2000 := by
  unfold ctR
  split
  · rename_i h
    split
    · rename_i hs
      obtain ⟨g, rels⟩ := d
      obtain ⟨ng, rfl, hG⟩ := good_of h
      have h5 := hG.hi
      have hl := cosTab_len ng rels ws
      have hr := rows_of (zss := cosTab ((ng : Int), rels) ws) fun g hg => cosTab_row (rels := rels) (ws := ws) (g := g) (by omega)
      have hn : cosN ((ng : Int), rels) ws ≤ 400 := by unfold smallOk at hs; simp at hs; exact hs.2
      have := lenSS_le (zss := cosTab ((ng : Int), rels) ws) (k := 400) fun z hz => by rw [hr z hz]; exact hn
      rw [hl] at this
      have h6 : ng * 400 ≤ 5 * 400 := Nat.mul_le_mul_right _ h5
      omega
    · simp [lenSS]
  · simp [lenSS]

set_option maxRecDepth 100000 in
set_option maxHeartbeats 1000000 in
theorem specSmall_yes {ng : Nat} {rels ws : List (List Int)} (hG : Good ng rels ws) (hs : smallOk ((ng : Int), rels) ws = true) :
    FC Try.prog 59 [(1002, rowsRo ws), (1003, rowsRo rels)] [pA ng rels.length, o1 (.sl 1002 0 ws.length)] [(1005, imOw (cosTab ((ng : Int), rels) ws))] (.tup [.one (.sl 1005 0 ng), .one (.val (I6 0))]) [] := by
  have hs2 : (runC ng rels ws).2.2 = false ∧ cosN ((ng : Int), rels) ws ≤ 400 := by unfold smallOk at hs; rw [cosX_nat] at hs; simpa using hs
  have hT : FC Try.prog 51 [(1002, rowsRo ws), (1003, rowsRo rels)] [pA ng rels.length, o1 (.sl 1002 0 ws.length)] [(1005, imOw (cosTab ((ng : Int), rels) ws))] (.tup [.one (.sl 1005 0 ng), .one (.val (.bool true))]) [] := by
    rw [cosTab_nat]
    exact (specTable_yes hG hs2.1).nm [(69, 1005), (1002, 1002), (1003, 1003)] (by kernel_rfl)
  have hlen : (irows (cosTab ((ng : Int), rels) ws)).length = ng := by rw [irows_len, cosTab_len]
  have hpos := hG.pos
  have hr0 : (lget (cosTab ((ng : Int), rels) ws) 0).length ≤ 400 := by rw [cosTab_row hpos]; exact hs2.2
  have hrow : (irows (cosTab ((ng : Int), rels) ws))[0]? = some (ivals (lget (cosTab ((ng : Int), rels) ws) 0)) := irows_get (by rw [← irows_len, hlen]; exact hpos)
  generalize cosTab ((ng : Int), rels) ws = T at *
  refine fc_enter (nt := 24) Try.func59 rfl rfl (by simp) fun w0 ω0 => ?_
  (refine goes_seq ?_; refine goes_region ?_; apply run_step rfl; (exact stp_box rfl rfl rfl rfl); apply run_step rfl; (exact stp_assign rfl rfl); apply run_step rfl; (exact stp_assign rfl rfl); refine run_nil ?_; refine fin_seq ?_; refine goes_seq ?_; refine goes_region ?_; apply run_step rfl; (exact stp_loadAgg rfl rfl rfl rfl rfl rfl (by as_aux_lemma => kernel_rfl)); apply run_step rfl; (exact stp_move rfl rfl); apply run_step rfl; (first | (apply call_gate 51; exact stp_callN hT (by as_aux_lemma => kernel_rfl) rfl rfl ⟨⟨.inl rfl, .inl rfl, trivial⟩, rfl, trivial⟩ ⟨⟨_, rfl, .inl rfl⟩, ⟨_, rfl, .inl rfl⟩, trivial⟩ rfl rfl rfl) | exact stp_ix (j := 0) rfl rfl rfl rfl rfl (by as_aux_lemma => kernel_rfl) rfl hpos (Nat.le_of_eq hlen.symm)); apply run_step rfl; (exact stp_move rfl rfl); apply run_step rfl; (exact stp_extract rfl rfl rfl); apply run_step rfl; (exact stp_extract rfl rfl rfl); apply run_step rfl; (exact stp_assign rfl rfl); apply run_step rfl; (exact stp_assign rfl rfl); refine run_nil ?_; refine fin_seq ?_; refine goes_seq ?_; refine goes_seq ?_; refine goes_region ?_; apply run_step rfl; (exact stp_move rfl rfl); apply run_step rfl; (exact stp_not rfl rfl); apply run_step rfl; (exact stp_move rfl rfl); apply run_gYes rfl rfl rfl; (exact stp_move rfl rfl); apply run_gYes rfl rfl rfl; (first | (apply call_gate 51; exact stp_callN hT (by as_aux_lemma => kernel_rfl) rfl rfl ⟨⟨.inl rfl, .inl rfl, trivial⟩, rfl, trivial⟩ ⟨⟨_, rfl, .inl rfl⟩, ⟨_, rfl, .inl rfl⟩, trivial⟩ rfl rfl rfl) | exact stp_ix (j := 0) rfl rfl rfl rfl rfl (by as_aux_lemma => kernel_rfl) rfl hpos (Nat.le_of_eq hlen.symm)); apply run_gYes rfl rfl rfl; (exact stp_loadR rfl (by as_aux_lemma => kernel_rfl) rfl rfl rfl (by first | assumption | exact ivals_get (by assumption) | exact irows_get (by assumption) | exact ivals_get (by omega) | exact irows_get (by omega) | rfl) (by first | exact ivals_len _ | assumption | rfl)); apply run_gYes rfl rfl rfl; (exact stp_len rfl rfl rfl (by as_aux_lemma => kernel_rfl)); apply run_gYes rfl rfl rfl; (exact stp_bin rfl rfl rfl rfl); apply run_step rfl; (exact stp_pickF rfl rfl rfl); refine run_nil ?_; refine fin_seq ?_)
  refine goes_cond rfl (fun e => ?_) (fun _ => ?_)
  · exfalso; simp at e; omega
  · (refine goes_skip ?_; refine fin_seq ?_; refine goes_seq ?_; refine goes_region ?_; apply run_step rfl; (exact stp_move rfl rfl); apply run_step rfl; (exact stp_assign rfl rfl); apply run_step rfl; (exact stp_assign rfl rfl); refine run_nil ?_; refine fin_seq ?_; refine goes_ret ?_)
    exact fin_ret2 (.inl rfl) rfl (.tmp rfl) (.tmp rfl) ⟨rfl, trivial⟩ trivial
set_option maxRecDepth 100000 in
set_option maxHeartbeats 1000000 in
theorem specSmall_no {ng : Nat} {rels ws : List (List Int)} (hG : Good ng rels ws) (hs : ¬ smallOk ((ng : Int), rels) ws = true) :
    FC Try.prog 59 [(1002, rowsRo ws), (1003, rowsRo rels)] [pA ng rels.length, o1 (.sl 1002 0 ws.length)] [] (.tup [.one (.val (.slice none 0 0)), .one (.val (I6 3))]) [] := by
  unfold smallOk at hs; rw [cosX_nat] at hs
  refine fc_enter (nt := 24) Try.func59 rfl rfl (by simp) fun w0 ω0 => ?_
  cases hf : (runC ng rels ws).2.2 with
  | true =>
    have hT := specTable_no hG hf
    (refine goes_seq ?_; refine goes_region ?_; apply run_step rfl; (exact stp_box rfl rfl rfl rfl); apply run_step rfl; (exact stp_assign rfl rfl); apply run_step rfl; (exact stp_assign rfl rfl); refine run_nil ?_; refine fin_seq ?_; refine goes_seq ?_; refine goes_region ?_; apply run_step rfl; (exact stp_loadAgg rfl rfl rfl rfl rfl rfl (by as_aux_lemma => kernel_rfl)); apply run_step rfl; (exact stp_move rfl rfl); apply run_step rfl; (apply call_gate 51; exact stp_callR hT (by as_aux_lemma => kernel_rfl) rfl rfl ⟨⟨.inl rfl, .inl rfl, trivial⟩, rfl, trivial⟩ ⟨⟨_, rfl, .inl rfl⟩, ⟨_, rfl, .inl rfl⟩, trivial⟩ rfl rfl); apply run_step rfl; (exact stp_move rfl rfl); apply run_step rfl; (exact stp_extract rfl rfl rfl); apply run_step rfl; (exact stp_extract rfl rfl rfl); apply run_step rfl; (exact stp_assign rfl rfl); apply run_step rfl; (exact stp_assign rfl rfl); refine run_nil ?_; refine fin_seq ?_; refine goes_seq ?_; refine goes_seq ?_; refine goes_region ?_; apply run_step rfl; (exact stp_move rfl rfl); apply run_step rfl; (exact stp_not rfl rfl); apply run_step rfl; (exact stp_move rfl rfl); apply run_gNo rfl rfl rfl rfl rfl; apply run_gNo rfl rfl rfl rfl rfl; apply run_gNo rfl rfl rfl rfl rfl; apply run_gNo rfl rfl rfl rfl rfl; apply run_gNo rfl rfl rfl rfl rfl; apply run_step rfl; (exact stp_pickT rfl rfl rfl); refine run_nil ?_; refine fin_seq ?_)
    refine goes_cond rfl (fun _ => ?_) (fun e => by cases e)
    (refine goes_seq ?_; refine goes_region ?_; apply run_step rfl; (exact stp_assign rfl rfl); apply run_step rfl; (exact stp_assign rfl rfl); refine run_nil ?_; refine fin_seq ?_; refine goes_ret ?_; refine fin_ret_then ?_)
    exact fin_ret2 (.inl rfl) rfl (.tmp rfl) (.tmp rfl) trivial trivial
  | false =>
    have hn : 400 < cosN ((ng : Int), rels) ws := by rw [hf] at hs; simpa using hs
    have hT : FC Try.prog 51 [(1002, rowsRo ws), (1003, rowsRo rels)] [pA ng rels.length, o1 (.sl 1002 0 ws.length)] [(1005, imOw (cosTab ((ng : Int), rels) ws))] (.tup [.one (.sl 1005 0 ng), .one (.val (.bool true))]) [] := by
      rw [cosTab_nat]
      exact (specTable_yes hG hf).nm [(69, 1005), (1002, 1002), (1003, 1003)] (by kernel_rfl)
    have hlen : (irows (cosTab ((ng : Int), rels) ws)).length = ng := by rw [irows_len, cosTab_len]
    have hpos := hG.pos
    have hr0 : 400 < (lget (cosTab ((ng : Int), rels) ws) 0).length := by rw [cosTab_row hpos]; exact hn
    have hrow : (irows (cosTab ((ng : Int), rels) ws))[0]? = some (ivals (lget (cosTab ((ng : Int), rels) ws) 0)) := irows_get (by rw [← irows_len, hlen]; exact hpos)
    clear hs hn
    generalize cosTab ((ng : Int), rels) ws = T at *
    (refine goes_seq ?_; refine goes_region ?_; apply run_step rfl; (exact stp_box rfl rfl rfl rfl); apply run_step rfl; (exact stp_assign rfl rfl); apply run_step rfl; (exact stp_assign rfl rfl); refine run_nil ?_; refine fin_seq ?_; refine goes_seq ?_; refine goes_region ?_; apply run_step rfl; (exact stp_loadAgg rfl rfl rfl rfl rfl rfl (by as_aux_lemma => kernel_rfl)); apply run_step rfl; (exact stp_move rfl rfl); apply run_step rfl; (first | (apply call_gate 51; exact stp_callN hT (by as_aux_lemma => kernel_rfl) rfl rfl ⟨⟨.inl rfl, .inl rfl, trivial⟩, rfl, trivial⟩ ⟨⟨_, rfl, .inl rfl⟩, ⟨_, rfl, .inl rfl⟩, trivial⟩ rfl rfl rfl) | exact stp_ix (j := 0) rfl rfl rfl rfl rfl (by as_aux_lemma => kernel_rfl) rfl hpos (Nat.le_of_eq hlen.symm)); apply run_step rfl; (exact stp_move rfl rfl); apply run_step rfl; (exact stp_extract rfl rfl rfl); apply run_step rfl; (exact stp_extract rfl rfl rfl); apply run_step rfl; (exact stp_assign rfl rfl); apply run_step rfl; (exact stp_assign rfl rfl); refine run_nil ?_; refine fin_seq ?_; refine goes_seq ?_; refine goes_seq ?_; refine goes_region ?_; apply run_step rfl; (exact stp_move rfl rfl); apply run_step rfl; (exact stp_not rfl rfl); apply run_step rfl; (exact stp_move rfl rfl); apply run_gYes rfl rfl rfl; (exact stp_move rfl rfl); apply run_gYes rfl rfl rfl; (first | (apply call_gate 51; exact stp_callN hT (by as_aux_lemma => kernel_rfl) rfl rfl ⟨⟨.inl rfl, .inl rfl, trivial⟩, rfl, trivial⟩ ⟨⟨_, rfl, .inl rfl⟩, ⟨_, rfl, .inl rfl⟩, trivial⟩ rfl rfl rfl) | exact stp_ix (j := 0) rfl rfl rfl rfl rfl (by as_aux_lemma => kernel_rfl) rfl hpos (Nat.le_of_eq hlen.symm)); apply run_gYes rfl rfl rfl; (exact stp_loadR rfl (by as_aux_lemma => kernel_rfl) rfl rfl rfl (by first | assumption | exact ivals_get (by assumption) | exact irows_get (by assumption) | exact ivals_get (by omega) | exact irows_get (by omega) | rfl) (by first | exact ivals_len _ | assumption | rfl)); apply run_gYes rfl rfl rfl; (exact stp_len rfl rfl rfl (by as_aux_lemma => kernel_rfl)); apply run_gYes rfl rfl rfl; (exact stp_bin rfl rfl rfl rfl); apply run_step rfl; (exact stp_pickF rfl rfl rfl); refine run_nil ?_; refine fin_seq ?_)
    refine goes_cond rfl (fun _ => ?_) (fun e => ?_)
    · (refine goes_seq ?_; refine goes_region ?_; apply run_step rfl; (exact stp_assign rfl rfl); apply run_step rfl; (exact stp_assign rfl rfl); refine run_nil ?_; refine fin_seq ?_; refine goes_ret ?_; refine fin_ret_then ?_)
      exact fin_ret2 (.inl rfl) rfl (.tmp rfl) (.tmp rfl) trivial trivial
    · exfalso; simp at e; omega

set_option maxRecDepth 100000 in
set_option maxHeartbeats 1000000 in
theorem implSmall_yes {ng : Nat} {rels ws : List (List Int)} (hG : Good ng rels ws) (hs : smallOk ((ng : Int), rels) ws = true) :
    FC Try.prog 60 [(1002, rowsRo ws), (1003, rowsRo rels)] [pA ng rels.length, o1 (.sl 1002 0 ws.length)] [(1005, imOw (cosTab ((ng : Int), rels) ws))] (.tup [.one (.sl 1005 0 ng), .one (.val (I6 0))]) [] := by
  have hs2 : (runC ng rels ws).2.2 = false ∧ cosN ((ng : Int), rels) ws ≤ 400 := by unfold smallOk at hs; rw [cosX_nat] at hs; simpa using hs
  have hT : FC Try.prog 47 [(1002, rowsRo ws), (1003, rowsRo rels)] [pA ng rels.length, o1 (.sl 1002 0 ws.length)] [(1005, imOw (cosTab ((ng : Int), rels) ws))] (.tup [.one (.sl 1005 0 ng), .one (.val (.bool true))]) [] := by
    rw [cosTab_nat]
    exact (implTable_yes hG hs2.1).nm [(131, 1005), (1002, 1002), (1003, 1003)] (by kernel_rfl)
  have hlen : (irows (cosTab ((ng : Int), rels) ws)).length = ng := by rw [irows_len, cosTab_len]
  have hpos := hG.pos
  have hr0 : (lget (cosTab ((ng : Int), rels) ws) 0).length ≤ 400 := by rw [cosTab_row hpos]; exact hs2.2
  have hrow : (irows (cosTab ((ng : Int), rels) ws))[0]? = some (ivals (lget (cosTab ((ng : Int), rels) ws) 0)) := irows_get (by rw [← irows_len, hlen]; exact hpos)
  generalize cosTab ((ng : Int), rels) ws = T at *
  refine fc_enter (nt := 24) Try.func60 rfl rfl (by simp) fun w0 ω0 => ?_
  (refine goes_seq ?_; refine goes_region ?_; apply run_step rfl; (exact stp_box rfl rfl rfl rfl); apply run_step rfl; (exact stp_assign rfl rfl); apply run_step rfl; (exact stp_assign rfl rfl); refine run_nil ?_; refine fin_seq ?_; refine goes_seq ?_; refine goes_region ?_; apply run_step rfl; (exact stp_loadAgg rfl rfl rfl rfl rfl rfl (by as_aux_lemma => kernel_rfl)); apply run_step rfl; (exact stp_move rfl rfl); apply run_step rfl; (first | (apply call_gate 47; exact stp_callN hT (by as_aux_lemma => kernel_rfl) rfl rfl ⟨⟨.inl rfl, .inl rfl, trivial⟩, rfl, trivial⟩ ⟨⟨_, rfl, .inl rfl⟩, ⟨_, rfl, .inl rfl⟩, trivial⟩ rfl rfl rfl) | exact stp_ix (j := 0) rfl rfl rfl rfl rfl (by as_aux_lemma => kernel_rfl) rfl hpos (Nat.le_of_eq hlen.symm)); apply run_step rfl; (exact stp_move rfl rfl); apply run_step rfl; (exact stp_extract rfl rfl rfl); apply run_step rfl; (exact stp_extract rfl rfl rfl); apply run_step rfl; (exact stp_assign rfl rfl); apply run_step rfl; (exact stp_assign rfl rfl); refine run_nil ?_; refine fin_seq ?_; refine goes_seq ?_; refine goes_seq ?_; refine goes_region ?_; apply run_step rfl; (exact stp_move rfl rfl); apply run_step rfl; (exact stp_not rfl rfl); apply run_step rfl; (exact stp_move rfl rfl); apply run_gYes rfl rfl rfl; (exact stp_move rfl rfl); apply run_gYes rfl rfl rfl; (first | (apply call_gate 47; exact stp_callN hT (by as_aux_lemma => kernel_rfl) rfl rfl ⟨⟨.inl rfl, .inl rfl, trivial⟩, rfl, trivial⟩ ⟨⟨_, rfl, .inl rfl⟩, ⟨_, rfl, .inl rfl⟩, trivial⟩ rfl rfl rfl) | exact stp_ix (j := 0) rfl rfl rfl rfl rfl (by as_aux_lemma => kernel_rfl) rfl hpos (Nat.le_of_eq hlen.symm)); apply run_gYes rfl rfl rfl; (exact stp_loadR rfl (by as_aux_lemma => kernel_rfl) rfl rfl rfl (by first | assumption | exact ivals_get (by assumption) | exact irows_get (by assumption) | exact ivals_get (by omega) | exact irows_get (by omega) | rfl) (by first | exact ivals_len _ | assumption | rfl)); apply run_gYes rfl rfl rfl; (exact stp_len rfl rfl rfl (by as_aux_lemma => kernel_rfl)); apply run_gYes rfl rfl rfl; (exact stp_bin rfl rfl rfl rfl); apply run_step rfl; (exact stp_pickF rfl rfl rfl); refine run_nil ?_; refine fin_seq ?_)
  refine goes_cond rfl (fun e => ?_) (fun _ => ?_)
  · exfalso; simp at e; omega
  · (refine goes_skip ?_; refine fin_seq ?_; refine goes_seq ?_; refine goes_region ?_; apply run_step rfl; (exact stp_move rfl rfl); apply run_step rfl; (exact stp_assign rfl rfl); apply run_step rfl; (exact stp_assign rfl rfl); refine run_nil ?_; refine fin_seq ?_; refine goes_ret ?_)
    exact fin_ret2 (.inl rfl) rfl (.tmp rfl) (.tmp rfl) ⟨rfl, trivial⟩ trivial
set_option maxRecDepth 100000 in
set_option maxHeartbeats 1000000 in
theorem implSmall_no {ng : Nat} {rels ws : List (List Int)} (hG : Good ng rels ws) (hs : ¬ smallOk ((ng : Int), rels) ws = true) :
    FC Try.prog 60 [(1002, rowsRo ws), (1003, rowsRo rels)] [pA ng rels.length, o1 (.sl 1002 0 ws.length)] [] (.tup [.one (.val (.slice none 0 0)), .one (.val (I6 3))]) [] := by
  unfold smallOk at hs; rw [cosX_nat] at hs
  refine fc_enter (nt := 24) Try.func60 rfl rfl (by simp) fun w0 ω0 => ?_
  cases hf : (runC ng rels ws).2.2 with
  | true =>
    have hT := implTable_no hG hf
    (refine goes_seq ?_; refine goes_region ?_; apply run_step rfl; (exact stp_box rfl rfl rfl rfl); apply run_step rfl; (exact stp_assign rfl rfl); apply run_step rfl; (exact stp_assign rfl rfl); refine run_nil ?_; refine fin_seq ?_; refine goes_seq ?_; refine goes_region ?_; apply run_step rfl; (exact stp_loadAgg rfl rfl rfl rfl rfl rfl (by as_aux_lemma => kernel_rfl)); apply run_step rfl; (exact stp_move rfl rfl); apply run_step rfl; (apply call_gate 47; exact stp_callR hT (by as_aux_lemma => kernel_rfl) rfl rfl ⟨⟨.inl rfl, .inl rfl, trivial⟩, rfl, trivial⟩ ⟨⟨_, rfl, .inl rfl⟩, ⟨_, rfl, .inl rfl⟩, trivial⟩ rfl rfl); apply run_step rfl; (exact stp_move rfl rfl); apply run_step rfl; (exact stp_extract rfl rfl rfl); apply run_step rfl; (exact stp_extract rfl rfl rfl); apply run_step rfl; (exact stp_assign rfl rfl); apply run_step rfl; (exact stp_assign rfl rfl); refine run_nil ?_; refine fin_seq ?_; refine goes_seq ?_; refine goes_seq ?_; refine goes_region ?_; apply run_step rfl; (exact stp_move rfl rfl); apply run_step rfl; (exact stp_not rfl rfl); apply run_step rfl; (exact stp_move rfl rfl); apply run_gNo rfl rfl rfl rfl rfl; apply run_gNo rfl rfl rfl rfl rfl; apply run_gNo rfl rfl rfl rfl rfl; apply run_gNo rfl rfl rfl rfl rfl; apply run_gNo rfl rfl rfl rfl rfl; apply run_step rfl; (exact stp_pickT rfl rfl rfl); refine run_nil ?_; refine fin_seq ?_)
    refine goes_cond rfl (fun _ => ?_) (fun e => by cases e)
    (refine goes_seq ?_; refine goes_region ?_; apply run_step rfl; (exact stp_assign rfl rfl); apply run_step rfl; (exact stp_assign rfl rfl); refine run_nil ?_; refine fin_seq ?_; refine goes_ret ?_; refine fin_ret_then ?_)
    exact fin_ret2 (.inl rfl) rfl (.tmp rfl) (.tmp rfl) trivial trivial
  | false =>
    have hn : 400 < cosN ((ng : Int), rels) ws := by rw [hf] at hs; simpa using hs
    have hT : FC Try.prog 47 [(1002, rowsRo ws), (1003, rowsRo rels)] [pA ng rels.length, o1 (.sl 1002 0 ws.length)] [(1005, imOw (cosTab ((ng : Int), rels) ws))] (.tup [.one (.sl 1005 0 ng), .one (.val (.bool true))]) [] := by
      rw [cosTab_nat]
      exact (implTable_yes hG hf).nm [(131, 1005), (1002, 1002), (1003, 1003)] (by kernel_rfl)
    have hlen : (irows (cosTab ((ng : Int), rels) ws)).length = ng := by rw [irows_len, cosTab_len]
    have hpos := hG.pos
    have hr0 : 400 < (lget (cosTab ((ng : Int), rels) ws) 0).length := by rw [cosTab_row hpos]; exact hn
    have hrow : (irows (cosTab ((ng : Int), rels) ws))[0]? = some (ivals (lget (cosTab ((ng : Int), rels) ws) 0)) := irows_get (by rw [← irows_len, hlen]; exact hpos)
    clear hs hn
    generalize cosTab ((ng : Int), rels) ws = T at *
    (refine goes_seq ?_; refine goes_region ?_; apply run_step rfl; (exact stp_box rfl rfl rfl rfl); apply run_step rfl; (exact stp_assign rfl rfl); apply run_step rfl; (exact stp_assign rfl rfl); refine run_nil ?_; refine fin_seq ?_; refine goes_seq ?_; refine goes_region ?_; apply run_step rfl; (exact stp_loadAgg rfl rfl rfl rfl rfl rfl (by as_aux_lemma => kernel_rfl)); apply run_step rfl; (exact stp_move rfl rfl); apply run_step rfl; (first | (apply call_gate 47; exact stp_callN hT (by as_aux_lemma => kernel_rfl) rfl rfl ⟨⟨.inl rfl, .inl rfl, trivial⟩, rfl, trivial⟩ ⟨⟨_, rfl, .inl rfl⟩, ⟨_, rfl, .inl rfl⟩, trivial⟩ rfl rfl rfl) | exact stp_ix (j := 0) rfl rfl rfl rfl rfl (by as_aux_lemma => kernel_rfl) rfl hpos (Nat.le_of_eq hlen.symm)); apply run_step rfl; (exact stp_move rfl rfl); apply run_step rfl; (exact stp_extract rfl rfl rfl); apply run_step rfl; (exact stp_extract rfl rfl rfl); apply run_step rfl; (exact stp_assign rfl rfl); apply run_step rfl; (exact stp_assign rfl rfl); refine run_nil ?_; refine fin_seq ?_; refine goes_seq ?_; refine goes_seq ?_; refine goes_region ?_; apply run_step rfl; (exact stp_move rfl rfl); apply run_step rfl; (exact stp_not rfl rfl); apply run_step rfl; (exact stp_move rfl rfl); apply run_gYes rfl rfl rfl; (exact stp_move rfl rfl); apply run_gYes rfl rfl rfl; (first | (apply call_gate 47; exact stp_callN hT (by as_aux_lemma => kernel_rfl) rfl rfl ⟨⟨.inl rfl, .inl rfl, trivial⟩, rfl, trivial⟩ ⟨⟨_, rfl, .inl rfl⟩, ⟨_, rfl, .inl rfl⟩, trivial⟩ rfl rfl rfl) | exact stp_ix (j := 0) rfl rfl rfl rfl rfl (by as_aux_lemma => kernel_rfl) rfl hpos (Nat.le_of_eq hlen.symm)); apply run_gYes rfl rfl rfl; (exact stp_loadR rfl (by as_aux_lemma => kernel_rfl) rfl rfl rfl (by first | assumption | exact ivals_get (by assumption) | exact irows_get (by assumption) | exact ivals_get (by omega) | exact irows_get (by omega) | rfl) (by first | exact ivals_len _ | assumption | rfl)); apply run_gYes rfl rfl rfl; (exact stp_len rfl rfl rfl (by as_aux_lemma => kernel_rfl)); apply run_gYes rfl rfl rfl; (exact stp_bin rfl rfl rfl rfl); apply run_step rfl; (exact stp_pickF rfl rfl rfl); refine run_nil ?_; refine fin_seq ?_)
    refine goes_cond rfl (fun _ => ?_) (fun e => ?_)
    · (refine goes_seq ?_; refine goes_region ?_; apply run_step rfl; (exact stp_assign rfl rfl); apply run_step rfl; (exact stp_assign rfl rfl); refine run_nil ?_; refine fin_seq ?_; refine goes_ret ?_; refine fin_ret_then ?_)
      exact fin_ret2 (.inl rfl) rfl (.tmp rfl) (.tmp rfl) trivial trivial
    · exfalso; simp at e; omega

set_option maxRecDepth 100000 in
set_option maxHeartbeats 1000000 in
theorem specCT_no (g : Int) (rels ws : List (List Int)) (h1 : Fit rels) (h2 : Fit ws) (hn : ¬ (withOk (g, rels) ws = true ∧ smallOk (g, rels) ws = true)) :
    FC Try.prog 29 [(1002, rowsRo ws), (1003, rowsRo rels)] [pA g rels.length, o1 (.sl 1002 0 ws.length)] [] (.tup [.one (.val (.slice none 0 0)), .one (.val (I6 (ctC (g, rels) ws)))]) [] := by
  have hC := specCode_fc g rels ws h1 h2
  refine fc_enter (nt := 18) Try.func29 rfl rfl (by simp) fun w0 ω0 => ?_
  unfold ctC
  by_cases hok : withOk (g, rels) ws = true
  · obtain ⟨ng, rfl, hG⟩ := good_of hok
    have hs : ¬ smallOk ((ng : Int), rels) ws = true := fun h => hn ⟨hok, h⟩
    have hT := specSmall_no hG hs
    rw [withC_ok hok] at hC
    rw [if_pos hok, if_neg hs]
    (refine goes_seq ?_; refine goes_region ?_; apply run_step rfl; (exact stp_box rfl rfl rfl rfl); apply run_step rfl; (exact stp_assign rfl rfl); apply run_step rfl; (exact stp_assign rfl rfl); refine run_nil ?_; refine fin_seq ?_; refine goes_seq ?_; refine goes_seq ?_; refine goes_region ?_; apply run_step rfl; (exact stp_loadAgg rfl rfl rfl rfl rfl rfl (by as_aux_lemma => kernel_rfl)); apply run_step rfl; (exact stp_move rfl rfl); apply run_step rfl; (apply call_gate 50; exact stp_callR hC (by as_aux_lemma => kernel_rfl) rfl rfl ⟨⟨.inl rfl, .inl rfl, trivial⟩, rfl, trivial⟩ ⟨⟨_, rfl, .inl rfl⟩, ⟨_, rfl, .inl rfl⟩, trivial⟩ rfl rfl); apply run_step rfl; (exact stp_assign rfl rfl); refine run_nil ?_; refine fin_seq ?_; refine goes_seq ?_; refine goes_region ?_; apply run_step rfl; (exact stp_move rfl rfl); apply run_step rfl; (exact stp_bin rfl rfl rfl rfl); refine run_nil ?_; refine fin_seq ?_)
    refine goes_cond rfl (fun e => by cases e) (fun _ => ?_)
    (refine goes_skip ?_; refine fin_seq ?_; refine goes_seq ?_; refine goes_region ?_; apply run_step rfl; (exact stp_loadAgg rfl rfl rfl rfl rfl rfl (by as_aux_lemma => kernel_rfl)); apply run_step rfl; (exact stp_move rfl rfl); apply run_step rfl; (apply call_gate 59; exact stp_callR hT (by as_aux_lemma => kernel_rfl) rfl rfl ⟨⟨.inl rfl, .inl rfl, trivial⟩, rfl, trivial⟩ ⟨⟨_, rfl, .inl rfl⟩, ⟨_, rfl, .inl rfl⟩, trivial⟩ rfl rfl); apply run_step rfl; (exact stp_extract rfl rfl rfl); apply run_step rfl; (exact stp_extract rfl rfl rfl); apply run_step rfl; (exact stp_assign rfl rfl); apply run_step rfl; (exact stp_assign rfl rfl); refine run_nil ?_; refine fin_seq ?_; refine goes_ret ?_)
    exact fin_ret2 (.inl rfl) rfl (.tmp rfl) (.tmp rfl) trivial trivial
  · rw [withC_no hok] at hC
    rw [if_neg hok]
    (refine goes_seq ?_; refine goes_region ?_; apply run_step rfl; (exact stp_box rfl rfl rfl rfl); apply run_step rfl; (exact stp_assign rfl rfl); apply run_step rfl; (exact stp_assign rfl rfl); refine run_nil ?_; refine fin_seq ?_; refine goes_seq ?_; refine goes_seq ?_; refine goes_region ?_; apply run_step rfl; (exact stp_loadAgg rfl rfl rfl rfl rfl rfl (by as_aux_lemma => kernel_rfl)); apply run_step rfl; (exact stp_move rfl rfl); apply run_step rfl; (apply call_gate 50; exact stp_callR hC (by as_aux_lemma => kernel_rfl) rfl rfl ⟨⟨.inl rfl, .inl rfl, trivial⟩, rfl, trivial⟩ ⟨⟨_, rfl, .inl rfl⟩, ⟨_, rfl, .inl rfl⟩, trivial⟩ rfl rfl); apply run_step rfl; (exact stp_assign rfl rfl); refine run_nil ?_; refine fin_seq ?_; refine goes_seq ?_; refine goes_region ?_; apply run_step rfl; (exact stp_move rfl rfl); apply run_step rfl; (exact stp_bin rfl rfl rfl rfl); refine run_nil ?_; refine fin_seq ?_)
    refine goes_cond rfl (fun _ => ?_) (fun e => by cases e)
    (refine goes_seq ?_; refine goes_region ?_; apply run_step rfl; (exact stp_move rfl rfl); apply run_step rfl; (exact stp_assign rfl rfl); apply run_step rfl; (exact stp_assign rfl rfl); refine run_nil ?_; refine fin_seq ?_; refine goes_ret ?_; refine fin_ret_then ?_)
    exact fin_ret2 (.inl rfl) rfl (.tmp rfl) (.tmp rfl) trivial trivial
set_option maxRecDepth 100000 in
set_option maxHeartbeats 1000000 in
theorem specCT_yes (ng : Nat) (rels ws : List (List Int)) (h1 : Fit rels) (h2 : Fit ws) (hok : withOk ((ng : Int), rels) ws = true) (hG : Good ng rels ws) (hs : smallOk ((ng : Int), rels) ws = true) :
    FC Try.prog 29 [(1002, rowsRo ws), (1003, rowsRo rels)] [pA ng rels.length, o1 (.sl 1002 0 ws.length)] [(1005, imOw (cosTab ((ng : Int), rels) ws))] (.tup [.one (.sl 1005 0 ng), .one (.val (I6 0))]) [] := by
  have hC := specCode_fc ng rels ws h1 h2
  refine fc_enter (nt := 18) Try.func29 rfl rfl (by simp) fun w0 ω0 => ?_
  have hT := specSmall_yes hG hs
  rw [withC_ok hok] at hC
  (refine goes_seq ?_; refine goes_region ?_; apply run_step rfl; (exact stp_box rfl rfl rfl rfl); apply run_step rfl; (exact stp_assign rfl rfl); apply run_step rfl; (exact stp_assign rfl rfl); refine run_nil ?_; refine fin_seq ?_; refine goes_seq ?_; refine goes_seq ?_; refine goes_region ?_; apply run_step rfl; (exact stp_loadAgg rfl rfl rfl rfl rfl rfl (by as_aux_lemma => kernel_rfl)); apply run_step rfl; (exact stp_move rfl rfl); apply run_step rfl; (apply call_gate 50; exact stp_callR hC (by as_aux_lemma => kernel_rfl) rfl rfl ⟨⟨.inl rfl, .inl rfl, trivial⟩, rfl, trivial⟩ ⟨⟨_, rfl, .inl rfl⟩, ⟨_, rfl, .inl rfl⟩, trivial⟩ rfl rfl); apply run_step rfl; (exact stp_assign rfl rfl); refine run_nil ?_; refine fin_seq ?_; refine goes_seq ?_; refine goes_region ?_; apply run_step rfl; (exact stp_move rfl rfl); apply run_step rfl; (exact stp_bin rfl rfl rfl rfl); refine run_nil ?_; refine fin_seq ?_)
  refine goes_cond rfl (fun e => by cases e) (fun _ => ?_)
  (refine goes_skip ?_; refine fin_seq ?_; refine goes_seq ?_; refine goes_region ?_; apply run_step rfl; (exact stp_loadAgg rfl rfl rfl rfl rfl rfl (by as_aux_lemma => kernel_rfl)); apply run_step rfl; (exact stp_move rfl rfl); apply run_step rfl; (apply call_gate 59; exact stp_callN hT (by as_aux_lemma => kernel_rfl) rfl rfl ⟨⟨.inl rfl, .inl rfl, trivial⟩, rfl, trivial⟩ ⟨⟨_, rfl, .inl rfl⟩, ⟨_, rfl, .inl rfl⟩, trivial⟩ rfl rfl rfl); apply run_step rfl; (exact stp_extract rfl rfl rfl); apply run_step rfl; (exact stp_extract rfl rfl rfl); apply run_step rfl; (exact stp_assign rfl rfl); apply run_step rfl; (exact stp_assign rfl rfl); refine run_nil ?_; refine fin_seq ?_; refine goes_ret ?_)
  exact fin_ret2 (.inl rfl) rfl (.tmp rfl) (.tmp rfl) ⟨rfl, trivial⟩ trivial
/-- in words -/
theorem api_specCT {E1 E E1' E' : Nat} {lo hi lo' hi' : Nat} {v v' : Value} {d : PresD} {ws : List (List Int)} (w : World) (h : OwP E1 E w lo hi v d) (h' : OwSS E1' E' w lo' hi' v' ws) :
    Calls Try.prog 29 #[v, v'] w fun e w' => ∃ r, e = .returned (.tuple #[r, .int .i64 (ctC d ws)]) ∧ OwSS 2 37 w' w.heap.size w'.heap.size r (ctR d ws) ∧ Below w.heap.size w w' := by
  obtain ⟨g, rels⟩ := d
  by_cases hok : withOk (g, rels) ws = true ∧ smallOk (g, rels) ws = true
  · obtain ⟨hok, hs⟩ := hok
    obtain ⟨ng, rfl, hG⟩ := good_of hok
    have hr : ctR ((ng : Int), rels) ws = cosTab ((ng : Int), rels) ws := by unfold ctR; rw [if_pos hok, if_pos hs]
    have hc : ctC ((ng : Int), rels) ws = 0 := by unfold ctC; rw [if_pos hok, if_pos hs]
    have hsm := ctR_small ((ng : Int), rels) ws
    rw [hr] at hsm ⊢
    rw [hc]
    have hl := cosTab_len ng rels ws
    refine (callPW (d := ((ng : Int), rels)) (fun k1 k2 => specCT_yes ng rels ws k1 k2 hok hG hs) h h').mono ?_
    rintro e w' ⟨v, η, ω, rfl, hd, hm, hb, hn⟩
    obtain ⟨u, u', rfl, h1, h2⟩ := den_tup2 hd
    have h2 : u' = I6 0 := h2
    subst h2
    refine ⟨u, rfl, toSS (x := 1005) hm hn rfl (by rw [hl]; exact h1) (by omega) (fun zs hz => ?_), hb⟩
    obtain ⟨j, hj, rfl⟩ := List.getElem_of_mem hz
    have := len_le_lenSS hj
    rw [lget_lt hj] at this
    omega
  · have hr : ctR (g, rels) ws = [] := by
      unfold ctR; split
      · split
        · exact absurd ⟨by assumption, by assumption⟩ hok
        · rfl
      · rfl
    rw [hr]
    refine (two_vals (callPW (d := (g, rels)) (fun k1 k2 => specCT_no g rels ws k1 k2 hok) h h')).mono ?_
    rintro e w' ⟨rfl, hb⟩
    exact ⟨_, rfl, owSS_nil, hb⟩

set_option maxRecDepth 100000 in
set_option maxHeartbeats 1000000 in
theorem implCT_no (g : Int) (rels ws : List (List Int)) (h1 : Fit rels) (h2 : Fit ws) (hn : ¬ (withOk (g, rels) ws = true ∧ smallOk (g, rels) ws = true)) :
    FC Try.prog 30 [(1002, rowsRo ws), (1003, rowsRo rels)] [pA g rels.length, o1 (.sl 1002 0 ws.length)] [] (.tup [.one (.val (.slice none 0 0)), .one (.val (I6 (ctC (g, rels) ws)))]) [] := by
  have hC := implCode_fc g rels ws h1 h2
  refine fc_enter (nt := 18) Try.func30 rfl rfl (by simp) fun w0 ω0 => ?_
  unfold ctC
  by_cases hok : withOk (g, rels) ws = true
  · obtain ⟨ng, rfl, hG⟩ := good_of hok
    have hs : ¬ smallOk ((ng : Int), rels) ws = true := fun h => hn ⟨hok, h⟩
    have hT := implSmall_no hG hs
    rw [withC_ok hok] at hC
    rw [if_pos hok, if_neg hs]
    (refine goes_seq ?_; refine goes_region ?_; apply run_step rfl; (exact stp_box rfl rfl rfl rfl); apply run_step rfl; (exact stp_assign rfl rfl); apply run_step rfl; (exact stp_assign rfl rfl); refine run_nil ?_; refine fin_seq ?_; refine goes_seq ?_; refine goes_seq ?_; refine goes_region ?_; apply run_step rfl; (exact stp_loadAgg rfl rfl rfl rfl rfl rfl (by as_aux_lemma => kernel_rfl)); apply run_step rfl; (exact stp_move rfl rfl); apply run_step rfl; (apply call_gate 52; exact stp_callR hC (by as_aux_lemma => kernel_rfl) rfl rfl ⟨⟨.inl rfl, .inl rfl, trivial⟩, rfl, trivial⟩ ⟨⟨_, rfl, .inl rfl⟩, ⟨_, rfl, .inl rfl⟩, trivial⟩ rfl rfl); apply run_step rfl; (exact stp_assign rfl rfl); refine run_nil ?_; refine fin_seq ?_; refine goes_seq ?_; refine goes_region ?_; apply run_step rfl; (exact stp_move rfl rfl); apply run_step rfl; (exact stp_bin rfl rfl rfl rfl); refine run_nil ?_; refine fin_seq ?_)
    refine goes_cond rfl (fun e => by cases e) (fun _ => ?_)
    (refine goes_skip ?_; refine fin_seq ?_; refine goes_seq ?_; refine goes_region ?_; apply run_step rfl; (exact stp_loadAgg rfl rfl rfl rfl rfl rfl (by as_aux_lemma => kernel_rfl)); apply run_step rfl; (exact stp_move rfl rfl); apply run_step rfl; (apply call_gate 60; exact stp_callR hT (by as_aux_lemma => kernel_rfl) rfl rfl ⟨⟨.inl rfl, .inl rfl, trivial⟩, rfl, trivial⟩ ⟨⟨_, rfl, .inl rfl⟩, ⟨_, rfl, .inl rfl⟩, trivial⟩ rfl rfl); apply run_step rfl; (exact stp_extract rfl rfl rfl); apply run_step rfl; (exact stp_extract rfl rfl rfl); apply run_step rfl; (exact stp_assign rfl rfl); apply run_step rfl; (exact stp_assign rfl rfl); refine run_nil ?_; refine fin_seq ?_; refine goes_ret ?_)
    exact fin_ret2 (.inl rfl) rfl (.tmp rfl) (.tmp rfl) trivial trivial
  · rw [withC_no hok] at hC
    rw [if_neg hok]
    (refine goes_seq ?_; refine goes_region ?_; apply run_step rfl; (exact stp_box rfl rfl rfl rfl); apply run_step rfl; (exact stp_assign rfl rfl); apply run_step rfl; (exact stp_assign rfl rfl); refine run_nil ?_; refine fin_seq ?_; refine goes_seq ?_; refine goes_seq ?_; refine goes_region ?_; apply run_step rfl; (exact stp_loadAgg rfl rfl rfl rfl rfl rfl (by as_aux_lemma => kernel_rfl)); apply run_step rfl; (exact stp_move rfl rfl); apply run_step rfl; (apply call_gate 52; exact stp_callR hC (by as_aux_lemma => kernel_rfl) rfl rfl ⟨⟨.inl rfl, .inl rfl, trivial⟩, rfl, trivial⟩ ⟨⟨_, rfl, .inl rfl⟩, ⟨_, rfl, .inl rfl⟩, trivial⟩ rfl rfl); apply run_step rfl; (exact stp_assign rfl rfl); refine run_nil ?_; refine fin_seq ?_; refine goes_seq ?_; refine goes_region ?_; apply run_step rfl; (exact stp_move rfl rfl); apply run_step rfl; (exact stp_bin rfl rfl rfl rfl); refine run_nil ?_; refine fin_seq ?_)
    refine goes_cond rfl (fun _ => ?_) (fun e => by cases e)
    (refine goes_seq ?_; refine goes_region ?_; apply run_step rfl; (exact stp_move rfl rfl); apply run_step rfl; (exact stp_assign rfl rfl); apply run_step rfl; (exact stp_assign rfl rfl); refine run_nil ?_; refine fin_seq ?_; refine goes_ret ?_; refine fin_ret_then ?_)
    exact fin_ret2 (.inl rfl) rfl (.tmp rfl) (.tmp rfl) trivial trivial
set_option maxRecDepth 100000 in
set_option maxHeartbeats 1000000 in
theorem implCT_yes (ng : Nat) (rels ws : List (List Int)) (h1 : Fit rels) (h2 : Fit ws) (hok : withOk ((ng : Int), rels) ws = true) (hG : Good ng rels ws) (hs : smallOk ((ng : Int), rels) ws = true) :
    FC Try.prog 30 [(1002, rowsRo ws), (1003, rowsRo rels)] [pA ng rels.length, o1 (.sl 1002 0 ws.length)] [(1005, imOw (cosTab ((ng : Int), rels) ws))] (.tup [.one (.sl 1005 0 ng), .one (.val (I6 0))]) [] := by
  have hC := implCode_fc ng rels ws h1 h2
  refine fc_enter (nt := 18) Try.func30 rfl rfl (by simp) fun w0 ω0 => ?_
  have hT := implSmall_yes hG hs
  rw [withC_ok hok] at hC
  (refine goes_seq ?_; refine goes_region ?_; apply run_step rfl; (exact stp_box rfl rfl rfl rfl); apply run_step rfl; (exact stp_assign rfl rfl); apply run_step rfl; (exact stp_assign rfl rfl); refine run_nil ?_; refine fin_seq ?_; refine goes_seq ?_; refine goes_seq ?_; refine goes_region ?_; apply run_step rfl; (exact stp_loadAgg rfl rfl rfl rfl rfl rfl (by as_aux_lemma => kernel_rfl)); apply run_step rfl; (exact stp_move rfl rfl); apply run_step rfl; (apply call_gate 52; exact stp_callR hC (by as_aux_lemma => kernel_rfl) rfl rfl ⟨⟨.inl rfl, .inl rfl, trivial⟩, rfl, trivial⟩ ⟨⟨_, rfl, .inl rfl⟩, ⟨_, rfl, .inl rfl⟩, trivial⟩ rfl rfl); apply run_step rfl; (exact stp_assign rfl rfl); refine run_nil ?_; refine fin_seq ?_; refine goes_seq ?_; refine goes_region ?_; apply run_step rfl; (exact stp_move rfl rfl); apply run_step rfl; (exact stp_bin rfl rfl rfl rfl); refine run_nil ?_; refine fin_seq ?_)
  refine goes_cond rfl (fun e => by cases e) (fun _ => ?_)
  (refine goes_skip ?_; refine fin_seq ?_; refine goes_seq ?_; refine goes_region ?_; apply run_step rfl; (exact stp_loadAgg rfl rfl rfl rfl rfl rfl (by as_aux_lemma => kernel_rfl)); apply run_step rfl; (exact stp_move rfl rfl); apply run_step rfl; (apply call_gate 60; exact stp_callN hT (by as_aux_lemma => kernel_rfl) rfl rfl ⟨⟨.inl rfl, .inl rfl, trivial⟩, rfl, trivial⟩ ⟨⟨_, rfl, .inl rfl⟩, ⟨_, rfl, .inl rfl⟩, trivial⟩ rfl rfl rfl); apply run_step rfl; (exact stp_extract rfl rfl rfl); apply run_step rfl; (exact stp_extract rfl rfl rfl); apply run_step rfl; (exact stp_assign rfl rfl); apply run_step rfl; (exact stp_assign rfl rfl); refine run_nil ?_; refine fin_seq ?_; refine goes_ret ?_)
  exact fin_ret2 (.inl rfl) rfl (.tmp rfl) (.tmp rfl) ⟨rfl, trivial⟩ trivial
/-- in words -/
theorem api_implCT {E1 E E1' E' : Nat} {lo hi lo' hi' : Nat} {v v' : Value} {d : PresD} {ws : List (List Int)} (w : World) (h : OwP E1 E w lo hi v d) (h' : OwSS E1' E' w lo' hi' v' ws) :
    Calls Try.prog 30 #[v, v'] w fun e w' => ∃ r, e = .returned (.tuple #[r, .int .i64 (ctC d ws)]) ∧ OwSS 2 37 w' w.heap.size w'.heap.size r (ctR d ws) ∧ Below w.heap.size w w' := by
  obtain ⟨g, rels⟩ := d
  by_cases hok : withOk (g, rels) ws = true ∧ smallOk (g, rels) ws = true
  · obtain ⟨hok, hs⟩ := hok
    obtain ⟨ng, rfl, hG⟩ := good_of hok
    have hr : ctR ((ng : Int), rels) ws = cosTab ((ng : Int), rels) ws := by unfold ctR; rw [if_pos hok, if_pos hs]
    have hc : ctC ((ng : Int), rels) ws = 0 := by unfold ctC; rw [if_pos hok, if_pos hs]
    have hsm := ctR_small ((ng : Int), rels) ws
    rw [hr] at hsm ⊢
    rw [hc]
    have hl := cosTab_len ng rels ws
    refine (callPW (d := ((ng : Int), rels)) (fun k1 k2 => implCT_yes ng rels ws k1 k2 hok hG hs) h h').mono ?_
    rintro e w' ⟨v, η, ω, rfl, hd, hm, hb, hn⟩
    obtain ⟨u, u', rfl, h1, h2⟩ := den_tup2 hd
    have h2 : u' = I6 0 := h2
    subst h2
    refine ⟨u, rfl, toSS (x := 1005) hm hn rfl (by rw [hl]; exact h1) (by omega) (fun zs hz => ?_), hb⟩
    obtain ⟨j, hj, rfl⟩ := List.getElem_of_mem hz
    have := len_le_lenSS hj
    rw [lget_lt hj] at this
    omega
  · have hr : ctR (g, rels) ws = [] := by
      unfold ctR; split
      · split
        · exact absurd ⟨by assumption, by assumption⟩ hok
        · rfl
      · rfl
    rw [hr]
    refine (two_vals (callPW (d := (g, rels)) (fun k1 k2 => implCT_no g rels ws k1 k2 hok) h h')).mono ?_
    rintro e w' ⟨rfl, hb⟩
    exact ⟨_, rfl, owSS_nil, hb⟩
end Go.Proofs.Ytpjglifijdcgnaa

/- Words in a table: l11Elements, elementTable, l11Lead, applied; IsIdentityWord. guards: -/
namespace Go.Proofs.Ytpjglifijdcgnaa
open Go.RowKit

abbrev wRo (W : List Int) : Ch := ⟨false, 2, 1, .vals (ivals W)⟩
theorem cosTab_leads {ng : Nat} {rels ws : List (List Int)} (h : Good ng rels ws) (hf : (runC ng rels ws).2.2 = false) : Leads (cosTab ((ng : Int), rels) ws) (cosN ((ng : Int), rels) ws) := by
  refine ⟨fun k hk => cosTab_row (by rw [cosTab_len] at hk; exact hk), fun k hk x hx => ?_⟩
  rw [cosTab_len] at hk
  have hF := full_run h.rl h.wl hf
  rw [cosTab_nat]
  rw [cosN_nat] at hx ⊢
  have := tableC_entry hF hx hk
  have he : iget (lget (tableC ng (runC ng rels ws).1 (runC ng rels ws).2.1) k) x = tabC (runC ng rels ws).1 (runC ng rels ws).2.1 (numbered ng (runC ng rels ws).1 (runC ng rels ws).2.1) k x := by
    simp [tableC, lget, iget, hk, hx, tabC]
  rw [he]
  exact this
theorem smallOk_run {ng : Nat} {rels ws : List (List Int)} (hs : smallOk ((ng : Int), rels) ws = true) : (runC ng rels ws).2.2 = false ∧ cosN ((ng : Int), rels) ws ≤ 400 := by
  unfold smallOk at hs; rw [cosX_nat] at hs; simpa using hs
theorem tabLoop_grow {ng : Nat} {im : List (List Int)} {less : List Int} (hF : Full ng im less) : ∀ (f i : Nat) (s : NSt), TOK less.length less s → NGrow s (tabLoop ng im less f i s)
  | 0, _, s, _ => NGrow.refl s
  | f + 1, i, s, h => by
    unfold tabLoop
    split
    · rename_i hlt
      obtain ⟨h1, h2, _⟩ := tabRow_ok hF h hlt ng (Nat.le_refl _)
      exact NGrow.trans h2 (tabLoop_grow hF f (i + 1) _ h1)
    · exact NGrow.refl s
theorem numbered_grow {ng : Nat} {im : List (List Int)} {less : List Int} (hF : Full ng im less) : NGrow (tabStart less.length) (numbered ng im less) := tabLoop_grow hF _ _ _ (tabStart_ok hF)
theorem cosN_pos {ng : Nat} {rels ws : List (List Int)} (h : Good ng rels ws) (hf : (runC ng rels ws).2.2 = false) : 0 < cosN ((ng : Int), rels) ws := by
  rw [cosN_nat]
  have hF := full_run h.rl h.wl hf
  obtain ⟨hk, _⟩ := numbered_ok hF
  have hF0 := hF.pos
  rcases Nat.eq_zero_or_pos (numbered ng (runC ng rels ws).1 (runC ng rels ws).2.1).1.length with h0 | h0
  · exfalso
    have g1 : NGrow (tabStart (runC ng rels ws).2.1.length) (numbered ng (runC ng rels ws).1 (runC ng rels ws).2.1) := numbered_grow hF
    have := g1.len
    simp [tabStart] at this
    omega
  · exact h0

section
variable {η : Env} {ω : Own?} {w : World} {ins : List (Nm × Ch)}
theorem rdE {x i : Nat} {own : Bool} {E F : Nat} {zss : List (List Int)} {v : Value} (hm : Mem η ω w (fun x => lk x ins)) (hx : lk x ins = some ⟨own, E, 1, .rows F (irows zss) []⟩) (hi : i < zss.length) (hv : Den1 η (.esl x i 0 (lget zss i).length) v) (hn : (lget zss i).length ≤ 17592186044416) : ∃ ao c, v = .slice ao (lget zss i).length c ∧ Ints w ao (lget zss i).length (lget zss i) := by
  obtain ⟨h, h1, h2, h3⟩ := hm.1 x _ hx
  obtain ⟨ao, rfl, h4, _⟩ := hv.2 h h1
  have h3 : Vec own ω w (x, none) h E (irows zss).length (cellsOK η ω w own x (.rows F (irows zss) [])) := h3
  obtain ⟨b', o', u', g1, g2, g3, g4⟩ := h3.get (j := i) (by rw [irows_len]; exact hi)
  obtain ⟨k1, k2, k3⟩ := g4 (by simp) (ivals (lget zss i)) (irows_get hi)
  rw [h4 rfl]
  refine ⟨_, _, rfl, rfl, hn, fun h0 => ?_⟩
  obtain ⟨b2, o2, u2, m1, _, _⟩ := k3.get (j := 0) (by rw [ivals_len]; exact h0)
  refine ⟨b2, o2, m1, fun j hj => ?_⟩
  obtain ⟨b3, o3, u3, n1, n2, n3⟩ := k3.get (j := j) (by rw [ivals_len]; exact hj)
  rw [m1] at n1; injection n1 with n1; injection n1 with n1 n1'; subst n1 n1'
  rw [ivals_get hj] at n3
  rw [n2, ← n3]
end
theorem three_of {us : List Value} {u0 u1 u2 : Value} (hl : us.length = 3) (g0 : us[0]? = some u0) (g1 : us[1]? = some u1) (g2 : us[2]? = some u2) : us = [u0, u1, u2] := by
  match us, hl with
  | [p, q, r], _ => simp at g0 g1 g2; rw [g0, g1, g2]
theorem specLead_fc (T : List (List Int)) (W : List Int) (x m n : Nat) (hn : T.length = n) (hT : Leads T m) (hx : x < m) (hm4 : m ≤ 1000000) (hn4 : n ≤ 1000000) (hW : ∀ z ∈ W, 0 ≤ z ∧ z < T.length) (hWl : W.length ≤ 1000000000) :
    FC Try.prog 54 [(1005, imRo T), (1004, wRo W)] [o1 (.sl 1005 0 n), vv (I6 x), o1 (.sl 1004 0 W.length)] [] (vv (I6 (leadL T x W))) [] :=
  fc_of_calls fun w η ω us hm ⟨hl, ha⟩ => by
    subst hn
    obtain ⟨u0, g0, d0⟩ := ha 0 _ rfl
    obtain ⟨u1, g1, d1⟩ := ha 1 _ rfl
    obtain ⟨u2, g2, d2⟩ := ha 2 _ rfl
    have d1 : u1 = I6 x := d1
    subst d1
    obtain ⟨ao, c, rfl, hi⟩ := rdSS (x := 1005) (zss := T) hm rfl d0 (by omega) fun zs hz => by
      obtain ⟨j, hj, rfl⟩ := List.getElem_of_mem hz
      rw [← lget_lt hj, hT.len j hj]; omega
    obtain ⟨ao', c', rfl, hi'⟩ := rdS (x := 1004) (zs := W) hm rfl d2 (by omega)
    rw [three_of hl g0 g1 g2]
    refine (specLead_any ao _ c T ao' _ c' W x m w hi hi' hx hT hW).mono ?_
    rintro e w' ⟨rfl, rfl⟩
    exact ⟨rfl, Below.refl _ _⟩
theorem specLeadE_fc (T ws : List (List Int)) (i : Nat) (x m n : Nat) (hn : T.length = n) (hT : Leads T m) (hx : x < m) (hm4 : m ≤ 1000000) (hn4 : n ≤ 1000000) (hi0 : i < ws.length) (hW : ∀ z ∈ lget ws i, 0 ≤ z ∧ z < T.length) (hWl : (lget ws i).length ≤ 1000000000) :
    FC Try.prog 54 [(1005, imRo T), (1002, rowsRo ws)] [o1 (.sl 1005 0 n), vv (I6 x), o1 (.esl 1002 i 0 (lget ws i).length)] [] (vv (I6 (leadL T x (lget ws i)))) [] :=
  fc_of_calls fun w η ω us hm ⟨hl, ha⟩ => by
    subst hn
    obtain ⟨u0, g0, d0⟩ := ha 0 _ rfl
    obtain ⟨u1, g1, d1⟩ := ha 1 _ rfl
    obtain ⟨u2, g2, d2⟩ := ha 2 _ rfl
    have d1 : u1 = I6 x := d1
    subst d1
    obtain ⟨ao, c, rfl, hi⟩ := rdSS (x := 1005) (zss := T) hm rfl d0 (by omega) fun zs hz => by
      obtain ⟨j, hj, rfl⟩ := List.getElem_of_mem hz
      rw [← lget_lt hj, hT.len j hj]; omega
    obtain ⟨ao', c', rfl, hi'⟩ := rdE (x := 1002) (zss := ws) hm rfl hi0 d2 (by omega)
    rw [three_of hl g0 g1 g2]
    refine (specLead_any ao _ c T ao' _ c' _ x m w hi hi' hx hT hW).mono ?_
    rintro e w' ⟨rfl, rfl⟩
    exact ⟨rfl, Below.refl _ _⟩
theorem implLead_fc (T : List (List Int)) (W : List Int) (x m n : Nat) (hn : T.length = n) (hT : Leads T m) (hx : x < m) (hm4 : m ≤ 1000000) (hn4 : n ≤ 1000000) (hW : ∀ z ∈ W, 0 ≤ z ∧ z < T.length) (hWl : W.length ≤ 1000000000) :
    FC Try.prog 56 [(1005, imRo T), (1004, wRo W)] [o1 (.sl 1005 0 n), o1 (.sl 1004 0 W.length), vv (I6 x)] [] (vv (I6 (leadL T x W))) [] :=
  fc_of_calls fun w η ω us hm ⟨hl, ha⟩ => by
    subst hn
    obtain ⟨u0, g0, d0⟩ := ha 0 _ rfl
    obtain ⟨u1, g1, d1⟩ := ha 1 _ rfl
    obtain ⟨u2, g2, d2⟩ := ha 2 _ rfl
    have d2 : u2 = I6 x := d2
    subst d2
    obtain ⟨ao, c, rfl, hi⟩ := rdSS (x := 1005) (zss := T) hm rfl d0 (by omega) fun zs hz => by
      obtain ⟨j, hj, rfl⟩ := List.getElem_of_mem hz
      rw [← lget_lt hj, hT.len j hj]; omega
    obtain ⟨ao', c', rfl, hi'⟩ := rdS (x := 1004) (zs := W) hm rfl d1 (by omega)
    rw [three_of hl g0 g1 g2]
    refine (applied_any ao _ c T ao' _ c' W x m w hi hi' hx hT hW).mono ?_
    rintro e w' ⟨rfl, rfl⟩
    exact ⟨rfl, Below.refl _ _⟩
theorem implLeadE_fc (T ws : List (List Int)) (i : Nat) (x m n : Nat) (hn : T.length = n) (hT : Leads T m) (hx : x < m) (hm4 : m ≤ 1000000) (hn4 : n ≤ 1000000) (hi0 : i < ws.length) (hW : ∀ z ∈ lget ws i, 0 ≤ z ∧ z < T.length) (hWl : (lget ws i).length ≤ 1000000000) :
    FC Try.prog 56 [(1005, imRo T), (1002, rowsRo ws)] [o1 (.sl 1005 0 n), o1 (.esl 1002 i 0 (lget ws i).length), vv (I6 x)] [] (vv (I6 (leadL T x (lget ws i)))) [] :=
  fc_of_calls fun w η ω us hm ⟨hl, ha⟩ => by
    subst hn
    obtain ⟨u0, g0, d0⟩ := ha 0 _ rfl
    obtain ⟨u1, g1, d1⟩ := ha 1 _ rfl
    obtain ⟨u2, g2, d2⟩ := ha 2 _ rfl
    have d2 : u2 = I6 x := d2
    subst d2
    obtain ⟨ao, c, rfl, hi⟩ := rdSS (x := 1005) (zss := T) hm rfl d0 (by omega) fun zs hz => by
      obtain ⟨j, hj, rfl⟩ := List.getElem_of_mem hz
      rw [← lget_lt hj, hT.len j hj]; omega
    obtain ⟨ao', c', rfl, hi'⟩ := rdE (x := 1002) (zss := ws) hm rfl hi0 d1 (by omega)
    rw [three_of hl g0 g1 g2]
    refine (applied_any ao _ c T ao' _ c' _ x m w hi hi' hx hT hW).mono ?_
    rintro e w' ⟨rfl, rfl⟩
    exact ⟨rfl, Below.refl _ _⟩
theorem specIs_fc (g : Int) (rels : List (List Int)) (h1 : Fit rels) : FC Try.prog 76 [(1003, rowsRo rels)] [pA g rels.length] [] (vv (.bool (isPres (g, rels)))) [] :=
  fc_of_calls fun w η ω us hm ⟨hl, ha⟩ => by
    obtain ⟨u0, g0, d0⟩ := ha 0 _ rfl
    have hp := rdP (x := 1003) (zss := rels) hm rfl d0 (by have := h1.1; omega) fun zs hz => by have := h1.2 zs hz; omega
    rw [one_of hl g0]
    exact spec11Is_any w hp
theorem specWord_fc (g : Int) (W : List Int) (hg0 : 0 ≤ g) (hg1 : g ≤ 1000) (hW : W.length ≤ 4398046511104) : FC Try.prog 81 [(1004, wRo W)] [vv (I6 g), o1 (.sl 1004 0 W.length)] [] (vv (.bool (isWordTo (g - 1) W))) [] :=
  fc_of_calls fun w η ω us hm ⟨hl, ha⟩ => by
    obtain ⟨u0, g0, d0⟩ := ha 0 _ rfl
    obtain ⟨u1, g1, d1⟩ := ha 1 _ rfl
    have d0 : u0 = I6 g := d0
    subst d0
    obtain ⟨ao', c', rfl, hi'⟩ := rdS (x := 1004) (zs := W) hm rfl d1 (by omega)
    rw [two_of hl g0 g1]
    refine (spec11Word_any g ao' _ c' W w hi' hg0 hg1).mono ?_
    first | (rintro e w' ⟨rfl, rfl⟩; exact ⟨rfl, Below.refl _ _⟩) | (rintro e w' ⟨rfl, hb⟩; exact ⟨rfl, hb⟩)
theorem implWord_fc (g : Int) (W : List Int) (hg0 : 0 ≤ g) (hg1 : g ≤ 1000) (hW : W.length ≤ 4398046511104) : FC Try.prog 70 [(1004, wRo W)] [o1 (.sl 1004 0 W.length), vv (I6 g)] [] (vv (.bool (isWordTo (g - 1) W))) [] :=
  fc_of_calls fun w η ω us hm ⟨hl, ha⟩ => by
    obtain ⟨u0, g0, d0⟩ := ha 0 _ rfl
    obtain ⟨u1, g1, d1⟩ := ha 1 _ rfl
    have d1 : u1 = I6 g := d1
    subst d1
    obtain ⟨ao', c', rfl, hi'⟩ := rdS (x := 1004) (zs := W) hm rfl d0 (by omega)
    rw [two_of hl g0 g1]
    refine (isLetters_any g ao' _ c' W w hi' hg0 hg1).mono ?_
    first | (rintro e w' ⟨rfl, rfl⟩; exact ⟨rfl, Below.refl _ _⟩) | (rintro e w' ⟨rfl, hb⟩; exact ⟨rfl, hb⟩)

def elOk (d : PresD) (W : List Int) : Prop := isPres d = true ∧ isWordTo (d.1 - 1) W = true ∧ smallOk d [] = true
def elC (d : PresD) (W : List Int) : Int := if isPres d = true then (if isWordTo (d.1 - 1) W = true then (if smallOk d [] = true then 0 else 3) else 2) else 1
theorem good_nil {g : Int} {rels : List (List Int)} (h : isPres (g, rels) = true) : ∃ ng : Nat, g = (ng : Int) ∧ Good ng rels [] := good_of (by rw [withOk_nil]; exact h)

set_option maxRecDepth 100000 in
set_option maxHeartbeats 1000000 in
theorem specEl_yes {ng : Nat} {rels : List (List Int)} {W : List Int} (h1 : Fit rels) (h2 : W.length ≤ 4398046511104) (hG : Good ng rels []) (hk : elOk ((ng : Int), rels) W) :
    FC Try.prog 53 [(1004, wRo W), (1003, rowsRo rels)] [pA ng rels.length, o1 (.sl 1004 0 W.length)] [(1005, imOw (cosTab ((ng : Int), rels) []))] (.tup [.one (.sl 1005 0 ng), .one (.val (I6 0))]) [] := by
  obtain ⟨k1, k2, k3⟩ := hk
  have hI := specIs_fc ng rels h1
  rw [k1] at hI
  have hW := specWord_fc ng W (by omega) (by have := hG.hi; omega) h2
  rw [k2] at hW
  have hS := (specSmall_yes hG k3).nilW
  refine fc_enter (nt := 20) Try.func53 rfl rfl (by simp) fun w0 ω0 => ?_
  (refine goes_seq ?_; refine goes_region ?_; apply run_step rfl; (exact stp_box rfl rfl rfl rfl); apply run_step rfl; (exact stp_assign rfl rfl); apply run_step rfl; (exact stp_assign rfl rfl); refine run_nil ?_; refine fin_seq ?_; refine goes_seq ?_; refine goes_block ?_; refine goes_seq ?_; refine goes_region ?_; apply run_step rfl; (exact stp_loadAgg rfl rfl rfl rfl rfl rfl (by as_aux_lemma => kernel_rfl)); apply run_step rfl; (apply call_gate 76; exact stp_callR hI (by as_aux_lemma => kernel_rfl) rfl rfl ⟨⟨.inl rfl, .inl rfl, trivial⟩, trivial⟩ ⟨⟨_, rfl, .inl rfl⟩, trivial⟩ rfl rfl); apply run_step rfl; (exact stp_not rfl rfl); apply run_step rfl; (exact stp_assign rfl rfl); refine run_nil ?_; refine fin_seq ?_)
  refine goes_cond rfl (fun e => by cases e) (fun _ => ?_)
  (refine goes_seq ?_; refine goes_region ?_; apply run_step rfl; (exact stp_fieldAddr (d := 0) rfl rfl rfl (by as_aux_lemma => kernel_rfl)); apply run_step rfl; (exact stp_loadF rfl (by as_aux_lemma => kernel_rfl) rfl rfl rfl rfl); apply run_step rfl; (exact stp_move rfl rfl); apply run_step rfl; (apply call_gate 81; exact stp_callR hW (by as_aux_lemma => kernel_rfl) rfl rfl ⟨rfl, rfl, trivial⟩ ⟨⟨_, rfl, .inl rfl⟩, trivial⟩ rfl rfl); apply run_step rfl; (exact stp_not rfl rfl); apply run_step rfl; (exact stp_assign rfl rfl); refine run_nil ?_; refine fin_seq ?_)
  refine goes_cond rfl (fun e => by cases e) (fun _ => ?_)
  (refine goes_skip ?_; refine fin_block ?_; refine fin_seq ?_; refine goes_seq ?_; refine goes_region ?_; apply run_step rfl; (exact stp_loadAgg rfl rfl rfl rfl rfl rfl (by as_aux_lemma => kernel_rfl)); apply run_step rfl; (apply call_gate 59; exact stp_callN hS (by as_aux_lemma => kernel_rfl) rfl rfl ⟨⟨.inl rfl, .inl rfl, trivial⟩, rfl, trivial⟩ ⟨⟨_, rfl, .inl rfl⟩, trivial⟩ rfl rfl rfl); apply run_step rfl; (exact stp_extract rfl rfl rfl); apply run_step rfl; (exact stp_extract rfl rfl rfl); apply run_step rfl; (exact stp_assign rfl rfl); apply run_step rfl; (exact stp_assign rfl rfl); refine run_nil ?_; refine fin_seq ?_; refine goes_ret ?_)
  exact fin_ret2 (.inl rfl) rfl (.tmp rfl) (.tmp rfl) ⟨rfl, trivial⟩ trivial
set_option maxRecDepth 100000 in
set_option maxHeartbeats 1000000 in
theorem specEl_no {g : Int} {rels : List (List Int)} {W : List Int} (h1 : Fit rels) (h2 : W.length ≤ 4398046511104) (hk : ¬ elOk (g, rels) W) :
    FC Try.prog 53 [(1004, wRo W), (1003, rowsRo rels)] [pA g rels.length, o1 (.sl 1004 0 W.length)] [] (.tup [.one (.val (.slice none 0 0)), .one (.val (I6 (elC (g, rels) W)))]) [] := by
  have hI := specIs_fc g rels h1
  refine fc_enter (nt := 20) Try.func53 rfl rfl (by simp) fun w0 ω0 => ?_
  unfold elC
  by_cases k1 : isPres (g, rels) = true
  · obtain ⟨ng, rfl, hG⟩ := good_nil k1
    rw [k1] at hI
    rw [if_pos k1]
    have hW := specWord_fc ng W (by omega) (by have := hG.hi; omega) h2
    (refine goes_seq ?_; refine goes_region ?_; apply run_step rfl; (exact stp_box rfl rfl rfl rfl); apply run_step rfl; (exact stp_assign rfl rfl); apply run_step rfl; (exact stp_assign rfl rfl); refine run_nil ?_; refine fin_seq ?_; refine goes_seq ?_; refine goes_block ?_; refine goes_seq ?_; refine goes_region ?_; apply run_step rfl; (exact stp_loadAgg rfl rfl rfl rfl rfl rfl (by as_aux_lemma => kernel_rfl)); apply run_step rfl; (apply call_gate 76; exact stp_callR hI (by as_aux_lemma => kernel_rfl) rfl rfl ⟨⟨.inl rfl, .inl rfl, trivial⟩, trivial⟩ ⟨⟨_, rfl, .inl rfl⟩, trivial⟩ rfl rfl); apply run_step rfl; (exact stp_not rfl rfl); apply run_step rfl; (exact stp_assign rfl rfl); refine run_nil ?_; refine fin_seq ?_)
    refine goes_cond rfl (fun e => by cases e) (fun _ => ?_)
    by_cases k2 : isWordTo ((ng : Int) - 1) W = true
    · rw [k2] at hW
      have k3 : ¬ smallOk ((ng : Int), rels) [] = true := fun h => hk ⟨k1, k2, h⟩
      rw [if_pos k2, if_neg k3]
      have hS := (specSmall_no hG k3).nilW
      (refine goes_seq ?_; refine goes_region ?_; apply run_step rfl; (exact stp_fieldAddr (d := 0) rfl rfl rfl (by as_aux_lemma => kernel_rfl)); apply run_step rfl; (exact stp_loadF rfl (by as_aux_lemma => kernel_rfl) rfl rfl rfl rfl); apply run_step rfl; (exact stp_move rfl rfl); apply run_step rfl; (apply call_gate 81; exact stp_callR hW (by as_aux_lemma => kernel_rfl) rfl rfl ⟨rfl, rfl, trivial⟩ ⟨⟨_, rfl, .inl rfl⟩, trivial⟩ rfl rfl); apply run_step rfl; (exact stp_not rfl rfl); apply run_step rfl; (exact stp_assign rfl rfl); refine run_nil ?_; refine fin_seq ?_)
      refine goes_cond rfl (fun e => by cases e) (fun _ => ?_)
      (refine goes_skip ?_; refine fin_block ?_; refine fin_seq ?_; refine goes_seq ?_; refine goes_region ?_; apply run_step rfl; (exact stp_loadAgg rfl rfl rfl rfl rfl rfl (by as_aux_lemma => kernel_rfl)); apply run_step rfl; (apply call_gate 59; exact stp_callR hS (by as_aux_lemma => kernel_rfl) rfl rfl ⟨⟨.inl rfl, .inl rfl, trivial⟩, rfl, trivial⟩ ⟨⟨_, rfl, .inl rfl⟩, trivial⟩ rfl rfl); apply run_step rfl; (exact stp_extract rfl rfl rfl); apply run_step rfl; (exact stp_extract rfl rfl rfl); apply run_step rfl; (exact stp_assign rfl rfl); apply run_step rfl; (exact stp_assign rfl rfl); refine run_nil ?_; refine fin_seq ?_; refine goes_ret ?_)
      exact fin_ret2 (.inl rfl) rfl (.tmp rfl) (.tmp rfl) trivial trivial
    · rw [if_neg k2]
      have k2' : isWordTo ((ng : Int) - 1) W = false := by simpa using k2
      rw [k2'] at hW
      (refine goes_seq ?_; refine goes_region ?_; apply run_step rfl; (exact stp_fieldAddr (d := 0) rfl rfl rfl (by as_aux_lemma => kernel_rfl)); apply run_step rfl; (exact stp_loadF rfl (by as_aux_lemma => kernel_rfl) rfl rfl rfl rfl); apply run_step rfl; (exact stp_move rfl rfl); apply run_step rfl; (apply call_gate 81; exact stp_callR hW (by as_aux_lemma => kernel_rfl) rfl rfl ⟨rfl, rfl, trivial⟩ ⟨⟨_, rfl, .inl rfl⟩, trivial⟩ rfl rfl); apply run_step rfl; (exact stp_not rfl rfl); apply run_step rfl; (exact stp_assign rfl rfl); refine run_nil ?_; refine fin_seq ?_)
      refine goes_cond rfl (fun _ => ?_) (fun e => by cases e)
      (refine goes_seq ?_; refine goes_region ?_; apply run_step rfl; (exact stp_assign rfl rfl); apply run_step rfl; (exact stp_assign rfl rfl); refine run_nil ?_; refine fin_seq ?_; refine goes_ret ?_; refine fin_ret_block ?_; refine fin_ret_then ?_)
      exact fin_ret2 (.inl rfl) rfl (.tmp rfl) (.tmp rfl) trivial trivial
  · have k1' : isPres (g, rels) = false := by simpa using k1
    rw [k1'] at hI
    rw [if_neg k1]
    (refine goes_seq ?_; refine goes_region ?_; apply run_step rfl; (exact stp_box rfl rfl rfl rfl); apply run_step rfl; (exact stp_assign rfl rfl); apply run_step rfl; (exact stp_assign rfl rfl); refine run_nil ?_; refine fin_seq ?_; refine goes_seq ?_; refine goes_block ?_; refine goes_seq ?_; refine goes_region ?_; apply run_step rfl; (exact stp_loadAgg rfl rfl rfl rfl rfl rfl (by as_aux_lemma => kernel_rfl)); apply run_step rfl; (apply call_gate 76; exact stp_callR hI (by as_aux_lemma => kernel_rfl) rfl rfl ⟨⟨.inl rfl, .inl rfl, trivial⟩, trivial⟩ ⟨⟨_, rfl, .inl rfl⟩, trivial⟩ rfl rfl); apply run_step rfl; (exact stp_not rfl rfl); apply run_step rfl; (exact stp_assign rfl rfl); refine run_nil ?_; refine fin_seq ?_)
    refine goes_cond rfl (fun _ => ?_) (fun e => by cases e)
    (refine goes_seq ?_; refine goes_region ?_; apply run_step rfl; (exact stp_assign rfl rfl); apply run_step rfl; (exact stp_assign rfl rfl); refine run_nil ?_; refine fin_seq ?_; refine goes_ret ?_; refine fin_ret_block ?_; refine fin_ret_then ?_)
    exact fin_ret2 (.inl rfl) rfl (.tmp rfl) (.tmp rfl) trivial trivial

set_option maxRecDepth 100000 in
set_option maxHeartbeats 1000000 in
theorem implEl_yes {ng : Nat} {rels : List (List Int)} {W : List Int} (h1 : Fit rels) (h2 : W.length ≤ 4398046511104) (hG : Good ng rels []) (hk : elOk ((ng : Int), rels) W) :
    FC Try.prog 55 [(1004, wRo W), (1003, rowsRo rels)] [pA ng rels.length, o1 (.sl 1004 0 W.length)] [(1005, imOw (cosTab ((ng : Int), rels) []))] (.tup [.one (.sl 1005 0 ng), .one (.val (I6 0))]) [] := by
  obtain ⟨k1, k2, k3⟩ := hk
  have hI := isPres_fc ng rels h1
  rw [k1] at hI
  have hW := implWord_fc ng W (by omega) (by have := hG.hi; omega) h2
  rw [k2] at hW
  have hS := (implSmall_yes hG k3).nilW
  refine fc_enter (nt := 20) Try.func55 rfl rfl (by simp) fun w0 ω0 => ?_
  (refine goes_seq ?_; refine goes_region ?_; apply run_step rfl; (exact stp_box rfl rfl rfl rfl); apply run_step rfl; (exact stp_assign rfl rfl); apply run_step rfl; (exact stp_assign rfl rfl); refine run_nil ?_; refine fin_seq ?_; refine goes_seq ?_; refine goes_block ?_; refine goes_seq ?_; refine goes_region ?_; apply run_step rfl; (exact stp_loadAgg rfl rfl rfl rfl rfl rfl (by as_aux_lemma => kernel_rfl)); apply run_step rfl; (apply call_gate 46; exact stp_callR hI (by as_aux_lemma => kernel_rfl) rfl rfl ⟨⟨.inl rfl, .inl rfl, trivial⟩, trivial⟩ ⟨⟨_, rfl, .inl rfl⟩, trivial⟩ rfl rfl); apply run_step rfl; (exact stp_not rfl rfl); apply run_step rfl; (exact stp_assign rfl rfl); refine run_nil ?_; refine fin_seq ?_)
  refine goes_cond rfl (fun e => by cases e) (fun _ => ?_)
  (refine goes_seq ?_; refine goes_region ?_; apply run_step rfl; (exact stp_move rfl rfl); apply run_step rfl; (exact stp_fieldAddr (d := 0) rfl rfl rfl (by as_aux_lemma => kernel_rfl)); apply run_step rfl; (exact stp_loadF rfl (by as_aux_lemma => kernel_rfl) rfl rfl rfl rfl); apply run_step rfl; (apply call_gate 70; exact stp_callR hW (by as_aux_lemma => kernel_rfl) rfl rfl ⟨rfl, rfl, trivial⟩ ⟨⟨_, rfl, .inl rfl⟩, trivial⟩ rfl rfl); apply run_step rfl; (exact stp_not rfl rfl); apply run_step rfl; (exact stp_assign rfl rfl); refine run_nil ?_; refine fin_seq ?_)
  refine goes_cond rfl (fun e => by cases e) (fun _ => ?_)
  (refine goes_skip ?_; refine fin_block ?_; refine fin_seq ?_; refine goes_seq ?_; refine goes_region ?_; apply run_step rfl; (exact stp_loadAgg rfl rfl rfl rfl rfl rfl (by as_aux_lemma => kernel_rfl)); apply run_step rfl; (apply call_gate 60; exact stp_callN hS (by as_aux_lemma => kernel_rfl) rfl rfl ⟨⟨.inl rfl, .inl rfl, trivial⟩, rfl, trivial⟩ ⟨⟨_, rfl, .inl rfl⟩, trivial⟩ rfl rfl rfl); apply run_step rfl; (exact stp_extract rfl rfl rfl); apply run_step rfl; (exact stp_extract rfl rfl rfl); apply run_step rfl; (exact stp_assign rfl rfl); apply run_step rfl; (exact stp_assign rfl rfl); refine run_nil ?_; refine fin_seq ?_; refine goes_ret ?_)
  exact fin_ret2 (.inl rfl) rfl (.tmp rfl) (.tmp rfl) ⟨rfl, trivial⟩ trivial
set_option maxRecDepth 100000 in
set_option maxHeartbeats 1000000 in
theorem implEl_no {g : Int} {rels : List (List Int)} {W : List Int} (h1 : Fit rels) (h2 : W.length ≤ 4398046511104) (hk : ¬ elOk (g, rels) W) :
    FC Try.prog 55 [(1004, wRo W), (1003, rowsRo rels)] [pA g rels.length, o1 (.sl 1004 0 W.length)] [] (.tup [.one (.val (.slice none 0 0)), .one (.val (I6 (elC (g, rels) W)))]) [] := by
  have hI := isPres_fc g rels h1
  refine fc_enter (nt := 20) Try.func55 rfl rfl (by simp) fun w0 ω0 => ?_
  unfold elC
  by_cases k1 : isPres (g, rels) = true
  · obtain ⟨ng, rfl, hG⟩ := good_nil k1
    rw [k1] at hI
    rw [if_pos k1]
    have hW := implWord_fc ng W (by omega) (by have := hG.hi; omega) h2
    (refine goes_seq ?_; refine goes_region ?_; apply run_step rfl; (exact stp_box rfl rfl rfl rfl); apply run_step rfl; (exact stp_assign rfl rfl); apply run_step rfl; (exact stp_assign rfl rfl); refine run_nil ?_; refine fin_seq ?_; refine goes_seq ?_; refine goes_block ?_; refine goes_seq ?_; refine goes_region ?_; apply run_step rfl; (exact stp_loadAgg rfl rfl rfl rfl rfl rfl (by as_aux_lemma => kernel_rfl)); apply run_step rfl; (apply call_gate 46; exact stp_callR hI (by as_aux_lemma => kernel_rfl) rfl rfl ⟨⟨.inl rfl, .inl rfl, trivial⟩, trivial⟩ ⟨⟨_, rfl, .inl rfl⟩, trivial⟩ rfl rfl); apply run_step rfl; (exact stp_not rfl rfl); apply run_step rfl; (exact stp_assign rfl rfl); refine run_nil ?_; refine fin_seq ?_)
    refine goes_cond rfl (fun e => by cases e) (fun _ => ?_)
    by_cases k2 : isWordTo ((ng : Int) - 1) W = true
    · rw [k2] at hW
      have k3 : ¬ smallOk ((ng : Int), rels) [] = true := fun h => hk ⟨k1, k2, h⟩
      rw [if_pos k2, if_neg k3]
      have hS := (implSmall_no hG k3).nilW
      (refine goes_seq ?_; refine goes_region ?_; apply run_step rfl; (exact stp_move rfl rfl); apply run_step rfl; (exact stp_fieldAddr (d := 0) rfl rfl rfl (by as_aux_lemma => kernel_rfl)); apply run_step rfl; (exact stp_loadF rfl (by as_aux_lemma => kernel_rfl) rfl rfl rfl rfl); apply run_step rfl; (apply call_gate 70; exact stp_callR hW (by as_aux_lemma => kernel_rfl) rfl rfl ⟨rfl, rfl, trivial⟩ ⟨⟨_, rfl, .inl rfl⟩, trivial⟩ rfl rfl); apply run_step rfl; (exact stp_not rfl rfl); apply run_step rfl; (exact stp_assign rfl rfl); refine run_nil ?_; refine fin_seq ?_)
      refine goes_cond rfl (fun e => by cases e) (fun _ => ?_)
      (refine goes_skip ?_; refine fin_block ?_; refine fin_seq ?_; refine goes_seq ?_; refine goes_region ?_; apply run_step rfl; (exact stp_loadAgg rfl rfl rfl rfl rfl rfl (by as_aux_lemma => kernel_rfl)); apply run_step rfl; (apply call_gate 60; exact stp_callR hS (by as_aux_lemma => kernel_rfl) rfl rfl ⟨⟨.inl rfl, .inl rfl, trivial⟩, rfl, trivial⟩ ⟨⟨_, rfl, .inl rfl⟩, trivial⟩ rfl rfl); apply run_step rfl; (exact stp_extract rfl rfl rfl); apply run_step rfl; (exact stp_extract rfl rfl rfl); apply run_step rfl; (exact stp_assign rfl rfl); apply run_step rfl; (exact stp_assign rfl rfl); refine run_nil ?_; refine fin_seq ?_; refine goes_ret ?_)
      exact fin_ret2 (.inl rfl) rfl (.tmp rfl) (.tmp rfl) trivial trivial
    · rw [if_neg k2]
      have k2' : isWordTo ((ng : Int) - 1) W = false := by simpa using k2
      rw [k2'] at hW
      (refine goes_seq ?_; refine goes_region ?_; apply run_step rfl; (exact stp_move rfl rfl); apply run_step rfl; (exact stp_fieldAddr (d := 0) rfl rfl rfl (by as_aux_lemma => kernel_rfl)); apply run_step rfl; (exact stp_loadF rfl (by as_aux_lemma => kernel_rfl) rfl rfl rfl rfl); apply run_step rfl; (apply call_gate 70; exact stp_callR hW (by as_aux_lemma => kernel_rfl) rfl rfl ⟨rfl, rfl, trivial⟩ ⟨⟨_, rfl, .inl rfl⟩, trivial⟩ rfl rfl); apply run_step rfl; (exact stp_not rfl rfl); apply run_step rfl; (exact stp_assign rfl rfl); refine run_nil ?_; refine fin_seq ?_)
      refine goes_cond rfl (fun _ => ?_) (fun e => by cases e)
      (refine goes_seq ?_; refine goes_region ?_; apply run_step rfl; (exact stp_assign rfl rfl); apply run_step rfl; (exact stp_assign rfl rfl); refine run_nil ?_; refine fin_seq ?_; refine goes_ret ?_; refine fin_ret_block ?_; refine fin_ret_then ?_)
      exact fin_ret2 (.inl rfl) rfl (.tmp rfl) (.tmp rfl) trivial trivial
  · have k1' : isPres (g, rels) = false := by simpa using k1
    rw [k1'] at hI
    rw [if_neg k1]
    (refine goes_seq ?_; refine goes_region ?_; apply run_step rfl; (exact stp_box rfl rfl rfl rfl); apply run_step rfl; (exact stp_assign rfl rfl); apply run_step rfl; (exact stp_assign rfl rfl); refine run_nil ?_; refine fin_seq ?_; refine goes_seq ?_; refine goes_block ?_; refine goes_seq ?_; refine goes_region ?_; apply run_step rfl; (exact stp_loadAgg rfl rfl rfl rfl rfl rfl (by as_aux_lemma => kernel_rfl)); apply run_step rfl; (apply call_gate 46; exact stp_callR hI (by as_aux_lemma => kernel_rfl) rfl rfl ⟨⟨.inl rfl, .inl rfl, trivial⟩, trivial⟩ ⟨⟨_, rfl, .inl rfl⟩, trivial⟩ rfl rfl); apply run_step rfl; (exact stp_not rfl rfl); apply run_step rfl; (exact stp_assign rfl rfl); refine run_nil ?_; refine fin_seq ?_)
    refine goes_cond rfl (fun _ => ?_) (fun e => by cases e)
    (refine goes_seq ?_; refine goes_region ?_; apply run_step rfl; (exact stp_assign rfl rfl); apply run_step rfl; (exact stp_assign rfl rfl); refine run_nil ?_; refine fin_seq ?_; refine goes_ret ?_; refine fin_ret_block ?_; refine fin_ret_then ?_)
    exact fin_ret2 (.inl rfl) rfl (.tmp rfl) (.tmp rfl) trivial trivial

def idR (d : PresD) (W : List Int) : Bool := if elC d W = 0 then leadL (cosTab d []) 0 W == 0 else false
theorem elC_ok {d : PresD} {W : List Int} (h : elOk d W) : elC d W = 0 := by unfold elC; rw [if_pos h.1, if_pos h.2.1, if_pos h.2.2]
theorem elC_no {d : PresD} {W : List Int} (h : ¬ elOk d W) : elC d W ≠ 0 := by
  unfold elC
  split
  · split
    · split
      · exact fun _ => h ⟨by assumption, by assumption, by assumption⟩
      · decide
    · decide
  · decide
theorem word_of {ng : Nat} {rels : List (List Int)} {W : List Int} (hk : elOk ((ng : Int), rels) W) : (∀ z ∈ W, 0 ≤ z ∧ z < (cosTab ((ng : Int), rels) []).length) ∧ W.length ≤ 1000000000 := by
  have := isWordTo_spec (ng := ng) rfl hk.2.1
  refine ⟨fun z hz => ?_, by omega⟩
  rw [cosTab_len]; exact this.1 z hz
set_option maxRecDepth 100000 in
set_option maxHeartbeats 1000000 in
theorem specId_fc (g : Int) (rels : List (List Int)) (W : List Int) (h1 : Fit rels) (h2 : W.length ≤ 4398046511104) :
    FC Try.prog 23 [(1004, wRo W), (1003, rowsRo rels)] [pA g rels.length, o1 (.sl 1004 0 W.length)] [] (.tup [.one (.val (.bool (idR (g, rels) W))), .one (.val (I6 (elC (g, rels) W)))]) [] := by
  refine fc_enter (nt := 21) Try.func23 rfl rfl (by simp) fun w0 ω0 => ?_
  by_cases hk : elOk (g, rels) W
  · obtain ⟨ng, rfl, hG⟩ := good_nil hk.1
    have hE := specEl_yes h1 h2 hG hk
    have hs := smallOk_run hk.2.2
    have hw := word_of hk
    have hL : FC Try.prog 54 [(1005, imRo (cosTab ((ng : Int), rels) [])), (1004, wRo W)] [o1 (.sl 1005 0 ng), vv (I6 (0 : Nat)), o1 (.sl 1004 0 W.length)] [] (vv (I6 (leadL (cosTab ((ng : Int), rels) []) (0 : Nat) W))) [] :=
      specLead_fc _ W 0 _ ng (cosTab_len _ _ _) (cosTab_leads hG hs.1) (cosN_pos hG hs.1) (by omega) (by have := hG.hi; omega) hw.1 hw.2
    have hc := elC_ok hk
    unfold idR
    rw [hc, if_pos rfl]
    generalize cosTab ((ng : Int), rels) [] = T at *
    (refine goes_seq ?_; refine goes_region ?_; apply run_step rfl; (exact stp_box rfl rfl rfl rfl); apply run_step rfl; (exact stp_assign rfl rfl); apply run_step rfl; (exact stp_assign rfl rfl); refine run_nil ?_; refine fin_seq ?_; refine goes_seq ?_; refine goes_region ?_; apply run_step rfl; (exact stp_loadAgg rfl rfl rfl rfl rfl rfl (by as_aux_lemma => kernel_rfl)); apply run_step rfl; (exact stp_move rfl rfl); apply run_step rfl; (apply call_gate 53; exact stp_callN hE (by as_aux_lemma => kernel_rfl) rfl rfl ⟨⟨.inl rfl, .inl rfl, trivial⟩, rfl, trivial⟩ ⟨⟨_, rfl, .inl rfl⟩, ⟨_, rfl, .inl rfl⟩, trivial⟩ rfl rfl rfl); apply run_step rfl; (exact stp_move rfl rfl); apply run_step rfl; (exact stp_extract rfl rfl rfl); apply run_step rfl; (exact stp_extract rfl rfl rfl); apply run_step rfl; (exact stp_assign rfl rfl); apply run_step rfl; (exact stp_assign rfl rfl); refine run_nil ?_; refine fin_seq ?_; refine goes_seq ?_; refine goes_seq ?_; refine goes_region ?_; apply run_step rfl; (exact stp_move rfl rfl); apply run_step rfl; (exact stp_bin rfl rfl rfl rfl); refine run_nil ?_; refine fin_seq ?_)
    refine goes_cond rfl (fun e => by cases e) (fun _ => ?_)
    (refine goes_skip ?_; refine fin_seq ?_; refine goes_seq ?_; refine goes_region ?_; apply run_step rfl; (exact stp_move rfl rfl); apply run_step rfl; (exact stp_move rfl rfl); apply run_step rfl; (apply call_gate 54; exact stp_callR hL (by as_aux_lemma => kernel_rfl) rfl rfl ⟨rfl, rfl, rfl, trivial⟩ ⟨⟨_, rfl, .inr rfl⟩, ⟨_, rfl, .inl rfl⟩, trivial⟩ rfl rfl); apply run_step rfl; (exact stp_bin rfl rfl rfl rfl); apply run_step rfl; (exact stp_assign rfl rfl); apply run_step rfl; (exact stp_assign rfl rfl); refine run_nil ?_; refine fin_seq ?_; refine goes_ret ?_)
    exact fin_ret2 (.inl rfl) rfl (.tmp rfl) (.tmp rfl) trivial trivial
  · have hE := specEl_no h1 h2 hk
    have hc := elC_no hk
    unfold idR
    rw [if_neg hc]
    (refine goes_seq ?_; refine goes_region ?_; apply run_step rfl; (exact stp_box rfl rfl rfl rfl); apply run_step rfl; (exact stp_assign rfl rfl); apply run_step rfl; (exact stp_assign rfl rfl); refine run_nil ?_; refine fin_seq ?_; refine goes_seq ?_; refine goes_region ?_; apply run_step rfl; (exact stp_loadAgg rfl rfl rfl rfl rfl rfl (by as_aux_lemma => kernel_rfl)); apply run_step rfl; (exact stp_move rfl rfl); apply run_step rfl; (apply call_gate 53; exact stp_callR hE (by as_aux_lemma => kernel_rfl) rfl rfl ⟨⟨.inl rfl, .inl rfl, trivial⟩, rfl, trivial⟩ ⟨⟨_, rfl, .inl rfl⟩, ⟨_, rfl, .inl rfl⟩, trivial⟩ rfl rfl); apply run_step rfl; (exact stp_move rfl rfl); apply run_step rfl; (exact stp_extract rfl rfl rfl); apply run_step rfl; (exact stp_extract rfl rfl rfl); apply run_step rfl; (exact stp_assign rfl rfl); apply run_step rfl; (exact stp_assign rfl rfl); refine run_nil ?_; refine fin_seq ?_; refine goes_seq ?_; refine goes_seq ?_; refine goes_region ?_; apply run_step rfl; (exact stp_move rfl rfl); apply run_step rfl; (exact stp_bin rfl rfl rfl rfl); refine run_nil ?_; refine fin_seq ?_)
    refine goes_cond rfl (fun _ => ?_) (fun e => ?_)
    · (refine goes_seq ?_; refine goes_region ?_; apply run_step rfl; (exact stp_move rfl rfl); apply run_step rfl; (exact stp_assign rfl rfl); apply run_step rfl; (exact stp_assign rfl rfl); refine run_nil ?_; refine fin_seq ?_; refine goes_ret ?_; refine fin_ret_then ?_)
      exact fin_ret2 (.inl rfl) rfl (.tmp rfl) (.tmp rfl) trivial trivial
    · exfalso; simp at e; exact hc e
set_option maxRecDepth 100000 in
set_option maxHeartbeats 1000000 in
theorem implId_fc (g : Int) (rels : List (List Int)) (W : List Int) (h1 : Fit rels) (h2 : W.length ≤ 4398046511104) :
    FC Try.prog 25 [(1004, wRo W), (1003, rowsRo rels)] [pA g rels.length, o1 (.sl 1004 0 W.length)] [] (.tup [.one (.val (.bool (idR (g, rels) W))), .one (.val (I6 (elC (g, rels) W)))]) [] := by
  refine fc_enter (nt := 23) Try.func25 rfl rfl (by simp) fun w0 ω0 => ?_
  by_cases hk : elOk (g, rels) W
  · obtain ⟨ng, rfl, hG⟩ := good_nil hk.1
    have hE := implEl_yes h1 h2 hG hk
    have hs := smallOk_run hk.2.2
    have hw := word_of hk
    have hL : FC Try.prog 56 [(1005, imRo (cosTab ((ng : Int), rels) [])), (1004, wRo W)] [o1 (.sl 1005 0 ng), o1 (.sl 1004 0 W.length), vv (I6 (0 : Nat))] [] (vv (I6 (leadL (cosTab ((ng : Int), rels) []) (0 : Nat) W))) [] :=
      implLead_fc _ W 0 _ ng (cosTab_len _ _ _) (cosTab_leads hG hs.1) (cosN_pos hG hs.1) (by omega) (by have := hG.hi; omega) hw.1 hw.2
    have hc := elC_ok hk
    unfold idR
    rw [hc, if_pos rfl]
    generalize cosTab ((ng : Int), rels) [] = T at *
    (refine goes_seq ?_; refine goes_region ?_; apply run_step rfl; (exact stp_box rfl rfl rfl rfl); apply run_step rfl; (exact stp_assign rfl rfl); apply run_step rfl; (exact stp_assign rfl rfl); refine run_nil ?_; refine fin_seq ?_; refine goes_seq ?_; refine goes_region ?_; apply run_step rfl; (exact stp_loadAgg rfl rfl rfl rfl rfl rfl (by as_aux_lemma => kernel_rfl)); apply run_step rfl; (exact stp_move rfl rfl); apply run_step rfl; (first | (apply call_gate 55; exact stp_callN hE (by as_aux_lemma => kernel_rfl) rfl rfl ⟨⟨.inl rfl, .inl rfl, trivial⟩, rfl, trivial⟩ ⟨⟨_, rfl, .inl rfl⟩, ⟨_, rfl, .inl rfl⟩, trivial⟩ rfl rfl rfl) | (apply call_gate 56; exact stp_callR hL (by as_aux_lemma => kernel_rfl) rfl rfl ⟨rfl, rfl, rfl, trivial⟩ ⟨⟨_, rfl, .inr rfl⟩, ⟨_, rfl, .inl rfl⟩, trivial⟩ rfl rfl)); apply run_step rfl; (exact stp_move rfl rfl); apply run_step rfl; (exact stp_extract rfl rfl rfl); apply run_step rfl; (exact stp_extract rfl rfl rfl); apply run_step rfl; (exact stp_assign rfl rfl); apply run_step rfl; (exact stp_assign rfl rfl); refine run_nil ?_; refine fin_seq ?_; refine goes_seq ?_; refine goes_region ?_; apply run_step rfl; (exact stp_move rfl rfl); apply run_step rfl; (exact stp_bin rfl rfl rfl rfl); apply run_step rfl; (exact stp_move rfl rfl); apply run_gYes rfl rfl rfl; (exact stp_move rfl rfl); apply run_gYes rfl rfl rfl; (exact stp_move rfl rfl); apply run_gYes rfl rfl rfl; (first | (apply call_gate 55; exact stp_callN hE (by as_aux_lemma => kernel_rfl) rfl rfl ⟨⟨.inl rfl, .inl rfl, trivial⟩, rfl, trivial⟩ ⟨⟨_, rfl, .inl rfl⟩, ⟨_, rfl, .inl rfl⟩, trivial⟩ rfl rfl rfl) | (apply call_gate 56; exact stp_callR hL (by as_aux_lemma => kernel_rfl) rfl rfl ⟨rfl, rfl, rfl, trivial⟩ ⟨⟨_, rfl, .inr rfl⟩, ⟨_, rfl, .inl rfl⟩, trivial⟩ rfl rfl)); apply run_gYes rfl rfl rfl; (exact stp_bin rfl rfl rfl rfl); apply run_step rfl; (exact stp_pickT rfl rfl rfl); apply run_step rfl; (exact stp_move rfl rfl); apply run_step rfl; (exact stp_assign rfl rfl); apply run_step rfl; (exact stp_assign rfl rfl); refine run_nil ?_; refine fin_seq ?_; refine goes_ret ?_)
    exact fin_ret2 (.inl rfl) rfl (.tmp rfl) (.tmp rfl) trivial trivial
  · have hE := implEl_no h1 h2 hk
    have hc := elC_no hk
    unfold idR
    rw [if_neg hc]
    (refine goes_seq ?_; refine goes_region ?_; apply run_step rfl; (exact stp_box rfl rfl rfl rfl); apply run_step rfl; (exact stp_assign rfl rfl); apply run_step rfl; (exact stp_assign rfl rfl); refine run_nil ?_; refine fin_seq ?_; refine goes_seq ?_; refine goes_region ?_; apply run_step rfl; (exact stp_loadAgg rfl rfl rfl rfl rfl rfl (by as_aux_lemma => kernel_rfl)); apply run_step rfl; (exact stp_move rfl rfl); apply run_step rfl; (apply call_gate 55; exact stp_callR hE (by as_aux_lemma => kernel_rfl) rfl rfl ⟨⟨.inl rfl, .inl rfl, trivial⟩, rfl, trivial⟩ ⟨⟨_, rfl, .inl rfl⟩, ⟨_, rfl, .inl rfl⟩, trivial⟩ rfl rfl); apply run_step rfl; (exact stp_move rfl rfl); apply run_step rfl; (exact stp_extract rfl rfl rfl); apply run_step rfl; (exact stp_extract rfl rfl rfl); apply run_step rfl; (exact stp_assign rfl rfl); apply run_step rfl; (exact stp_assign rfl rfl); refine run_nil ?_; refine fin_seq ?_; refine goes_seq ?_; refine goes_region ?_; apply run_step rfl; (exact stp_move rfl rfl); apply run_step rfl; (exact stp_bin rfl rfl rfl rfl); apply run_step rfl; (exact stp_move rfl rfl))
    refine run_bool 16 rfl (fun e => ?_) (fun e => ?_)
    · exfalso; simp at e; exact hc e
    · (apply run_gNo rfl rfl rfl rfl rfl; apply run_gNo rfl rfl rfl rfl rfl; apply run_gNo rfl rfl rfl rfl rfl; apply run_gNo rfl rfl rfl rfl rfl; apply run_step rfl; (exact stp_pickF rfl rfl rfl); apply run_step rfl; (exact stp_move rfl rfl); apply run_step rfl; (exact stp_assign rfl rfl); apply run_step rfl; (exact stp_assign rfl rfl); refine run_nil ?_; refine fin_seq ?_; refine goes_ret ?_)
      exact fin_ret2 (.inl rfl) rfl (.tmp rfl) (.tmp rfl) trivial trivial

/-! in words -/
theorem len_of {E : Nat} {w : World} {lo hi : Nat} {v : Value} {zs : List Int} (h : OwnS E w lo hi v zs) : zs.length ≤ 4398046511104 := by
  obtain ⟨⟨ao, n, c, rfl, ho⟩, _⟩ := h
  have h1 := ho.len
  rw [List.length_map] at h1
  have h2 := ho.2
  omega
theorem callPS {f : FuncId} {outs : List (Nm × Ch)} {res : AV} {d : PresD} {W : List Int} (hf : Fit d.2 → W.length ≤ 4398046511104 → FC Try.prog f [(1004, wRo W), (1003, rowsRo d.2)] [pA d.1 d.2.length, o1 (.sl 1004 0 W.length)] outs res []) {E1 E E' : Nat} {w : World} {lo hi lo' hi' : Nat} {v v' : Value} (h : OwP E1 E w lo hi v d) (h' : OwnS E' w lo' hi' v' W) :
    Calls Try.prog f #[v, v'] w fun e w' => ∃ v η ω, e = .returned v ∧ Den η res v ∧ Mem η ω w' (fun x => lk x outs) ∧ Below w.heap.size w w' ∧ ∀ b, b < w.heap.size → ω b = none := by
  obtain ⟨u, rfl, hs⟩ := ofP h
  obtain ⟨hd, r, rfl, hv⟩ := ofSS 1003 37 2 hs
  obtain ⟨hd', r', rfl, hv'⟩ := ofS 1004 2 h'.1
  exact (hf (fit_of hs) (len_of h')).call (l := [(1004, (wRo W, hd', r')), (1003, (rowsRo d.2, hd, r))]) (us := [_, _]) (fun p hp => by simp at hp; rcases hp with rfl | rfl; exact hv'; exact hv) rfl
    (denL2 (denP (den_sl (q := (rowsRo d.2, hd, r)) rfl)) (den_sl (q := (wRo W, hd', r')) rfl))
theorem api_specId {E1 E E' : Nat} {lo hi lo' hi' : Nat} {v v' : Value} {d : PresD} {W : List Int} (w : World) (h : OwP E1 E w lo hi v d) (h' : OwnS E' w lo' hi' v' W) :
    Calls Try.prog 23 #[v, v'] w fun e w' => e = .returned (.tuple #[.bool (idR d W), .int .i64 (elC d W)]) ∧ Below w.heap.size w w' := two_vals (callPS (fun k1 k2 => specId_fc d.1 d.2 W k1 k2) h h')
theorem api_implId {E1 E E' : Nat} {lo hi lo' hi' : Nat} {v v' : Value} {d : PresD} {W : List Int} (w : World) (h : OwP E1 E w lo hi v d) (h' : OwnS E' w lo' hi' v' W) :
    Calls Try.prog 25 #[v, v'] w fun e w' => e = .returned (.tuple #[.bool (idR d W), .int .i64 (elC d W)]) ∧ Below w.heap.size w w' := two_vals (callPS (fun k1 k2 => implId_fc d.1 d.2 W k1 k2) h h')
end Go.Proofs.Ytpjglifijdcgnaa

/- Orders of words: l11Order, periodOf; OrderOfElement. -/
namespace Go.Proofs.Ytpjglifijdcgnaa
open Go.RowKit

/-- each list of the table is its own inverse -/
def Invol (T : List (List Int)) (m : Nat) : Prop := ∀ g, g < T.length → ∀ x, x < m → iget (lget T g) (iget (lget T g) x).toNat = (x : Int)
theorem leadL_inj {T : List (List Int)} {m : Nat} (hT : Leads T m) (hI : Invol T m) : ∀ (W : List Int), (∀ z ∈ W, 0 ≤ z ∧ z < T.length) → ∀ x y : Int, 0 ≤ x ∧ x < m → 0 ≤ y ∧ y < m → leadL T x W = leadL T y W → x = y
  | [], _, x, y, _, _, h => h
  | g :: r, hW, x, y, hx, hy, h => by
    have hg := hW g (by simp)
    have e := leadL_inj hT hI r (fun z hz => hW z (by simp [hz])) (iget (lget T g.toNat) x.toNat) (iget (lget T g.toNat) y.toNat) (hT.within g.toNat (by omega) x.toNat (by omega)) (hT.within g.toNat (by omega) y.toNat (by omega)) h
    have e1 := hI g.toNat (by omega) x.toNat (by omega)
    have e2 := hI g.toNat (by omega) y.toNat (by omega)
    rw [e] at e1
    omega
/-- where a word leads 0, k times -/
def orbN (T : List (List Int)) (W : List Int) : Nat → Nat
  | 0 => 0
  | k + 1 => (leadL T (orbN T W k : Nat) W).toNat
section
variable {T : List (List Int)} {W : List Int} {m : Nat}
theorem orbN_lt (hT : Leads T m) (hm : 0 < m) (hW : ∀ z ∈ W, 0 ≤ z ∧ z < T.length) : ∀ k, orbN T W k < m
  | 0 => hm
  | k + 1 => by
    have := orbN_lt hT hm hW k
    have := hT.lead (c := (orbN T W k : Nat)) (by omega) hW
    unfold orbN; omega
theorem orbN_lead (hT : Leads T m) (hm : 0 < m) (hW : ∀ z ∈ W, 0 ≤ z ∧ z < T.length) (k : Nat) : leadL T (orbN T W k : Nat) W = (orbN T W (k + 1) : Nat) := by
  have := orbN_lt hT hm hW k
  have := hT.lead (c := (orbN T W k : Nat)) (by omega) hW
  show _ = (((leadL T (orbN T W k : Nat) W).toNat : Nat) : Int)
  omega
theorem orbN_back (hT : Leads T m) (hI : Invol T m) (hm : 0 < m) (hW : ∀ z ∈ W, 0 ≤ z ∧ z < T.length) : ∀ i d, orbN T W i = orbN T W (i + d) → orbN T W d = 0
  | 0, d, h => by rw [Nat.zero_add] at h; exact h.symm
  | i + 1, d, h => by
    have h1 := orbN_lt hT hm hW i
    have h2 := orbN_lt hT hm hW (i + d)
    have e : leadL T (orbN T W i : Nat) W = leadL T (orbN T W (i + d) : Nat) W := by
      rw [orbN_lead hT hm hW, orbN_lead hT hm hW, h, show i + d + 1 = i + 1 + d by omega]
    have := leadL_inj hT hI W hW _ _ (by omega) (by omega) e
    exact orbN_back hT hI hm hW i d (by omega)
end
theorem pigeon : ∀ (m n : Nat) (f : Nat → Nat), (∀ i, i < n → f i < m) → (∀ i j, i < n → j < n → f i = f j → i = j) → n ≤ m
  | 0, n, f, h, _ => by
    rcases Nat.eq_zero_or_pos n with e | e
    · omega
    · have := h 0 e; omega
  | m + 1, 0, f, _, _ => Nat.zero_le _
  | m + 1, n + 1, f, h, hi => by
    have := pigeon m n (fun i => if f i = m then f n else f i) (fun i hin => by
      have h1 := h i (by omega)
      have h2 := h n (by omega)
      have h3 := hi i n (by omega) (by omega)
      split <;> omega) (fun i j hin hjn e => by
      have h3 := hi i n (by omega) (by omega)
      have h4 := hi j n (by omega) (by omega)
      have h5 := hi i j (by omega) (by omega)
      split at e <;> split at e <;> omega)
    omega
def ordR (T : List (List Int)) (W : List Int) (m : Nat) : Int := match (List.range m).find? (fun k => orbN T W (k + 1) == 0) with
  | some k => ((k + 1 : Nat) : Int)
  | none => 0
theorem ord_spec {T : List (List Int)} {W : List Int} {m : Nat} (hT : Leads T m) (hI : Invol T m) (hm : 0 < m) (hW : ∀ z ∈ W, 0 ≤ z ∧ z < T.length) : ∃ p : Nat, ordR T W m = (p : Int) ∧ 1 ≤ p ∧ p ≤ m ∧ orbN T W p = 0 ∧ ∀ j, 1 ≤ j → j < p → orbN T W j ≠ 0 := by
  unfold ordR
  cases hf : (List.range m).find? (fun k => orbN T W (k + 1) == 0) with
  | some k =>
    rw [List.find?_range_eq_some] at hf
    obtain ⟨h1, h2, h3⟩ := hf
    rw [List.mem_range] at h2
    refine ⟨k + 1, rfl, by omega, by omega, by simpa using h1, fun j hj hjk => ?_⟩
    have := h3 (j - 1) (by omega)
    rw [show j - 1 + 1 = j by omega] at this
    simpa using this
  | none =>
    exfalso
    rw [List.find?_eq_none] at hf
    have hne : ∀ d, 1 ≤ d → d ≤ m → orbN T W d ≠ 0 := fun d h1 h2 => by
      have := hf (d - 1) (List.mem_range.2 (by omega))
      rw [show d - 1 + 1 = d by omega] at this
      simpa using this
    have := pigeon m (m + 1) (orbN T W) (fun i _ => orbN_lt hT hm hW i) (fun i j hi hj e => by
      rcases Nat.lt_trichotomy i j with h | h | h
      · exact absurd (orbN_back hT hI hm hW i (j - i) (by rw [show i + (j - i) = j by omega]; exact e)) (hne _ (by omega) (by omega))
      · exact h
      · exact absurd (orbN_back hT hI hm hW j (i - j) (by rw [show j + (i - j) = i by omega]; exact e.symm)) (hne _ (by omega) (by omega)))
    omega
theorem cosTab_invol {ng : Nat} {rels ws : List (List Int)} (h : Good ng rels ws) (hf : (runC ng rels ws).2.2 = false) : Invol (cosTab ((ng : Int), rels) ws) (cosN ((ng : Int), rels) ws) := fun k hk x hx => by
  rw [cosTab_len] at hk
  have hF := full_run h.rl h.wl hf
  rw [cosTab_nat]
  rw [cosN_nat] at hx
  have hr := tableC_entry hF hx hk
  have hb := tEnt_back hF (runC_back h.rl h.wl).2 hx hk
  have he : ∀ y, y < (numbered ng (runC ng rels ws).1 (runC ng rels ws).2.1).1.length → iget (lget (tableC ng (runC ng rels ws).1 (runC ng rels ws).2.1) k) y = tEnt ng (runC ng rels ws).1 (runC ng rels ws).2.1 y k := fun y hy => by
    simp [tableC, lget, iget, hk, hy, tEnt]
  have hr : 0 ≤ tEnt ng (runC ng rels ws).1 (runC ng rels ws).2.1 x k ∧ tEnt ng (runC ng rels ws).1 (runC ng rels ws).2.1 x k < _ := hr
  rw [he x hx, he _ (by omega)]
  exact hb

set_option maxRecDepth 100000 in
set_option maxHeartbeats 1000000 in
theorem specOrder_fc (T : List (List Int)) (W : List Int) (m n : Nat) (hn : T.length = n) (hT : Leads T m) (hI : Invol T m) (hm : 0 < m) (hm4 : m ≤ 1000000) (hn4 : n ≤ 1000000) (hW : ∀ z ∈ W, 0 ≤ z ∧ z < T.length) (hWl : W.length ≤ 1000000000) :
    FC Try.prog 57 [(1005, imRo T), (1004, wRo W)] [o1 (.sl 1005 0 n), o1 (.sl 1004 0 W.length)] [] (vv (I6 (ordR T W m))) [] := by
  obtain ⟨p, hp0, hp1, hp2, hp3, hp4⟩ := ord_spec hT hI hm hW
  have hL : ∀ k, FC Try.prog 54 [(1005, imRo T), (1004, wRo W)] [o1 (.sl 1005 0 n), vv (I6 (orbN T W k : Nat)), o1 (.sl 1004 0 W.length)] [] (vv (I6 (orbN T W (k + 1) : Nat))) [] := fun k => by
    have := specLead_fc T W (orbN T W k) m n hn hT (orbN_lt hT hm hW k) hm4 hn4 hW hWl
    rwa [orbN_lead hT hm hW] at this
  have hL0 : FC Try.prog 54 [(1005, imRo T), (1004, wRo W)] [o1 (.sl 1005 0 n), vv (I6 0), o1 (.sl 1004 0 W.length)] [] (vv (I6 (orbN T W 1 : Nat))) [] := hL 0
  refine fc_enter (nt := 19) Try.func57 rfl rfl (by simp) fun w0 ω0 => ?_
  (refine goes_seq ?_; refine goes_region ?_; apply run_step rfl; (exact stp_assign rfl rfl); refine run_nil ?_; refine fin_seq ?_; refine goes_seq ?_; refine goes_region ?_; apply run_step rfl; (exact stp_assign rfl rfl); refine run_nil ?_; refine fin_seq ?_; refine goes_seq ?_; refine goes_seq ?_; refine goes_region ?_; apply run_step rfl; (exact stp_move rfl rfl); apply run_step rfl; (exact stp_move rfl rfl); apply run_step rfl; (apply call_gate 54; exact stp_callR hL0 (by as_aux_lemma => kernel_rfl) rfl rfl ⟨rfl, rfl, rfl, trivial⟩ ⟨⟨_, rfl, .inl rfl⟩, ⟨_, rfl, .inl rfl⟩, trivial⟩ rfl rfl); apply run_step rfl; (exact stp_assign rfl rfl); refine run_nil ?_; refine fin_seq ?_; refine goes_block ?_)
  refine goes_loop (fun k : Nat => St.of [(0, o1 (.sl 1005 0 n)), (1, o1 (.sl 1004 0 W.length)), (5, vv (I6 (k : Nat))), (6, vv (I6 (orbN T W k : Nat)))] [(1005, imRo T), (1004, wRo W)]) (fun k => 1 ≤ k ∧ k ≤ p) (fun k => p - k) 1 ⟨Nat.le_refl _, hp1⟩ (Wk.of ⟨rfl, rfl, rfl, rfl, trivial⟩ ⟨rfl, rfl, trivial⟩ trivial) ?_
  rintro k ⟨hk1, hk2⟩
  have hLk := hL k
  (refine goes_seq ?_; refine goes_seq ?_; refine goes_region ?_; apply run_step rfl; (exact stp_move rfl rfl); apply run_step rfl; (exact stp_bin rfl rfl rfl rfl); refine run_nil ?_; refine fin_seq ?_)
  refine goes_cond rfl (fun hne => ?_) (fun hne => ?_)
  · have hlt : k < p := by
      rcases Nat.lt_or_ge k p with h | h
      · exact h
      · exfalso
        obtain rfl : k = p := by omega
        simp [hp3] at hne
    (refine goes_skip ?_; refine fin_seq ?_; refine goes_seq ?_; refine goes_block ?_; refine goes_region ?_; apply run_step rfl; (exact stp_move rfl rfl); apply run_step rfl; (exact stp_move rfl rfl); apply run_step rfl; (exact stp_move rfl rfl); apply run_step rfl; (apply call_gate 54; exact stp_callR hLk (by as_aux_lemma => kernel_rfl) rfl rfl ⟨rfl, rfl, rfl, trivial⟩ ⟨⟨_, rfl, .inl rfl⟩, ⟨_, rfl, .inl rfl⟩, trivial⟩ rfl rfl); apply run_step rfl; (exact stp_assign rfl rfl); refine run_nil ?_; refine fin_block ?_; refine fin_seq ?_; refine goes_region ?_; apply run_step rfl; (exact stp_move rfl rfl); apply run_step rfl; (exact stp_add rfl rfl rfl (by first | exact IntWalk.i64_in _ (by omega) | rfl)); apply run_step rfl; (exact stp_assign rfl rfl); refine run_nil ?_)
    exact fin_round (k + 1) ⟨by omega, hlt⟩ (by omega) (Wk.of ⟨rfl, rfl, rfl, rfl, trivial⟩ ⟨rfl, rfl, trivial⟩ trivial)
  · have h0 : orbN T W k = 0 := by simpa using hne
    obtain rfl : k = p := by
      rcases Nat.lt_or_ge k p with h | h
      · exact absurd h0 (hp4 k hk1 h)
      · omega
    rw [hp0]
    (refine goes_exit ?_; refine fin_exit_then ?_; refine fin_exit_then ?_; refine fin_exit_eq ?_; refine fin_seq ?_; refine goes_seq ?_; refine goes_region ?_; apply run_step rfl; (exact stp_move rfl rfl); apply run_step rfl; (exact stp_assign rfl rfl); refine run_nil ?_; refine fin_seq ?_; refine goes_ret ?_)
    exact fin_ret1 (.inl rfl) rfl (.tmp rfl) trivial trivial
set_option maxRecDepth 100000 in
set_option maxHeartbeats 1000000 in
theorem implOrder_fc (T : List (List Int)) (W : List Int) (m n : Nat) (hn : T.length = n) (hT : Leads T m) (hI : Invol T m) (hm : 0 < m) (hm4 : m ≤ 1000000) (hn4 : n ≤ 1000000) (hW : ∀ z ∈ W, 0 ≤ z ∧ z < T.length) (hWl : W.length ≤ 1000000000) :
    FC Try.prog 58 [(1005, imRo T), (1004, wRo W)] [o1 (.sl 1005 0 n), o1 (.sl 1004 0 W.length)] [] (vv (I6 (ordR T W m))) [] := by
  obtain ⟨p, hp0, hp1, hp2, hp3, hp4⟩ := ord_spec hT hI hm hW
  have hL : ∀ k, FC Try.prog 56 [(1005, imRo T), (1004, wRo W)] [o1 (.sl 1005 0 n), o1 (.sl 1004 0 W.length), vv (I6 (orbN T W k : Nat))] [] (vv (I6 (orbN T W (k + 1) : Nat))) [] := fun k => by
    have := implLead_fc T W (orbN T W k) m n hn hT (orbN_lt hT hm hW k) hm4 hn4 hW hWl
    rwa [orbN_lead hT hm hW] at this
  have hL0 : FC Try.prog 56 [(1005, imRo T), (1004, wRo W)] [o1 (.sl 1005 0 n), o1 (.sl 1004 0 W.length), vv (I6 0)] [] (vv (I6 (orbN T W 1 : Nat))) [] := hL 0
  refine fc_enter (nt := 19) Try.func58 rfl rfl (by simp) fun w0 ω0 => ?_
  (refine goes_seq ?_; refine goes_region ?_; apply run_step rfl; (exact stp_assign rfl rfl); refine run_nil ?_; refine fin_seq ?_; refine goes_seq ?_; refine goes_region ?_; apply run_step rfl; (exact stp_assign rfl rfl); refine run_nil ?_; refine fin_seq ?_; refine goes_seq ?_; refine goes_seq ?_; refine goes_region ?_; apply run_step rfl; (exact stp_move rfl rfl); apply run_step rfl; (exact stp_move rfl rfl); apply run_step rfl; (apply call_gate 56; exact stp_callR hL0 (by as_aux_lemma => kernel_rfl) rfl rfl ⟨rfl, rfl, rfl, trivial⟩ ⟨⟨_, rfl, .inl rfl⟩, ⟨_, rfl, .inl rfl⟩, trivial⟩ rfl rfl); apply run_step rfl; (exact stp_assign rfl rfl); refine run_nil ?_; refine fin_seq ?_; refine goes_block ?_)
  refine goes_loop (fun k : Nat => St.of [(0, o1 (.sl 1005 0 n)), (1, o1 (.sl 1004 0 W.length)), (5, vv (I6 (k : Nat))), (6, vv (I6 (orbN T W k : Nat)))] [(1005, imRo T), (1004, wRo W)]) (fun k => 1 ≤ k ∧ k ≤ p) (fun k => p - k) 1 ⟨Nat.le_refl _, hp1⟩ (Wk.of ⟨rfl, rfl, rfl, rfl, trivial⟩ ⟨rfl, rfl, trivial⟩ trivial) ?_
  rintro k ⟨hk1, hk2⟩
  have hLk := hL k
  (refine goes_seq ?_; refine goes_seq ?_; refine goes_region ?_; apply run_step rfl; (exact stp_move rfl rfl); apply run_step rfl; (exact stp_bin rfl rfl rfl rfl); refine run_nil ?_; refine fin_seq ?_)
  refine goes_cond rfl (fun hne => ?_) (fun hne => ?_)
  · have hlt : k < p := by
      rcases Nat.lt_or_ge k p with h | h
      · exact h
      · exfalso
        obtain rfl : k = p := by omega
        simp [hp3] at hne
    (refine goes_skip ?_; refine fin_seq ?_; refine goes_seq ?_; refine goes_block ?_; refine goes_region ?_; apply run_step rfl; (exact stp_move rfl rfl); apply run_step rfl; (exact stp_add rfl rfl rfl (by first | exact IntWalk.i64_in _ (by omega) | rfl)); apply run_step rfl; (exact stp_assign rfl rfl); refine run_nil ?_; refine fin_block ?_; refine fin_seq ?_; refine goes_region ?_; apply run_step rfl; (exact stp_move rfl rfl); apply run_step rfl; (exact stp_move rfl rfl); apply run_step rfl; (exact stp_move rfl rfl); apply run_step rfl; (apply call_gate 56; exact stp_callR hLk (by as_aux_lemma => kernel_rfl) rfl rfl ⟨rfl, rfl, rfl, trivial⟩ ⟨⟨_, rfl, .inl rfl⟩, ⟨_, rfl, .inl rfl⟩, trivial⟩ rfl rfl); apply run_step rfl; (exact stp_assign rfl rfl); refine run_nil ?_)
    exact fin_round (k + 1) ⟨by omega, hlt⟩ (by omega) (Wk.of ⟨rfl, rfl, rfl, rfl, trivial⟩ ⟨rfl, rfl, trivial⟩ trivial)
  · have h0 : orbN T W k = 0 := by simpa using hne
    obtain rfl : k = p := by
      rcases Nat.lt_or_ge k p with h | h
      · exact absurd h0 (hp4 k hk1 h)
      · omega
    rw [hp0]
    (refine goes_exit ?_; refine fin_exit_then ?_; refine fin_exit_then ?_; refine fin_exit_eq ?_; refine fin_seq ?_; refine goes_seq ?_; refine goes_region ?_; apply run_step rfl; (exact stp_move rfl rfl); apply run_step rfl; (exact stp_assign rfl rfl); refine run_nil ?_; refine fin_seq ?_; refine goes_ret ?_)
    exact fin_ret1 (.inl rfl) rfl (.tmp rfl) trivial trivial

def oeR (d : PresD) (W : List Int) : Int := if elC d W = 0 then ordR (cosTab d []) W (cosN d []) else 0
set_option maxRecDepth 100000 in
set_option maxHeartbeats 1000000 in
theorem specOE_fc (g : Int) (rels : List (List Int)) (W : List Int) (h1 : Fit rels) (h2 : W.length ≤ 4398046511104) :
    FC Try.prog 27 [(1004, wRo W), (1003, rowsRo rels)] [pA g rels.length, o1 (.sl 1004 0 W.length)] [] (.tup [.one (.val (I6 (oeR (g, rels) W))), .one (.val (I6 (elC (g, rels) W)))]) [] := by
  refine fc_enter (nt := 20) Try.func27 rfl rfl (by simp) fun w0 ω0 => ?_
  by_cases hk : elOk (g, rels) W
  · obtain ⟨ng, rfl, hG⟩ := good_nil hk.1
    have hE := specEl_yes h1 h2 hG hk
    have hs := smallOk_run hk.2.2
    have hw := word_of hk
    have hL := specOrder_fc _ W _ ng (cosTab_len _ _ _) (cosTab_leads hG hs.1) (cosTab_invol hG hs.1) (cosN_pos hG hs.1) (by omega) (by have := hG.hi; omega) hw.1 hw.2
    have hc := elC_ok hk
    unfold oeR
    rw [hc, if_pos rfl]
    generalize cosN ((ng : Int), rels) [] = N at *
    generalize cosTab ((ng : Int), rels) [] = T at *
    (refine goes_seq ?_; refine goes_region ?_; apply run_step rfl; (exact stp_box rfl rfl rfl rfl); apply run_step rfl; (exact stp_assign rfl rfl); apply run_step rfl; (exact stp_assign rfl rfl); refine run_nil ?_; refine fin_seq ?_; refine goes_seq ?_; refine goes_region ?_; apply run_step rfl; (exact stp_loadAgg rfl rfl rfl rfl rfl rfl (by as_aux_lemma => kernel_rfl)); apply run_step rfl; (exact stp_move rfl rfl); apply run_step rfl; (apply call_gate 53; exact stp_callN hE (by as_aux_lemma => kernel_rfl) rfl rfl ⟨⟨.inl rfl, .inl rfl, trivial⟩, rfl, trivial⟩ ⟨⟨_, rfl, .inl rfl⟩, ⟨_, rfl, .inl rfl⟩, trivial⟩ rfl rfl rfl); apply run_step rfl; (exact stp_move rfl rfl); apply run_step rfl; (exact stp_extract rfl rfl rfl); apply run_step rfl; (exact stp_extract rfl rfl rfl); apply run_step rfl; (exact stp_assign rfl rfl); apply run_step rfl; (exact stp_assign rfl rfl); refine run_nil ?_; refine fin_seq ?_; refine goes_seq ?_; refine goes_seq ?_; refine goes_region ?_; apply run_step rfl; (exact stp_move rfl rfl); apply run_step rfl; (exact stp_bin rfl rfl rfl rfl); refine run_nil ?_; refine fin_seq ?_)
    refine goes_cond rfl (fun e => by cases e) (fun _ => ?_)
    (refine goes_skip ?_; refine fin_seq ?_; refine goes_seq ?_; refine goes_region ?_; apply run_step rfl; (exact stp_move rfl rfl); apply run_step rfl; (exact stp_move rfl rfl); apply run_step rfl; (apply call_gate 57; exact stp_callR hL (by as_aux_lemma => kernel_rfl) rfl rfl ⟨rfl, rfl, trivial⟩ ⟨⟨_, rfl, .inr rfl⟩, ⟨_, rfl, .inl rfl⟩, trivial⟩ rfl rfl); apply run_step rfl; (exact stp_assign rfl rfl); apply run_step rfl; (exact stp_assign rfl rfl); refine run_nil ?_; refine fin_seq ?_; refine goes_ret ?_)
    exact fin_ret2 (.inl rfl) rfl (.tmp rfl) (.tmp rfl) trivial trivial
  · have hE := specEl_no h1 h2 hk
    have hc := elC_no hk
    unfold oeR
    rw [if_neg hc]
    (refine goes_seq ?_; refine goes_region ?_; apply run_step rfl; (exact stp_box rfl rfl rfl rfl); apply run_step rfl; (exact stp_assign rfl rfl); apply run_step rfl; (exact stp_assign rfl rfl); refine run_nil ?_; refine fin_seq ?_; refine goes_seq ?_; refine goes_region ?_; apply run_step rfl; (exact stp_loadAgg rfl rfl rfl rfl rfl rfl (by as_aux_lemma => kernel_rfl)); apply run_step rfl; (exact stp_move rfl rfl); apply run_step rfl; (apply call_gate 53; exact stp_callR hE (by as_aux_lemma => kernel_rfl) rfl rfl ⟨⟨.inl rfl, .inl rfl, trivial⟩, rfl, trivial⟩ ⟨⟨_, rfl, .inl rfl⟩, ⟨_, rfl, .inl rfl⟩, trivial⟩ rfl rfl); apply run_step rfl; (exact stp_move rfl rfl); apply run_step rfl; (exact stp_extract rfl rfl rfl); apply run_step rfl; (exact stp_extract rfl rfl rfl); apply run_step rfl; (exact stp_assign rfl rfl); apply run_step rfl; (exact stp_assign rfl rfl); refine run_nil ?_; refine fin_seq ?_; refine goes_seq ?_; refine goes_seq ?_; refine goes_region ?_; apply run_step rfl; (exact stp_move rfl rfl); apply run_step rfl; (exact stp_bin rfl rfl rfl rfl); refine run_nil ?_; refine fin_seq ?_)
    refine goes_cond rfl (fun _ => ?_) (fun e => ?_)
    · (refine goes_seq ?_; refine goes_region ?_; apply run_step rfl; (exact stp_move rfl rfl); apply run_step rfl; (exact stp_assign rfl rfl); apply run_step rfl; (exact stp_assign rfl rfl); refine run_nil ?_; refine fin_seq ?_; refine goes_ret ?_; refine fin_ret_then ?_)
      exact fin_ret2 (.inl rfl) rfl (.tmp rfl) (.tmp rfl) trivial trivial
    · exfalso; simp at e; exact hc e
set_option maxRecDepth 100000 in
set_option maxHeartbeats 1000000 in
theorem implOE_fc (g : Int) (rels : List (List Int)) (W : List Int) (h1 : Fit rels) (h2 : W.length ≤ 4398046511104) :
    FC Try.prog 28 [(1004, wRo W), (1003, rowsRo rels)] [pA g rels.length, o1 (.sl 1004 0 W.length)] [] (.tup [.one (.val (I6 (oeR (g, rels) W))), .one (.val (I6 (elC (g, rels) W)))]) [] := by
  refine fc_enter (nt := 20) Try.func28 rfl rfl (by simp) fun w0 ω0 => ?_
  by_cases hk : elOk (g, rels) W
  · obtain ⟨ng, rfl, hG⟩ := good_nil hk.1
    have hE := implEl_yes h1 h2 hG hk
    have hs := smallOk_run hk.2.2
    have hw := word_of hk
    have hL := implOrder_fc _ W _ ng (cosTab_len _ _ _) (cosTab_leads hG hs.1) (cosTab_invol hG hs.1) (cosN_pos hG hs.1) (by omega) (by have := hG.hi; omega) hw.1 hw.2
    have hc := elC_ok hk
    unfold oeR
    rw [hc, if_pos rfl]
    generalize cosN ((ng : Int), rels) [] = N at *
    generalize cosTab ((ng : Int), rels) [] = T at *
    (refine goes_seq ?_; refine goes_region ?_; apply run_step rfl; (exact stp_box rfl rfl rfl rfl); apply run_step rfl; (exact stp_assign rfl rfl); apply run_step rfl; (exact stp_assign rfl rfl); refine run_nil ?_; refine fin_seq ?_; refine goes_seq ?_; refine goes_region ?_; apply run_step rfl; (exact stp_loadAgg rfl rfl rfl rfl rfl rfl (by as_aux_lemma => kernel_rfl)); apply run_step rfl; (exact stp_move rfl rfl); apply run_step rfl; (apply call_gate 55; exact stp_callN hE (by as_aux_lemma => kernel_rfl) rfl rfl ⟨⟨.inl rfl, .inl rfl, trivial⟩, rfl, trivial⟩ ⟨⟨_, rfl, .inl rfl⟩, ⟨_, rfl, .inl rfl⟩, trivial⟩ rfl rfl rfl); apply run_step rfl; (exact stp_move rfl rfl); apply run_step rfl; (exact stp_extract rfl rfl rfl); apply run_step rfl; (exact stp_extract rfl rfl rfl); apply run_step rfl; (exact stp_assign rfl rfl); apply run_step rfl; (exact stp_assign rfl rfl); refine run_nil ?_; refine fin_seq ?_; refine goes_seq ?_; refine goes_seq ?_; refine goes_region ?_; apply run_step rfl; (exact stp_move rfl rfl); apply run_step rfl; (exact stp_bin rfl rfl rfl rfl); refine run_nil ?_; refine fin_seq ?_)
    refine goes_cond rfl (fun e => by cases e) (fun _ => ?_)
    (refine goes_skip ?_; refine fin_seq ?_; refine goes_seq ?_; refine goes_region ?_; apply run_step rfl; (exact stp_move rfl rfl); apply run_step rfl; (exact stp_move rfl rfl); apply run_step rfl; (apply call_gate 58; exact stp_callR hL (by as_aux_lemma => kernel_rfl) rfl rfl ⟨rfl, rfl, trivial⟩ ⟨⟨_, rfl, .inr rfl⟩, ⟨_, rfl, .inl rfl⟩, trivial⟩ rfl rfl); apply run_step rfl; (exact stp_assign rfl rfl); apply run_step rfl; (exact stp_assign rfl rfl); refine run_nil ?_; refine fin_seq ?_; refine goes_ret ?_)
    exact fin_ret2 (.inl rfl) rfl (.tmp rfl) (.tmp rfl) trivial trivial
  · have hE := implEl_no h1 h2 hk
    have hc := elC_no hk
    unfold oeR
    rw [if_neg hc]
    (refine goes_seq ?_; refine goes_region ?_; apply run_step rfl; (exact stp_box rfl rfl rfl rfl); apply run_step rfl; (exact stp_assign rfl rfl); apply run_step rfl; (exact stp_assign rfl rfl); refine run_nil ?_; refine fin_seq ?_; refine goes_seq ?_; refine goes_region ?_; apply run_step rfl; (exact stp_loadAgg rfl rfl rfl rfl rfl rfl (by as_aux_lemma => kernel_rfl)); apply run_step rfl; (exact stp_move rfl rfl); apply run_step rfl; (apply call_gate 55; exact stp_callR hE (by as_aux_lemma => kernel_rfl) rfl rfl ⟨⟨.inl rfl, .inl rfl, trivial⟩, rfl, trivial⟩ ⟨⟨_, rfl, .inl rfl⟩, ⟨_, rfl, .inl rfl⟩, trivial⟩ rfl rfl); apply run_step rfl; (exact stp_move rfl rfl); apply run_step rfl; (exact stp_extract rfl rfl rfl); apply run_step rfl; (exact stp_extract rfl rfl rfl); apply run_step rfl; (exact stp_assign rfl rfl); apply run_step rfl; (exact stp_assign rfl rfl); refine run_nil ?_; refine fin_seq ?_; refine goes_seq ?_; refine goes_seq ?_; refine goes_region ?_; apply run_step rfl; (exact stp_move rfl rfl); apply run_step rfl; (exact stp_bin rfl rfl rfl rfl); refine run_nil ?_; refine fin_seq ?_)
    refine goes_cond rfl (fun _ => ?_) (fun e => ?_)
    · (refine goes_seq ?_; refine goes_region ?_; apply run_step rfl; (exact stp_move rfl rfl); apply run_step rfl; (exact stp_assign rfl rfl); apply run_step rfl; (exact stp_assign rfl rfl); refine run_nil ?_; refine fin_seq ?_; refine goes_ret ?_; refine fin_ret_then ?_)
      exact fin_ret2 (.inl rfl) rfl (.tmp rfl) (.tmp rfl) trivial trivial
    · exfalso; simp at e; exact hc e
theorem api_specOE {E1 E E' : Nat} {lo hi lo' hi' : Nat} {v v' : Value} {d : PresD} {W : List Int} (w : World) (h : OwP E1 E w lo hi v d) (h' : OwnS E' w lo' hi' v' W) :
    Calls Try.prog 27 #[v, v'] w fun e w' => e = .returned (.tuple #[.int .i64 (oeR d W), .int .i64 (elC d W)]) ∧ Below w.heap.size w w' := two_vals (callPS (fun k1 k2 => specOE_fc d.1 d.2 W k1 k2) h h')
theorem api_implOE {E1 E E' : Nat} {lo hi lo' hi' : Nat} {v v' : Value} {d : PresD} {W : List Int} (w : World) (h : OwP E1 E w lo hi v d) (h' : OwnS E' w lo' hi' v' W) :
    Calls Try.prog 28 #[v, v'] w fun e w' => e = .returned (.tuple #[.int .i64 (oeR d W), .int .i64 (elC d W)]) ∧ Below w.heap.size w w' := two_vals (callPS (fun k1 k2 => implOE_fc d.1 d.2 W k1 k2) h h')
end Go.Proofs.Ytpjglifijdcgnaa

/- The walk of FnExactOrderOfElement: true, whatever the arguments. Written by genwalk.py. -/
namespace Go.Proofs.Ytpjglifijdcgnaa
open Go.RowKit

set_option maxHeartbeats 3200000 in
theorem walkOrderOfElement {v0 : Value} {d : PresD} {a1 : Option Addr} {n1 c1 : Nat} {zs : List Int} (w : World) (h0 : RdP w v0 d) (h1 : Ints w a1 n1 zs) :
    Calls Try.prog 6 #[v0, .slice a1 n1 c1] w fun e w' => e = .returned (.bool true) ∧ Below w.heap.size w w' := by
  obtain ⟨a0, n0, c0, rfl, hi0⟩ := h0
  have h0 : RdP w (.agg #[.int .i64 d.1, .slice a0 n0 c0]) d := ⟨a0, n0, c0, rfl, hi0⟩
  clear hi0
  have B0 : Below w.heap.size w (w.alloc (.cells #[.int .i64 d.1, .slice a0 n0 c0] 24)) := below_alloc1 w _
  have kb0_0 : Blk (w.alloc (.cells #[.int .i64 d.1, .slice a0 n0 c0] 24)) (w.heap.size) 24 #[.int .i64 d.1, .slice a0 n0 c0] := (blk_at rfl)
  have hb1 := h1.2.1
  by_cases hs1 : n1 ≤ 1048576
  · have g1 : decide ((1048576 : Int) < n1) = false := by simp; omega
    have hl1 : zs.length = n1 := h1.1
    have HL1 := Lib.hid hl1
    clear hl1
    by_cases hx0 : budget1 1048576 (d.2.length + lenSS d.2) < 0
    · go_enter Try.func6, Try.ntmps6
      go_wp2_with fail
      refine (law_usP (1048576) _ (h0.below B0) (by omega) (by omega)).mono ?_
      rintro e w1 ⟨rfl, b1⟩
      have s1 := b1.size
      have B1 : Below w.heap.size w w1 := B0.trans (b1.mono B0.size)
      have kb0_1 : Blk w1 (w.heap.size) 24 #[.int .i64 d.1, .slice a0 n0 c0] := (kb0_0.belowS b1)
      have xkb0_1_0 : w1.cell? ⟨w.heap.size, 0, none⟩ = some (.int .i64 d.1) := kb0_1.cell 0
      have xkb0_1_1 : w1.cell? ⟨w.heap.size, 1, none⟩ = some (.slice a0 n0 c0) := kb0_1.cell 1
      have lkb0_1 : w.heap.size < w1.heap.size := kb0_1.lt
      go_wp2
      go_ret
      exact ⟨rfl, B1⟩
    · obtain ⟨ht0, he0⟩ := budget1_at hx0
      have hn0 : 0 ≤ budget1 1048576 (d.2.length + lenSS d.2) := by omega
      have hm0 : budget1 1048576 (d.2.length + lenSS d.2) ≤ 1048576 := by omega
      have HE0 := Lib.hid he0
      clear he0 hx0
      go_enter Try.func6, Try.ntmps6
      go_wp2_with fail
      refine (law_usP (1048576) _ (h0.below B0) (by omega) (by omega)).mono ?_
      rintro e w1 ⟨rfl, b1⟩
      have s1 := b1.size
      have B1 : Below w.heap.size w w1 := B0.trans (b1.mono B0.size)
      have kb0_1 : Blk w1 (w.heap.size) 24 #[.int .i64 d.1, .slice a0 n0 c0] := (kb0_0.belowS b1)
      have xkb0_1_0 : w1.cell? ⟨w.heap.size, 0, none⟩ = some (.int .i64 d.1) := kb0_1.cell 0
      have xkb0_1_1 : w1.cell? ⟨w.heap.size, 1, none⟩ = some (.slice a0 n0 c0) := kb0_1.cell 1
      have lkb0_1 : w.heap.size < w1.heap.size := kb0_1.lt
      go_wp2_with fail
      refine (law_toP _ (h0.below B1) (by omega)).mono ?_
      rintro e w2 ⟨u2, rfl, o2, b2⟩
      have s2 := b2.size
      have B2 : Below w.heap.size w w2 := B1.trans (b2.mono B1.size)
      have kb0_2 : Blk w2 (w.heap.size) 24 #[.int .i64 d.1, .slice a0 n0 c0] := (kb0_1.belowS b2)
      have xkb0_2_0 : w2.cell? ⟨w.heap.size, 0, none⟩ = some (.int .i64 d.1) := kb0_2.cell 0
      have xkb0_2_1 : w2.cell? ⟨w.heap.size, 1, none⟩ = some (.slice a0 n0 c0) := kb0_2.cell 1
      have lkb0_2 : w.heap.size < w2.heap.size := kb0_2.lt
      clear xkb0_1_0 xkb0_1_1
      go_wp2_with fail
      refine (law_toS _ (show RdS _ _ _ from ⟨_, _, _, rfl, (h1.below B2)⟩) (by rw [HL1.out]; omega)).mono ?_
      rintro e w3 ⟨u3, rfl, o3, b3⟩
      have s3 := b3.size
      have B3 : Below w.heap.size w w3 := B2.trans (b3.mono B2.size)
      have kb0_3 : Blk w3 (w.heap.size) 24 #[.int .i64 d.1, .slice a0 n0 c0] := (kb0_2.belowS b3)
      have xkb0_3_0 : w3.cell? ⟨w.heap.size, 0, none⟩ = some (.int .i64 d.1) := kb0_3.cell 0
      have xkb0_3_1 : w3.cell? ⟨w.heap.size, 1, none⟩ = some (.slice a0 n0 c0) := kb0_3.cell 1
      have lkb0_3 : w.heap.size < w3.heap.size := kb0_3.lt
      clear xkb0_2_0 xkb0_2_1
      go_wp2_with fail
      refine (api_specOE  _ (o2.below b3) o3 ).mono ?_
      rintro e w4 ⟨rfl, b4⟩
      have s4 := b4.size
      have B4 : Below w.heap.size w w4 := B3.trans (b4.mono B3.size)
      have kb0_4 : Blk w4 (w.heap.size) 24 #[.int .i64 d.1, .slice a0 n0 c0] := (kb0_3.belowS b4)
      have xkb0_4_0 : w4.cell? ⟨w.heap.size, 0, none⟩ = some (.int .i64 d.1) := kb0_4.cell 0
      have xkb0_4_1 : w4.cell? ⟨w.heap.size, 1, none⟩ = some (.slice a0 n0 c0) := kb0_4.cell 1
      have lkb0_4 : w.heap.size < w4.heap.size := kb0_4.lt
      clear xkb0_3_0 xkb0_3_1
      go_wp2_with fail
      refine (law_toP _ (h0.below B4) (by omega)).mono ?_
      rintro e w5 ⟨u5, rfl, o5, b5⟩
      obtain ⟨au5, nu5, cu5, rfl⟩ := o5.form
      have s5 := b5.size
      have B5 : Below w.heap.size w w5 := B4.trans (b5.mono B4.size)
      have kb0_5 : Blk w5 (w.heap.size) 24 #[.int .i64 d.1, .slice a0 n0 c0] := (kb0_4.belowS b5)
      have xkb0_5_0 : w5.cell? ⟨w.heap.size, 0, none⟩ = some (.int .i64 d.1) := kb0_5.cell 0
      have xkb0_5_1 : w5.cell? ⟨w.heap.size, 1, none⟩ = some (.slice a0 n0 c0) := kb0_5.cell 1
      have lkb0_5 : w.heap.size < w5.heap.size := kb0_5.lt
      clear xkb0_4_0 xkb0_4_1
      go_wp2_with fail
      have bx6 := below_alloc1 w5 (.cells #[.int .i64 d.1, .slice au5 nu5 cu5] 28)
      have kbx0_6 : Blk (w5.alloc (.cells #[.int .i64 d.1, .slice au5 nu5 cu5] 28)) w5.heap.size 28 #[.int .i64 d.1, .slice au5 nu5 cu5] := blk_at rfl
      generalize w5.alloc (.cells #[.int .i64 d.1, .slice au5 nu5 cu5] 28) = w6 at *
      have s6 := bx6.size
      have B6 : Below w.heap.size w w6 := B5.trans (bx6.mono B5.size)
      have kb0_6 : Blk w6 (w.heap.size) 24 #[.int .i64 d.1, .slice a0 n0 c0] := (kb0_5.belowS bx6)
      have xkb0_6_0 : w6.cell? ⟨w.heap.size, 0, none⟩ = some (.int .i64 d.1) := kb0_6.cell 0
      have xkb0_6_1 : w6.cell? ⟨w.heap.size, 1, none⟩ = some (.slice a0 n0 c0) := kb0_6.cell 1
      have lkb0_6 : w.heap.size < w6.heap.size := kb0_6.lt
      have xkbx0_6_0 : w6.cell? ⟨w5.heap.size, 0, none⟩ = some (.int .i64 d.1) := kbx0_6.cell 0
      have xkbx0_6_1 : w6.cell? ⟨w5.heap.size, 1, none⟩ = some (.slice au5 nu5 cu5) := kbx0_6.cell 1
      have lkbx0_6 : w5.heap.size < w6.heap.size := kbx0_6.lt
      clear xkb0_5_0 xkb0_5_1
      refine (law_toS _ (show RdS _ _ _ from ⟨_, _, _, rfl, (h1.below B6)⟩) (by rw [HL1.out]; omega)).mono ?_
      rintro e w7 ⟨u7, rfl, o7, b7⟩
      have s7 := b7.size
      have B7 : Below w.heap.size w w7 := B6.trans (b7.mono B6.size)
      have kb0_7 : Blk w7 (w.heap.size) 24 #[.int .i64 d.1, .slice a0 n0 c0] := (kb0_6.belowS b7)
      have xkb0_7_0 : w7.cell? ⟨w.heap.size, 0, none⟩ = some (.int .i64 d.1) := kb0_7.cell 0
      have xkb0_7_1 : w7.cell? ⟨w.heap.size, 1, none⟩ = some (.slice a0 n0 c0) := kb0_7.cell 1
      have lkb0_7 : w.heap.size < w7.heap.size := kb0_7.lt
      have kbx0_7 : Blk w7 (w5.heap.size) 28 #[.int .i64 d.1, .slice au5 nu5 cu5] := (kbx0_6.belowS b7)
      have xkbx0_7_0 : w7.cell? ⟨w5.heap.size, 0, none⟩ = some (.int .i64 d.1) := kbx0_7.cell 0
      have xkbx0_7_1 : w7.cell? ⟨w5.heap.size, 1, none⟩ = some (.slice au5 nu5 cu5) := kbx0_7.cell 1
      have lkbx0_7 : w5.heap.size < w7.heap.size := kbx0_7.lt
      clear xkb0_6_0 xkb0_6_1 xkbx0_6_0 xkbx0_6_1
      go_wp2_with fail
      refine (api_implOE  _ ((o5.below bx6).below b7) o7 ).mono ?_
      rintro e w8 ⟨rfl, b8⟩
      have s8 := b8.size
      have B8 : Below w.heap.size w w8 := B7.trans (b8.mono B7.size)
      have kb0_8 : Blk w8 (w.heap.size) 24 #[.int .i64 d.1, .slice a0 n0 c0] := (kb0_7.belowS b8)
      have xkb0_8_0 : w8.cell? ⟨w.heap.size, 0, none⟩ = some (.int .i64 d.1) := kb0_8.cell 0
      have xkb0_8_1 : w8.cell? ⟨w.heap.size, 1, none⟩ = some (.slice a0 n0 c0) := kb0_8.cell 1
      have lkb0_8 : w.heap.size < w8.heap.size := kb0_8.lt
      have kbx0_8 : Blk w8 (w5.heap.size) 28 #[.int .i64 d.1, .slice au5 nu5 cu5] := (kbx0_7.belowS b8)
      have xkbx0_8_0 : w8.cell? ⟨w5.heap.size, 0, none⟩ = some (.int .i64 d.1) := kbx0_8.cell 0
      have xkbx0_8_1 : w8.cell? ⟨w5.heap.size, 1, none⟩ = some (.slice au5 nu5 cu5) := kbx0_8.cell 1
      have lkbx0_8 : w5.heap.size < w8.heap.size := kbx0_8.lt
      clear xkb0_7_0 xkb0_7_1 xkbx0_7_0 xkbx0_7_1
      go_wp2_with fail
      have hS8 : ∀ w', Below w8.heap.size w8 w' → (Below w8.heap.size w8 w' ∧ w'.cell? ⟨w.heap.size, 0, none⟩ = some (.int .i64 d.1) ∧ w'.cell? ⟨w.heap.size, 1, none⟩ = some (.slice a0 n0 c0) ∧ w'.cell? ⟨w5.heap.size, 0, none⟩ = some (.int .i64 d.1) ∧ w'.cell? ⟨w5.heap.size, 1, none⟩ = some (.slice au5 nu5 cu5)) := fun w' hb => ⟨hb, (kb0_8.belowS hb).cell 0, (kb0_8.belowS hb).cell 1, (kbx0_8.belowS hb).cell 0, (kbx0_8.belowS hb).cell 1⟩
      have HS8 := Lib.hid hS8
      clear hS8 xkb0_8_0 xkb0_8_1 xkbx0_8_0 xkbx0_8_1
      go_region_held3 (fun w' => Below w8.heap.size w8 w' ∧ w'.cell? ⟨w.heap.size, 0, none⟩ = some (.int .i64 d.1) ∧ w'.cell? ⟨w.heap.size, 1, none⟩ = some (.slice a0 n0 c0) ∧ w'.cell? ⟨w5.heap.size, 0, none⟩ = some (.int .i64 d.1) ∧ w'.cell? ⟨w5.heap.size, 1, none⟩ = some (.slice au5 nu5 cu5))
        (first | exact HS8.out _ (below_drew1 _) | exact HS8.out _ (below_tr (by assumption) (And.left (by assumption))))
        (first | (go_at_call 15; refine (law_toP _ (h0.below ?_) (by omega)).mono ?_; (exact below_tr (And.left (by assumption)) B8); rintro e w908 ⟨u908, rfl, o908, bt908⟩) | (go_at_call 17; refine (law_eqP _ ((((o5.below bx6).below b7).below b8).below (And.left (by assumption))).rd (OwP.rd (by assumption))).mono ?_; rintro e w9 ⟨rfl, be9⟩))
      have b9 : Below w8.heap.size w8 w9 := And.left (by assumption)
      have s9 := b9.size
      have B9 : Below w.heap.size w w9 := B8.trans (b9.mono B8.size)
      have kb0_9 : Blk w9 (w.heap.size) 24 #[.int .i64 d.1, .slice a0 n0 c0] := (kb0_8.belowS b9)
      have xkb0_9_0 : w9.cell? ⟨w.heap.size, 0, none⟩ = some (.int .i64 d.1) := kb0_9.cell 0
      have xkb0_9_1 : w9.cell? ⟨w.heap.size, 1, none⟩ = some (.slice a0 n0 c0) := kb0_9.cell 1
      have lkb0_9 : w.heap.size < w9.heap.size := kb0_9.lt
      have kbx0_9 : Blk w9 (w5.heap.size) 28 #[.int .i64 d.1, .slice au5 nu5 cu5] := (kbx0_8.belowS b9)
      have xkbx0_9_0 : w9.cell? ⟨w5.heap.size, 0, none⟩ = some (.int .i64 d.1) := kbx0_9.cell 0
      have xkbx0_9_1 : w9.cell? ⟨w5.heap.size, 1, none⟩ = some (.slice au5 nu5 cu5) := kbx0_9.cell 1
      have lkbx0_9 : w5.heap.size < w9.heap.size := kbx0_9.lt
      go_wp2_with fail
      refine (law_toS _ (show RdS _ _ _ from ⟨_, _, _, rfl, (h1.below B9)⟩) (by rw [HL1.out]; omega)).mono ?_
      rintro e w10 ⟨u10, rfl, o10, b10⟩
      have s10 := b10.size
      have B10 : Below w.heap.size w w10 := B9.trans (b10.mono B9.size)
      have kb0_10 : Blk w10 (w.heap.size) 24 #[.int .i64 d.1, .slice a0 n0 c0] := (kb0_9.belowS b10)
      have xkb0_10_0 : w10.cell? ⟨w.heap.size, 0, none⟩ = some (.int .i64 d.1) := kb0_10.cell 0
      have xkb0_10_1 : w10.cell? ⟨w.heap.size, 1, none⟩ = some (.slice a0 n0 c0) := kb0_10.cell 1
      have lkb0_10 : w.heap.size < w10.heap.size := kb0_10.lt
      have kbx0_10 : Blk w10 (w5.heap.size) 28 #[.int .i64 d.1, .slice au5 nu5 cu5] := (kbx0_9.belowS b10)
      have xkbx0_10_0 : w10.cell? ⟨w5.heap.size, 0, none⟩ = some (.int .i64 d.1) := kbx0_10.cell 0
      have xkbx0_10_1 : w10.cell? ⟨w5.heap.size, 1, none⟩ = some (.slice au5 nu5 cu5) := kbx0_10.cell 1
      have lkbx0_10 : w5.heap.size < w10.heap.size := kbx0_10.lt
      clear xkb0_9_0 xkb0_9_1 xkbx0_9_0 xkbx0_9_1
      go_wp2_with fail
      refine (law_eqS _ (((o7.below b8).below b9).below b10).rd o10.rd).mono ?_
      rintro e w11 ⟨rfl, b11⟩
      have s11 := b11.size
      have B11 : Below w.heap.size w w11 := B10.trans (b11.mono B10.size)
      have kb0_11 : Blk w11 (w.heap.size) 24 #[.int .i64 d.1, .slice a0 n0 c0] := (kb0_10.belowS b11)
      have xkb0_11_0 : w11.cell? ⟨w.heap.size, 0, none⟩ = some (.int .i64 d.1) := kb0_11.cell 0
      have xkb0_11_1 : w11.cell? ⟨w.heap.size, 1, none⟩ = some (.slice a0 n0 c0) := kb0_11.cell 1
      have lkb0_11 : w.heap.size < w11.heap.size := kb0_11.lt
      have kbx0_11 : Blk w11 (w5.heap.size) 28 #[.int .i64 d.1, .slice au5 nu5 cu5] := (kbx0_10.belowS b11)
      have xkbx0_11_0 : w11.cell? ⟨w5.heap.size, 0, none⟩ = some (.int .i64 d.1) := kbx0_11.cell 0
      have xkbx0_11_1 : w11.cell? ⟨w5.heap.size, 1, none⟩ = some (.slice au5 nu5 cu5) := kbx0_11.cell 1
      have lkbx0_11 : w5.heap.size < w11.heap.size := kbx0_11.lt
      clear xkb0_10_0 xkb0_10_1 xkbx0_10_0 xkbx0_10_1
      go_wp2
      go_ret
      exact ⟨rfl, B11⟩
  · have g1 : decide ((1048576 : Int) < n1) = true := by simp; omega
    go_enter Try.func6, Try.ntmps6
    go_wp2
    go_ret
    exact ⟨rfl, B0⟩
end Go.Proofs.Ytpjglifijdcgnaa
