/- GroupOrder, IndexOfSubgroup: the reference's and the program's functions. -/
import Derived.Test.YtpognnifgcacnaaPart6
import Derived.Test.YtpognnifgcacnaaPart4
import Derived.Test.YtpognnifgcacnaaPart3
import Derived.Test.YtpognnifgcacnaaPart1
import Derived.Test.YtpognnifgcacnaaProg
import Derived.Test.YtpognnifgcacnaaPart5
import Derived.Deep.AppendLies
import Derived.Deep.DeepCutAuto
import Derived.Deep.CutBlock
import Derived.Test.YtpognnifgcacnaaPart2
namespace Go.Proofs.Ytpognnifgcacnaa
open Go.RowKit

section
variable {P : Program} {η : Env} {ω : Own?} {w : World}
theorem Env.new_mono {x : Nm} {hd : Hd} {r : Nat → Hd} {av : AV} (h : av.has x = false) : av.mono η (η.new x hd r) := fun y hy => Env.new_ne η hd r y fun e => by rw [e, h] at hy; cases hy
/-- nil for the last argument -/
theorem FC.nil2 {f : FuncId} {ins outs : List (Nm × Ch)} {a0 res : AV} {back : List (Nat × AV)} {x : Nm} {E : TypeId} {d : Dat} (h : FC P f ((x, ⟨false, E, 1, d⟩) :: ins) [a0, o1 (.sl x 0 0)] outs res back) (hd : d.len = 0) (hx : lk x ins = none) (h0 : a0.has x = false) (hb : ∀ t av, lk t back = some av → t ≠ 1)
    (hq : ∀ y c, lk y ins = some c → ∀ l, c.d ≠ .flat l) : FC P f ins [a0, vv (.slice none 0 0)] outs res back := by
  intro w η ω us hm hdl
  obtain ⟨hl, ha⟩ := hdl
  obtain ⟨u0, g0, d0⟩ := ha 0 _ rfl
  obtain ⟨u1, g1, d1⟩ := ha 1 _ rfl
  have d1 : u1 = .slice none 0 0 := d1
  subst d1
  refine h w (η.new x ⟨none, 0, 1⟩ fun _ => ⟨none, 0, 1⟩) ω us ⟨fun y c hy => ?_, fun y hy => ?_⟩ ⟨hl, fun j av hj => ?_⟩
  · by_cases e : y = x
    · subst e
      simp [lk] at hy
      subst hy
      refine ⟨⟨none, 0, 1⟩, by simp [Env.new], rfl, ?_⟩
      show VecR ω w _ d.len _
      rw [hd]
      exact ⟨Nat.zero_le _, fun j hj => absurd hj (by omega)⟩
    · have hy : lk y ins = some c := by simpa [lk, beq_ne e] using hy
      obtain ⟨h', k1, k2⟩ := hm.1 y c hy
      exact ⟨h', by simp [Env.new, e, k1], k2.same (Same.refl ω w fun _ => True) trivial (fun _ => trivial) (fun i => by simp [Env.new, e]) fun l hl => absurd hl (hq y c hy l)⟩
  · have e : y ≠ x := fun e => by subst e; simp [lk] at hy
    have hy : lk y ins = none := by simpa [lk, beq_ne e] using hy
    simp [Env.new, e, hm.2 y hy]
  · match j, hj with
    | 0, hj => simp at hj; subst hj; exact ⟨u0, g0, d0.mono (Env.new_mono h0)⟩
    | 1, hj =>
      simp at hj; subst hj
      refine ⟨_, g1, ⟨_, _, rfl⟩, fun hd' he => ?_⟩
      simp [Env.new] at he; subst he
      exact ⟨_, rfl, fun _ => rfl, fun h0 => absurd h0 (by omega)⟩
end

theorem specCode_fc (g : Int) (rels ws : List (List Int)) (h1 : Fit rels) (h2 : Fit ws) :
    FC Try.prog 141 [(1002, rowsRo ws), (1003, rowsRo rels)] [pA g rels.length, o1 (.sl 1002 0 ws.length)] [] (vv (I6 (withC (g, rels) ws))) [] :=
  fc_of_calls fun w η ω us hm ⟨hl, ha⟩ => by
    obtain ⟨u0, g0, d0⟩ := ha 0 _ rfl
    obtain ⟨u1, g1, d1⟩ := ha 1 _ rfl
    have hp := rdP (x := 1003) (zss := rels) hm rfl d0 (by have := h1.1; omega) fun zs hz => by have := h1.2 zs hz; omega
    obtain ⟨ao, c, rfl, hi⟩ := rdSS (x := 1002) (zss := ws) hm rfl d1 (by have := h2.1; omega) fun zs hz => by have := h2.2 zs hz; omega
    rw [two_of hl g0 g1]
    exact specCode_any ao _ c ws w hp hi
theorem implCode_fc (g : Int) (rels ws : List (List Int)) (h1 : Fit rels) (h2 : Fit ws) :
    FC Try.prog 111 [(1002, rowsRo ws), (1003, rowsRo rels)] [pA g rels.length, o1 (.sl 1002 0 ws.length)] [] (vv (I6 (withC (g, rels) ws))) [] :=
  fc_of_calls fun w η ω us hm ⟨hl, ha⟩ => by
    obtain ⟨u0, g0, d0⟩ := ha 0 _ rfl
    obtain ⟨u1, g1, d1⟩ := ha 1 _ rfl
    have hp := rdP (x := 1003) (zss := rels) hm rfl d0 (by have := h1.1; omega) fun zs hz => by have := h1.2 zs hz; omega
    obtain ⟨ao, c, rfl, hi⟩ := rdSS (x := 1002) (zss := ws) hm rfl d1 (by have := h2.1; omega) fun zs hz => by have := h2.2 zs hz; omega
    rw [two_of hl g0 g1]
    exact implCode_any ao _ c ws w hp hi
theorem isPres_fc (g : Int) (rels : List (List Int)) (h1 : Fit rels) : FC Try.prog 137 [(1003, rowsRo rels)] [pA g rels.length] [] (vv (.bool (isPres (g, rels)))) [] :=
  fc_of_calls fun w η ω us hm ⟨hl, ha⟩ => by
    obtain ⟨u0, g0, d0⟩ := ha 0 _ rfl
    have hp := rdP (x := 1003) (zss := rels) hm rfl d0 (by have := h1.1; omega) fun zs hz => by have := h1.2 zs hz; omega
    rw [one_of hl g0]
    exact isPresentation_any w hp

/-- what a good presentation with words is -/
structure Good (ng : Nat) (rels ws : List (List Int)) : Prop where
  pos : 0 < ng
  hi : ng ≤ 5
  r : rels.length ≤ 24
  w : ws.length ≤ 24
  rl : ∀ w ∈ rels, Letters ng w
  wl : ∀ w ∈ ws, Letters ng w
  rn : ∀ w ∈ rels, w.length ≤ 1000000000
  wn : ∀ w ∈ ws, w.length ≤ 1000000000
theorem isWordTo_spec {g : Int} {ng : Nat} (hg : g = ng) {z : List Int} (h : isWordTo (g - 1) z = true) : Letters ng z ∧ z.length ≤ 64 := by
  unfold isWordTo at h
  rw [Bool.and_eq_true, List.all_eq_true] at h
  exact ⟨fun x hx => by have := inB_true.1 (h.2 x hx); omega, of_decide_eq_true h.1⟩
theorem good_of {g : Int} {rels ws : List (List Int)} (h : withOk (g, rels) ws = true) : ∃ ng : Nat, g = (ng : Int) ∧ Good ng rels ws := by
  unfold withOk at h
  rw [Bool.and_eq_true] at h
  obtain ⟨h1, h2⟩ := h
  have hg := isPres_gens h1
  have hge : g = ((g.toNat : Nat) : Int) := (Int.toNat_of_nonneg (by dsimp only at hg; omega)).symm
  unfold isPres at h1
  rw [Bool.and_eq_true, Bool.and_eq_true, List.all_eq_true] at h1
  unfold wordsTo at h2
  rw [Bool.and_eq_true, List.all_eq_true] at h2
  have hr : ∀ w ∈ rels, Letters g.toNat w ∧ w.length ≤ 64 := fun w hw => by
    have := h1.2 w hw
    rw [Bool.and_eq_true] at this
    exact isWordTo_spec hge this.1
  have hw : ∀ w ∈ ws, Letters g.toNat w ∧ w.length ≤ 64 := fun w hw => by
    have := h2.2 w hw
    rw [Bool.and_eq_true] at this
    exact isWordTo_spec hge this.1
  dsimp only at hg
  exact ⟨g.toNat, hge, by omega, by omega, of_decide_eq_true h1.1.2, of_decide_eq_true h2.1, fun w h => (hr w h).1, fun w h => (hw w h).1, fun w h => by have := (hr w h).2; omega, fun w h => by have := (hw w h).2; omega⟩

def cosX (d : PresD) (ws : List (List Int)) : CSt := runC d.1.toNat d.2 ws
def cosN (d : PresD) (ws : List (List Int)) : Nat := (numbered d.1.toNat (cosX d ws).1 (cosX d ws).2.1).1.length
def cosTab (d : PresD) (ws : List (List Int)) : List (List Int) := tableC d.1.toNat (cosX d ws).1 (cosX d ws).2.1
def idxR (d : PresD) (ws : List (List Int)) : Int := if withOk d ws = true then (if (cosX d ws).2.2 = true then 0 else (cosN d ws : Int)) else 0
def idxC (d : PresD) (ws : List (List Int)) : Int := if withOk d ws = true then (if (cosX d ws).2.2 = true then 3 else 0) else 1
theorem tableC_length (ng : Nat) (im : List (List Int)) (less : List Int) : (tableC ng im less).length = ng := by simp [tableC]
theorem tableC_rowlen {ng g : Nat} (im : List (List Int)) (less : List Int) (h : g < ng) : (lget (tableC ng im less) g).length = (numbered ng im less).1.length := by
  simp [tableC, lget, h]
theorem withC_ok {d : PresD} {ws : List (List Int)} (h : withOk d ws = true) : withC d ws = 0 := if_pos h
theorem withC_no {d : PresD} {ws : List (List Int)} (h : ¬ withOk d ws = true) : withC d ws = 1 := if_neg h
/-- the reference's and the program's tables: the same -/
theorem specTable_no {ng : Nat} {rels ws : List (List Int)} (h : Good ng rels ws) (hf : (runC ng rels ws).2.2 = true) :
    FC Try.prog 144 [(1002, rowsRo ws), (1003, rowsRo rels)] [pA ng rels.length, o1 (.sl 1002 0 ws.length)] [] (.tup [.one (.val (.slice none 0 0)), .one (.val (.bool false))]) [] :=
  l11Table_failed ng rels ws _ _ rfl rfl h.rl h.wl (by have := h.hi; omega) h.rn h.wn (by have := h.r; omega) (by have := h.w; omega) hf
theorem specTable_yes {ng : Nat} {rels ws : List (List Int)} (h : Good ng rels ws) (hf : (runC ng rels ws).2.2 = false) :
    FC Try.prog 144 [(1002, rowsRo ws), (1003, rowsRo rels)] [pA ng rels.length, o1 (.sl 1002 0 ws.length)] [(69, imOw (tableC ng (runC ng rels ws).1 (runC ng rels ws).2.1))] (.tup [.one (.sl 69 0 ng), .one (.val (.bool true))]) [] :=
  l11Table_done ng rels ws _ _ rfl rfl h.rl h.wl (by have := h.hi; omega) h.rn h.wn (by have := h.r; omega) (by have := h.w; omega) hf
theorem implTable_no {ng : Nat} {rels ws : List (List Int)} (h : Good ng rels ws) (hf : (runC ng rels ws).2.2 = true) :
    FC Try.prog 138 [(1002, rowsRo ws), (1003, rowsRo rels)] [pA ng rels.length, o1 (.sl 1002 0 ws.length)] [] (.tup [.one (.val (.slice none 0 0)), .one (.val (.bool false))]) [] := by
  have := enumerated_fc ng rels ws _ _ rfl rfl h.rl h.wl h.pos (by have := h.hi; omega) h.rn h.wn (by have := h.r; omega) (by have := h.w; omega) _ rfl
  have hf' : (runI ng rels ws).2.2 = true := by
    rcases runI_same ng rels ws with e | e
    · rw [← e]; exact hf
    · exact e.2
  rwa [if_pos hf', if_pos hf'] at this
theorem implTable_yes {ng : Nat} {rels ws : List (List Int)} (h : Good ng rels ws) (hf : (runC ng rels ws).2.2 = false) :
    FC Try.prog 138 [(1002, rowsRo ws), (1003, rowsRo rels)] [pA ng rels.length, o1 (.sl 1002 0 ws.length)] [(131, imOw (tableC ng (runC ng rels ws).1 (runC ng rels ws).2.1))] (.tup [.one (.sl 131 0 ng), .one (.val (.bool true))]) [] := by
  have := enumerated_fc ng rels ws _ _ rfl rfl h.rl h.wl h.pos (by have := h.hi; omega) h.rn h.wn (by have := h.r; omega) (by have := h.w; omega) _ rfl
  have he : runC ng rels ws = runI ng rels ws := by
    rcases runI_same ng rels ws with e | e
    · exact e
    · rw [hf] at e; exact absurd e.1 (by simp)
  rw [← he, if_neg (by rw [hf]; simp), if_neg (by rw [hf]; simp)] at this
  exact this

set_option maxRecDepth 100000 in
set_option maxHeartbeats 1000000 in
theorem specIndex_fc (g : Int) (rels ws : List (List Int)) (h1 : Fit rels) (h2 : Fit ws) :
    FC Try.prog 66 [(1002, rowsRo ws), (1003, rowsRo rels)] [pA g rels.length, o1 (.sl 1002 0 ws.length)] [] (.tup [.one (.val (I6 (idxR (g, rels) ws))), .one (.val (I6 (idxC (g, rels) ws)))]) [] := by
  have hC := specCode_fc g rels ws h1 h2
  refine fc_enter (nt := 27) Try.func66 rfl rfl (by simp) fun w0 ω0 => ?_
  by_cases hok : withOk (g, rels) ws = true
  · obtain ⟨ng, rfl, hG⟩ := good_of hok
    rw [withC_ok hok] at hC
    unfold idxR idxC
    rw [if_pos hok, if_pos hok]
    (refine goes_seq ?_; refine goes_region ?_; apply run_step rfl; (exact stp_box rfl rfl rfl rfl); apply run_step rfl; (exact stp_assign rfl rfl); apply run_step rfl; (exact stp_assign rfl rfl); refine run_nil ?_; refine fin_seq ?_; refine goes_seq ?_; refine goes_seq ?_; refine goes_region ?_; apply run_step rfl; (exact stp_loadAgg rfl rfl rfl rfl rfl rfl (by as_aux_lemma => kernel_rfl)); apply run_step rfl; (exact stp_move rfl rfl); apply run_step rfl; (apply call_gate 141; exact stp_callR hC (by as_aux_lemma => kernel_rfl) rfl rfl ⟨⟨.inl rfl, .inl rfl, trivial⟩, rfl, trivial⟩ ⟨⟨_, rfl, .inl rfl⟩, ⟨_, rfl, .inl rfl⟩, trivial⟩ rfl rfl); apply run_step rfl; (exact stp_assign rfl rfl); refine run_nil ?_; refine fin_seq ?_; refine goes_seq ?_; refine goes_region ?_; apply run_step rfl; (exact stp_move rfl rfl); apply run_step rfl; (exact stp_bin rfl rfl rfl rfl); refine run_nil ?_; refine fin_seq ?_)
    refine goes_cond rfl (fun e => by cases e) (fun _ => ?_)
    show Goes _ _ _ _ _ _ _
    have hX : cosX ((ng : Int), rels) ws = runC ng rels ws := by unfold cosX; rw [Int.toNat_natCast]
    rw [hX]
    cases hf : (runC ng rels ws).2.2 with
    | true =>
      have hT := specTable_no hG hf
      rw [if_pos rfl, if_pos rfl]
      (refine goes_skip ?_; refine fin_seq ?_; refine goes_seq ?_; refine goes_region ?_; apply run_step rfl; (exact stp_loadAgg rfl rfl rfl rfl rfl rfl (by as_aux_lemma => kernel_rfl)); apply run_step rfl; (exact stp_move rfl rfl); apply run_step rfl; (apply call_gate 144; exact stp_callR hT (by as_aux_lemma => kernel_rfl) rfl rfl ⟨⟨.inl rfl, .inl rfl, trivial⟩, rfl, trivial⟩ ⟨⟨_, rfl, .inl rfl⟩, ⟨_, rfl, .inl rfl⟩, trivial⟩ rfl rfl); apply run_step rfl; (exact stp_move rfl rfl); apply run_step rfl; (exact stp_extract rfl rfl rfl); apply run_step rfl; (exact stp_extract rfl rfl rfl); apply run_step rfl; (exact stp_assign rfl rfl); apply run_step rfl; (exact stp_assign rfl rfl); refine run_nil ?_; refine fin_seq ?_; refine goes_seq ?_; refine goes_seq ?_; refine goes_region ?_; apply run_step rfl; (exact stp_move rfl rfl); apply run_step rfl; (exact stp_not rfl rfl); refine run_nil ?_; refine fin_seq ?_)
      refine goes_cond rfl (fun _ => ?_) (fun e => by cases e)
      (refine goes_seq ?_; refine goes_region ?_; apply run_step rfl; (exact stp_assign rfl rfl); apply run_step rfl; (exact stp_assign rfl rfl); refine run_nil ?_; refine fin_seq ?_; refine goes_ret ?_; refine fin_ret_then ?_)
      exact fin_ret2 (.inl rfl) rfl (.tmp rfl) (.tmp rfl) trivial trivial
    | false =>
      have hT := specTable_yes hG hf
      have hN : cosN ((ng : Int), rels) ws = (lget (tableC ng (runC ng rels ws).1 (runC ng rels ws).2.1) 0).length := by
        unfold cosN; rw [hX, Int.toNat_natCast, tableC_rowlen _ _ hG.pos]
      rw [if_neg (by simp), if_neg (by simp), hN]
      have hrow : (irows (tableC ng (runC ng rels ws).1 (runC ng rels ws).2.1))[0]? = some (ivals (lget (tableC ng (runC ng rels ws).1 (runC ng rels ws).2.1) 0)) := irows_get (by rw [tableC_length]; exact hG.pos)
      have hlen : (irows (tableC ng (runC ng rels ws).1 (runC ng rels ws).2.1)).length = ng := by rw [irows_len, tableC_length]
      have hpos := hG.pos
      generalize tableC ng (runC ng rels ws).1 (runC ng rels ws).2.1 = T at *
      (refine goes_skip ?_; refine fin_seq ?_; refine goes_seq ?_; refine goes_region ?_; apply run_step rfl; (exact stp_loadAgg rfl rfl rfl rfl rfl rfl (by as_aux_lemma => kernel_rfl)); apply run_step rfl; (exact stp_move rfl rfl); apply run_step rfl; (first | (apply call_gate 144; exact stp_callN hT (by as_aux_lemma => kernel_rfl) rfl rfl ⟨⟨.inl rfl, .inl rfl, trivial⟩, rfl, trivial⟩ ⟨⟨_, rfl, .inl rfl⟩, ⟨_, rfl, .inl rfl⟩, trivial⟩ rfl rfl rfl) | exact stp_ix (j := 0) rfl rfl rfl rfl rfl (by as_aux_lemma => kernel_rfl) rfl hpos (Nat.le_of_eq hlen.symm)); apply run_step rfl; (exact stp_move rfl rfl); apply run_step rfl; (exact stp_extract rfl rfl rfl); apply run_step rfl; (exact stp_extract rfl rfl rfl); apply run_step rfl; (exact stp_assign rfl rfl); apply run_step rfl; (exact stp_assign rfl rfl); refine run_nil ?_; refine fin_seq ?_; refine goes_seq ?_; refine goes_seq ?_; refine goes_region ?_; apply run_step rfl; (exact stp_move rfl rfl); apply run_step rfl; (exact stp_not rfl rfl); refine run_nil ?_; refine fin_seq ?_)
      refine goes_cond rfl (fun e => by cases e) (fun _ => ?_)
      (refine goes_skip ?_; refine fin_seq ?_; refine goes_seq ?_; refine goes_region ?_; apply run_step rfl; (exact stp_move rfl rfl); apply run_step rfl; (exact stp_ix (j := 0) rfl rfl rfl rfl rfl (by as_aux_lemma => kernel_rfl) rfl hpos (Nat.le_of_eq hlen.symm)); apply run_step rfl; (exact stp_loadR rfl (by as_aux_lemma => kernel_rfl) rfl rfl rfl (by first | assumption | exact ivals_get (by assumption) | exact irows_get (by assumption) | exact ivals_get (by omega) | exact irows_get (by omega) | rfl) (by first | exact ivals_len _ | assumption | rfl)); apply run_step rfl; (exact stp_len rfl rfl rfl (by as_aux_lemma => kernel_rfl)); apply run_step rfl; (exact stp_assign rfl rfl); apply run_step rfl; (exact stp_assign rfl rfl); refine run_nil ?_; refine fin_seq ?_; refine goes_ret ?_)
      exact fin_ret2 (.inl rfl) rfl (.tmp rfl) (.tmp rfl) trivial trivial
  · rw [withC_no hok] at hC
    unfold idxR idxC
    rw [if_neg hok, if_neg hok]
    (refine goes_seq ?_; refine goes_region ?_; apply run_step rfl; (exact stp_box rfl rfl rfl rfl); apply run_step rfl; (exact stp_assign rfl rfl); apply run_step rfl; (exact stp_assign rfl rfl); refine run_nil ?_; refine fin_seq ?_; refine goes_seq ?_; refine goes_seq ?_; refine goes_region ?_; apply run_step rfl; (exact stp_loadAgg rfl rfl rfl rfl rfl rfl (by as_aux_lemma => kernel_rfl)); apply run_step rfl; (exact stp_move rfl rfl); apply run_step rfl; (apply call_gate 141; exact stp_callR hC (by as_aux_lemma => kernel_rfl) rfl rfl ⟨⟨.inl rfl, .inl rfl, trivial⟩, rfl, trivial⟩ ⟨⟨_, rfl, .inl rfl⟩, ⟨_, rfl, .inl rfl⟩, trivial⟩ rfl rfl); apply run_step rfl; (exact stp_assign rfl rfl); refine run_nil ?_; refine fin_seq ?_; refine goes_seq ?_; refine goes_region ?_; apply run_step rfl; (exact stp_move rfl rfl); apply run_step rfl; (exact stp_bin rfl rfl rfl rfl); refine run_nil ?_; refine fin_seq ?_)
    refine goes_cond rfl (fun _ => ?_) (fun e => by cases e)
    (refine goes_seq ?_; refine goes_region ?_; apply run_step rfl; (exact stp_move rfl rfl); apply run_step rfl; (exact stp_assign rfl rfl); apply run_step rfl; (exact stp_assign rfl rfl); refine run_nil ?_; refine fin_seq ?_; refine goes_ret ?_; refine fin_ret_then ?_)
    exact fin_ret2 (.inl rfl) rfl (.tmp rfl) (.tmp rfl) trivial trivial
end Go.Proofs.Ytpognnifgcacnaa

/- GroupOrder, IndexOfSubgroup: the program's functions, and all four in words. -/
namespace Go.Proofs.Ytpognnifgcacnaa
open Go.RowKit

set_option maxRecDepth 100000 in
set_option maxHeartbeats 1000000 in
theorem implIndex_fc (g : Int) (rels ws : List (List Int)) (h1 : Fit rels) (h2 : Fit ws) :
    FC Try.prog 65 [(1002, rowsRo ws), (1003, rowsRo rels)] [pA g rels.length, o1 (.sl 1002 0 ws.length)] [] (.tup [.one (.val (I6 (idxR (g, rels) ws))), .one (.val (I6 (idxC (g, rels) ws)))]) [] := by
  have hC := implCode_fc g rels ws h1 h2
  refine fc_enter (nt := 27) Try.func65 rfl rfl (by simp) fun w0 ω0 => ?_
  by_cases hok : withOk (g, rels) ws = true
  · obtain ⟨ng, rfl, hG⟩ := good_of hok
    rw [withC_ok hok] at hC
    unfold idxR idxC
    rw [if_pos hok, if_pos hok]
    (refine goes_seq ?_; refine goes_region ?_; apply run_step rfl; (exact stp_box rfl rfl rfl rfl); apply run_step rfl; (exact stp_assign rfl rfl); apply run_step rfl; (exact stp_assign rfl rfl); refine run_nil ?_; refine fin_seq ?_; refine goes_seq ?_; refine goes_seq ?_; refine goes_region ?_; apply run_step rfl; (exact stp_loadAgg rfl rfl rfl rfl rfl rfl (by as_aux_lemma => kernel_rfl)); apply run_step rfl; (exact stp_move rfl rfl); apply run_step rfl; (apply call_gate 111; exact stp_callR hC (by as_aux_lemma => kernel_rfl) rfl rfl ⟨⟨.inl rfl, .inl rfl, trivial⟩, rfl, trivial⟩ ⟨⟨_, rfl, .inl rfl⟩, ⟨_, rfl, .inl rfl⟩, trivial⟩ rfl rfl); apply run_step rfl; (exact stp_assign rfl rfl); refine run_nil ?_; refine fin_seq ?_; refine goes_seq ?_; refine goes_region ?_; apply run_step rfl; (exact stp_move rfl rfl); apply run_step rfl; (exact stp_bin rfl rfl rfl rfl); refine run_nil ?_; refine fin_seq ?_)
    refine goes_cond rfl (fun e => by cases e) (fun _ => ?_)
    have hX : cosX ((ng : Int), rels) ws = runC ng rels ws := by unfold cosX; rw [Int.toNat_natCast]
    rw [hX]
    cases hf : (runC ng rels ws).2.2 with
    | true =>
      have hT := implTable_no hG hf
      rw [if_pos rfl, if_pos rfl]
      (refine goes_skip ?_; refine fin_seq ?_; refine goes_seq ?_; refine goes_region ?_; apply run_step rfl; (exact stp_loadAgg rfl rfl rfl rfl rfl rfl (by as_aux_lemma => kernel_rfl)); apply run_step rfl; (exact stp_move rfl rfl); apply run_step rfl; (apply call_gate 138; exact stp_callR hT (by as_aux_lemma => kernel_rfl) rfl rfl ⟨⟨.inl rfl, .inl rfl, trivial⟩, rfl, trivial⟩ ⟨⟨_, rfl, .inl rfl⟩, ⟨_, rfl, .inl rfl⟩, trivial⟩ rfl rfl); apply run_step rfl; (exact stp_move rfl rfl); apply run_step rfl; (exact stp_extract rfl rfl rfl); apply run_step rfl; (exact stp_extract rfl rfl rfl); apply run_step rfl; (exact stp_assign rfl rfl); apply run_step rfl; (exact stp_assign rfl rfl); refine run_nil ?_; refine fin_seq ?_; refine goes_seq ?_; refine goes_seq ?_; refine goes_region ?_; apply run_step rfl; (exact stp_move rfl rfl); apply run_step rfl; (exact stp_not rfl rfl); refine run_nil ?_; refine fin_seq ?_)
      refine goes_cond rfl (fun _ => ?_) (fun e => by cases e)
      (refine goes_seq ?_; refine goes_region ?_; apply run_step rfl; (exact stp_assign rfl rfl); apply run_step rfl; (exact stp_assign rfl rfl); refine run_nil ?_; refine fin_seq ?_; refine goes_ret ?_; refine fin_ret_then ?_)
      exact fin_ret2 (.inl rfl) rfl (.tmp rfl) (.tmp rfl) trivial trivial
    | false =>
      have hT := implTable_yes hG hf
      have hN : cosN ((ng : Int), rels) ws = (lget (tableC ng (runC ng rels ws).1 (runC ng rels ws).2.1) 0).length := by
        unfold cosN; rw [hX, Int.toNat_natCast, tableC_rowlen _ _ hG.pos]
      rw [if_neg (by simp), if_neg (by simp), hN]
      have hrow : (irows (tableC ng (runC ng rels ws).1 (runC ng rels ws).2.1))[0]? = some (ivals (lget (tableC ng (runC ng rels ws).1 (runC ng rels ws).2.1) 0)) := irows_get (by rw [tableC_length]; exact hG.pos)
      have hlen : (irows (tableC ng (runC ng rels ws).1 (runC ng rels ws).2.1)).length = ng := by rw [irows_len, tableC_length]
      have hpos := hG.pos
      generalize tableC ng (runC ng rels ws).1 (runC ng rels ws).2.1 = T at *
      have hS := sizeE_fc 131 0 (lget T 0).length
      (refine goes_skip ?_; refine fin_seq ?_; refine goes_seq ?_; refine goes_region ?_; apply run_step rfl; (exact stp_loadAgg rfl rfl rfl rfl rfl rfl (by as_aux_lemma => kernel_rfl)); apply run_step rfl; (exact stp_move rfl rfl); apply run_step rfl; (apply call_gate 138; exact stp_callN hT (by as_aux_lemma => kernel_rfl) rfl rfl ⟨⟨.inl rfl, .inl rfl, trivial⟩, rfl, trivial⟩ ⟨⟨_, rfl, .inl rfl⟩, ⟨_, rfl, .inl rfl⟩, trivial⟩ rfl rfl rfl); apply run_step rfl; (exact stp_move rfl rfl); apply run_step rfl; (exact stp_extract rfl rfl rfl); apply run_step rfl; (exact stp_extract rfl rfl rfl); apply run_step rfl; (exact stp_assign rfl rfl); apply run_step rfl; (exact stp_assign rfl rfl); refine run_nil ?_; refine fin_seq ?_; refine goes_seq ?_; refine goes_seq ?_; refine goes_region ?_; apply run_step rfl; (exact stp_move rfl rfl); apply run_step rfl; (exact stp_not rfl rfl); refine run_nil ?_; refine fin_seq ?_)
      refine goes_cond rfl (fun e => by cases e) (fun _ => ?_)
      (refine goes_skip ?_; refine fin_seq ?_; refine goes_seq ?_; refine goes_region ?_; apply run_step rfl; (exact stp_move rfl rfl); apply run_step rfl; (first | exact stp_ix (j := 0) rfl rfl rfl rfl rfl (by as_aux_lemma => kernel_rfl) rfl hpos (Nat.le_of_eq hlen.symm) | (apply call_gate 139; exact stp_callR hS (by as_aux_lemma => kernel_rfl) rfl rfl ⟨rfl, trivial⟩ trivial rfl rfl)); apply run_step rfl; (exact stp_loadR rfl (by as_aux_lemma => kernel_rfl) rfl rfl rfl (by first | assumption | exact ivals_get (by assumption) | exact irows_get (by assumption) | exact ivals_get (by omega) | exact irows_get (by omega) | rfl) (by first | exact ivals_len _ | assumption | rfl)); apply run_step rfl; (first | exact stp_ix (j := 0) rfl rfl rfl rfl rfl (by as_aux_lemma => kernel_rfl) rfl hpos (Nat.le_of_eq hlen.symm) | (apply call_gate 139; exact stp_callR hS (by as_aux_lemma => kernel_rfl) rfl rfl ⟨rfl, trivial⟩ trivial rfl rfl)); apply run_step rfl; (exact stp_assign rfl rfl); apply run_step rfl; (exact stp_assign rfl rfl); refine run_nil ?_; refine fin_seq ?_; refine goes_ret ?_)
      exact fin_ret2 (.inl rfl) rfl (.tmp rfl) (.tmp rfl) trivial trivial
  · rw [withC_no hok] at hC
    unfold idxR idxC
    rw [if_neg hok, if_neg hok]
    (refine goes_seq ?_; refine goes_region ?_; apply run_step rfl; (exact stp_box rfl rfl rfl rfl); apply run_step rfl; (exact stp_assign rfl rfl); apply run_step rfl; (exact stp_assign rfl rfl); refine run_nil ?_; refine fin_seq ?_; refine goes_seq ?_; refine goes_seq ?_; refine goes_region ?_; apply run_step rfl; (exact stp_loadAgg rfl rfl rfl rfl rfl rfl (by as_aux_lemma => kernel_rfl)); apply run_step rfl; (exact stp_move rfl rfl); apply run_step rfl; (apply call_gate 111; exact stp_callR hC (by as_aux_lemma => kernel_rfl) rfl rfl ⟨⟨.inl rfl, .inl rfl, trivial⟩, rfl, trivial⟩ ⟨⟨_, rfl, .inl rfl⟩, ⟨_, rfl, .inl rfl⟩, trivial⟩ rfl rfl); apply run_step rfl; (exact stp_assign rfl rfl); refine run_nil ?_; refine fin_seq ?_; refine goes_seq ?_; refine goes_region ?_; apply run_step rfl; (exact stp_move rfl rfl); apply run_step rfl; (exact stp_bin rfl rfl rfl rfl); refine run_nil ?_; refine fin_seq ?_)
    refine goes_cond rfl (fun _ => ?_) (fun e => by cases e)
    (refine goes_seq ?_; refine goes_region ?_; apply run_step rfl; (exact stp_move rfl rfl); apply run_step rfl; (exact stp_assign rfl rfl); apply run_step rfl; (exact stp_assign rfl rfl); refine run_nil ?_; refine fin_seq ?_; refine goes_ret ?_; refine fin_ret_then ?_)
    exact fin_ret2 (.inl rfl) rfl (.tmp rfl) (.tmp rfl) trivial trivial

theorem fit_nil : Fit [] := ⟨by simp, fun zs h => by simp at h⟩
theorem lk_one {α : Type} {x y : Nat} {c d : α} (h : lk y [(x, c)] = some d) : d = c := by
  simp only [lk] at h
  cases hb : Nat.beq y x with
  | true => rw [hb] at h; simpa using h.symm
  | false => rw [hb] at h; simp at h
theorem noFlat {rels : List (List Int)} : ∀ y c, lk y [(1003, rowsRo rels)] = some c → ∀ l, c.d ≠ .flat l := fun y c h l e => by
  rw [lk_one h] at e; cases e
/-- nil for the words -/
theorem FC.nilW {f : FuncId} {g : Int} {rels : List (List Int)} {outs : List (Nm × Ch)} {res : AV} (h : FC Try.prog f [(1002, rowsRo []), (1003, rowsRo rels)] [pA g rels.length, o1 (.sl 1002 0 0)] outs res []) : FC Try.prog f [(1003, rowsRo rels)] [pA g rels.length, vv (.slice none 0 0)] outs res [] :=
  FC.nil2 (x := 1002) h rfl rfl rfl (fun t av h => by cases h) noFlat
set_option maxRecDepth 100000 in
theorem specGroup_fc (g : Int) (rels : List (List Int)) (h1 : Fit rels) :
    FC Try.prog 69 [(1003, rowsRo rels)] [pA g rels.length] [] (.tup [.one (.val (I6 (idxR (g, rels) []))), .one (.val (I6 (idxC (g, rels) [])))]) [] := by
  have hI := (specIndex_fc g rels [] h1 fit_nil).nilW
  refine fc_enter (nt := 8) Try.func69 rfl rfl (by simp) fun w0 ω0 => ?_
  (refine goes_seq ?_; refine goes_region ?_; apply run_step rfl; (exact stp_box rfl rfl rfl rfl); apply run_step rfl; (exact stp_assign rfl rfl); apply run_step rfl; (exact stp_assign rfl rfl); refine run_nil ?_; refine fin_seq ?_; refine goes_seq ?_; refine goes_region ?_; apply run_step rfl; (exact stp_loadAgg rfl rfl rfl rfl rfl rfl (by as_aux_lemma => kernel_rfl)); apply run_step rfl; (apply call_gate 66; exact stp_callR hI (by as_aux_lemma => kernel_rfl) rfl rfl ⟨⟨.inl rfl, .inl rfl, trivial⟩, rfl, trivial⟩ ⟨⟨_, rfl, .inl rfl⟩, trivial⟩ rfl rfl); apply run_step rfl; (exact stp_extract rfl rfl rfl); apply run_step rfl; (exact stp_extract rfl rfl rfl); apply run_step rfl; (exact stp_assign rfl rfl); apply run_step rfl; (exact stp_assign rfl rfl); refine run_nil ?_; refine fin_seq ?_; refine goes_ret ?_)
  exact fin_ret2 (.inl rfl) rfl (.tmp rfl) (.tmp rfl) trivial trivial
theorem withOk_nil {g : Int} {rels : List (List Int)} : withOk (g, rels) [] = isPres (g, rels) := by unfold withOk wordsTo; simp
set_option maxRecDepth 100000 in
set_option maxHeartbeats 1000000 in
theorem implGroup_fc (g : Int) (rels : List (List Int)) (h1 : Fit rels) :
    FC Try.prog 57 [(1003, rowsRo rels)] [pA g rels.length] [] (.tup [.one (.val (I6 (idxR (g, rels) []))), .one (.val (I6 (idxC (g, rels) [])))]) [] := by
  have hC := isPres_fc g rels h1
  refine fc_enter (nt := 20) Try.func57 rfl rfl (by simp) fun w0 ω0 => ?_
  by_cases hok : withOk (g, rels) [] = true
  · obtain ⟨ng, rfl, hG⟩ := good_of hok
    rw [← withOk_nil, hok] at hC
    unfold idxR idxC
    rw [if_pos hok, if_pos hok]
    (refine goes_seq ?_; refine goes_region ?_; apply run_step rfl; (exact stp_box rfl rfl rfl rfl); apply run_step rfl; (exact stp_assign rfl rfl); apply run_step rfl; (exact stp_assign rfl rfl); refine run_nil ?_; refine fin_seq ?_; refine goes_seq ?_; refine goes_seq ?_; refine goes_region ?_; apply run_step rfl; (exact stp_loadAgg rfl rfl rfl rfl rfl rfl (by as_aux_lemma => kernel_rfl)); apply run_step rfl; (apply call_gate 137; exact stp_callR hC (by as_aux_lemma => kernel_rfl) rfl rfl ⟨⟨.inl rfl, .inl rfl, trivial⟩, trivial⟩ ⟨⟨_, rfl, .inl rfl⟩, trivial⟩ rfl rfl); apply run_step rfl; (exact stp_not rfl rfl); refine run_nil ?_; refine fin_seq ?_)
    refine goes_cond rfl (fun e => by cases e) (fun _ => ?_)
    have hX : cosX ((ng : Int), rels) [] = runC ng rels [] := by unfold cosX; rw [Int.toNat_natCast]
    rw [hX]
    cases hf : (runC ng rels []).2.2 with
    | true =>
      have hT := (implTable_no hG hf).nilW
      rw [if_pos rfl, if_pos rfl]
      (refine goes_skip ?_; refine fin_seq ?_; refine goes_seq ?_; refine goes_region ?_; apply run_step rfl; (exact stp_loadAgg rfl rfl rfl rfl rfl rfl (by as_aux_lemma => kernel_rfl)); apply run_step rfl; (apply call_gate 138; exact stp_callR hT (by as_aux_lemma => kernel_rfl) rfl rfl ⟨⟨.inl rfl, .inl rfl, trivial⟩, rfl, trivial⟩ ⟨⟨_, rfl, .inl rfl⟩, trivial⟩ rfl rfl); apply run_step rfl; (exact stp_move rfl rfl); apply run_step rfl; (exact stp_extract rfl rfl rfl); apply run_step rfl; (exact stp_extract rfl rfl rfl); apply run_step rfl; (exact stp_assign rfl rfl); apply run_step rfl; (exact stp_assign rfl rfl); refine run_nil ?_; refine fin_seq ?_; refine goes_seq ?_; refine goes_seq ?_; refine goes_region ?_; apply run_step rfl; (exact stp_move rfl rfl); apply run_step rfl; (exact stp_not rfl rfl); refine run_nil ?_; refine fin_seq ?_)
      refine goes_cond rfl (fun _ => ?_) (fun e => by cases e)
      (refine goes_seq ?_; refine goes_region ?_; apply run_step rfl; (exact stp_assign rfl rfl); apply run_step rfl; (exact stp_assign rfl rfl); refine run_nil ?_; refine fin_seq ?_; refine goes_ret ?_; refine fin_ret_then ?_)
      exact fin_ret2 (.inl rfl) rfl (.tmp rfl) (.tmp rfl) trivial trivial
    | false =>
      have hT := (implTable_yes hG hf).nilW
      have hN : cosN ((ng : Int), rels) [] = (lget (tableC ng (runC ng rels []).1 (runC ng rels []).2.1) 0).length := by
        unfold cosN; rw [hX, Int.toNat_natCast, tableC_rowlen _ _ hG.pos]
      rw [if_neg (by simp), if_neg (by simp), hN]
      have hrow : (irows (tableC ng (runC ng rels []).1 (runC ng rels []).2.1))[0]? = some (ivals (lget (tableC ng (runC ng rels []).1 (runC ng rels []).2.1) 0)) := irows_get (by rw [tableC_length]; exact hG.pos)
      have hlen : (irows (tableC ng (runC ng rels []).1 (runC ng rels []).2.1)).length = ng := by rw [irows_len, tableC_length]
      have hpos := hG.pos
      generalize tableC ng (runC ng rels []).1 (runC ng rels []).2.1 = T at *
      have hS := sizeE_fc 131 0 (lget T 0).length
      (refine goes_skip ?_; refine fin_seq ?_; refine goes_seq ?_; refine goes_region ?_; apply run_step rfl; (exact stp_loadAgg rfl rfl rfl rfl rfl rfl (by as_aux_lemma => kernel_rfl)); apply run_step rfl; (apply call_gate 138; exact stp_callN hT (by as_aux_lemma => kernel_rfl) rfl rfl ⟨⟨.inl rfl, .inl rfl, trivial⟩, rfl, trivial⟩ ⟨⟨_, rfl, .inl rfl⟩, trivial⟩ rfl rfl rfl); apply run_step rfl; (exact stp_move rfl rfl); apply run_step rfl; (exact stp_extract rfl rfl rfl); apply run_step rfl; (exact stp_extract rfl rfl rfl); apply run_step rfl; (exact stp_assign rfl rfl); apply run_step rfl; (exact stp_assign rfl rfl); refine run_nil ?_; refine fin_seq ?_; refine goes_seq ?_; refine goes_seq ?_; refine goes_region ?_; apply run_step rfl; (exact stp_move rfl rfl); apply run_step rfl; (exact stp_not rfl rfl); refine run_nil ?_; refine fin_seq ?_)
      refine goes_cond rfl (fun e => by cases e) (fun _ => ?_)
      (refine goes_skip ?_; refine fin_seq ?_; refine goes_seq ?_; refine goes_region ?_; apply run_step rfl; (exact stp_move rfl rfl); apply run_step rfl; (first | exact stp_ix (j := 0) rfl rfl rfl rfl rfl (by as_aux_lemma => kernel_rfl) rfl hpos (Nat.le_of_eq hlen.symm) | (apply call_gate 139; exact stp_callR hS (by as_aux_lemma => kernel_rfl) rfl rfl ⟨rfl, trivial⟩ trivial rfl rfl)); apply run_step rfl; (exact stp_loadR rfl (by as_aux_lemma => kernel_rfl) rfl rfl rfl (by first | assumption | exact ivals_get (by assumption) | exact irows_get (by assumption) | exact ivals_get (by omega) | exact irows_get (by omega) | rfl) (by first | exact ivals_len _ | assumption | rfl)); apply run_step rfl; (first | exact stp_ix (j := 0) rfl rfl rfl rfl rfl (by as_aux_lemma => kernel_rfl) rfl hpos (Nat.le_of_eq hlen.symm) | (apply call_gate 139; exact stp_callR hS (by as_aux_lemma => kernel_rfl) rfl rfl ⟨rfl, trivial⟩ trivial rfl rfl)); apply run_step rfl; (exact stp_assign rfl rfl); apply run_step rfl; (exact stp_assign rfl rfl); refine run_nil ?_; refine fin_seq ?_; refine goes_ret ?_)
      exact fin_ret2 (.inl rfl) rfl (.tmp rfl) (.tmp rfl) trivial trivial
  · have hp : isPres (g, rels) = false := by rw [withOk_nil] at hok; simpa using hok
    rw [hp] at hC
    unfold idxR idxC
    rw [if_neg hok, if_neg hok]
    (refine goes_seq ?_; refine goes_region ?_; apply run_step rfl; (exact stp_box rfl rfl rfl rfl); apply run_step rfl; (exact stp_assign rfl rfl); apply run_step rfl; (exact stp_assign rfl rfl); refine run_nil ?_; refine fin_seq ?_; refine goes_seq ?_; refine goes_seq ?_; refine goes_region ?_; apply run_step rfl; (exact stp_loadAgg rfl rfl rfl rfl rfl rfl (by as_aux_lemma => kernel_rfl)); apply run_step rfl; (apply call_gate 137; exact stp_callR hC (by as_aux_lemma => kernel_rfl) rfl rfl ⟨⟨.inl rfl, .inl rfl, trivial⟩, trivial⟩ ⟨⟨_, rfl, .inl rfl⟩, trivial⟩ rfl rfl); apply run_step rfl; (exact stp_not rfl rfl); refine run_nil ?_; refine fin_seq ?_)
    refine goes_cond rfl (fun _ => ?_) (fun e => by cases e)
    (refine goes_seq ?_; refine goes_region ?_; apply run_step rfl; (exact stp_assign rfl rfl); apply run_step rfl; (exact stp_assign rfl rfl); refine run_nil ?_; refine fin_seq ?_; refine goes_ret ?_; refine fin_ret_then ?_)
    exact fin_ret2 (.inl rfl) rfl (.tmp rfl) (.tmp rfl) trivial trivial

/-! in words -/
theorem api_specIndex {E1 E E1' E' : Nat} {lo hi lo' hi' : Nat} {v v' : Value} {d : PresD} {ws : List (List Int)} (w : World) (h : OwP E1 E w lo hi v d) (h' : OwSS E1' E' w lo' hi' v' ws) :
    Calls Try.prog 66 #[v, v'] w fun e w' => e = .returned (.tuple #[.int .i64 (idxR d ws), .int .i64 (idxC d ws)]) ∧ Below w.heap.size w w' := two_vals (callPW (fun k1 k2 => specIndex_fc d.1 d.2 ws k1 k2) h h')
theorem api_implIndex {E1 E E1' E' : Nat} {lo hi lo' hi' : Nat} {v v' : Value} {d : PresD} {ws : List (List Int)} (w : World) (h : OwP E1 E w lo hi v d) (h' : OwSS E1' E' w lo' hi' v' ws) :
    Calls Try.prog 65 #[v, v'] w fun e w' => e = .returned (.tuple #[.int .i64 (idxR d ws), .int .i64 (idxC d ws)]) ∧ Below w.heap.size w w' := two_vals (callPW (fun k1 k2 => implIndex_fc d.1 d.2 ws k1 k2) h h')
theorem api_specGroup {E1 E : Nat} {lo hi : Nat} {v : Value} {d : PresD} (w : World) (h : OwP E1 E w lo hi v d) :
    Calls Try.prog 69 #[v] w fun e w' => e = .returned (.tuple #[.int .i64 (idxR d []), .int .i64 (idxC d [])]) ∧ Below w.heap.size w w' := two_vals (callP (fun k1 => specGroup_fc d.1 d.2 k1) h)
theorem api_implGroup {E1 E : Nat} {lo hi : Nat} {v : Value} {d : PresD} (w : World) (h : OwP E1 E w lo hi v d) :
    Calls Try.prog 57 #[v] w fun e w' => e = .returned (.tuple #[.int .i64 (idxR d []), .int .i64 (idxC d [])]) ∧ Below w.heap.size w w' := two_vals (callP (fun k1 => implGroup_fc d.1 d.2 k1) h)
end Go.Proofs.Ytpognnifgcacnaa

/- The table of a subgroup: l11Small, cosetTable; CosetTable. guards: -/
namespace Go.Proofs.Ytpognnifgcacnaa
open Go.RowKit

def smallOk (d : PresD) (ws : List (List Int)) : Bool := !(cosX d ws).2.2 && decide (cosN d ws ≤ 400)
theorem cosX_nat (ng : Nat) (rels ws : List (List Int)) : cosX ((ng : Int), rels) ws = runC ng rels ws := by unfold cosX; rw [Int.toNat_natCast]
theorem cosN_nat (ng : Nat) (rels ws : List (List Int)) : cosN ((ng : Int), rels) ws = (numbered ng (runC ng rels ws).1 (runC ng rels ws).2.1).1.length := by unfold cosN; rw [cosX_nat, Int.toNat_natCast]
theorem cosTab_nat (ng : Nat) (rels ws : List (List Int)) : cosTab ((ng : Int), rels) ws = tableC ng (runC ng rels ws).1 (runC ng rels ws).2.1 := by unfold cosTab; rw [cosX_nat, Int.toNat_natCast]
theorem cosTab_row {ng : Nat} {rels ws : List (List Int)} {g : Nat} (h : g < ng) : (lget (cosTab ((ng : Int), rels) ws) g).length = cosN ((ng : Int), rels) ws := by rw [cosTab_nat, cosN_nat, tableC_rowlen _ _ h]
theorem cosTab_len (ng : Nat) (rels ws : List (List Int)) : (cosTab ((ng : Int), rels) ws).length = ng := by rw [cosTab_nat, tableC_length]
theorem cosN_le {ng : Nat} {rels ws : List (List Int)} (h : Good ng rels ws) (hf : (runC ng rels ws).2.2 = false) : cosN ((ng : Int), rels) ws ≤ 2000 := by
  rw [cosN_nat]
  have hF := full_run h.rl h.wl hf
  exact Nat.le_trans (numbered_ok hF).1.le (runC_ok h.rl h.wl).hi
def ctR (d : PresD) (ws : List (List Int)) : List (List Int) := if withOk d ws = true then (if smallOk d ws = true then cosTab d ws else []) else []
def ctC (d : PresD) (ws : List (List Int)) : Int := if withOk d ws = true then (if smallOk d ws = true then 0 else 3) else 1
theorem lenSS_le {zss : List (List Int)} {k : Nat} (h : ∀ zs ∈ zss, zs.length ≤ k) : lenSS zss ≤ zss.length * k := by
  unfold lenSS
  induction zss with
  | nil => simp
  | cons a r ih =>
    have h1 := h a (by simp)
    have h2 := ih fun z hz => h z (by simp [hz])
    simp only [List.map_cons, List.sum_cons, List.length_cons, Nat.add_mul]
    omega
theorem rows_of {zss : List (List Int)} {k : Nat} (h : ∀ g, g < zss.length → (lget zss g).length = k) : ∀ zs ∈ zss, zs.length = k := fun zs hz => by
  obtain ⟨j, hj, rfl⟩ := List.getElem_of_mem hz
  rw [← lget_lt hj]; exact h j hj
theorem ctR_small (d : PresD) (ws : List (List Int)) : (ctR d ws).length ≤ 5 ∧ lenSS (ctR d ws) ≤ 2000 := by
  unfold ctR
  split
  · rename_i h
    split
    · rename_i hs
      obtain ⟨g, rels⟩ := d
      obtain ⟨ng, rfl, hG⟩ := good_of h
      have h5 := hG.hi
      have hl := cosTab_len ng rels ws
      have hr := rows_of (zss := cosTab ((ng : Int), rels) ws) fun g hg => cosTab_row (rels := rels) (ws := ws) (g := g) (by omega)
      have hn : cosN ((ng : Int), rels) ws ≤ 400 := by unfold smallOk at hs; simp at hs; exact hs.2
      have := lenSS_le (zss := cosTab ((ng : Int), rels) ws) (k := 400) fun z hz => by rw [hr z hz]; exact hn
      rw [hl] at this
      have h6 : ng * 400 ≤ 5 * 400 := Nat.mul_le_mul_right _ h5
      omega
    · simp [lenSS]
  · simp [lenSS]

set_option maxRecDepth 100000 in
set_option maxHeartbeats 1000000 in
theorem specSmall_yes {ng : Nat} {rels ws : List (List Int)} (hG : Good ng rels ws) (hs : smallOk ((ng : Int), rels) ws = true) :
    FC Try.prog 107 [(1002, rowsRo ws), (1003, rowsRo rels)] [pA ng rels.length, o1 (.sl 1002 0 ws.length)] [(1005, imOw (cosTab ((ng : Int), rels) ws))] (.tup [.one (.sl 1005 0 ng), .one (.val (I6 0))]) [] := by
  have hs2 : (runC ng rels ws).2.2 = false ∧ cosN ((ng : Int), rels) ws ≤ 400 := by unfold smallOk at hs; rw [cosX_nat] at hs; simpa using hs
  have hT : FC Try.prog 144 [(1002, rowsRo ws), (1003, rowsRo rels)] [pA ng rels.length, o1 (.sl 1002 0 ws.length)] [(1005, imOw (cosTab ((ng : Int), rels) ws))] (.tup [.one (.sl 1005 0 ng), .one (.val (.bool true))]) [] := by
    rw [cosTab_nat]
    exact (specTable_yes hG hs2.1).nm [(69, 1005), (1002, 1002), (1003, 1003)] (by kernel_rfl)
  have hlen : (irows (cosTab ((ng : Int), rels) ws)).length = ng := by rw [irows_len, cosTab_len]
  have hpos := hG.pos
  have hr0 : (lget (cosTab ((ng : Int), rels) ws) 0).length ≤ 400 := by rw [cosTab_row hpos]; exact hs2.2
  have hrow : (irows (cosTab ((ng : Int), rels) ws))[0]? = some (ivals (lget (cosTab ((ng : Int), rels) ws) 0)) := irows_get (by rw [← irows_len, hlen]; exact hpos)
  generalize cosTab ((ng : Int), rels) ws = T at *
  refine fc_enter (nt := 24) Try.func107 rfl rfl (by simp) fun w0 ω0 => ?_
  (refine goes_seq ?_; refine goes_region ?_; apply run_step rfl; (exact stp_box rfl rfl rfl rfl); apply run_step rfl; (exact stp_assign rfl rfl); apply run_step rfl; (exact stp_assign rfl rfl); refine run_nil ?_; refine fin_seq ?_; refine goes_seq ?_; refine goes_region ?_; apply run_step rfl; (exact stp_loadAgg rfl rfl rfl rfl rfl rfl (by as_aux_lemma => kernel_rfl)); apply run_step rfl; (exact stp_move rfl rfl); apply run_step rfl; (first | (apply call_gate 144; exact stp_callN hT (by as_aux_lemma => kernel_rfl) rfl rfl ⟨⟨.inl rfl, .inl rfl, trivial⟩, rfl, trivial⟩ ⟨⟨_, rfl, .inl rfl⟩, ⟨_, rfl, .inl rfl⟩, trivial⟩ rfl rfl rfl) | exact stp_ix (j := 0) rfl rfl rfl rfl rfl (by as_aux_lemma => kernel_rfl) rfl hpos (Nat.le_of_eq hlen.symm)); apply run_step rfl; (exact stp_move rfl rfl); apply run_step rfl; (exact stp_extract rfl rfl rfl); apply run_step rfl; (exact stp_extract rfl rfl rfl); apply run_step rfl; (exact stp_assign rfl rfl); apply run_step rfl; (exact stp_assign rfl rfl); refine run_nil ?_; refine fin_seq ?_; refine goes_seq ?_; refine goes_seq ?_; refine goes_region ?_; apply run_step rfl; (exact stp_move rfl rfl); apply run_step rfl; (exact stp_not rfl rfl); apply run_step rfl; (exact stp_move rfl rfl); apply run_gYes rfl rfl rfl; (exact stp_move rfl rfl); apply run_gYes rfl rfl rfl; (first | (apply call_gate 144; exact stp_callN hT (by as_aux_lemma => kernel_rfl) rfl rfl ⟨⟨.inl rfl, .inl rfl, trivial⟩, rfl, trivial⟩ ⟨⟨_, rfl, .inl rfl⟩, ⟨_, rfl, .inl rfl⟩, trivial⟩ rfl rfl rfl) | exact stp_ix (j := 0) rfl rfl rfl rfl rfl (by as_aux_lemma => kernel_rfl) rfl hpos (Nat.le_of_eq hlen.symm)); apply run_gYes rfl rfl rfl; (exact stp_loadR rfl (by as_aux_lemma => kernel_rfl) rfl rfl rfl (by first | assumption | exact ivals_get (by assumption) | exact irows_get (by assumption) | exact ivals_get (by omega) | exact irows_get (by omega) | rfl) (by first | exact ivals_len _ | assumption | rfl)); apply run_gYes rfl rfl rfl; (exact stp_len rfl rfl rfl (by as_aux_lemma => kernel_rfl)); apply run_gYes rfl rfl rfl; (exact stp_bin rfl rfl rfl rfl); apply run_step rfl; (exact stp_pickF rfl rfl rfl); refine run_nil ?_; refine fin_seq ?_)
  refine goes_cond rfl (fun e => ?_) (fun _ => ?_)
  · exfalso; simp at e; omega
  · (refine goes_skip ?_; refine fin_seq ?_; refine goes_seq ?_; refine goes_region ?_; apply run_step rfl; (exact stp_move rfl rfl); apply run_step rfl; (exact stp_assign rfl rfl); apply run_step rfl; (exact stp_assign rfl rfl); refine run_nil ?_; refine fin_seq ?_; refine goes_ret ?_)
    exact fin_ret2 (.inl rfl) rfl (.tmp rfl) (.tmp rfl) ⟨rfl, trivial⟩ trivial
set_option maxRecDepth 100000 in
set_option maxHeartbeats 1000000 in
theorem specSmall_no {ng : Nat} {rels ws : List (List Int)} (hG : Good ng rels ws) (hs : ¬ smallOk ((ng : Int), rels) ws = true) :
    FC Try.prog 107 [(1002, rowsRo ws), (1003, rowsRo rels)] [pA ng rels.length, o1 (.sl 1002 0 ws.length)] [] (.tup [.one (.val (.slice none 0 0)), .one (.val (I6 3))]) [] := by
  unfold smallOk at hs; rw [cosX_nat] at hs
  refine fc_enter (nt := 24) Try.func107 rfl rfl (by simp) fun w0 ω0 => ?_
  cases hf : (runC ng rels ws).2.2 with
  | true =>
    have hT := specTable_no hG hf
    (refine goes_seq ?_; refine goes_region ?_; apply run_step rfl; (exact stp_box rfl rfl rfl rfl); apply run_step rfl; (exact stp_assign rfl rfl); apply run_step rfl; (exact stp_assign rfl rfl); refine run_nil ?_; refine fin_seq ?_; refine goes_seq ?_; refine goes_region ?_; apply run_step rfl; (exact stp_loadAgg rfl rfl rfl rfl rfl rfl (by as_aux_lemma => kernel_rfl)); apply run_step rfl; (exact stp_move rfl rfl); apply run_step rfl; (apply call_gate 144; exact stp_callR hT (by as_aux_lemma => kernel_rfl) rfl rfl ⟨⟨.inl rfl, .inl rfl, trivial⟩, rfl, trivial⟩ ⟨⟨_, rfl, .inl rfl⟩, ⟨_, rfl, .inl rfl⟩, trivial⟩ rfl rfl); apply run_step rfl; (exact stp_move rfl rfl); apply run_step rfl; (exact stp_extract rfl rfl rfl); apply run_step rfl; (exact stp_extract rfl rfl rfl); apply run_step rfl; (exact stp_assign rfl rfl); apply run_step rfl; (exact stp_assign rfl rfl); refine run_nil ?_; refine fin_seq ?_; refine goes_seq ?_; refine goes_seq ?_; refine goes_region ?_; apply run_step rfl; (exact stp_move rfl rfl); apply run_step rfl; (exact stp_not rfl rfl); apply run_step rfl; (exact stp_move rfl rfl); apply run_gNo rfl rfl rfl rfl rfl; apply run_gNo rfl rfl rfl rfl rfl; apply run_gNo rfl rfl rfl rfl rfl; apply run_gNo rfl rfl rfl rfl rfl; apply run_gNo rfl rfl rfl rfl rfl; apply run_step rfl; (exact stp_pickT rfl rfl rfl); refine run_nil ?_; refine fin_seq ?_)
    refine goes_cond rfl (fun _ => ?_) (fun e => by cases e)
    (refine goes_seq ?_; refine goes_region ?_; apply run_step rfl; (exact stp_assign rfl rfl); apply run_step rfl; (exact stp_assign rfl rfl); refine run_nil ?_; refine fin_seq ?_; refine goes_ret ?_; refine fin_ret_then ?_)
    exact fin_ret2 (.inl rfl) rfl (.tmp rfl) (.tmp rfl) trivial trivial
  | false =>
    have hn : 400 < cosN ((ng : Int), rels) ws := by rw [hf] at hs; simpa using hs
    have hT : FC Try.prog 144 [(1002, rowsRo ws), (1003, rowsRo rels)] [pA ng rels.length, o1 (.sl 1002 0 ws.length)] [(1005, imOw (cosTab ((ng : Int), rels) ws))] (.tup [.one (.sl 1005 0 ng), .one (.val (.bool true))]) [] := by
      rw [cosTab_nat]
      exact (specTable_yes hG hf).nm [(69, 1005), (1002, 1002), (1003, 1003)] (by kernel_rfl)
    have hlen : (irows (cosTab ((ng : Int), rels) ws)).length = ng := by rw [irows_len, cosTab_len]
    have hpos := hG.pos
    have hr0 : 400 < (lget (cosTab ((ng : Int), rels) ws) 0).length := by rw [cosTab_row hpos]; exact hn
    have hrow : (irows (cosTab ((ng : Int), rels) ws))[0]? = some (ivals (lget (cosTab ((ng : Int), rels) ws) 0)) := irows_get (by rw [← irows_len, hlen]; exact hpos)
    clear hs hn
    generalize cosTab ((ng : Int), rels) ws = T at *
    (refine goes_seq ?_; refine goes_region ?_; apply run_step rfl; (exact stp_box rfl rfl rfl rfl); apply run_step rfl; (exact stp_assign rfl rfl); apply run_step rfl; (exact stp_assign rfl rfl); refine run_nil ?_; refine fin_seq ?_; refine goes_seq ?_; refine goes_region ?_; apply run_step rfl; (exact stp_loadAgg rfl rfl rfl rfl rfl rfl (by as_aux_lemma => kernel_rfl)); apply run_step rfl; (exact stp_move rfl rfl); apply run_step rfl; (first | (apply call_gate 144; exact stp_callN hT (by as_aux_lemma => kernel_rfl) rfl rfl ⟨⟨.inl rfl, .inl rfl, trivial⟩, rfl, trivial⟩ ⟨⟨_, rfl, .inl rfl⟩, ⟨_, rfl, .inl rfl⟩, trivial⟩ rfl rfl rfl) | exact stp_ix (j := 0) rfl rfl rfl rfl rfl (by as_aux_lemma => kernel_rfl) rfl hpos (Nat.le_of_eq hlen.symm)); apply run_step rfl; (exact stp_move rfl rfl); apply run_step rfl; (exact stp_extract rfl rfl rfl); apply run_step rfl; (exact stp_extract rfl rfl rfl); apply run_step rfl; (exact stp_assign rfl rfl); apply run_step rfl; (exact stp_assign rfl rfl); refine run_nil ?_; refine fin_seq ?_; refine goes_seq ?_; refine goes_seq ?_; refine goes_region ?_; apply run_step rfl; (exact stp_move rfl rfl); apply run_step rfl; (exact stp_not rfl rfl); apply run_step rfl; (exact stp_move rfl rfl); apply run_gYes rfl rfl rfl; (exact stp_move rfl rfl); apply run_gYes rfl rfl rfl; (first | (apply call_gate 144; exact stp_callN hT (by as_aux_lemma => kernel_rfl) rfl rfl ⟨⟨.inl rfl, .inl rfl, trivial⟩, rfl, trivial⟩ ⟨⟨_, rfl, .inl rfl⟩, ⟨_, rfl, .inl rfl⟩, trivial⟩ rfl rfl rfl) | exact stp_ix (j := 0) rfl rfl rfl rfl rfl (by as_aux_lemma => kernel_rfl) rfl hpos (Nat.le_of_eq hlen.symm)); apply run_gYes rfl rfl rfl; (exact stp_loadR rfl (by as_aux_lemma => kernel_rfl) rfl rfl rfl (by first | assumption | exact ivals_get (by assumption) | exact irows_get (by assumption) | exact ivals_get (by omega) | exact irows_get (by omega) | rfl) (by first | exact ivals_len _ | assumption | rfl)); apply run_gYes rfl rfl rfl; (exact stp_len rfl rfl rfl (by as_aux_lemma => kernel_rfl)); apply run_gYes rfl rfl rfl; (exact stp_bin rfl rfl rfl rfl); apply run_step rfl; (exact stp_pickF rfl rfl rfl); refine run_nil ?_; refine fin_seq ?_)
    refine goes_cond rfl (fun _ => ?_) (fun e => ?_)
    · (refine goes_seq ?_; refine goes_region ?_; apply run_step rfl; (exact stp_assign rfl rfl); apply run_step rfl; (exact stp_assign rfl rfl); refine run_nil ?_; refine fin_seq ?_; refine goes_ret ?_; refine fin_ret_then ?_)
      exact fin_ret2 (.inl rfl) rfl (.tmp rfl) (.tmp rfl) trivial trivial
    · exfalso; simp at e; omega

set_option maxRecDepth 100000 in
set_option maxHeartbeats 1000000 in
theorem implSmall_yes {ng : Nat} {rels ws : List (List Int)} (hG : Good ng rels ws) (hs : smallOk ((ng : Int), rels) ws = true) :
    FC Try.prog 113 [(1002, rowsRo ws), (1003, rowsRo rels)] [pA ng rels.length, o1 (.sl 1002 0 ws.length)] [(1005, imOw (cosTab ((ng : Int), rels) ws))] (.tup [.one (.sl 1005 0 ng), .one (.val (I6 0))]) [] := by
  have hs2 : (runC ng rels ws).2.2 = false ∧ cosN ((ng : Int), rels) ws ≤ 400 := by unfold smallOk at hs; rw [cosX_nat] at hs; simpa using hs
  have hT : FC Try.prog 138 [(1002, rowsRo ws), (1003, rowsRo rels)] [pA ng rels.length, o1 (.sl 1002 0 ws.length)] [(1005, imOw (cosTab ((ng : Int), rels) ws))] (.tup [.one (.sl 1005 0 ng), .one (.val (.bool true))]) [] := by
    rw [cosTab_nat]
    exact (implTable_yes hG hs2.1).nm [(131, 1005), (1002, 1002), (1003, 1003)] (by kernel_rfl)
  have hlen : (irows (cosTab ((ng : Int), rels) ws)).length = ng := by rw [irows_len, cosTab_len]
  have hpos := hG.pos
  have hr0 : (lget (cosTab ((ng : Int), rels) ws) 0).length ≤ 400 := by rw [cosTab_row hpos]; exact hs2.2
  have hrow : (irows (cosTab ((ng : Int), rels) ws))[0]? = some (ivals (lget (cosTab ((ng : Int), rels) ws) 0)) := irows_get (by rw [← irows_len, hlen]; exact hpos)
  generalize cosTab ((ng : Int), rels) ws = T at *
  refine fc_enter (nt := 24) Try.func113 rfl rfl (by simp) fun w0 ω0 => ?_
  (refine goes_seq ?_; refine goes_region ?_; apply run_step rfl; (exact stp_box rfl rfl rfl rfl); apply run_step rfl; (exact stp_assign rfl rfl); apply run_step rfl; (exact stp_assign rfl rfl); refine run_nil ?_; refine fin_seq ?_; refine goes_seq ?_; refine goes_region ?_; apply run_step rfl; (exact stp_loadAgg rfl rfl rfl rfl rfl rfl (by as_aux_lemma => kernel_rfl)); apply run_step rfl; (exact stp_move rfl rfl); apply run_step rfl; (first | (apply call_gate 138; exact stp_callN hT (by as_aux_lemma => kernel_rfl) rfl rfl ⟨⟨.inl rfl, .inl rfl, trivial⟩, rfl, trivial⟩ ⟨⟨_, rfl, .inl rfl⟩, ⟨_, rfl, .inl rfl⟩, trivial⟩ rfl rfl rfl) | exact stp_ix (j := 0) rfl rfl rfl rfl rfl (by as_aux_lemma => kernel_rfl) rfl hpos (Nat.le_of_eq hlen.symm)); apply run_step rfl; (exact stp_move rfl rfl); apply run_step rfl; (exact stp_extract rfl rfl rfl); apply run_step rfl; (exact stp_extract rfl rfl rfl); apply run_step rfl; (exact stp_assign rfl rfl); apply run_step rfl; (exact stp_assign rfl rfl); refine run_nil ?_; refine fin_seq ?_; refine goes_seq ?_; refine goes_seq ?_; refine goes_region ?_; apply run_step rfl; (exact stp_move rfl rfl); apply run_step rfl; (exact stp_not rfl rfl); apply run_step rfl; (exact stp_move rfl rfl); apply run_gYes rfl rfl rfl; (exact stp_move rfl rfl); apply run_gYes rfl rfl rfl; (first | (apply call_gate 138; exact stp_callN hT (by as_aux_lemma => kernel_rfl) rfl rfl ⟨⟨.inl rfl, .inl rfl, trivial⟩, rfl, trivial⟩ ⟨⟨_, rfl, .inl rfl⟩, ⟨_, rfl, .inl rfl⟩, trivial⟩ rfl rfl rfl) | exact stp_ix (j := 0) rfl rfl rfl rfl rfl (by as_aux_lemma => kernel_rfl) rfl hpos (Nat.le_of_eq hlen.symm)); apply run_gYes rfl rfl rfl; (exact stp_loadR rfl (by as_aux_lemma => kernel_rfl) rfl rfl rfl (by first | assumption | exact ivals_get (by assumption) | exact irows_get (by assumption) | exact ivals_get (by omega) | exact irows_get (by omega) | rfl) (by first | exact ivals_len _ | assumption | rfl)); apply run_gYes rfl rfl rfl; (exact stp_len rfl rfl rfl (by as_aux_lemma => kernel_rfl)); apply run_gYes rfl rfl rfl; (exact stp_bin rfl rfl rfl rfl); apply run_step rfl; (exact stp_pickF rfl rfl rfl); refine run_nil ?_; refine fin_seq ?_)
  refine goes_cond rfl (fun e => ?_) (fun _ => ?_)
  · exfalso; simp at e; omega
  · (refine goes_skip ?_; refine fin_seq ?_; refine goes_seq ?_; refine goes_region ?_; apply run_step rfl; (exact stp_move rfl rfl); apply run_step rfl; (exact stp_assign rfl rfl); apply run_step rfl; (exact stp_assign rfl rfl); refine run_nil ?_; refine fin_seq ?_; refine goes_ret ?_)
    exact fin_ret2 (.inl rfl) rfl (.tmp rfl) (.tmp rfl) ⟨rfl, trivial⟩ trivial
set_option maxRecDepth 100000 in
set_option maxHeartbeats 1000000 in
theorem implSmall_no {ng : Nat} {rels ws : List (List Int)} (hG : Good ng rels ws) (hs : ¬ smallOk ((ng : Int), rels) ws = true) :
    FC Try.prog 113 [(1002, rowsRo ws), (1003, rowsRo rels)] [pA ng rels.length, o1 (.sl 1002 0 ws.length)] [] (.tup [.one (.val (.slice none 0 0)), .one (.val (I6 3))]) [] := by
  unfold smallOk at hs; rw [cosX_nat] at hs
  refine fc_enter (nt := 24) Try.func113 rfl rfl (by simp) fun w0 ω0 => ?_
  cases hf : (runC ng rels ws).2.2 with
  | true =>
    have hT := implTable_no hG hf
    (refine goes_seq ?_; refine goes_region ?_; apply run_step rfl; (exact stp_box rfl rfl rfl rfl); apply run_step rfl; (exact stp_assign rfl rfl); apply run_step rfl; (exact stp_assign rfl rfl); refine run_nil ?_; refine fin_seq ?_; refine goes_seq ?_; refine goes_region ?_; apply run_step rfl; (exact stp_loadAgg rfl rfl rfl rfl rfl rfl (by as_aux_lemma => kernel_rfl)); apply run_step rfl; (exact stp_move rfl rfl); apply run_step rfl; (apply call_gate 138; exact stp_callR hT (by as_aux_lemma => kernel_rfl) rfl rfl ⟨⟨.inl rfl, .inl rfl, trivial⟩, rfl, trivial⟩ ⟨⟨_, rfl, .inl rfl⟩, ⟨_, rfl, .inl rfl⟩, trivial⟩ rfl rfl); apply run_step rfl; (exact stp_move rfl rfl); apply run_step rfl; (exact stp_extract rfl rfl rfl); apply run_step rfl; (exact stp_extract rfl rfl rfl); apply run_step rfl; (exact stp_assign rfl rfl); apply run_step rfl; (exact stp_assign rfl rfl); refine run_nil ?_; refine fin_seq ?_; refine goes_seq ?_; refine goes_seq ?_; refine goes_region ?_; apply run_step rfl; (exact stp_move rfl rfl); apply run_step rfl; (exact stp_not rfl rfl); apply run_step rfl; (exact stp_move rfl rfl); apply run_gNo rfl rfl rfl rfl rfl; apply run_gNo rfl rfl rfl rfl rfl; apply run_gNo rfl rfl rfl rfl rfl; apply run_gNo rfl rfl rfl rfl rfl; apply run_gNo rfl rfl rfl rfl rfl; apply run_step rfl; (exact stp_pickT rfl rfl rfl); refine run_nil ?_; refine fin_seq ?_)
    refine goes_cond rfl (fun _ => ?_) (fun e => by cases e)
    (refine goes_seq ?_; refine goes_region ?_; apply run_step rfl; (exact stp_assign rfl rfl); apply run_step rfl; (exact stp_assign rfl rfl); refine run_nil ?_; refine fin_seq ?_; refine goes_ret ?_; refine fin_ret_then ?_)
    exact fin_ret2 (.inl rfl) rfl (.tmp rfl) (.tmp rfl) trivial trivial
  | false =>
    have hn : 400 < cosN ((ng : Int), rels) ws := by rw [hf] at hs; simpa using hs
    have hT : FC Try.prog 138 [(1002, rowsRo ws), (1003, rowsRo rels)] [pA ng rels.length, o1 (.sl 1002 0 ws.length)] [(1005, imOw (cosTab ((ng : Int), rels) ws))] (.tup [.one (.sl 1005 0 ng), .one (.val (.bool true))]) [] := by
      rw [cosTab_nat]
      exact (implTable_yes hG hf).nm [(131, 1005), (1002, 1002), (1003, 1003)] (by kernel_rfl)
    have hlen : (irows (cosTab ((ng : Int), rels) ws)).length = ng := by rw [irows_len, cosTab_len]
    have hpos := hG.pos
    have hr0 : 400 < (lget (cosTab ((ng : Int), rels) ws) 0).length := by rw [cosTab_row hpos]; exact hn
    have hrow : (irows (cosTab ((ng : Int), rels) ws))[0]? = some (ivals (lget (cosTab ((ng : Int), rels) ws) 0)) := irows_get (by rw [← irows_len, hlen]; exact hpos)
    clear hs hn
    generalize cosTab ((ng : Int), rels) ws = T at *
    (refine goes_seq ?_; refine goes_region ?_; apply run_step rfl; (exact stp_box rfl rfl rfl rfl); apply run_step rfl; (exact stp_assign rfl rfl); apply run_step rfl; (exact stp_assign rfl rfl); refine run_nil ?_; refine fin_seq ?_; refine goes_seq ?_; refine goes_region ?_; apply run_step rfl; (exact stp_loadAgg rfl rfl rfl rfl rfl rfl (by as_aux_lemma => kernel_rfl)); apply run_step rfl; (exact stp_move rfl rfl); apply run_step rfl; (first | (apply call_gate 138; exact stp_callN hT (by as_aux_lemma => kernel_rfl) rfl rfl ⟨⟨.inl rfl, .inl rfl, trivial⟩, rfl, trivial⟩ ⟨⟨_, rfl, .inl rfl⟩, ⟨_, rfl, .inl rfl⟩, trivial⟩ rfl rfl rfl) | exact stp_ix (j := 0) rfl rfl rfl rfl rfl (by as_aux_lemma => kernel_rfl) rfl hpos (Nat.le_of_eq hlen.symm)); apply run_step rfl; (exact stp_move rfl rfl); apply run_step rfl; (exact stp_extract rfl rfl rfl); apply run_step rfl; (exact stp_extract rfl rfl rfl); apply run_step rfl; (exact stp_assign rfl rfl); apply run_step rfl; (exact stp_assign rfl rfl); refine run_nil ?_; refine fin_seq ?_; refine goes_seq ?_; refine goes_seq ?_; refine goes_region ?_; apply run_step rfl; (exact stp_move rfl rfl); apply run_step rfl; (exact stp_not rfl rfl); apply run_step rfl; (exact stp_move rfl rfl); apply run_gYes rfl rfl rfl; (exact stp_move rfl rfl); apply run_gYes rfl rfl rfl; (first | (apply call_gate 138; exact stp_callN hT (by as_aux_lemma => kernel_rfl) rfl rfl ⟨⟨.inl rfl, .inl rfl, trivial⟩, rfl, trivial⟩ ⟨⟨_, rfl, .inl rfl⟩, ⟨_, rfl, .inl rfl⟩, trivial⟩ rfl rfl rfl) | exact stp_ix (j := 0) rfl rfl rfl rfl rfl (by as_aux_lemma => kernel_rfl) rfl hpos (Nat.le_of_eq hlen.symm)); apply run_gYes rfl rfl rfl; (exact stp_loadR rfl (by as_aux_lemma => kernel_rfl) rfl rfl rfl (by first | assumption | exact ivals_get (by assumption) | exact irows_get (by assumption) | exact ivals_get (by omega) | exact irows_get (by omega) | rfl) (by first | exact ivals_len _ | assumption | rfl)); apply run_gYes rfl rfl rfl; (exact stp_len rfl rfl rfl (by as_aux_lemma => kernel_rfl)); apply run_gYes rfl rfl rfl; (exact stp_bin rfl rfl rfl rfl); apply run_step rfl; (exact stp_pickF rfl rfl rfl); refine run_nil ?_; refine fin_seq ?_)
    refine goes_cond rfl (fun _ => ?_) (fun e => ?_)
    · (refine goes_seq ?_; refine goes_region ?_; apply run_step rfl; (exact stp_assign rfl rfl); apply run_step rfl; (exact stp_assign rfl rfl); refine run_nil ?_; refine fin_seq ?_; refine goes_ret ?_; refine fin_ret_then ?_)
      exact fin_ret2 (.inl rfl) rfl (.tmp rfl) (.tmp rfl) trivial trivial
    · exfalso; simp at e; omega

set_option maxRecDepth 100000 in
set_option maxHeartbeats 1000000 in
theorem specCT_no (g : Int) (rels ws : List (List Int)) (h1 : Fit rels) (h2 : Fit ws) (hn : ¬ (withOk (g, rels) ws = true ∧ smallOk (g, rels) ws = true)) :
    FC Try.prog 61 [(1002, rowsRo ws), (1003, rowsRo rels)] [pA g rels.length, o1 (.sl 1002 0 ws.length)] [] (.tup [.one (.val (.slice none 0 0)), .one (.val (I6 (ctC (g, rels) ws)))]) [] := by
  have hC := specCode_fc g rels ws h1 h2
  refine fc_enter (nt := 18) Try.func61 rfl rfl (by simp) fun w0 ω0 => ?_
  unfold ctC
  by_cases hok : withOk (g, rels) ws = true
  · obtain ⟨ng, rfl, hG⟩ := good_of hok
    have hs : ¬ smallOk ((ng : Int), rels) ws = true := fun h => hn ⟨hok, h⟩
    have hT := specSmall_no hG hs
    rw [withC_ok hok] at hC
    rw [if_pos hok, if_neg hs]
    (refine goes_seq ?_; refine goes_region ?_; apply run_step rfl; (exact stp_box rfl rfl rfl rfl); apply run_step rfl; (exact stp_assign rfl rfl); apply run_step rfl; (exact stp_assign rfl rfl); refine run_nil ?_; refine fin_seq ?_; refine goes_seq ?_; refine goes_seq ?_; refine goes_region ?_; apply run_step rfl; (exact stp_loadAgg rfl rfl rfl rfl rfl rfl (by as_aux_lemma => kernel_rfl)); apply run_step rfl; (exact stp_move rfl rfl); apply run_step rfl; (apply call_gate 141; exact stp_callR hC (by as_aux_lemma => kernel_rfl) rfl rfl ⟨⟨.inl rfl, .inl rfl, trivial⟩, rfl, trivial⟩ ⟨⟨_, rfl, .inl rfl⟩, ⟨_, rfl, .inl rfl⟩, trivial⟩ rfl rfl); apply run_step rfl; (exact stp_assign rfl rfl); refine run_nil ?_; refine fin_seq ?_; refine goes_seq ?_; refine goes_region ?_; apply run_step rfl; (exact stp_move rfl rfl); apply run_step rfl; (exact stp_bin rfl rfl rfl rfl); refine run_nil ?_; refine fin_seq ?_)
    refine goes_cond rfl (fun e => by cases e) (fun _ => ?_)
    (refine goes_skip ?_; refine fin_seq ?_; refine goes_seq ?_; refine goes_region ?_; apply run_step rfl; (exact stp_loadAgg rfl rfl rfl rfl rfl rfl (by as_aux_lemma => kernel_rfl)); apply run_step rfl; (exact stp_move rfl rfl); apply run_step rfl; (apply call_gate 107; exact stp_callR hT (by as_aux_lemma => kernel_rfl) rfl rfl ⟨⟨.inl rfl, .inl rfl, trivial⟩, rfl, trivial⟩ ⟨⟨_, rfl, .inl rfl⟩, ⟨_, rfl, .inl rfl⟩, trivial⟩ rfl rfl); apply run_step rfl; (exact stp_extract rfl rfl rfl); apply run_step rfl; (exact stp_extract rfl rfl rfl); apply run_step rfl; (exact stp_assign rfl rfl); apply run_step rfl; (exact stp_assign rfl rfl); refine run_nil ?_; refine fin_seq ?_; refine goes_ret ?_)
    exact fin_ret2 (.inl rfl) rfl (.tmp rfl) (.tmp rfl) trivial trivial
  · rw [withC_no hok] at hC
    rw [if_neg hok]
    (refine goes_seq ?_; refine goes_region ?_; apply run_step rfl; (exact stp_box rfl rfl rfl rfl); apply run_step rfl; (exact stp_assign rfl rfl); apply run_step rfl; (exact stp_assign rfl rfl); refine run_nil ?_; refine fin_seq ?_; refine goes_seq ?_; refine goes_seq ?_; refine goes_region ?_; apply run_step rfl; (exact stp_loadAgg rfl rfl rfl rfl rfl rfl (by as_aux_lemma => kernel_rfl)); apply run_step rfl; (exact stp_move rfl rfl); apply run_step rfl; (apply call_gate 141; exact stp_callR hC (by as_aux_lemma => kernel_rfl) rfl rfl ⟨⟨.inl rfl, .inl rfl, trivial⟩, rfl, trivial⟩ ⟨⟨_, rfl, .inl rfl⟩, ⟨_, rfl, .inl rfl⟩, trivial⟩ rfl rfl); apply run_step rfl; (exact stp_assign rfl rfl); refine run_nil ?_; refine fin_seq ?_; refine goes_seq ?_; refine goes_region ?_; apply run_step rfl; (exact stp_move rfl rfl); apply run_step rfl; (exact stp_bin rfl rfl rfl rfl); refine run_nil ?_; refine fin_seq ?_)
    refine goes_cond rfl (fun _ => ?_) (fun e => by cases e)
    (refine goes_seq ?_; refine goes_region ?_; apply run_step rfl; (exact stp_move rfl rfl); apply run_step rfl; (exact stp_assign rfl rfl); apply run_step rfl; (exact stp_assign rfl rfl); refine run_nil ?_; refine fin_seq ?_; refine goes_ret ?_; refine fin_ret_then ?_)
    exact fin_ret2 (.inl rfl) rfl (.tmp rfl) (.tmp rfl) trivial trivial
set_option maxRecDepth 100000 in
set_option maxHeartbeats 1000000 in
theorem specCT_yes (ng : Nat) (rels ws : List (List Int)) (h1 : Fit rels) (h2 : Fit ws) (hok : withOk ((ng : Int), rels) ws = true) (hG : Good ng rels ws) (hs : smallOk ((ng : Int), rels) ws = true) :
    FC Try.prog 61 [(1002, rowsRo ws), (1003, rowsRo rels)] [pA ng rels.length, o1 (.sl 1002 0 ws.length)] [(1005, imOw (cosTab ((ng : Int), rels) ws))] (.tup [.one (.sl 1005 0 ng), .one (.val (I6 0))]) [] := by
  have hC := specCode_fc ng rels ws h1 h2
  refine fc_enter (nt := 18) Try.func61 rfl rfl (by simp) fun w0 ω0 => ?_
  have hT := specSmall_yes hG hs
  rw [withC_ok hok] at hC
  (refine goes_seq ?_; refine goes_region ?_; apply run_step rfl; (exact stp_box rfl rfl rfl rfl); apply run_step rfl; (exact stp_assign rfl rfl); apply run_step rfl; (exact stp_assign rfl rfl); refine run_nil ?_; refine fin_seq ?_; refine goes_seq ?_; refine goes_seq ?_; refine goes_region ?_; apply run_step rfl; (exact stp_loadAgg rfl rfl rfl rfl rfl rfl (by as_aux_lemma => kernel_rfl)); apply run_step rfl; (exact stp_move rfl rfl); apply run_step rfl; (apply call_gate 141; exact stp_callR hC (by as_aux_lemma => kernel_rfl) rfl rfl ⟨⟨.inl rfl, .inl rfl, trivial⟩, rfl, trivial⟩ ⟨⟨_, rfl, .inl rfl⟩, ⟨_, rfl, .inl rfl⟩, trivial⟩ rfl rfl); apply run_step rfl; (exact stp_assign rfl rfl); refine run_nil ?_; refine fin_seq ?_; refine goes_seq ?_; refine goes_region ?_; apply run_step rfl; (exact stp_move rfl rfl); apply run_step rfl; (exact stp_bin rfl rfl rfl rfl); refine run_nil ?_; refine fin_seq ?_)
  refine goes_cond rfl (fun e => by cases e) (fun _ => ?_)
  (refine goes_skip ?_; refine fin_seq ?_; refine goes_seq ?_; refine goes_region ?_; apply run_step rfl; (exact stp_loadAgg rfl rfl rfl rfl rfl rfl (by as_aux_lemma => kernel_rfl)); apply run_step rfl; (exact stp_move rfl rfl); apply run_step rfl; (apply call_gate 107; exact stp_callN hT (by as_aux_lemma => kernel_rfl) rfl rfl ⟨⟨.inl rfl, .inl rfl, trivial⟩, rfl, trivial⟩ ⟨⟨_, rfl, .inl rfl⟩, ⟨_, rfl, .inl rfl⟩, trivial⟩ rfl rfl rfl); apply run_step rfl; (exact stp_extract rfl rfl rfl); apply run_step rfl; (exact stp_extract rfl rfl rfl); apply run_step rfl; (exact stp_assign rfl rfl); apply run_step rfl; (exact stp_assign rfl rfl); refine run_nil ?_; refine fin_seq ?_; refine goes_ret ?_)
  exact fin_ret2 (.inl rfl) rfl (.tmp rfl) (.tmp rfl) ⟨rfl, trivial⟩ trivial
/-- in words -/
theorem api_specCT {E1 E E1' E' : Nat} {lo hi lo' hi' : Nat} {v v' : Value} {d : PresD} {ws : List (List Int)} (w : World) (h : OwP E1 E w lo hi v d) (h' : OwSS E1' E' w lo' hi' v' ws) :
    Calls Try.prog 61 #[v, v'] w fun e w' => ∃ r, e = .returned (.tuple #[r, .int .i64 (ctC d ws)]) ∧ OwSS 2 49 w' w.heap.size w'.heap.size r (ctR d ws) ∧ Below w.heap.size w w' := by
  obtain ⟨g, rels⟩ := d
  by_cases hok : withOk (g, rels) ws = true ∧ smallOk (g, rels) ws = true
  · obtain ⟨hok, hs⟩ := hok
    obtain ⟨ng, rfl, hG⟩ := good_of hok
    have hr : ctR ((ng : Int), rels) ws = cosTab ((ng : Int), rels) ws := by unfold ctR; rw [if_pos hok, if_pos hs]
    have hc : ctC ((ng : Int), rels) ws = 0 := by unfold ctC; rw [if_pos hok, if_pos hs]
    have hsm := ctR_small ((ng : Int), rels) ws
    rw [hr] at hsm ⊢
    rw [hc]
    have hl := cosTab_len ng rels ws
    refine (callPW (d := ((ng : Int), rels)) (fun k1 k2 => specCT_yes ng rels ws k1 k2 hok hG hs) h h').mono ?_
    rintro e w' ⟨v, η, ω, rfl, hd, hm, hb, hn⟩
    obtain ⟨u, u', rfl, h1, h2⟩ := den_tup2 hd
    have h2 : u' = I6 0 := h2
    subst h2
    refine ⟨u, rfl, toSS (x := 1005) hm hn rfl (by rw [hl]; exact h1) (by omega) (fun zs hz => ?_), hb⟩
    obtain ⟨j, hj, rfl⟩ := List.getElem_of_mem hz
    have := len_le_lenSS hj
    rw [lget_lt hj] at this
    omega
  · have hr : ctR (g, rels) ws = [] := by
      unfold ctR; split
      · split
        · exact absurd ⟨by assumption, by assumption⟩ hok
        · rfl
      · rfl
    rw [hr]
    refine (two_vals (callPW (d := (g, rels)) (fun k1 k2 => specCT_no g rels ws k1 k2 hok) h h')).mono ?_
    rintro e w' ⟨rfl, hb⟩
    exact ⟨_, rfl, owSS_nil, hb⟩

set_option maxRecDepth 100000 in
set_option maxHeartbeats 1000000 in
theorem implCT_no (g : Int) (rels ws : List (List Int)) (h1 : Fit rels) (h2 : Fit ws) (hn : ¬ (withOk (g, rels) ws = true ∧ smallOk (g, rels) ws = true)) :
    FC Try.prog 60 [(1002, rowsRo ws), (1003, rowsRo rels)] [pA g rels.length, o1 (.sl 1002 0 ws.length)] [] (.tup [.one (.val (.slice none 0 0)), .one (.val (I6 (ctC (g, rels) ws)))]) [] := by
  have hC := implCode_fc g rels ws h1 h2
  refine fc_enter (nt := 18) Try.func60 rfl rfl (by simp) fun w0 ω0 => ?_
  unfold ctC
  by_cases hok : withOk (g, rels) ws = true
  · obtain ⟨ng, rfl, hG⟩ := good_of hok
    have hs : ¬ smallOk ((ng : Int), rels) ws = true := fun h => hn ⟨hok, h⟩
    have hT := implSmall_no hG hs
    rw [withC_ok hok] at hC
    rw [if_pos hok, if_neg hs]
    (refine goes_seq ?_; refine goes_region ?_; apply run_step rfl; (exact stp_box rfl rfl rfl rfl); apply run_step rfl; (exact stp_assign rfl rfl); apply run_step rfl; (exact stp_assign rfl rfl); refine run_nil ?_; refine fin_seq ?_; refine goes_seq ?_; refine goes_seq ?_; refine goes_region ?_; apply run_step rfl; (exact stp_loadAgg rfl rfl rfl rfl rfl rfl (by as_aux_lemma => kernel_rfl)); apply run_step rfl; (exact stp_move rfl rfl); apply run_step rfl; (apply call_gate 111; exact stp_callR hC (by as_aux_lemma => kernel_rfl) rfl rfl ⟨⟨.inl rfl, .inl rfl, trivial⟩, rfl, trivial⟩ ⟨⟨_, rfl, .inl rfl⟩, ⟨_, rfl, .inl rfl⟩, trivial⟩ rfl rfl); apply run_step rfl; (exact stp_assign rfl rfl); refine run_nil ?_; refine fin_seq ?_; refine goes_seq ?_; refine goes_region ?_; apply run_step rfl; (exact stp_move rfl rfl); apply run_step rfl; (exact stp_bin rfl rfl rfl rfl); refine run_nil ?_; refine fin_seq ?_)
    refine goes_cond rfl (fun e => by cases e) (fun _ => ?_)
    (refine goes_skip ?_; refine fin_seq ?_; refine goes_seq ?_; refine goes_region ?_; apply run_step rfl; (exact stp_loadAgg rfl rfl rfl rfl rfl rfl (by as_aux_lemma => kernel_rfl)); apply run_step rfl; (exact stp_move rfl rfl); apply run_step rfl; (apply call_gate 113; exact stp_callR hT (by as_aux_lemma => kernel_rfl) rfl rfl ⟨⟨.inl rfl, .inl rfl, trivial⟩, rfl, trivial⟩ ⟨⟨_, rfl, .inl rfl⟩, ⟨_, rfl, .inl rfl⟩, trivial⟩ rfl rfl); apply run_step rfl; (exact stp_extract rfl rfl rfl); apply run_step rfl; (exact stp_extract rfl rfl rfl); apply run_step rfl; (exact stp_assign rfl rfl); apply run_step rfl; (exact stp_assign rfl rfl); refine run_nil ?_; refine fin_seq ?_; refine goes_ret ?_)
    exact fin_ret2 (.inl rfl) rfl (.tmp rfl) (.tmp rfl) trivial trivial
  · rw [withC_no hok] at hC
    rw [if_neg hok]
    (refine goes_seq ?_; refine goes_region ?_; apply run_step rfl; (exact stp_box rfl rfl rfl rfl); apply run_step rfl; (exact stp_assign rfl rfl); apply run_step rfl; (exact stp_assign rfl rfl); refine run_nil ?_; refine fin_seq ?_; refine goes_seq ?_; refine goes_seq ?_; refine goes_region ?_; apply run_step rfl; (exact stp_loadAgg rfl rfl rfl rfl rfl rfl (by as_aux_lemma => kernel_rfl)); apply run_step rfl; (exact stp_move rfl rfl); apply run_step rfl; (apply call_gate 111; exact stp_callR hC (by as_aux_lemma => kernel_rfl) rfl rfl ⟨⟨.inl rfl, .inl rfl, trivial⟩, rfl, trivial⟩ ⟨⟨_, rfl, .inl rfl⟩, ⟨_, rfl, .inl rfl⟩, trivial⟩ rfl rfl); apply run_step rfl; (exact stp_assign rfl rfl); refine run_nil ?_; refine fin_seq ?_; refine goes_seq ?_; refine goes_region ?_; apply run_step rfl; (exact stp_move rfl rfl); apply run_step rfl; (exact stp_bin rfl rfl rfl rfl); refine run_nil ?_; refine fin_seq ?_)
    refine goes_cond rfl (fun _ => ?_) (fun e => by cases e)
    (refine goes_seq ?_; refine goes_region ?_; apply run_step rfl; (exact stp_move rfl rfl); apply run_step rfl; (exact stp_assign rfl rfl); apply run_step rfl; (exact stp_assign rfl rfl); refine run_nil ?_; refine fin_seq ?_; refine goes_ret ?_; refine fin_ret_then ?_)
    exact fin_ret2 (.inl rfl) rfl (.tmp rfl) (.tmp rfl) trivial trivial
set_option maxRecDepth 100000 in
set_option maxHeartbeats 1000000 in
theorem implCT_yes (ng : Nat) (rels ws : List (List Int)) (h1 : Fit rels) (h2 : Fit ws) (hok : withOk ((ng : Int), rels) ws = true) (hG : Good ng rels ws) (hs : smallOk ((ng : Int), rels) ws = true) :
    FC Try.prog 60 [(1002, rowsRo ws), (1003, rowsRo rels)] [pA ng rels.length, o1 (.sl 1002 0 ws.length)] [(1005, imOw (cosTab ((ng : Int), rels) ws))] (.tup [.one (.sl 1005 0 ng), .one (.val (I6 0))]) [] := by
  have hC := implCode_fc ng rels ws h1 h2
  refine fc_enter (nt := 18) Try.func60 rfl rfl (by simp) fun w0 ω0 => ?_
  have hT := implSmall_yes hG hs
  rw [withC_ok hok] at hC
  (refine goes_seq ?_; refine goes_region ?_; apply run_step rfl; (exact stp_box rfl rfl rfl rfl); apply run_step rfl; (exact stp_assign rfl rfl); apply run_step rfl; (exact stp_assign rfl rfl); refine run_nil ?_; refine fin_seq ?_; refine goes_seq ?_; refine goes_seq ?_; refine goes_region ?_; apply run_step rfl; (exact stp_loadAgg rfl rfl rfl rfl rfl rfl (by as_aux_lemma => kernel_rfl)); apply run_step rfl; (exact stp_move rfl rfl); apply run_step rfl; (apply call_gate 111; exact stp_callR hC (by as_aux_lemma => kernel_rfl) rfl rfl ⟨⟨.inl rfl, .inl rfl, trivial⟩, rfl, trivial⟩ ⟨⟨_, rfl, .inl rfl⟩, ⟨_, rfl, .inl rfl⟩, trivial⟩ rfl rfl); apply run_step rfl; (exact stp_assign rfl rfl); refine run_nil ?_; refine fin_seq ?_; refine goes_seq ?_; refine goes_region ?_; apply run_step rfl; (exact stp_move rfl rfl); apply run_step rfl; (exact stp_bin rfl rfl rfl rfl); refine run_nil ?_; refine fin_seq ?_)
  refine goes_cond rfl (fun e => by cases e) (fun _ => ?_)
  (refine goes_skip ?_; refine fin_seq ?_; refine goes_seq ?_; refine goes_region ?_; apply run_step rfl; (exact stp_loadAgg rfl rfl rfl rfl rfl rfl (by as_aux_lemma => kernel_rfl)); apply run_step rfl; (exact stp_move rfl rfl); apply run_step rfl; (apply call_gate 113; exact stp_callN hT (by as_aux_lemma => kernel_rfl) rfl rfl ⟨⟨.inl rfl, .inl rfl, trivial⟩, rfl, trivial⟩ ⟨⟨_, rfl, .inl rfl⟩, ⟨_, rfl, .inl rfl⟩, trivial⟩ rfl rfl rfl); apply run_step rfl; (exact stp_extract rfl rfl rfl); apply run_step rfl; (exact stp_extract rfl rfl rfl); apply run_step rfl; (exact stp_assign rfl rfl); apply run_step rfl; (exact stp_assign rfl rfl); refine run_nil ?_; refine fin_seq ?_; refine goes_ret ?_)
  exact fin_ret2 (.inl rfl) rfl (.tmp rfl) (.tmp rfl) ⟨rfl, trivial⟩ trivial
/-- in words -/
theorem api_implCT {E1 E E1' E' : Nat} {lo hi lo' hi' : Nat} {v v' : Value} {d : PresD} {ws : List (List Int)} (w : World) (h : OwP E1 E w lo hi v d) (h' : OwSS E1' E' w lo' hi' v' ws) :
    Calls Try.prog 60 #[v, v'] w fun e w' => ∃ r, e = .returned (.tuple #[r, .int .i64 (ctC d ws)]) ∧ OwSS 2 49 w' w.heap.size w'.heap.size r (ctR d ws) ∧ Below w.heap.size w w' := by
  obtain ⟨g, rels⟩ := d
  by_cases hok : withOk (g, rels) ws = true ∧ smallOk (g, rels) ws = true
  · obtain ⟨hok, hs⟩ := hok
    obtain ⟨ng, rfl, hG⟩ := good_of hok
    have hr : ctR ((ng : Int), rels) ws = cosTab ((ng : Int), rels) ws := by unfold ctR; rw [if_pos hok, if_pos hs]
    have hc : ctC ((ng : Int), rels) ws = 0 := by unfold ctC; rw [if_pos hok, if_pos hs]
    have hsm := ctR_small ((ng : Int), rels) ws
    rw [hr] at hsm ⊢
    rw [hc]
    have hl := cosTab_len ng rels ws
    refine (callPW (d := ((ng : Int), rels)) (fun k1 k2 => implCT_yes ng rels ws k1 k2 hok hG hs) h h').mono ?_
    rintro e w' ⟨v, η, ω, rfl, hd, hm, hb, hn⟩
    obtain ⟨u, u', rfl, h1, h2⟩ := den_tup2 hd
    have h2 : u' = I6 0 := h2
    subst h2
    refine ⟨u, rfl, toSS (x := 1005) hm hn rfl (by rw [hl]; exact h1) (by omega) (fun zs hz => ?_), hb⟩
    obtain ⟨j, hj, rfl⟩ := List.getElem_of_mem hz
    have := len_le_lenSS hj
    rw [lget_lt hj] at this
    omega
  · have hr : ctR (g, rels) ws = [] := by
      unfold ctR; split
      · split
        · exact absurd ⟨by assumption, by assumption⟩ hok
        · rfl
      · rfl
    rw [hr]
    refine (two_vals (callPW (d := (g, rels)) (fun k1 k2 => implCT_no g rels ws k1 k2 hok) h h')).mono ?_
    rintro e w' ⟨rfl, hb⟩
    exact ⟨_, rfl, owSS_nil, hb⟩
end Go.Proofs.Ytpognnifgcacnaa

/- Words in a table: l11Elements, elementTable, l11Lead, applied; IsIdentityWord. guards: -/
namespace Go.Proofs.Ytpognnifgcacnaa
open Go.RowKit

theorem cosTab_leads {ng : Nat} {rels ws : List (List Int)} (h : Good ng rels ws) (hf : (runC ng rels ws).2.2 = false) : Leads (cosTab ((ng : Int), rels) ws) (cosN ((ng : Int), rels) ws) := by
  refine ⟨fun k hk => cosTab_row (by rw [cosTab_len] at hk; exact hk), fun k hk x hx => ?_⟩
  rw [cosTab_len] at hk
  have hF := full_run h.rl h.wl hf
  rw [cosTab_nat]
  rw [cosN_nat] at hx ⊢
  have := tableC_entry hF hx hk
  have he : iget (lget (tableC ng (runC ng rels ws).1 (runC ng rels ws).2.1) k) x = tabC (runC ng rels ws).1 (runC ng rels ws).2.1 (numbered ng (runC ng rels ws).1 (runC ng rels ws).2.1) k x := by
    simp [tableC, lget, iget, hk, hx, tabC]
  rw [he]
  exact this
theorem smallOk_run {ng : Nat} {rels ws : List (List Int)} (hs : smallOk ((ng : Int), rels) ws = true) : (runC ng rels ws).2.2 = false ∧ cosN ((ng : Int), rels) ws ≤ 400 := by
  unfold smallOk at hs; rw [cosX_nat] at hs; simpa using hs
theorem tabLoop_grow {ng : Nat} {im : List (List Int)} {less : List Int} (hF : Full ng im less) : ∀ (f i : Nat) (s : NSt), TOK less.length less s → NGrow s (tabLoop ng im less f i s)
  | 0, _, s, _ => NGrow.refl s
  | f + 1, i, s, h => by
    unfold tabLoop
    split
    · rename_i hlt
      obtain ⟨h1, h2, _⟩ := tabRow_ok hF h hlt ng (Nat.le_refl _)
      exact NGrow.trans h2 (tabLoop_grow hF f (i + 1) _ h1)
    · exact NGrow.refl s
theorem numbered_grow {ng : Nat} {im : List (List Int)} {less : List Int} (hF : Full ng im less) : NGrow (tabStart less.length) (numbered ng im less) := tabLoop_grow hF _ _ _ (tabStart_ok hF)
theorem cosN_pos {ng : Nat} {rels ws : List (List Int)} (h : Good ng rels ws) (hf : (runC ng rels ws).2.2 = false) : 0 < cosN ((ng : Int), rels) ws := by
  rw [cosN_nat]
  have hF := full_run h.rl h.wl hf
  obtain ⟨hk, _⟩ := numbered_ok hF
  have hF0 := hF.pos
  rcases Nat.eq_zero_or_pos (numbered ng (runC ng rels ws).1 (runC ng rels ws).2.1).1.length with h0 | h0
  · exfalso
    have g1 : NGrow (tabStart (runC ng rels ws).2.1.length) (numbered ng (runC ng rels ws).1 (runC ng rels ws).2.1) := numbered_grow hF
    have := g1.len
    simp [tabStart] at this
    omega
  · exact h0

section
variable {η : Env} {ω : Own?} {w : World} {ins : List (Nm × Ch)}
end
/-! in words -/
end Go.Proofs.Ytpognnifgcacnaa

/- Orders of words: l11Order, periodOf; OrderOfElement. -/
namespace Go.Proofs.Ytpognnifgcacnaa
open Go.RowKit

section
variable {T : List (List Int)} {W : List Int} {m : Nat}
end
theorem cosTab_invol {ng : Nat} {rels ws : List (List Int)} (h : Good ng rels ws) (hf : (runC ng rels ws).2.2 = false) : Invol (cosTab ((ng : Int), rels) ws) (cosN ((ng : Int), rels) ws) := fun k hk x hx => by
  rw [cosTab_len] at hk
  have hF := full_run h.rl h.wl hf
  rw [cosTab_nat]
  rw [cosN_nat] at hx
  have hr := tableC_entry hF hx hk
  have hb := tEnt_back hF (runC_back h.rl h.wl).2 hx hk
  have he : ∀ y, y < (numbered ng (runC ng rels ws).1 (runC ng rels ws).2.1).1.length → iget (lget (tableC ng (runC ng rels ws).1 (runC ng rels ws).2.1) k) y = tEnt ng (runC ng rels ws).1 (runC ng rels ws).2.1 y k := fun y hy => by
    simp [tableC, lget, iget, hk, hy, tEnt]
  have hr : 0 ≤ tEnt ng (runC ng rels ws).1 (runC ng rels ws).2.1 x k ∧ tEnt ng (runC ng rels ws).1 (runC ng rels ws).2.1 x k < _ := hr
  rw [he x hx, he _ (by omega)]
  exact hb

end Go.Proofs.Ytpognnifgcacnaa

/- What the table of cosets tells, of the program's own numbers. No program in sight. -/
namespace Go.Proofs.Ytpognnifgcacnaa

theorem nodup_iget {zs : List Int} (h : ∀ i j, i < zs.length → j < zs.length → iget zs i = iget zs j → i = j) : zs.Nodup := by
  rw [List.nodup_iff_pairwise_ne, List.pairwise_iff_getElem]
  intro i j hi hj hij e
  have := h i j hi hj (by rw [iget_lt hi, iget_lt hj]; exact e)
  omega
theorem permGo_ok {n : Nat} : ∀ (zs : List Int) (seen : List Bool), seen.length = n → (∀ z ∈ zs, 0 ≤ z ∧ z < n) → zs.Nodup → (∀ z ∈ zs, seen.getD z.toNat false = false) → permGo n seen zs = true
  | [], _, _, _, _, _ => rfl
  | z :: r, seen, hs, hz, hn, hf => by
    rw [List.nodup_cons] at hn
    have h0 := hz z (by simp)
    unfold permGo
    rw [Bool.and_eq_true, Bool.and_eq_true]
    refine ⟨⟨inB_true.2 (by omega), by rw [hf z (by simp)]; rfl⟩, permGo_ok r _ (by rw [List.length_set]; exact hs) (fun x hx => hz x (by simp [hx])) hn.2 fun x hx => ?_⟩
    have hx0 := hz x (by simp [hx])
    have hne : z ≠ x := fun e => hn.1 (e ▸ hx)
    have := hf x (by simp [hx])
    rw [List.getD_eq_getElem?_getD] at this ⊢
    rw [List.getElem?_set_ne (by omega)]
    exact this
theorem isPerm_ok {zs : List Int} (hl : zs.length ≤ 400) (hz : ∀ k, k < zs.length → 0 ≤ iget zs k ∧ iget zs k < zs.length) (hi : ∀ i j, i < zs.length → j < zs.length → iget zs i = iget zs j → i = j) : isPerm zs = true := by
  unfold isPerm
  rw [Bool.and_eq_true]
  refine ⟨decide_eq_true hl, permGo_ok zs _ (by simp) (fun z hzm => ?_) (nodup_iget hi) fun z hzm => ?_⟩
  · obtain ⟨j, hj, rfl⟩ := List.getElem_of_mem hzm
    rw [← iget_lt hj]; exact hz j hj
  · rw [List.getD_eq_getElem?_getD, List.getElem?_replicate]
    split <;> rfl
/-- what the laws ask of a table of cosets -/
structure CtOk (d : PresD) (ws : List (List Int)) (n : Nat) : Prop where
  len : ((ctR d ws).length : Int) = d.1
  pos : 0 < (ctR d ws).length
  leads : Leads (ctR d ws) n
  idxc : idxC d ws = 0
  idxr : idxR d ws = (n : Int)
  n1 : 1 ≤ n
  n4 : n ≤ 400
  holdc : holdC d (ctR d ws) = 0
  holdr : holdR d (ctR d ws) = true
  low : ∀ i, i < ws.length → ∀ z ∈ lget ws i, 0 ≤ z ∧ z < (ctR d ws).length
  home : ∀ i, i < ws.length → leadL (ctR d ws) (0 : Nat) (lget ws i) = ((0 : Nat) : Int)
  few : ws.length ≤ 24
  dvd : idxC d [] = 0 → ∃ m : Nat, idxR d [] = (m : Int) ∧ n ∣ m ∧ m ≤ 2000
theorem ctC_zero {d : PresD} {ws : List (List Int)} (h : ctC d ws = 0) : withOk d ws = true ∧ smallOk d ws = true := by
  unfold ctC at h
  split at h
  · split at h
    · exact ⟨by assumption, by assumption⟩
    · cases h
  · cases h
theorem idx_zero {d : PresD} {ws : List (List Int)} (h : idxC d ws = 0) : withOk d ws = true ∧ (cosX d ws).2.2 = false := by
  unfold idxC at h
  split at h
  · split at h
    · cases h
    · rename_i h1 h2
      exact ⟨h1, by simpa using h2⟩
  · cases h
theorem ct_ok {d : PresD} {ws : List (List Int)} (h : ctC d ws = 0) : ∃ n, CtOk d ws n := by
  obtain ⟨g, rels⟩ := d
  obtain ⟨hw, hsm⟩ := ctC_zero h
  obtain ⟨ng, rfl, hG⟩ := good_of hw
  have hs := smallOk_run hsm
  have hR : ctR ((ng : Int), rels) ws = cosTab ((ng : Int), rels) ws := by unfold ctR; rw [if_pos hw, if_pos hsm]
  have hT := cosTab_leads hG hs.1
  have hI := cosTab_invol hG hs.1
  have hm := cosN_pos hG hs.1
  have hRan : Ran ng rels ws := ⟨hG.rl, hG.wl, hs.1⟩
  have hTe : cosTab ((ng : Int), rels) ws = ctb ng rels ws := cosTab_nat ng rels ws
  have hNe : cosN ((ng : Int), rels) ws = cnm ng rels ws := cosN_nat ng rels ws
  have hlen := cosTab_len ng rels ws
  have hng := hG.pos
  have hp : isPres ((ng : Int), rels) = true := by
    unfold withOk at hw
    rw [Bool.and_eq_true] at hw; exact hw.1
  have hrow : (lget (cosTab ((ng : Int), rels) ws) 0).length = cosN ((ng : Int), rels) ws := hT.len 0 (by omega)
  have hrel : ∀ i, i < rels.length → ∀ x, x < cosN ((ng : Int), rels) ws → leadL (cosTab ((ng : Int), rels) ws) (x : Nat) (lget rels i) = (x : Int) := fun i hi x hx => by
    rw [hTe]; exact ctb_rels hG.rl hG.wl hs.1 (lget_mem hi) (by rw [← hNe]; exact hx)
  have hperms : isPerms (cosTab ((ng : Int), rels) ws) = true := isPerms_true.2 fun k hk => by
    have hl := hT.len k hk
    refine ⟨isPerm_ok (by rw [hl]; exact hs.2) (fun x hx => by rw [hl] at hx ⊢; exact hT.within k hk x hx) (fun i j hi hj e => ?_), by rw [hl, hrow]⟩
    rw [hl] at hi hj
    have a := hI k hk i hi
    have b := hI k hk j hj
    rw [e] at a; omega
  have hargs : holdArgs ((ng : Int), rels) (cosTab ((ng : Int), rels) ws) = true := by
    unfold holdArgs
    rw [hp, hperms, hlen]; simp
  have hB : holdB rels (cosTab ((ng : Int), rels) ws) = true := by
    unfold holdB
    rw [Bool.and_eq_true]
    refine ⟨involsL_true.2 fun k hk => isIden_true.2 fun i hi => ?_, fixAll_true.2 fun i hi x hx => ?_⟩
    · rw [length_thenL] at hi
      rw [iget_thenL hi]
      rw [hT.len k hk] at hi
      exact hI k hk i hi
    · rw [hrow] at hx
      exact hrel i hi x hx
  refine ⟨cosN ((ng : Int), rels) ws, ?_⟩
  refine { len := ?_, pos := ?_, leads := ?_, idxc := ?_, idxr := ?_, n1 := hm, n4 := hs.2, holdc := ?_, holdr := ?_, low := ?_, home := ?_, few := hG.w, dvd := ?_ }
  · rw [hR, hlen]
  · rw [hR, hlen]; exact hng
  · rw [hR]; exact hT
  · unfold idxC; rw [if_pos hw, cosX_nat, if_neg (by rw [hs.1]; decide)]
  · unfold idxR; rw [if_pos hw, cosX_nat, if_neg (by rw [hs.1]; decide)]
  · rw [hR]; unfold holdC; rw [if_pos hargs]
  · rw [hR]; unfold holdR; rw [hargs, hB]; rfl
  · intro i hi z hz
    rw [hR, hlen]
    exact hG.wl _ (lget_mem hi) z hz
  · intro i hi
    rw [hR, hTe]
    exact ctb_words hG.rl hG.wl hs.1 (lget_mem hi)
  · intro h0
    obtain ⟨hw0, hx0⟩ := idx_zero h0
    obtain ⟨ng', hng', hG0⟩ := good_of hw0
    have hng'' : ng' = ng := by omega
    subst hng''
    rw [cosX_nat] at hx0
    have hRan0 : Ran ng' rels [] := ⟨hG0.rl, hG0.wl, hx0⟩
    refine ⟨cosN ((ng' : Int), rels) [], ?_, ?_, cosN_le hG0 hx0⟩
    · unfold idxR; rw [if_pos hw0, cosX_nat, if_neg (by rw [hx0]; decide)]
    · rw [hNe, cosN_nat ng' rels []]
      exact hRan0.divides hRan (fun w hw x hx => ctb_rels hG.rl hG.wl hs.1 hw hx) (fun w hw => by simp at hw)
end Go.Proofs.Ytpognnifgcacnaa

/- Draws of words: l11DrawWord, l11Power. -/
namespace Go.Proofs.Ytpognnifgcacnaa
open Go.RowKit

theorem only_grown {lo hi : Nat} {a w w' : World} {row : Option Nat} (h : Only lo hi a w) (hg : w.grownBy w' row) (hr : ∀ g, row = some g → a.heap.size ≤ g) : Only lo hi a w' :=
  ⟨hg.os.trans h.os, hg.tape.trans h.tape, hg.output.trans h.output, Nat.le_trans h.size hg.size, fun k hk hd => (hg.block k (Nat.lt_of_lt_of_le hk h.size) (fun e => by have := hr k e.symm; omega)).trans (h.block k hk hd)⟩
theorem Src.grown {w w' : World} {sb : Nat} {row : Option Nat} (h : Src w sb) (hg : w.grownBy w' row) (hr : ∀ g, row = some g → sb < g) : Src w' sb := by
  obtain ⟨ao, n, c, k, hh, h1, h2, h3, h4⟩ := h.box
  have hlt := h1.lt
  refine ⟨ao, n, c, k, hh, (hg.block sb hlt (fun e => by have := hr sb e.symm; omega)).trans h1, h2, h3, h4.1, fun hn => ?_⟩
  obtain ⟨b, off, e, hb, hc⟩ := h4.2 hn
  refine ⟨b, off, e, hb, fun j hj => ?_⟩
  obtain ⟨x, hx, hcx⟩ := hc j hj
  exact ⟨x, hx, (World.cell?_of_block (hg.block b (World.block_lt_of_cell? w _ hcx) (fun e => by have := hr b e.symm; omega))).trans hcx⟩
/-- a word whose letters lie below n -/
def Low (n : Int) (zs : List Int) : Prop := ∀ z ∈ zs, 0 ≤ z ∧ z < n

set_option maxHeartbeats 3200000 in
theorem drawWord_any (sb : Nat) (letters most : Nat) (w : World) (h : Src w sb) (hsb : sb < w.heap.size) (hl1 : 1 ≤ letters) (hl : letters ≤ 100) (hm : most ≤ 100) :
    Calls Try.prog 130 #[.pointer (some ⟨sb, 0, none⟩), .int .i64 letters, .int .i64 most] w fun e w' => ∃ (ao : Option Addr) (n c : Nat) (zs : List Int), e = .returned (.slice ao n c) ∧ n ≤ most ∧ Low letters zs ∧ Own w' w.heap.size 2 ao n c (zs.map (Value.int .i64)) ∧ Src w' sb ∧ Only sb (sb + 1) w w' := by
  go_enter Try.func130, Try.ntmps130
  have h1 : Src (w.alloc (.cells #[] 2)) sb := h.grown (row := none) (World.grownBy_alloc w _ none) (fun g hg => by cases hg)
  go_wp2_with fail
  refine (next_any sb _ _ h1 (by omega)).mono ?_
  rintro e w2 ⟨r, rfl, -, r2, s2, o2⟩
  have hr := r2 (by omega)
  have O2 : Only sb (sb + 1) w w2 := (only_grown (Only.refl sb (sb + 1) w) (World.grownBy_alloc w _ none) (fun g hg => by cases hg)).trans o2
  have P2 : Own w2 w.heap.size 2 (some ⟨w.heap.size, 0, none⟩) 0 0 [] := (Own.empty_ w _ (Nat.le_refl _)).only o2 (lo' := w.heap.size) (hi' := w.heap.size + 1) (fun g hg => by simp [bk] at hg; omega) (.inr (by omega))
  have z2 := O2.size
  clear h1 o2 r2
  go_wp2_with fail
  go_loopw [7, 8] (fun wv kv wr => ∃ (k a : Nat) (ao : Option Addr) (c : Nat) (zs : List Int), kv = .int .i64 k ∧ wv = .slice ao a c ∧ a + k = r ∧ Low letters zs ∧ Own wr w.heap.size 2 ao a c (zs.map (Value.int .i64)) ∧ Src wr sb ∧ Only sb (sb + 1) w wr) (fun _ kv _ => (intOf kv).toNat)
  case atStart => exact ⟨r, 0, _, 0, [], rfl, rfl, by omega, fun _ h => (by simp at h), P2, s2, O2⟩
  case round =>
    obtain ⟨k, a, ao, c, zs, rfl, rfl, hak, hlow, ho, hs, hO⟩ := hrel
    clear P2 s2 O2 z2
    by_cases hk : 0 < k
    · go_wp2_with fail
      refine (next_any sb _ _ hs (by omega)).mono ?_
      rintro e w3 ⟨q, rfl, -, q2, s3, o3⟩
      have hq := q2 (by omega)
      have hsz := hO.size
      have O3 := hO.trans o3
      have hsz3 := O3.size
      have P3 : Own w3 w.heap.size 2 ao a c (zs.map (Value.int .i64)) := ho.only o3 (lo' := w.heap.size) (hi' := wr.heap.size) (fun g hg => ⟨(ho.lt g hg).1, (ho.lt g hg).2⟩) (.inr (by omega))
      clear q2 o3 hs hO ho
      have hol := P3.lt
      have PH := Lib.hid P3
      clear P3
      go_wp2_with (at_builtin; refine wpList_ap1 etI _ rfl _ _ rfl w.heap.size ao a c _ rfl PH.out (.int .i64 (q : Int)) rfl rfl (by omega) hsz3 ?_; intro ao2 c2 w4 ho2 hg2 hblk)
      have HO := Lib.hid ho2
      have s4 := s3.grown hg2 (fun g hg => by have := (hol g hg).1; omega)
      have O4 := only_grown O3 hg2 (fun g hg => (hol g hg).1)
      clear ho2 hblk s3 O3 hg2
      go_wp2
      go_roundw
      case rel =>
        refine ⟨k - 1, a + 1, ao2, c2, zs ++ [(q : Int)], by go_num, rfl, by omega, fun z hz => ?_, by rw [List.map_append]; exact HO.out, s4, O4⟩
        rcases List.mem_append.1 hz with hz | hz
        · exact hlow z hz
        · simp at hz; omega
      case measure => simp [intOf]; omega
    · obtain rfl : k = 0 := by omega
      go_wp2
      go_ret
      exact ⟨ao, a, c, zs, rfl, by omega, hlow, ho, hs, hO⟩

set_option maxHeartbeats 3200000 in
theorem pick_any (sb : Nat) (ao : Option Addr) (n c : Nat) (zs : List Int) (w : World) (h : Src w sb) (hz : Ints w ao n zs) (hn : 1 ≤ n) (hn2 : n ≤ 100) (hne : bk ao ≠ some sb) :
    Calls Try.prog 124 #[.pointer (some ⟨sb, 0, none⟩), .slice ao n c] w fun e w' => ∃ r : Nat, r < n ∧ e = .returned (.int .i64 (iget zs r)) ∧ Src w' sb ∧ Only sb (sb + 1) w w' := by
  go_enter Try.func124, Try.ntmps124
  go_wp2_with fail
  refine (next_any sb _ _ h (by omega)).mono ?_
  rintro e w2 ⟨r, rfl, -, r2, s2, o2⟩
  have hr := r2 (by omega)
  have hr2 : r < n := by omega
  have hz2 : Ints w2 ao n zs := hz.same fun g hg hlt => o2.block g hlt (by
    have : g ≠ sb := fun e => by subst e; exact hne hg
    omega)
  obtain ⟨b, off, rfl, hc⟩ := hz2.at_ hr2
  clear r2 hz hz2
  go_wp2
  go_ret
  exact ⟨r, hr2, rfl, s2, o2⟩
end Go.Proofs.Ytpognnifgcacnaa

/- IsDiagram, the program's and the reference's. -/
namespace Go.Proofs.Ytpognnifgcacnaa
open Go.RowKit

end Go.Proofs.Ytpognnifgcacnaa

/- The presentation of a diagram: what both call. -/
namespace Go.Proofs.Ytpognnifgcacnaa
open Go.RowKit

theorem repL_succ {α : Type} (zs : List α) (j : Nat) : repL zs (j + 1) = repL zs j ++ zs := by rw [repL_add, repL_one]

theorem wrap64_idN {i : Nat} (h : i ≤ 1048576) : wrap64 (i : Int) = i := by unfold wrap64; omega

theorem meas_down {i : Nat} {z : Int} (h : z = (i : Int)) : (intOf (.int .i64 z)).toNat < (intOf (.int .i64 ((i + 1 : Nat) : Int))).toNat := by subst h; simp [intOf]

set_option maxHeartbeats 400000 in
theorem specPower_any (ao : Option Addr) (n c k : Nat) (zs : List Int) (w : World) (h : Ints w ao n zs) (hk : k ≤ 1048576) (hnk : n * k ≤ 1048576) :
    Calls Try.prog 131 #[.slice ao n c, .int .i64 k] w fun e w' => ∃ ao' c', e = .returned (.slice ao' (n * k) c') ∧ Own w' w.heap.size 2 ao' (n * k) c' ((repL zs k).map (Value.int .i64)) ∧ Below w.heap.size w w' := by
  go_enter Try.func131, Try.ntmps131
  go_wp2
  go_loopw [1, 5] (fun i v wr => ∃ (j a' : Nat) (ao' : Option Addr) (c' : Nat), j ≤ k ∧ i = .int .i64 ((k - j : Nat) : Int) ∧ v = .slice ao' a' c' ∧ a' = n * j ∧ Own wr w.heap.size 2 ao' a' c' ((repL zs j).map (Value.int .i64)) ∧ Below w.heap.size w wr) (fun i _ _ => (intOf i).toNat)
  case atStart => exact ⟨0, 0, _, _, Nat.zero_le _, rfl, rfl, by simp, Own.empty_ w _ (Nat.le_refl _), (Below.refl _ _).alloc (Nat.le_refl _) _⟩
  case round =>
    obtain ⟨j, a', ao', c', hj, rfl, rfl, ha, ho, hb⟩ := hrel
    have HA := Lib.hid ha
    clear ha
    by_cases hlt : j < k
    · have hm : n * (j + 1) ≤ n * k := Nat.mul_le_mul_left _ hlt
      have hm2 : n * (j + 1) = n * j + n := Nat.mul_succ _ _
      have hi := h.below hb
      have hsz : a' + n ≤ 4398046511104 := by have := HA.out; omega
      have hbs := hb.size
      have HE := Lib.hid (show a' + n = n * (j + 1) by have := HA.out; omega)
      obtain ⟨i, hi2⟩ : ∃ i : Nat, k - j = i + 1 := ⟨k - j - 1, by omega⟩
      have HI := Lib.hid (show k - (j + 1) = i by omega)
      have hj1 : j + 1 ≤ k := hlt
      have HW := Lib.hid (wrap64_idN (i := i) (by omega))
      rw [hi2]
      clear hm hm2 hi2 h hnk hj hlt
      go_wp2_with (at_builtin; refine wpList_apN etI _ rfl _ _ rfl w.heap.size _ _ _ _ rfl ho ao n c zs rfl hi hsz hbs ?_; intro ao2 c2 w2 ho2 hg2 hblk)
      have hol := ho.lt
      clear ho hi
      go_wp2
      go_roundw
      case rel =>
        refine ⟨j + 1, _, ao2, c2, hj1, by rw [HI.out, HW.out], rfl, HE.out, ?_, hb.grown hg2 hbs (fun g hg => (hol g hg).1)⟩
        rw [repL_succ, List.map_append]; exact ho2
      case measure => exact meas_down HW.out
    · obtain rfl : j = k := by omega
      rw [Nat.sub_self]
      go_wp2
      go_ret
      rw [← HA.out]
      exact ⟨_, _, rfl, ho, hb⟩
end Go.Proofs.Ytpognnifgcacnaa

/- The presentation of a diagram: the data, and how one relator more is laid. -/
namespace Go.Proofs.Ytpognnifgcacnaa
open Go.RowKit

/-- one element more, at the end of a row of the call's own, in a region that draws its order -/
theorem step_ap1 {P : Program} {S E : TypeId} {z : Value} {bytes : Nat} (et : ET P S E z bytes) {ops : Array Oper} {o : Oper} {a : Act} {Q : Exit → Act → World → Prop} {w : World} {K : Act → World → Prop} {X : Prop} (hg : o.guard = none) (s x : Operand) (ho : o.op = .call { callee := .builtin .append, args := #[s, x], argTypes := #[S, S] })
    (base : Nat) (ao : Option Addr) (n c : Nat) (xs : List Value) (hs : a.eval s = .slice ao n c) (hown : Own w base E ao n c xs) (u : Value) (xb xc : Nat)
    (hx : a.eval x = .slice (some ⟨xb, 0, none⟩) 1 xc) (hc : w.cell? ⟨xb, 0, none⟩ = some u) (hu : u.oneCell' = true) (hn : n + 1 ≤ 4398046511104) (hbase : base ≤ w.heap.size)
    (h : ∀ ao' c' w', Own w' base E ao' (n + 1) c' (xs ++ [u]) → w.grownBy w' (bk ao) → (bk ao' = bk ao ∨ bk ao' = some w.heap.size) → K (a.put o.dst (.slice ao' (n + 1) c')) w') : if Region.wanted o (yielded ops a.tmps) = true then Oper.wp P o a w K Q else X := by
  obtain ⟨i, hi, hz, hsz, hby⟩ := info_parts et.info
  have hw : Region.wanted o (yielded ops a.tmps) = true := by simp [Region.wanted, hg]
  rw [if_pos hw]
  obtain ⟨v', w', hr, h2, h3, h4, h5⟩ := run_append_own_at (P := P) w base S o.type E i z 1 bytes et.und hi hz hsz hby (by rw [et.one]; rfl) (by omega) (.slice ao n c) n xs hown.1 ⟨xb, 0, none⟩ 1 xc [u] rfl
    (by
      intro j u' hu'
      match j, hu' with
      | 0, hu' => simp at hu'; subst hu'; rw [Addr.add_lit]; exact hc)
    (by intro v hv; simp at hv; subst hv; exact hu) (by simp [maxLen]; omega) (by have := et.small; have : (n + 1) * bytes ≤ (n + 1) * 32 := Nat.mul_le_mul_left _ this; omega) hbase
  unfold Oper.wp execOp
  simp only [ho, resolve, invoke, builtin, Sem.run_bind, Sem.run_pure, Result.andThen_ok, List.map_toArray, List.map_cons, List.map_nil, hs, hx, hr]
  obtain ⟨g, cap, rfl, hb, hlt⟩ := h2.form (by omega)
  rw [ownBlock_slice] at h3
  refine h _ _ _ ⟨h2, hn⟩ h3 ?_
  rw [ownBlock_slice, ownBlock_slice] at h5
  exact h5

/-- a list of the call's own, just made, is laid at the end of a row of lists -/
theorem rows_push {T1 E lo : Nat} {wr w2 w3 w4 : World} {ao ao' ao2 : Option Addr} {m c n' c' c2 : Nat} {us : List Value} {ds : List (List Int)} {zs : List Int}
    (hR : OwR (OwS T1) wr lo wr.heap.size E ao m c us ds) (hlo : lo ≤ wr.heap.size) (hb : Below wr.heap.size wr w2) (hu : Own w2 wr.heap.size T1 ao' n' c' (zs.map (Value.int .i64))) (hb3 : Below w2.heap.size w2 w3)
    (hown : Own w4 lo E ao2 (m + 1) c2 (us ++ [.slice ao' n' c'])) (hg : w3.grownBy w4 (bk ao)) (hat : bk ao2 = bk ao ∨ bk ao2 = some w3.heap.size) :
    OwR (OwS T1) w4 lo w4.heap.size E ao2 (m + 1) c2 (us ++ [.slice ao' n' c']) (ds ++ [zs]) := by
  have hR3 : OwR (OwS T1) w3 lo wr.heap.size E ao m c us ds := hR.below (innerS _) (hb.trans (hb3.mono hb.size))
  have s1 := hb.size
  have s2 := hb3.size
  have s3 := hg.size
  have hub : ∀ g, bk ao' = some g → wr.heap.size ≤ g ∧ g < w2.heap.size := hu.lt
  have hne : ∀ g, bk ao' = some g → bk ao ≠ some g := fun g h1 h2 => by have := hub g h1; have := hR.top g h2; omega
  have hu4 : OwS T1 w4 (.slice ao' n' c') zs := (innerS T1).loc (w := w2) ⟨ao', n', c', rfl, hu.mono (Nat.zero_le _)⟩ fun g h => by
    rw [ownBlock_slice] at h
    have := hub g h
    rw [hg.block g (by omega) (fun e => hne g h e.symm)]
    exact hb3.block g this.2
  refine hR3.push (innerS _) hown hg hu4 (in_slice fun g h => ⟨by have := hub g h; omega, by have := hub g h; omega⟩) (fun g h => (hown.lt g h).2) (by omega) ?_ ?_
  · intro g h
    rcases hat with h1 | h1
    · exact .inl (h1 ▸ h)
    · refine .inr fun j u hj e => ?_
      rw [h1] at h; obtain rfl := Option.some.inj h
      have := (hR3.rng j u hj _ e).2
      omega
  · intro g h
    rw [ownBlock_slice] at h
    have hh := hub g h
    refine ⟨fun e => ?_, fun j v hj e => ?_⟩
    · rcases hat with h1 | h1
      · exact hne g h (h1 ▸ e)
      · rw [h1] at e; have := Option.some.inj e; omega
    · have := (hR3.rng j v hj _ e).2; omega
end Go.Proofs.Ytpognnifgcacnaa

/- The laws' helpers on []int64 in the words of Nest. -/
namespace Go.Proofs.Ytpognnifgcacnaa
open Go.RowKit

end Go.Proofs.Ytpognnifgcacnaa

/- The laws' helpers on [][]int64. -/
namespace Go.Proofs.Ytpognnifgcacnaa
open Go.RowKit

theorem etSS : ET Try.prog 39 49 (.slice none 0 0) 24 := ⟨Try.underlying39, by kernel_rfl, rfl, by omega⟩

end Go.Proofs.Ytpognnifgcacnaa

/- The presentation of a diagram: the reference's walk. -/
namespace Go.Proofs.Ytpognnifgcacnaa
open Go.RowKit

/-- the box of the result, the box of p, its relators -/
structure CoxSt (w wr : World) (N : Nat) (ao : Option Addr) (m c : Nat) (us : List Value) (ds : List (List Int)) : Prop where
  res : Blk wr w.heap.size 72 #[.int .i64 0, .slice none 0 0]
  box : Blk wr (w.heap.size + 1) 72 #[.int .i64 N, .slice ao m c]
  row : OwR (OwS 2) wr (w.heap.size + 2) wr.heap.size 49 ao m c us ds
  size : w.heap.size + 2 ≤ wr.heap.size
  below : Below w.heap.size w wr
  few : m ≤ 1000

theorem CoxSt.push {w wr w2 w3 w4 : World} {N m c' n1 c1 c2 : Nat} {ao' a1 ao2 : Option Addr} {us : List Value} {ds : List (List Int)} {zs : List Int} (st : CoxSt w wr N ao' m c' us ds) (hm : m + 1 ≤ 1000)
    (b2 : Below wr.heap.size wr w2) (o1 : Own w2 wr.heap.size 2 a1 n1 c1 (zs.map (Value.int .i64))) (b3 : Below w2.heap.size w2 w3) (o4 : Own w4 (w.heap.size + 2) 49 ao2 (m + 1) c2 (us ++ [.slice a1 n1 c1]))
    (g4 : w3.grownBy w4 (bk ao')) (hat : bk ao2 = bk ao' ∨ bk ao2 = some w3.heap.size) :
    CoxSt w (w4.setCell ⟨w.heap.size + 1, 1, none⟩ (.slice ao2 (m + 1) c2)) N ao2 (m + 1) c2 (us ++ [.slice a1 n1 c1]) (ds ++ [zs]) := by
  have hR := rows_push st.row st.size b2 o1 b3 o4 g4 hat
  have hsz := st.size
  have s2 := b2.size
  have s3 := b3.size
  have s4 := g4.size
  have B4 : Below (w.heap.size + 2) wr w4 := ((b2.trans (b3.mono s2)).mono hsz).grown g4 (by omega) (fun g hg => (st.row.own.lt g hg).1)
  have hh : (w4.setCell ⟨w.heap.size + 1, 1, none⟩ (.slice ao2 (m + 1) c2)).heap.size = w4.heap.size := by simp [World.setCell]
  refine ⟨(st.res.below B4 (by omega)).far (by simp) _, ?_, ?_, by rw [hh]; omega, (st.below.trans (B4.mono (by omega))).setCell (by simp) _, hm⟩
  · have := (st.box.below B4 (by omega)).set_ 1 (.slice ao2 (m + 1) c2)
    simpa using this
  · rw [hh]
    exact hR.same (innerS _) fun g h1 _ _ => Below.heap_setCell _ _ _ _ (by simp; omega)

theorem CoxSt.done {w wr : World} {N m c' : Nat} {ao' : Option Addr} {us : List Value} {ds : List (List Int)} (st : CoxSt w wr N ao' m c' us ds) :
    Blk ((wr.setCell ⟨w.heap.size, 0, none⟩ (.int .i64 N)).setCell ⟨w.heap.size, 1, none⟩ (.slice ao' m c')) w.heap.size 72 #[.int .i64 N, .slice ao' m c'] ∧
    OwR (OwS 2) ((wr.setCell ⟨w.heap.size, 0, none⟩ (.int .i64 N)).setCell ⟨w.heap.size, 1, none⟩ (.slice ao' m c')) (w.heap.size + 2) ((wr.setCell ⟨w.heap.size, 0, none⟩ (.int .i64 N)).setCell ⟨w.heap.size, 1, none⟩ (.slice ao' m c')).heap.size 49 ao' m c' us ds ∧
    Below w.heap.size w ((wr.setCell ⟨w.heap.size, 0, none⟩ (.int .i64 N)).setCell ⟨w.heap.size, 1, none⟩ (.slice ao' m c')) := by
  have hh : ((wr.setCell ⟨w.heap.size, 0, none⟩ (.int .i64 N)).setCell ⟨w.heap.size, 1, none⟩ (.slice ao' m c')).heap.size = wr.heap.size := by simp [World.setCell]
  refine ⟨?_, ?_, (st.below.setCell (by simp) _).setCell (by simp) _⟩
  · have := (st.res.set_ 0 (.int .i64 N)).set_ 1 (.slice ao' m c')
    simpa using this
  · rw [hh]
    exact st.row.same (innerS _) fun g h1 _ _ => by rw [Below.heap_setCell _ _ _ _ (by simp; omega), Below.heap_setCell _ _ _ _ (by simp; omega)]

end Go.Proofs.Ytpognnifgcacnaa

/- Draws of presentations: l11Draw. -/
namespace Go.Proofs.Ytpognnifgcacnaa
open Go.RowKit

theorem Src.far {w w' : World} {sb : Nat} (h : Src w sb) (hs : ∀ g, g ≤ sb → w'.heap[g]? = w.heap[g]?) : Src w' sb := by
  obtain ⟨ao, n, c, k, hh, h1, h2, h3, h4⟩ := h.box
  refine ⟨ao, n, c, k, hh, (hs sb (Nat.le_refl _)).trans h1, h2, h3, h4.1, fun hn => ?_⟩
  obtain ⟨b, off, e, hb, hc⟩ := h4.2 hn
  refine ⟨b, off, e, hb, fun j hj => ?_⟩
  obtain ⟨x, hx, hcx⟩ := hc j hj
  exact ⟨x, hx, (World.cell?_of_block (hs b (by omega))).trans hcx⟩
/-- a presentation being drawn: the source's box sb, the result's rb, that of p at pb -/
structure DrSt (w wr : World) (sb rb pb : Nat) (N : Int) (ao : Option Addr) (m c : Nat) (us : List Value) (ds : List (List Int)) : Prop where
  src : Src wr sb
  res : Blk wr rb 72 #[.int .i64 0, .slice none 0 0]
  box : Blk wr pb 72 #[.int .i64 N, .slice ao m c]
  row : OwR (OwS 2) wr (pb + 1) wr.heap.size 49 ao m c us ds
  lo : sb < w.heap.size ∧ w.heap.size ≤ rb ∧ rb < pb ∧ pb < wr.heap.size
  only : Only sb (sb + 1) w wr
section
variable {w wr : World} {sb rb pb : Nat} {N : Int} {ao : Option Addr} {m c : Nat} {us : List Value} {ds : List (List Int)}
theorem DrSt.next {w2 : World} (st : DrSt w wr sb rb pb N ao m c us ds) (s2 : Src w2 sb) (o2 : Only sb (sb + 1) wr w2) : DrSt w w2 sb rb pb N ao m c us ds :=
  have hl := st.lo
  have hsz := o2.size
  ⟨s2, st.res.only o2 (.inr (by omega)), st.box.only o2 (.inr (by omega)), (st.row.only (innerS _) o2 (.inr (by omega))).mono (Nat.le_refl _) hsz, ⟨hl.1, hl.2.1, hl.2.2.1, by omega⟩, st.only.trans o2⟩
theorem DrSt.push {w2 w3 w4 : World} {n1 c1 c2 : Nat} {a1 ao2 : Option Addr} {zs : List Int} (st : DrSt w wr sb rb pb N ao m c us ds)
    (b2 : Below wr.heap.size wr w2) (o1 : Own w2 wr.heap.size 2 a1 n1 c1 (zs.map (Value.int .i64))) (b3 : Below w2.heap.size w2 w3) (o4 : Own w4 (pb + 1) 49 ao2 (m + 1) c2 (us ++ [.slice a1 n1 c1]))
    (g4 : w3.grownBy w4 (bk ao)) (hat : bk ao2 = bk ao ∨ bk ao2 = some w3.heap.size) :
    DrSt w (w4.setCell ⟨pb, 1, none⟩ (.slice ao2 (m + 1) c2)) sb rb pb N ao2 (m + 1) c2 (us ++ [.slice a1 n1 c1]) (ds ++ [zs]) := by
  have hl := st.lo
  have hR := rows_push st.row (by omega) b2 o1 b3 o4 g4 hat
  have s2 := b2.size
  have s3 := b3.size
  have s4 := g4.size
  have B4 : Below (pb + 1) wr w4 := ((b2.trans (b3.mono s2)).mono (by omega)).grown g4 (by omega) (fun g hg => (st.row.own.lt g hg).1)
  have hh : (w4.setCell ⟨pb, 1, none⟩ (.slice ao2 (m + 1) c2)).heap.size = w4.heap.size := by simp [World.setCell]
  have hne : ∀ g, g ≠ pb → (w4.setCell ⟨pb, 1, none⟩ (.slice ao2 (m + 1) c2)).heap[g]? = w4.heap[g]? := fun g hg => Below.heap_setCell _ _ _ _ (by simpa using hg)
  refine ⟨st.src.far fun g hg => (hne g (by omega)).trans (B4.block g (by omega)), (st.res.below B4 (by omega)).far (by simp; omega) _, ?_, ?_, ⟨hl.1, hl.2.1, hl.2.2.1, by rw [hh]; omega⟩, ?_⟩
  · have := (st.box.below B4 (by omega)).set_ 1 (.slice ao2 (m + 1) c2)
    simpa using this
  · rw [hh]
    exact hR.same (innerS _) fun g h1 _ _ => hne g (by omega)
  · have o := st.only
    exact ⟨B4.os.trans o.os, B4.tape.trans o.tape, B4.output.trans o.output, by rw [hh]; have := o.size; omega, fun k hk hd => by rw [hne k (by omega), B4.block k (by omega)]; exact o.block k hk hd⟩
theorem DrSt.done (st : DrSt w wr sb rb pb N ao m c us ds) :
    Blk ((wr.setCell ⟨rb, 0, none⟩ (.int .i64 N)).setCell ⟨rb, 1, none⟩ (.slice ao m c)) rb 72 #[.int .i64 N, .slice ao m c] ∧
    OwP 2 49 ((wr.setCell ⟨rb, 0, none⟩ (.int .i64 N)).setCell ⟨rb, 1, none⟩ (.slice ao m c)) w.heap.size ((wr.setCell ⟨rb, 0, none⟩ (.int .i64 N)).setCell ⟨rb, 1, none⟩ (.slice ao m c)).heap.size (.agg #[.int .i64 N, .slice ao m c]) (N, ds) ∧
    Src ((wr.setCell ⟨rb, 0, none⟩ (.int .i64 N)).setCell ⟨rb, 1, none⟩ (.slice ao m c)) sb ∧
    Only sb (sb + 1) w ((wr.setCell ⟨rb, 0, none⟩ (.int .i64 N)).setCell ⟨rb, 1, none⟩ (.slice ao m c)) := by
  have hl := st.lo
  have hh : ((wr.setCell ⟨rb, 0, none⟩ (.int .i64 N)).setCell ⟨rb, 1, none⟩ (.slice ao m c)).heap.size = wr.heap.size := by simp [World.setCell]
  have hne : ∀ g, g ≠ rb → ((wr.setCell ⟨rb, 0, none⟩ (.int .i64 N)).setCell ⟨rb, 1, none⟩ (.slice ao m c)).heap[g]? = wr.heap[g]? := fun g hg => by
    rw [Below.heap_setCell _ _ _ _ (by simpa using hg), Below.heap_setCell _ _ _ _ (by simpa using hg)]
  refine ⟨?_, ⟨ao, m, c, us, rfl, ?_⟩, st.src.far fun g hg => hne g (by omega), ?_⟩
  · have := (st.res.set_ 0 (.int .i64 N)).set_ 1 (.slice ao m c)
    simpa using this
  · rw [hh]
    exact (st.row.same (innerS _) fun g h1 _ _ => hne g (by omega)).mono (by omega) (Nat.le_refl _)
  · have o := st.only
    exact ⟨o.os, o.tape, o.output, by rw [hh]; exact o.size, fun k hk hd => by rw [hne k (by omega)]; exact o.block k hk hd⟩
end
/-- what a draw of a presentation leaves -/
def DrawnP (w : World) (sb : Nat) (glo ghi : Int) (most : Nat) (e : Ending) (w' : World) : Prop :=
  ∃ v d, e = .returned v ∧ glo ≤ d.1 ∧ d.1 ≤ ghi ∧ d.2.length ≤ most ∧ OwP 2 49 w' w.heap.size w'.heap.size v d ∧ Src w' sb ∧ Only sb (sb + 1) w w'
theorem pick5 {r : Nat} (h : r < 5) : ∃ L : Nat, iget [2, 3, 3, 3, 4] r = (L : Int) ∧ 2 ≤ L ∧ L ≤ 7 := by
  match r, h with
  | 0, _ => exact ⟨2, rfl, by omega, by omega⟩
  | 1, _ => exact ⟨3, rfl, by omega, by omega⟩
  | 2, _ => exact ⟨3, rfl, by omega, by omega⟩
  | 3, _ => exact ⟨3, rfl, by omega, by omega⟩
  | 4, _ => exact ⟨4, rfl, by omega, by omega⟩
theorem pick6 {r : Nat} (h : r < 6) : ∃ L : Nat, iget [2, 3, 4, 5, 6, 7] r = (L : Int) ∧ 2 ≤ L ∧ L ≤ 7 := by
  match r, h with
  | 0, _ => exact ⟨2, rfl, by omega, by omega⟩
  | 1, _ => exact ⟨3, rfl, by omega, by omega⟩
  | 2, _ => exact ⟨4, rfl, by omega, by omega⟩
  | 3, _ => exact ⟨5, rfl, by omega, by omega⟩
  | 4, _ => exact ⟨6, rfl, by omega, by omega⟩
  | 5, _ => exact ⟨7, rfl, by omega, by omega⟩

set_option maxRecDepth 100000 in
set_option maxHeartbeats 3200000 in
theorem draw_any (sb : Nat) (w : World) (h : Src w sb) (hsb : sb < w.heap.size) :
    Calls Try.prog 190 #[.pointer (some ⟨sb, 0, none⟩)] w (DrawnP w sb 1 4 17) := by
  go_enter Try.func190, Try.ntmps190
  have h1 : Src (w.alloc (.cells #[.int .i64 0, .slice none 0 0] 72)) sb := h.grown (row := none) (World.grownBy_alloc w _ none) (fun g hg => by cases hg)
  have r1 : Blk (w.alloc (.cells #[.int .i64 0, .slice none 0 0] 72)) w.heap.size 72 #[.int .i64 0, .slice none 0 0] := blk_at rfl
  have q1 : Only sb (sb + 1) w (w.alloc (.cells #[.int .i64 0, .slice none 0 0] 72)) := only_grown (Only.refl sb (sb + 1) w) (World.grownBy_alloc w _ none) (fun g hg => by cases hg)
  go_wp2_with fail
  have hz1 : (w.alloc (.cells #[.int .i64 0, .slice none 0 0] 72)).heap.size = w.heap.size + 1 := by simp
  generalize w.alloc (.cells #[.int .i64 0, .slice none 0 0] 72) = w1 at *
  have HZ1 := Lib.hid hz1
  clear hz1
  refine (next_any sb _ _ h1 (by omega)).mono ?_
  rintro e w2 ⟨r, rfl, -, r2, s2, o2⟩
  have hr := r2 (by omega)
  obtain ⟨N, hN⟩ : ∃ N : Nat, (1 : Int) + r = N := ⟨1 + r, by omega⟩
  have hN1 : 1 ≤ N := by omega
  have hN4 : N ≤ 4 := by omega
  have r2' := r1.only o2 (.inr (by omega))
  have hz2 := o2.size
  have q2 := q1.trans o2
  clear o2 h1 r1 q1 r2
  go_wp2_with fail
  have st0 : DrSt w (w2.alloc (.cells #[.int .i64 N, .slice none 0 0] 72)) sb w.heap.size w2.heap.size N none 0 0 [] [] :=
    ⟨s2.grown (row := none) (World.grownBy_alloc w2 _ none) (fun g hg => by cases hg), r2'.alloc _, blk_at rfl, OwR.empty_ (Own.nil_ _ _ _) (fun g hg => by cases hg), ⟨hsb, Nat.le_refl _, by have := HZ1.out; omega, by simp⟩, only_grown q2 (World.grownBy_alloc w2 _ none) (fun g hg => by cases hg)⟩
  have hpb : w.heap.size < w2.heap.size := by have := HZ1.out; omega
  generalize w2.alloc (.cells #[.int .i64 N, .slice none 0 0] 72) = w3 at *
  generalize w2.heap.size = pb at *
  clear s2 q2 r2' hz2 HZ1 hN hr
  go_loopw [5, 6] (fun bv iv wr => ∃ (b k m : Nat) (ao : Option Addr) (c : Nat) (us : List Value) (ds : List (List Int)), bv = .int .i64 b ∧ iv = .int .i64 k ∧ k ≤ N ∧ b ≤ 4 * k ∧ m ≤ 4 * k ∧ DrSt w wr sb w.heap.size pb N ao m c us ds) (fun _ iv _ => N - (intOf iv).toNat)
  case atStart => exact ⟨0, 0, 0, none, 0, [], [], rfl, rfl, Nat.zero_le _, by omega, by omega, st0⟩
  case round =>
    obtain ⟨b, k, m, ao, c, us, ds, rfl, rfl, hk, hb, hm, st⟩ := hrel
    clear st0 w3
    by_cases hlt : k < N
    · have ST := Lib.hid st
      clear st
      go_wp2_with fail
      go_loopw [5, 7] (fun bv iv wr => ∃ (b j m : Nat) (ao : Option Addr) (c : Nat) (us : List Value) (ds : List (List Int)), bv = .int .i64 b ∧ iv = .int .i64 j ∧ k < j ∧ j ≤ N ∧ b ≤ 4 * k + j ∧ m ≤ 4 * k + j ∧ DrSt w wr sb w.heap.size pb N ao m c us ds) (fun _ iv _ => N - (intOf iv).toNat)
      case atStart => exact ⟨b, k + 1, m, ao, c, us, ds, rfl, by simp, by omega, by omega, by omega, by omega, ST.out⟩
      case round =>
        obtain ⟨b, j, m, ao, c, us, ds, rfl, rfl, hkj, hj, hb, hm, st⟩ := hrel
        clear ST
        by_cases hlt2 : j < N
        · have ST := Lib.hid st
          clear st
          go_upto_if 30 with (fail)
          go_cut [5, 8] (fun s5 s8 wx => ∃ b' L : Nat, s5 = .int .i64 b' ∧ s8 = .int .i64 L ∧ b' ≤ 4 * k + j + 1 ∧ 2 ≤ L ∧ L ≤ 7 ∧ DrSt w wx sb w.heap.size pb N ao m c us ds)
          case first =>
            by_cases hjk : j = k + 1
            · subst hjk
              have hP : Ints (wr.alloc (.cells #[.int .i64 2, .int .i64 3, .int .i64 3, .int .i64 3, .int .i64 4] 2)) (some ⟨wr.heap.size, 0, none⟩) 5 [2, 3, 3, 3, 4] := Own.ints (zs := [2, 3, 3, 3, 4]) (own_lit (us := [.int .i64 2, .int .i64 3, .int .i64 3, .int .i64 3, .int .i64 4]) rfl (Nat.le_refl _) (by simp))
              have oP : Only sb (sb + 1) wr (wr.alloc (.cells #[.int .i64 2, .int .i64 3, .int .i64 3, .int .i64 3, .int .i64 4] 2)) := only_grown (Only.refl _ _ _) (World.grownBy_alloc wr _ none) (fun g hg => by cases hg)
              have sP : Src (wr.alloc (.cells #[.int .i64 2, .int .i64 3, .int .i64 3, .int .i64 3, .int .i64 4] 2)) sb := ST.out.src.grown (row := none) (World.grownBy_alloc wr _ none) (fun g hg => by cases hg)
              have hne : bk (some ⟨wr.heap.size, 0, none⟩) ≠ some sb := by have := ST.out.lo; simp [bk]; omega
              go_wp2_with fail
              refine (pick_any sb _ 5 5 [2, 3, 3, 3, 4] _ sP hP (by omega) (by omega) hne).mono ?_
              rintro e w4 ⟨q, hq, rfl, s4, o4⟩
              obtain ⟨L, hL, hL2, hL7⟩ := pick5 hq
              rw [hL]
              have ST4 := Lib.hid (ST.out.next s4 (oP.trans o4))
              clear hL hP oP sP hne s4 o4 hq q ST
              go_upto_if 35 with (fail)
              go_cut [8] (fun s8 wx => ∃ L : Nat, s8 = .int .i64 L ∧ 2 ≤ L ∧ L ≤ 7 ∧ DrSt w wx sb w.heap.size pb N ao m c us ds)
              case first =>
                by_cases hN3 : N < 3
                · have hP : Ints (w4.alloc (.cells #[.int .i64 2, .int .i64 3, .int .i64 4, .int .i64 5, .int .i64 6, .int .i64 7] 2)) (some ⟨w4.heap.size, 0, none⟩) 6 [2, 3, 4, 5, 6, 7] := Own.ints (zs := [2, 3, 4, 5, 6, 7]) (own_lit (us := [.int .i64 2, .int .i64 3, .int .i64 4, .int .i64 5, .int .i64 6, .int .i64 7]) rfl (Nat.le_refl _) (by simp))
                  have oP : Only sb (sb + 1) w4 (w4.alloc (.cells #[.int .i64 2, .int .i64 3, .int .i64 4, .int .i64 5, .int .i64 6, .int .i64 7] 2)) := only_grown (Only.refl _ _ _) (World.grownBy_alloc w4 _ none) (fun g hg => by cases hg)
                  have sP : Src (w4.alloc (.cells #[.int .i64 2, .int .i64 3, .int .i64 4, .int .i64 5, .int .i64 6, .int .i64 7] 2)) sb := ST4.out.src.grown (row := none) (World.grownBy_alloc w4 _ none) (fun g hg => by cases hg)
                  have hne : bk (some ⟨w4.heap.size, 0, none⟩) ≠ some sb := by have := ST4.out.lo; simp [bk]; omega
                  go_wp2_with fail
                  refine (pick_any sb _ 6 6 [2, 3, 4, 5, 6, 7] _ sP hP (by omega) (by omega) hne).mono ?_
                  rintro e w5 ⟨q, hq, rfl, s5, o5⟩
                  obtain ⟨L', hL', hL2', hL7'⟩ := pick6 hq
                  rw [hL']
                  have st5 := ST4.out.next s5 (oP.trans o5)
                  clear hL' hP oP sP hne o5 hq q
                  go_wp2_with fail
                  go_meet
                  case rel => exact ⟨L', rfl, hL2', hL7', st5⟩
                · go_wp2_with fail
                  go_meet
                  case rel => exact ⟨L, rfl, hL2, hL7, ST4.out⟩
              case rest =>
                obtain ⟨L', rfl, hL2', hL7', st5⟩ := hcut
                have ST5 := Lib.hid st5
                clear st5 ST4 hL2 hL7
                by_cases hL3 : 3 < L'
                · by_cases hb1 : 0 < b
                  · go_wp2_with fail
                    go_meet
                    case rel => exact ⟨b + 1, 3, by go_num, by go_num, by omega, by omega, by omega, ST5.out⟩
                  · obtain rfl : b = 0 := by omega
                    by_cases hN4' : N = 4
                    · subst hN4'
                      by_cases hk1 : k = 1
                      · subst hk1
                        go_wp2_with fail
                        go_meet
                        case rel => exact ⟨1, 3, by go_num, by go_num, by omega, by omega, by omega, ST5.out⟩
                      · have hk1' : ((k : Int) == 1) = false := by simp; omega
                        go_wp2_with fail
                        go_meet
                        case rel => exact ⟨1, L', by go_num, by go_num, by omega, by omega, by omega, ST5.out⟩
                    · go_wp2_with fail
                      go_meet
                      case rel => exact ⟨1, L', by go_num, by go_num, by omega, by omega, by omega, ST5.out⟩
                · by_cases hb1 : 1 < b
                  · go_wp2_with fail
                    go_meet
                    case rel => exact ⟨b, L', by go_num, by go_num, by omega, by omega, by omega, ST5.out⟩
                  · by_cases hN4' : N = 4
                    · subst hN4'
                      by_cases hk1 : k = 1
                      · subst hk1
                        go_wp2_with fail
                        go_meet
                        case rel => exact ⟨b, L', by go_num, by go_num, by omega, by omega, by omega, ST5.out⟩
                      · have hk1' : ((k : Int) == 1) = false := by simp; omega
                        go_wp2_with fail
                        go_meet
                        case rel => exact ⟨b, L', by go_num, by go_num, by omega, by omega, by omega, ST5.out⟩
                    · go_wp2_with fail
                      go_meet
                      case rel => exact ⟨b, L', by go_num, by go_num, by omega, by omega, by omega, ST5.out⟩
            · go_wp2_with fail
              go_meet
              case rel => exact ⟨b, 2, rfl, rfl, by omega, by omega, by omega, ST.out⟩
          case rest =>
            obtain ⟨b', L, rfl, rfl, hb', hL2, hL7, st2⟩ := hcut
            have ST2 := Lib.hid st2
            clear st2 ST
            have hlo := ST2.out.lo
            have x1 := ST2.out.box.cell 1
            have f1 := ST2.out.box.frozen 1
            simp at x1
            have hP : Ints (wc.alloc (.cells #[.int .i64 k, .int .i64 (j : Int)] 2)).drew (some ⟨wc.heap.size, 0, none⟩) 2 [(k : Int), (j : Int)] := Own.ints (zs := [(k : Int), (j : Int)]) (own_lit (us := [.int .i64 k, .int .i64 (j : Int)]) rfl (Nat.le_refl _) (by simp))
            have bP : Below wc.heap.size wc (wc.alloc (.cells #[.int .i64 k, .int .i64 (j : Int)] 2)) := below_alloc1 _ _
            have HP := Lib.hid hP
            have BP := Lib.hid bP
            clear hP bP
            go_wp2_with fail
            have xP : (wc.alloc (.cells #[.int .i64 k, .int .i64 (j : Int)] 2)).cell? ⟨pb, 1, none⟩ = some (.slice ao m c) := (ST2.out.box.alloc _).cell 1
            go_region_law (first | (refine step_ap1 (o := ⟨some 63, _, _, _, _, _⟩) etSS rfl (.tmp 56) (.tmp 62) rfl (pb + 1) ao m c us rfl (ST2.out.row.own.below B3) (.slice a1 (2 * L) c1) w2.heap.size 1 rfl ((blk_at rfl).cell 0) rfl (by omega) (by have := B3.size; simp at *; omega) ?_; intro ao2 c2 w4 o4 g4 hat; have B4S : Below (pb + 1) wc w4 := (B3S.grown g4 (by have := B3.size; omega) (fun g hg => (ST2.out.row.own.lt g hg).1)); have x4 : w4.cell? ⟨pb, 1, none⟩ = some (.slice ao m c) := (ST2.out.box.below B4S (by omega)).cell 1; have f4 : w4.frozen? ⟨pb, 1, none⟩ = false := (ST2.out.box.below B4S (by omega)).frozen 1) | (go_simp; go_at_call 131; refine (specPower_any _ 2 2 L [(k : Int), (j : Int)] _ HP.out (by omega) (by omega)).mono ?_; rintro e w2 ⟨a1, c1, rfl, o1, b1⟩; have B2 : Below wc.heap.size wc w2 := below_tr b1 BP.out.drew; have B2S := B2.mono (show pb + 1 ≤ wc.heap.size by omega); have B3 : Below wc.heap.size wc (w2.alloc (.cells #[.slice a1 (2 * L) c1] 49)) := B2.alloc B2.size _; have B3S := B3.mono (show pb + 1 ≤ wc.heap.size by omega); have x2 : w2.cell? ⟨pb, 1, none⟩ = some (.slice ao m c) := (ST2.out.box.below B2S (by omega)).cell 1; have x3 : (w2.alloc (.cells #[.slice a1 (2 * L) c1] 49)).cell? ⟨pb, 1, none⟩ = some (.slice ao m c) := (ST2.out.box.below B3S (by omega)).cell 1))
            all_goals
              have st3 := ST2.out.push B2 (o1.mono (by simp [World.drew])) (below_alloc1 _ _) o4 g4 hat
              generalize w4.setCell ⟨pb, 1, none⟩ (.slice ao2 (m + 1) c2) = wf at *
              clear B2 B2S B3 B3S B4S x1 x2 x3 x4 xP f1 f4 o1 b1 o4 g4 hat ST2 HP BP
              go_wp2_with fail
              go_roundw
              case rel => exact ⟨b', j + 1, m + 1, ao2, c2, _, _, rfl, by go_num, by omega, by omega, by omega, by omega, st3⟩
              case measure => simp [intOf]; omega
        · obtain rfl : j = N := by omega
          go_wp2_with fail
          go_roundw
          case rel => exact ⟨b, k + 1, m, ao, c, us, ds, rfl, by go_num, by omega, by omega, by omega, st⟩
          case measure => simp [intOf]; omega
    · obtain rfl : k = N := by omega
      have ST := Lib.hid st
      have hlo := st.lo
      clear st
      go_wp2_with fail
      refine (next_any sb _ _ ST.out.src (by omega)).mono ?_
      rintro e w4 ⟨q, rfl, -, -, s4, o4⟩
      have ST4 := Lib.hid (ST.out.next s4 o4)
      clear s4 o4 ST
      go_upto_if 67 with (fail)
      go_cut [] (fun wx => ∃ (m : Nat) (ao : Option Addr) (c : Nat) (us : List Value) (ds : List (List Int)), m ≤ 17 ∧ DrSt w wx sb w.heap.size pb k ao m c us ds)
      case first =>
        by_cases hq0 : q = 0
        · subst hq0
          go_wp2_with fail
          have hlo4 := ST4.out.lo
          refine (drawWord_any sb k 6 _ ST4.out.src (by omega) (by omega) (by omega) (by omega)).mono ?_
          rintro e w5 ⟨a5, n5, c5, zs, rfl, hn5, -, o5, s5, q5⟩
          have ST5 := Lib.hid (ST4.out.next s5 q5)
          have hi5 := o5.ints
          have hne5 : ∀ g, bk a5 = some g → sb < g := fun g hg => by have := (o5.lt g hg).1; omega
          clear o5 s5 q5 ST4 hlo4
          by_cases hn0 : 0 < n5
          · have hlo5 := ST5.out.lo
            have x1 := ST5.out.box.cell 1
            have f1 := ST5.out.box.frozen 1
            simp at x1
            have HI5 := Lib.hid hi5
            have S5D : Src w5.drew sb := ⟨ST5.out.src.box⟩
            have O5D : Only sb (sb + 1) w5 w5.drew := ⟨rfl, rfl, rfl, Nat.le_refl _, fun _ _ _ => rfl⟩
            clear hi5
            go_wp2_with fail
            go_region_law (first | (refine step_ap1 (o := ⟨some 82, _, _, _, _, _⟩) etSS rfl (.tmp 75) (.tmp 81) rfl (pb + 1) ao m c us rfl (ST6.out.row.own.below B3) (.slice a1 (n5 * Q) c1) w7.heap.size 1 rfl ((blk_at rfl).cell 0) rfl (by omega) (by have := B3.size; simp at *; omega) ?_; intro ao2 c2 w8 o8 g8 hat; have B4S : Below (pb + 1) w6 w8 := (B3S.grown g8 (by have := B3.size; omega) (fun g hg => (ST6.out.row.own.lt g hg).1)); have x4 : w8.cell? ⟨pb, 1, none⟩ = some (.slice ao m c) := (ST6.out.box.below B4S (by omega)).cell 1; have f4 : w8.frozen? ⟨pb, 1, none⟩ = false := (ST6.out.box.below B4S (by omega)).frozen 1) | (go_simp; go_at_call 120; refine (next_any sb _ _ S5D (by omega)).mono ?_; rintro e w6 ⟨q, rfl, -, r6, s6, q6⟩; have ST6 := Lib.hid (ST5.out.next s6 (Only.trans O5D q6)); have hlo6 := ST6.out.lo; have HI6 := Lib.hid (HI5.out.same (w' := w6) fun g hg hlt => q6.block g hlt (.inr (by have := hne5 g hg; omega))); have r6' := r6 (by omega); obtain ⟨Q, hQ, hQ3⟩ : ∃ Q : Nat, IntKind.i64.wrap (1 + (q : Int)) = (Q : Int) ∧ Q ≤ 3 := ⟨1 + q, by rw [IntWalk.i64_in _ (by omega)]; omega, by omega⟩; clear r6 r6' q6 s6; have y6 : w6.cell? ⟨pb, 1, none⟩ = some (.slice ao m c) := ST6.out.box.cell 1) | (go_simp; go_at_call 131; refine (specPower_any a5 n5 c5 Q zs _ HI6.out (by omega) (by have : n5 * Q ≤ 6 * 3 := Nat.mul_le_mul hn5 hQ3; omega)).mono ?_; rintro e w7 ⟨a1, c1, rfl, o7, b7⟩; have B2 : Below w6.heap.size w6 w7 := b7; have B2S := B2.mono (show pb + 1 ≤ w6.heap.size by omega); have B3 : Below w6.heap.size w6 (w7.alloc (.cells #[.slice a1 (n5 * Q) c1] 49)) := B2.alloc B2.size _; have B3S := B3.mono (show pb + 1 ≤ w6.heap.size by omega); have x2 : w7.cell? ⟨pb, 1, none⟩ = some (.slice ao m c) := (ST6.out.box.below B2S (by omega)).cell 1; have x3 : (w7.alloc (.cells #[.slice a1 (n5 * Q) c1] 49)).cell? ⟨pb, 1, none⟩ = some (.slice ao m c) := (ST6.out.box.below B3S (by omega)).cell 1))
            all_goals
              have st3 := ST6.out.push B2 o7 (below_alloc1 _ _) o8 g8 hat
              generalize w8.setCell ⟨pb, 1, none⟩ (.slice ao2 (m + 1) c2) = wf at *
              clear B2 B2S B3 B3S B4S x1 x2 x3 x4 y6 f1 f4 o7 b7 o8 g8 hat ST5 ST6 HI5 HI6 hQ
              go_wp2_with fail
              go_meet
              case rel => exact ⟨m + 1, ao2, c2, _, _, by omega, st3⟩
          · obtain rfl : n5 = 0 := by omega
            go_wp2_with fail
            go_meet
            case rel => exact ⟨m, ao, c, us, ds, by omega, ST5.out⟩
        · have hq1 : ((q : Int) == 0) = false := by simp; omega
          go_wp2_with fail
          go_meet
          case rel => exact ⟨m, ao, c, us, ds, by omega, ST4.out⟩
      case rest =>
        obtain ⟨m, ao, c, us, ds, hm, st⟩ := hcut
        have x0 := st.box.cell 0
        have x1 := st.box.cell 1
        have y0 := st.res.cell 0
        have y1 := st.res.cell 1
        have f0 := st.res.frozen 0
        have f1 := st.res.frozen 1
        simp at x0 x1 y0 y1
        have ST5 := Lib.hid st
        clear st ST4
        go_wp2_with fail
        have st2 := ST5.out.done
        have hlen := ST5.out.row.len
        generalize (wc.setCell ⟨w.heap.size, 0, none⟩ (.int .i64 k)).setCell ⟨w.heap.size, 1, none⟩ (.slice ao m c) = wf at *
        have e0 := st2.1.cell 0
        have e1 := st2.1.cell 1
        simp at e0 e1
        refine bodyPost_ret (v := .agg #[.int .i64 k, .slice ao m c]) (by simp [results, Try.f190, go_sem, e0, e1]) rfl ⟨_, _, rfl, by simp; omega, by simp; omega, by simp; omega, st2.2.1, st2.2.2.1, st2.2.2.2⟩
end Go.Proofs.Ytpognnifgcacnaa

/- Draws of presentations: l11DrawAny. -/
namespace Go.Proofs.Ytpognnifgcacnaa
open Go.RowKit

section
variable {w w' : World} {lo hi E F : Nat} {ao : Option Addr} {n c : Nat} {xs : List Value} {ds : List (List Int)}
/-- an owned block is of the element's type -/
theorem Own.typ (h : Own w lo E ao n c xs) {g : Nat} (hg : bk ao = some g) : ∃ cs, w.heap[g]? = some (.cells cs E (0, 0)) := by
  rcases h.1.2 with h2 | ⟨g', cap, cur, hv, _, hh, _⟩
  · have h2 := h2.1
    injection h2 with h3; subst h3; cases hg
  · injection hv with h3; subst h3
    obtain rfl := Option.some.inj hg
    exact ⟨cur, hh⟩
theorem OwR.sameT (h : OwR (OwS F) w lo hi E ao n c xs ds) (hs : ∀ g cs t, lo ≤ g → g < hi → w.heap[g]? = some (.cells cs t (0, 0)) → t = E ∨ t = F → w'.heap[g]? = w.heap[g]?) : OwR (OwS F) w' lo hi E ao n c xs ds :=
  { own := h.own.same fun g hg => by
      obtain ⟨cs, hc⟩ := h.own.typ hg
      exact hs g cs E (h.own.lt g hg).1 (h.top g hg) hc (.inl rfl)
    top := h.top, len := h.len, rng := h.rng, out := h.out, apart := h.apart
    el := fun j u d hu hd => by
      obtain ⟨ao', n', c', rfl, ho⟩ := h.el j u d hu hd
      refine ⟨ao', n', c', rfl, ho.same fun g hg => ?_⟩
      obtain ⟨cs, hc⟩ := ho.typ hg
      have hr := h.rng j _ hu g (by rw [ownBlock_slice]; exact hg)
      exact hs g cs F hr.1 hr.2 hc (.inr rfl) }
end
/-- a presentation that lies about its box pb; the result's box is rb -/
structure DaSt (w wr : World) (sb rb pb : Nat) (N : Int) (ao : Option Addr) (m c : Nat) (us : List Value) (ds : List (List Int)) : Prop where
  src : Src wr sb
  res : Blk wr rb 72 #[.int .i64 0, .slice none 0 0]
  box : Blk wr pb 72 #[.int .i64 N, .slice ao m c]
  row : OwR (OwS 2) wr w.heap.size wr.heap.size 49 ao m c us ds
  lo : sb < w.heap.size ∧ w.heap.size ≤ rb ∧ rb < pb ∧ pb < wr.heap.size
  only : Only sb (sb + 1) w wr
section
variable {w wr : World} {sb rb pb : Nat} {N : Int} {ao : Option Addr} {m c : Nat} {us : List Value} {ds : List (List Int)}
theorem DaSt.next {w2 : World} (st : DaSt w wr sb rb pb N ao m c us ds) (s2 : Src w2 sb) (o2 : Only sb (sb + 1) wr w2) : DaSt w w2 sb rb pb N ao m c us ds :=
  have hl := st.lo
  have hsz := o2.size
  ⟨s2, st.res.only o2 (.inr (by omega)), st.box.only o2 (.inr (by omega)), (st.row.only (innerS _) o2 (.inr (by omega))).mono (Nat.le_refl _) hsz, ⟨hl.1, hl.2.1, hl.2.2.1, by omega⟩, st.only.trans o2⟩
/-- a box of a presentation is no block of the row -/
theorem pres_off {w w' : World} {lo hi : Nat} (h : OwR (OwS 2) w lo hi 49 ao m c us ds) {pb : Nat} {cs : Array Value} (hb : Blk w pb 72 cs) (hs : ∀ g, g ≠ pb → lo ≤ g → w'.heap[g]? = w.heap[g]?) : OwR (OwS 2) w' lo hi 49 ao m c us ds :=
  h.sameT fun g cs' t h1 h2 hc ht => hs g (fun e => by
    subst e
    unfold Blk at hb
    rw [hb] at hc
    injection hc with hc
    injection hc with _ hc
    subst hc
    rcases ht with ht | ht <;> exact absurd ht (by decide)) h1
theorem DaSt.set0 (st : DaSt w wr sb rb pb N ao m c us ds) (z : Int) : DaSt w (wr.setCell ⟨pb, 0, none⟩ (.int .i64 z)) sb rb pb z ao m c us ds := by
  have hl := st.lo
  have hh : (wr.setCell ⟨pb, 0, none⟩ (.int .i64 z)).heap.size = wr.heap.size := by simp [World.setCell]
  have hne : ∀ g, g ≠ pb → (wr.setCell ⟨pb, 0, none⟩ (.int .i64 z)).heap[g]? = wr.heap[g]? := fun g hg => Below.heap_setCell _ _ _ _ (by simpa using hg)
  have o := st.only
  refine ⟨st.src.far fun g hg => hne g (by omega), st.res.far (by simp; omega) _, ?_, ?_, by rw [hh]; exact hl, ⟨o.os, o.tape, o.output, by rw [hh]; exact o.size, fun k hk hd => by rw [hne k (by omega)]; exact o.block k hk hd⟩⟩
  · have := st.box.set_ 0 (.int .i64 z)
    simpa using this
  · rw [hh]; exact pres_off st.row st.box fun g hg _ => hne g hg
theorem DaSt.nilled (st : DaSt w wr sb rb pb N ao m c us ds) : DaSt w (wr.setCell ⟨pb, 1, none⟩ (.slice none 0 0)) sb rb pb N none 0 0 [] [] := by
  have hl := st.lo
  have hh : (wr.setCell ⟨pb, 1, none⟩ (.slice none 0 0)).heap.size = wr.heap.size := by simp [World.setCell]
  have hne : ∀ g, g ≠ pb → (wr.setCell ⟨pb, 1, none⟩ (.slice none 0 0)).heap[g]? = wr.heap[g]? := fun g hg => Below.heap_setCell _ _ _ _ (by simpa using hg)
  have o := st.only
  refine ⟨st.src.far fun g hg => hne g (by omega), st.res.far (by simp; omega) _, ?_, OwR.empty_ (Own.nil_ _ _ _) (fun g hg => by cases hg), by rw [hh]; exact hl, ⟨o.os, o.tape, o.output, by rw [hh]; exact o.size, fun k hk hd => by rw [hne k (by omega)]; exact o.block k hk hd⟩⟩
  have := st.box.set_ 1 (.slice none 0 0)
  simpa using this
theorem DaSt.box4 {w2 w3 w4 : World} (st : DaSt w wr sb rb pb N ao m c us ds) (b2 : Below wr.heap.size wr w2) (b3 : Below w2.heap.size w2 w3) (g4 : w3.grownBy w4 (bk ao)) : Blk w4 pb 72 #[.int .i64 N, .slice ao m c] := by
  have hl := st.lo
  have s2 := b2.size
  have s3 := b3.size
  refine Eq.trans ?_ st.box
  rw [g4.block pb (by omega) (fun e => ?_), b3.block pb (by omega), b2.block pb (by omega)]
  obtain ⟨cs', hc⟩ := st.row.own.typ e.symm
  have hx := st.box
  unfold Blk at hx
  rw [hx] at hc
  injection hc with hc
  injection hc with _ hc
  exact absurd hc (by decide)
theorem DaSt.push {w2 w3 w4 : World} {n1 c1 c2 : Nat} {a1 ao2 : Option Addr} {zs : List Int} (st : DaSt w wr sb rb pb N ao m c us ds)
    (b2 : Below wr.heap.size wr w2) (o1 : Own w2 wr.heap.size 2 a1 n1 c1 (zs.map (Value.int .i64))) (b3 : Below w2.heap.size w2 w3) (o4 : Own w4 w.heap.size 49 ao2 (m + 1) c2 (us ++ [.slice a1 n1 c1]))
    (g4 : w3.grownBy w4 (bk ao)) (hat : bk ao2 = bk ao ∨ bk ao2 = some w3.heap.size) :
    DaSt w (w4.setCell ⟨pb, 1, none⟩ (.slice ao2 (m + 1) c2)) sb rb pb N ao2 (m + 1) c2 (us ++ [.slice a1 n1 c1]) (ds ++ [zs]) := by
  have hl := st.lo
  have hR := rows_push st.row (by omega) b2 o1 b3 o4 g4 hat
  have s2 := b2.size
  have s3 := b3.size
  have s4 := g4.size
  have hoff : ∀ x cs, Blk wr x 72 cs → bk ao ≠ some x := fun x cs hx e => by
    obtain ⟨cs', hc⟩ := st.row.own.typ e
    unfold Blk at hx
    rw [hx] at hc
    injection hc with hc
    injection hc with _ hc
    exact absurd hc (by decide)
  have B4 : ∀ g, g < wr.heap.size → bk ao ≠ some g → w4.heap[g]? = wr.heap[g]? := fun g hg hne => by
    rw [g4.block g (by omega) (fun e => hne e.symm), b3.block g (by omega), b2.block g hg]
  have old : ∀ g, g < w.heap.size → w4.heap[g]? = wr.heap[g]? := fun g hg => B4 g (by omega) (fun e => by have := (st.row.own.lt g e).1; omega)
  have hh : (w4.setCell ⟨pb, 1, none⟩ (.slice ao2 (m + 1) c2)).heap.size = w4.heap.size := by simp [World.setCell]
  have hne : ∀ g, g ≠ pb → (w4.setCell ⟨pb, 1, none⟩ (.slice ao2 (m + 1) c2)).heap[g]? = w4.heap[g]? := fun g hg => Below.heap_setCell _ _ _ _ (by simpa using hg)
  have box4 : Blk w4 pb 72 #[.int .i64 N, .slice ao m c] := (B4 pb hl.2.2.2 (hoff pb _ st.box)).trans st.box
  have res4 : Blk w4 rb 72 #[.int .i64 0, .slice none 0 0] := (B4 rb (by omega) (hoff rb _ st.res)).trans st.res
  refine ⟨st.src.far fun g hg => (hne g (by omega)).trans (old g (by omega)), res4.far (by simp; omega) _, ?_, ?_, ⟨hl.1, hl.2.1, hl.2.2.1, by rw [hh]; omega⟩, ?_⟩
  · have := box4.set_ 1 (.slice ao2 (m + 1) c2)
    simpa using this
  · rw [hh]
    exact pres_off hR box4 fun g hg _ => hne g hg
  · have o := st.only
    have s0 := o.size
    have b3o := b3.os
    exact ⟨(g4.os.trans (b3.os.trans b2.os)).trans o.os, (g4.tape.trans (b3.tape.trans b2.tape)).trans o.tape, (g4.output.trans (b3.output.trans b2.output)).trans o.output, by rw [hh]; omega, fun k hk hd => by rw [hne k (by omega), old k hk]; exact o.block k hk hd⟩
theorem DaSt.done (st : DaSt w wr sb rb pb N ao m c us ds) :
    Blk ((wr.setCell ⟨rb, 0, none⟩ (.int .i64 N)).setCell ⟨rb, 1, none⟩ (.slice ao m c)) rb 72 #[.int .i64 N, .slice ao m c] ∧
    OwP 2 49 ((wr.setCell ⟨rb, 0, none⟩ (.int .i64 N)).setCell ⟨rb, 1, none⟩ (.slice ao m c)) w.heap.size ((wr.setCell ⟨rb, 0, none⟩ (.int .i64 N)).setCell ⟨rb, 1, none⟩ (.slice ao m c)).heap.size (.agg #[.int .i64 N, .slice ao m c]) (N, ds) ∧
    Src ((wr.setCell ⟨rb, 0, none⟩ (.int .i64 N)).setCell ⟨rb, 1, none⟩ (.slice ao m c)) sb ∧
    Only sb (sb + 1) w ((wr.setCell ⟨rb, 0, none⟩ (.int .i64 N)).setCell ⟨rb, 1, none⟩ (.slice ao m c)) := by
  have hl := st.lo
  have hh : ((wr.setCell ⟨rb, 0, none⟩ (.int .i64 N)).setCell ⟨rb, 1, none⟩ (.slice ao m c)).heap.size = wr.heap.size := by simp [World.setCell]
  have hne : ∀ g, g ≠ rb → ((wr.setCell ⟨rb, 0, none⟩ (.int .i64 N)).setCell ⟨rb, 1, none⟩ (.slice ao m c)).heap[g]? = wr.heap[g]? := fun g hg => by
    rw [Below.heap_setCell _ _ _ _ (by simpa using hg), Below.heap_setCell _ _ _ _ (by simpa using hg)]
  refine ⟨?_, ⟨ao, m, c, us, rfl, ?_⟩, st.src.far fun g hg => hne g (by omega), ?_⟩
  · have := (st.res.set_ 0 (.int .i64 N)).set_ 1 (.slice ao m c)
    simpa using this
  · rw [hh]
    exact pres_off st.row st.res fun g hg _ => hne g hg
  · have o := st.only
    exact ⟨o.os, o.tape, o.output, by rw [hh]; exact o.size, fun k hk hd => by rw [hne k (by omega)]; exact o.block k hk hd⟩
end
theorem vals_one {w : World} {b : Nat} {u : Value} (h : w.cell? ⟨b, 0, none⟩ = some u) : Vals w (some ⟨b, 0, none⟩) 1 [u] :=
  ⟨rfl, by omega, fun _ => ⟨b, 0, rfl, fun j v hv => by
    cases j with
    | zero => simp at hv; subst hv; exact h
    | succ j => simp at hv⟩⟩
theorem pick4 {r : Nat} {z : Int} (h : r < 4) (h1 : 1 ≤ z) (h2 : z ≤ 4) : 0 ≤ iget [0, 6, z - 1, z + 1] r ∧ iget [0, 6, z - 1, z + 1] r ≤ 6 := by
  match r, h with
  | 0, _ => show (0 : Int) ≤ 0 ∧ (0 : Int) ≤ 6; omega
  | 1, _ => show (0 : Int) ≤ 6 ∧ (6 : Int) ≤ 6; omega
  | 2, _ => show 0 ≤ z - 1 ∧ z - 1 ≤ 6; omega
  | 3, _ => show 0 ≤ z + 1 ∧ z + 1 ≤ 6; omega

set_option maxRecDepth 100000 in
set_option maxHeartbeats 3200000 in
theorem drawAny_any (sb : Nat) (w : World) (h : Src w sb) (hsb : sb < w.heap.size) :
    Calls Try.prog 129 #[.pointer (some ⟨sb, 0, none⟩)] w (DrawnP w sb 0 6 18) := by
  go_enter Try.func129, Try.ntmps129
  have h1 : Src (w.alloc (.cells #[.int .i64 0, .slice none 0 0] 72)) sb := h.grown (row := none) (World.grownBy_alloc w _ none) (fun g hg => by cases hg)
  have r1 : Blk (w.alloc (.cells #[.int .i64 0, .slice none 0 0] 72)) w.heap.size 72 #[.int .i64 0, .slice none 0 0] := blk_at rfl
  have q1 : Only sb (sb + 1) w (w.alloc (.cells #[.int .i64 0, .slice none 0 0] 72)) := only_grown (Only.refl sb (sb + 1) w) (World.grownBy_alloc w _ none) (fun g hg => by cases hg)
  go_wp2_with fail
  have hz1 : (w.alloc (.cells #[.int .i64 0, .slice none 0 0] 72)).heap.size = w.heap.size + 1 := by simp
  generalize w.alloc (.cells #[.int .i64 0, .slice none 0 0] 72) = w1 at *
  have HZ1 := Lib.hid hz1
  refine (draw_any sb _ h1 (by omega)).mono ?_
  clear hz1
  rintro e w2 ⟨v, ⟨N, ds⟩, rfl, hN1, hN4, hds, ho, s2, q2⟩
  obtain ⟨ao, m, c, us, rfl, hrow⟩ := ho
  have hlen := hrow.len
  have r2 := r1.only q2 (.inr (by have := HZ1.out; omega))
  have q3 := q1.trans q2
  have z2 := q2.size
  dsimp only at hN1 hN4 hds hrow
  have hm : m ≤ 17 := by dsimp only at hlen; omega
  clear q1 h1 r1 q2 hlen
  go_wp2_with fail
  have st0 : DaSt w (w2.alloc (.cells #[.int .i64 N, .slice ao m c] 72)) sb w.heap.size w2.heap.size N ao m c us ds :=
    ⟨s2.grown (row := none) (World.grownBy_alloc w2 _ none) (fun g hg => by cases hg), r2.alloc _, blk_at rfl, (hrow.below (innerS _) (below_alloc1 _ _)).mono (by have := HZ1.out; omega) (by simp), ⟨hsb, Nat.le_refl _, by have := HZ1.out; omega, by simp⟩, only_grown q3 (World.grownBy_alloc w2 _ none) (fun g hg => by cases hg)⟩
  have hpb : w.heap.size < w2.heap.size := by have := HZ1.out; omega
  generalize w2.alloc (.cells #[.int .i64 N, .slice ao m c] 72) = w3 at *
  generalize w2.heap.size = pb at *
  clear s2 q3 r2 z2 HZ1 hrow hds
  have ST0 := Lib.hid st0
  clear st0
  refine (next_any sb _ _ ST0.out.src (by omega)).mono ?_
  rintro e w4 ⟨q, rfl, -, -, s4, o4⟩
  have ST := Lib.hid (ST0.out.next s4 o4)
  clear s4 o4 ST0 w3
  go_upto_block 0 with (fail)
  go_cut [] (fun wx => ∃ (N' : Int) (m : Nat) (ao : Option Addr) (c : Nat) (us : List Value) (ds : List (List Int)), 0 ≤ N' ∧ N' ≤ 6 ∧ m ≤ 18 ∧ DaSt w wx sb w.heap.size pb N' ao m c us ds)
  case first =>
    have x0 := ST.out.box.cell 0
    have x1 := ST.out.box.cell 1
    have f0 := ST.out.box.frozen 0
    have f1 := ST.out.box.frozen 1
    have hlo := ST.out.lo
    simp at x0 x1
    by_cases hq0 : q = 0
    · subst hq0
      have hP : Ints (w4.alloc (.cells #[.int .i64 0, .int .i64 6, .int .i64 (N - 1), .int .i64 (N + 1)] 2)) (some ⟨w4.heap.size, 0, none⟩) 4 [0, 6, N - 1, N + 1] := Own.ints (zs := [0, 6, N - 1, N + 1]) (own_lit (us := [.int .i64 0, .int .i64 6, .int .i64 (N - 1), .int .i64 (N + 1)]) rfl (Nat.le_refl _) (by simp))
      have oP : Only sb (sb + 1) w4 (w4.alloc (.cells #[.int .i64 0, .int .i64 6, .int .i64 (N - 1), .int .i64 (N + 1)] 2)) := only_grown (Only.refl _ _ _) (World.grownBy_alloc w4 _ none) (fun g hg => by cases hg)
      have sP : Src (w4.alloc (.cells #[.int .i64 0, .int .i64 6, .int .i64 (N - 1), .int .i64 (N + 1)] 2)) sb := ST.out.src.grown (row := none) (World.grownBy_alloc w4 _ none) (fun g hg => by cases hg)
      have hne : bk (some ⟨w4.heap.size, 0, none⟩) ≠ some sb := by simp [bk]; omega
      go_wp2_with fail
      refine (pick_any sb _ 4 4 [0, 6, N - 1, N + 1] _ sP hP (by omega) (by omega) hne).mono ?_
      rintro e w5 ⟨p, hp, rfl, s5, o5⟩
      have hN := pick4 hp hN1 hN4
      generalize iget [0, 6, N - 1, N + 1] p = M at *
      have ST5 := Lib.hid (ST.out.next s5 (oP.trans o5))
      clear hP oP sP hne s5 o5 hp ST x0 x1 f0 f1
      have f0 := ST5.out.box.frozen 0
      have x0 := ST5.out.box.cell 0
      simp at x0
      have hs := ST5.out.set0 M
      go_wp2_with fail
      go_meet
      case rel => exact ⟨M, m, ao, c, us, ds, hN.1, hN.2, by omega, hs⟩
    · by_cases hq1 : q = 1
      · subst hq1
        have hV : Vals ((w4.alloc (.cells #[] 2)).alloc (.cells #[.slice (some ⟨w4.heap.size, 0, none⟩) 0 0] 49)) (some ⟨w4.heap.size + 1, 0, none⟩) 1 [.slice (some ⟨w4.heap.size, 0, none⟩) 0 0] := vals_one ((blk_at (by simp)).cell 0)
        have HV := Lib.hid hV
        have hO : Own ((w4.alloc (.cells #[] 2)).alloc (.cells #[.slice (some ⟨w4.heap.size, 0, none⟩) 0 0] 49)) w.heap.size 49 ao m c us := (ST.out.row.own.alloc _).alloc _
        have HO := Lib.hid hO
        have hS : w.heap.size ≤ ((w4.alloc (.cells #[] 2)).alloc (.cells #[.slice (some ⟨w4.heap.size, 0, none⟩) 0 0] 49)).heap.size := by simp; omega
        have hw3 : Below w4.heap.size w4 (w4.alloc (.cells #[] 2)) := below_alloc1 _ _
        have HW3 := Lib.hid hw3
        have o1 : Own (w4.alloc (.cells #[] 2)) w4.heap.size 2 (some ⟨w4.heap.size, 0, none⟩) 0 0 (([] : List Int).map (Value.int .i64)) := Own.empty_ w4 _ (Nat.le_refl _)
        have O1 := Lib.hid o1
        clear hV hO hw3 o1
        go_wp2_with (at_builtin; refine wpList_apV etSS _ rfl _ _ rfl w.heap.size ao m c us rfl HO.out (some ⟨w4.heap.size + 1, 0, none⟩) 1 1 [.slice (some ⟨w4.heap.size, 0, none⟩) 0 0] rfl HV.out (by intro u hu; simp at hu; subst hu; rfl) (by omega) hS ?_; intro ao2 c2 w8 o8 g8 hat; have k8 := ST.out.box4 HW3.out (below_alloc1 _ _) g8; have x8 := k8.cell 1; have f8 := k8.frozen 1; simp at x8)
        have hs := ST.out.push HW3.out O1.out (below_alloc1 _ _) o8 g8 hat
        generalize w8.setCell ⟨pb, 1, none⟩ (.slice ao2 (m + 1) c2) = wf at *
        go_meet
        case rel => exact ⟨N, m + 1, ao2, c2, _, _, by omega, by omega, by omega, hs⟩
      · by_cases hq2 : q = 2
        · subst hq2
          have S5D : Src w4.drew sb := ⟨ST.out.src.box⟩
          have O5D : Only sb (sb + 1) w4 w4.drew := ⟨rfl, rfl, rfl, Nat.le_refl _, fun _ _ _ => rfl⟩
          go_wp2_with fail
          go_region_law (first | (refine step_ap1 (o := ⟨some 37, _, _, _, _, _⟩) etSS rfl (.tmp 31) (.tmp 36) rfl w.heap.size ao m c us rfl ((ST6.out.row.own.alloc _).alloc _) (.slice (some ⟨w6.heap.size, 0, none⟩) 1 1) (w6.heap.size + 1) 1 rfl ((blk_at (by simp)).cell 0) rfl (by omega) (by simp; omega) ?_; intro ao2 c2 w8 o8 g8 hat; have k8 := ST6.out.box4 B7 (below_alloc1 _ _) g8; have x8 : w8.cell? ⟨pb, 1, none⟩ = some (.slice ao m c) := k8.cell 1; have f8 := k8.frozen 1) | (go_simp; go_at_call 120; refine (next_any sb _ _ S5D (by omega)).mono ?_; rintro e w6 ⟨q, rfl, -, r6, s6, q6⟩; have ST6 := Lib.hid (ST.out.next s6 (Only.trans O5D q6)); have hlo6 := ST6.out.lo; have r6' := r6 (by omega); have hW : IntKind.i64.wrap ((q : Int) - 1) = (q : Int) - 1 := IntWalk.i64_in _ (by omega); have B7 : Below w6.heap.size w6 (w6.alloc (.cells #[.int .i64 ((q : Int) - 1)] 2)) := below_alloc1 _ _; have y6 : w6.cell? ⟨pb, 1, none⟩ = some (.slice ao m c) := ST6.out.box.cell 1; clear r6 q6 s6))
          all_goals
            have o1 : Own (w6.alloc (.cells #[.int .i64 ((q : Int) - 1)] 2)) w6.heap.size 2 (some ⟨w6.heap.size, 0, none⟩) 1 1 ([((q : Int) - 1)].map (Value.int .i64)) := own_lit (us := [.int .i64 ((q : Int) - 1)]) rfl (Nat.le_refl _) (by simp)
            have hs := ST6.out.push B7 o1 (below_alloc1 _ _) o8 g8 hat
            generalize w8.setCell ⟨pb, 1, none⟩ (.slice ao2 (m + 1) c2) = wf at *
            clear hW o1 o8 g8 hat k8 x8 f8 y6 B7
            go_wp2_with fail
            go_meet
            case rel => exact ⟨N, m + 1, ao2, c2, _, _, by omega, by omega, by omega, hs⟩
        · by_cases hq3 : q = 3
          · subst hq3
            have hs := ST.out.nilled
            go_wp2_with fail
            go_meet
            case rel => exact ⟨N, 0, none, 0, [], [], by omega, by omega, by omega, hs⟩
          · have g0 : ((q : Int) == 0) = false := by simp; omega
            have g1 : ((q : Int) == 1) = false := by simp; omega
            have g2 : ((q : Int) == 2) = false := by simp; omega
            have g3 : ((q : Int) == 3) = false := by simp; omega
            go_wp2_with fail
            go_meet
            case rel => exact ⟨N, m, ao, c, us, ds, by omega, by omega, by omega, ST.out⟩
  case rest =>
    obtain ⟨N', m, ao, c, us, ds, hN0, hN6, hm, st⟩ := hcut
    have x0 := st.box.cell 0
    have x1 := st.box.cell 1
    have y0 := st.res.cell 0
    have y1 := st.res.cell 1
    have f0 := st.res.frozen 0
    have f1 := st.res.frozen 1
    simp at x0 x1 y0 y1
    have ST5 := Lib.hid st
    clear st ST
    go_wp2_with fail
    have st2 := ST5.out.done
    have hlen := ST5.out.row.len
    generalize (wc.setCell ⟨w.heap.size, 0, none⟩ (.int .i64 N')).setCell ⟨w.heap.size, 1, none⟩ (.slice ao m c) = wf at *
    have e0 := st2.1.cell 0
    have e1 := st2.1.cell 1
    simp at e0 e1
    refine bodyPost_ret (v := .agg #[.int .i64 N', .slice ao m c]) (by simp [results, Try.f129, go_sem, e0, e1]) rfl ⟨_, _, rfl, by simp; omega, by simp; omega, by simp; omega, st2.2.1, st2.2.2.1, st2.2.2.2⟩
end Go.Proofs.Ytpognnifgcacnaa

/- Draws of presentations and words: DrawIsIdentityWord. -/
namespace Go.Proofs.Ytpognnifgcacnaa
open Go.RowKit

theorem only_sets (w : World) (b : Nat) (u v : Value) : Only b (b + 1) w ((w.setCell ⟨b, 0, none⟩ u).setCell ⟨b, 1, none⟩ v) :=
  ⟨rfl, rfl, rfl, by simp [World.setCell], fun k hk hd => by rw [Below.heap_setCell _ _ _ _ (by show k ≠ b; omega), Below.heap_setCell _ _ _ _ (by show k ≠ b; omega)]⟩
theorem OwP.mono {E1 E : Nat} {w : World} {lo hi lo' hi' : Nat} {v : Value} {d : PresD} (h : OwP E1 E w lo hi v d) (h1 : lo' ≤ lo) (h2 : hi ≤ hi') : OwP E1 E w lo' hi' v d := by
  obtain ⟨ao, n, c, us, rfl, ho⟩ := h
  exact ⟨ao, n, c, us, rfl, ho.mono h1 h2⟩
theorem OwnS.mono {E : Nat} {w : World} {lo hi lo' hi' : Nat} {v : Value} {zs : List Int} (h : OwnS E w lo hi v zs) (h1 : lo' ≤ lo) (h2 : hi ≤ hi') : OwnS E w lo' hi' v zs := ⟨h.1, h.2.mono h1 h2⟩
theorem below_only {a w w' : World} {B lo hi : Nat} (h : Below B a w) (o : Only lo hi w w') (hB : B ≤ lo) (ha : B ≤ w.heap.size) : Below B a w' :=
  ⟨o.os.trans h.os, o.tape.trans h.tape, o.output.trans h.output, Nat.le_trans h.size o.size, fun i hi => (o.block i (by omega) (.inl (by omega))).trans (h.block i hi)⟩

end Go.Proofs.Ytpognnifgcacnaa

/- Draws of presentations and lists of words: l11DrawSubgroup, DrawCosetTable. -/
namespace Go.Proofs.Ytpognnifgcacnaa
open Go.RowKit

theorem rows_push3 {T1 E lo hi : Nat} {w2 w3 w4 : World} {ao ao' ao2 : Option Addr} {m c n' c' c2 : Nat} {us : List Value} {ds : List (List Int)} {zs : List Int}
    (hR : OwR (OwS T1) w2 lo hi E ao m c us ds) (hlo : lo ≤ hi) (hhi : hi ≤ w2.heap.size) (hu : Own w2 hi T1 ao' n' c' (zs.map (Value.int .i64))) (hb3 : Below w2.heap.size w2 w3)
    (hown : Own w4 lo E ao2 (m + 1) c2 (us ++ [.slice ao' n' c'])) (hg : w3.grownBy w4 (bk ao)) (hat : bk ao2 = bk ao ∨ bk ao2 = some w3.heap.size) :
    OwR (OwS T1) w4 lo w4.heap.size E ao2 (m + 1) c2 (us ++ [.slice ao' n' c']) (ds ++ [zs]) := by
  have hR3 : OwR (OwS T1) w3 lo hi E ao m c us ds := hR.below (innerS _) hb3
  have s2 := hb3.size
  have s3 := hg.size
  have hub : ∀ g, bk ao' = some g → hi ≤ g ∧ g < w2.heap.size := hu.lt
  have hne : ∀ g, bk ao' = some g → bk ao ≠ some g := fun g h1 h2 => by have := hub g h1; have := hR.top g h2; omega
  have hu4 : OwS T1 w4 (.slice ao' n' c') zs := (innerS T1).loc (w := w2) ⟨ao', n', c', rfl, hu.mono (Nat.zero_le _)⟩ fun g h => by
    rw [ownBlock_slice] at h
    have := hub g h
    rw [hg.block g (by omega) (fun e => hne g h e.symm)]
    exact hb3.block g this.2
  refine hR3.push (innerS _) hown hg hu4 (in_slice fun g h => ⟨by have := hub g h; omega, by have := hub g h; omega⟩) (fun g h => (hown.lt g h).2) (by omega) ?_ ?_
  · intro g h
    rcases hat with h1 | h1
    · exact .inl (h1 ▸ h)
    · refine .inr fun j u hj e => ?_
      rw [h1] at h; obtain rfl := Option.some.inj h
      have := (hR3.rng j u hj _ e).2
      omega
  · intro g h
    rw [ownBlock_slice] at h
    have hh := hub g h
    refine ⟨fun e => ?_, fun j v hj e => ?_⟩
    · rcases hat with h1 | h1
      · exact hne g h (h1 ▸ e)
      · rw [h1] at e; have := Option.some.inj e; omega
    · have := (hR3.rng j v hj _ e).2; omega
/-- a list of words being drawn: the source's box sb, that of p at w.heap.size -/
structure SgSt (w wr : World) (sb : Nat) (N : Int) (q : Value) (ao : Option Addr) (m c : Nat) (us : List Value) (ds : List (List Int)) : Prop where
  src : Src wr sb
  box : Blk wr w.heap.size 72 #[.int .i64 N, q]
  row : OwR (OwS 2) wr (w.heap.size + 1) wr.heap.size 49 ao m c us ds
  lo : sb < w.heap.size ∧ w.heap.size < wr.heap.size
  only : Only sb (sb + 1) w wr
section
variable {w wr : World} {sb : Nat} {N : Int} {q : Value} {ao : Option Addr} {m c : Nat} {us : List Value} {ds : List (List Int)}
theorem SgSt.next {w2 : World} (st : SgSt w wr sb N q ao m c us ds) (s2 : Src w2 sb) (o2 : Only sb (sb + 1) wr w2) : SgSt w w2 sb N q ao m c us ds :=
  have hl := st.lo
  have hsz := o2.size
  ⟨s2, st.box.only o2 (.inr (by omega)), (st.row.only (innerS _) o2 (.inr (by omega))).mono (Nat.le_refl _) hsz, ⟨hl.1, by omega⟩, st.only.trans o2⟩
theorem SgSt.push {w2 w3 w4 : World} {n1 c1 c2 : Nat} {a1 ao2 : Option Addr} {zs : List Int} (st : SgSt w wr sb N q ao m c us ds)
    (s2 : Src w2 sb) (q2 : Only sb (sb + 1) wr w2) (o1 : Own w2 wr.heap.size 2 a1 n1 c1 (zs.map (Value.int .i64))) (b3 : Below w2.heap.size w2 w3) (o4 : Own w4 (w.heap.size + 1) 49 ao2 (m + 1) c2 (us ++ [.slice a1 n1 c1]))
    (g4 : w3.grownBy w4 (bk ao)) (hat : bk ao2 = bk ao ∨ bk ao2 = some w3.heap.size) :
    SgSt w w4 sb N q ao2 (m + 1) c2 (us ++ [.slice a1 n1 c1]) (ds ++ [zs]) := by
  have hl := st.lo
  have z2 := q2.size
  have z3 := b3.size
  have z4 := g4.size
  have hR := rows_push3 (st.row.only (innerS _) q2 (.inr (by omega))) (by omega) z2 o1 b3 o4 g4 hat
  have B4 : Below (w.heap.size + 1) w2 w4 := (b3.mono (by omega)).grown g4 (by omega) (fun g hg => (st.row.own.lt g hg).1)
  have o := st.only.trans q2
  exact ⟨s2.far fun g hg => B4.block g (by omega), (st.box.only q2 (.inr (by omega))).below B4 (by omega), hR, ⟨hl.1, by omega⟩, ⟨B4.os.trans o.os, B4.tape.trans o.tape, B4.output.trans o.output, by have := o.size; omega, fun k hk hd => (B4.block k (by omega)).trans (o.block k hk hd)⟩⟩
end
/-- what a draw of a list of words leaves -/
def DrawnW (w : World) (sb : Nat) (e : Ending) (w' : World) : Prop :=
  ∃ v ws, e = .returned v ∧ ws.length ≤ 3 ∧ OwSS 2 49 w' w.heap.size w'.heap.size v ws ∧ Src w' sb ∧ Only sb (sb + 1) w w'

set_option maxRecDepth 100000 in
set_option maxHeartbeats 3200000 in
theorem drawSub_any (sb : Nat) (N : Int) (a2 : Option Addr) (n2 c2 : Nat) (w : World) (h : Src w sb) (hsb : sb < w.heap.size) (hN0 : 0 ≤ N) (hN6 : N ≤ 6) :
    Calls Try.prog 140 #[.pointer (some ⟨sb, 0, none⟩), .agg #[.int .i64 N, .slice a2 n2 c2]] w (DrawnW w sb) := by
  go_enter Try.func140, Try.ntmps140
  go_upto_region 2 with (fail)
  have st0 : SgSt w ((w.alloc (.cells #[.int .i64 N, .slice a2 n2 c2] 72)).alloc (.cells #[] 49)) sb N (.slice a2 n2 c2) (some ⟨w.heap.size + 1, 0, none⟩) 0 0 [] [] := by
    have b2 := below_alloc2 w (.cells #[.int .i64 N, .slice a2 n2 c2] 72) (.cells #[] 49)
    have he := Own.empty_ (w.alloc (.cells #[.int .i64 N, .slice a2 n2 c2] 72)) (base := w.heap.size + 1) 49 (by simp)
    have hs : (w.alloc (.cells #[.int .i64 N, .slice a2 n2 c2] 72)).heap.size = w.heap.size + 1 := by simp
    rw [hs] at he
    exact ⟨h.far fun g hg => b2.block g (by omega), (blk_at rfl).alloc _, OwR.empty_ he (fun g hg => by simp [bk] at hg; simp; omega), ⟨hsb, by simp; omega⟩, ⟨b2.os, b2.tape, b2.output, b2.size, fun k hk _ => b2.block k hk⟩⟩
  generalize (w.alloc (.cells #[.int .i64 N, .slice a2 n2 c2] 72)).alloc (.cells #[] 49) = w1 at *
  have ST0 := Lib.hid st0
  clear st0
  go_wp2_with fail
  refine (next_any sb _ _ ST0.out.src (by omega)).mono ?_
  rintro e w2 ⟨r, rfl, -, r2, s2, q2⟩
  have hr := r2 (by omega)
  have ST1 := Lib.hid (ST0.out.next s2 q2)
  clear r2 s2 q2 ST0
  go_wp2_with fail
  go_loopw [5, 6] (fun ov kv wr => ∃ (k m : Nat) (ao : Option Addr) (c : Nat) (us : List Value) (ds : List (List Int)), kv = .int .i64 k ∧ ov = .slice ao m c ∧ m + k ≤ 2 ∧ SgSt w wr sb N (.slice a2 n2 c2) ao m c us ds) (fun _ kv _ => (intOf kv).toNat)
  case atStart => exact ⟨r, 0, _, 0, [], [], rfl, rfl, by omega, ST1.out⟩
  case round =>
    obtain ⟨k, m, ao, c, us, ds, rfl, rfl, hmk, st⟩ := hrel
    clear ST1 w1
    have hlo := st.lo
    have x0 := st.box.cell 0
    simp at x0
    have ST := Lib.hid st
    clear st
    by_cases hk : 0 < k
    · by_cases hN1 : N ≤ 1
      · go_wp2_with fail
        refine (drawWord_any sb 1 3 _ ST.out.src (by omega) (by omega) (by omega) (by omega)).mono ?_
        rintro e w2 ⟨a1, n1, c1, zs, rfl, hn1, -, o1, s2, q2⟩
        have z2 := q2.size
        have O1 := Lib.hid o1
        have Q2 := Lib.hid q2
        have S2 := Lib.hid s2
        have hV : Vals (w2.alloc (.cells #[.slice a1 n1 c1] 49)) (some ⟨w2.heap.size, 0, none⟩) 1 [.slice a1 n1 c1] := vals_one ((blk_at rfl).cell 0)
        have HV := Lib.hid hV
        have hO : Own (w2.alloc (.cells #[.slice a1 n1 c1] 49)) (w.heap.size + 1) 49 ao m c us := ((ST.out.row.only (innerS _) q2 (.inr (by omega))).own).alloc _
        have HO := Lib.hid hO
        have hS : w.heap.size + 1 ≤ (w2.alloc (.cells #[.slice a1 n1 c1] 49)).heap.size := by simp; omega
        clear o1 q2 s2 hV hO x0
        go_wp2_with (at_builtin; refine wpList_apV etSS _ rfl _ _ rfl (w.heap.size + 1) ao m c us rfl HO.out (some ⟨w2.heap.size, 0, none⟩) 1 1 [.slice a1 n1 c1] rfl HV.out (by intro u hu; simp at hu; subst hu; rfl) (by omega) hS ?_; intro ao2 c3 w8 o8 g8 hat)
        have st8 := ST.out.push S2.out Q2.out O1.out (below_alloc1 _ _) o8 g8 hat
        clear o8 g8 hat HO HV O1 Q2 S2 ST hS
        go_wp2_with fail
        go_roundw
        case rel => exact ⟨k - 1, m + 1, ao2, c3, _, _, by go_num, rfl, by omega, st8⟩
        case measure => first | (simp [intOf]; done) | (simp [intOf]; omega)
      · obtain ⟨L, rfl⟩ : ∃ L : Nat, N = L := ⟨N.toNat, by omega⟩
        go_wp2_with fail
        refine (drawWord_any sb L 3 _ ST.out.src (by omega) (by omega) (by omega) (by omega)).mono ?_
        rintro e w2 ⟨a1, n1, c1, zs, rfl, hn1, -, o1, s2, q2⟩
        have z2 := q2.size
        have O1 := Lib.hid o1
        have Q2 := Lib.hid q2
        have S2 := Lib.hid s2
        have hV : Vals (w2.alloc (.cells #[.slice a1 n1 c1] 49)) (some ⟨w2.heap.size, 0, none⟩) 1 [.slice a1 n1 c1] := vals_one ((blk_at rfl).cell 0)
        have HV := Lib.hid hV
        have hO : Own (w2.alloc (.cells #[.slice a1 n1 c1] 49)) (w.heap.size + 1) 49 ao m c us := ((ST.out.row.only (innerS _) q2 (.inr (by omega))).own).alloc _
        have HO := Lib.hid hO
        have hS : w.heap.size + 1 ≤ (w2.alloc (.cells #[.slice a1 n1 c1] 49)).heap.size := by simp; omega
        clear o1 q2 s2 hV hO x0
        go_wp2_with (at_builtin; refine wpList_apV etSS _ rfl _ _ rfl (w.heap.size + 1) ao m c us rfl HO.out (some ⟨w2.heap.size, 0, none⟩) 1 1 [.slice a1 n1 c1] rfl HV.out (by intro u hu; simp at hu; subst hu; rfl) (by omega) hS ?_; intro ao2 c3 w8 o8 g8 hat)
        have st8 := ST.out.push S2.out Q2.out O1.out (below_alloc1 _ _) o8 g8 hat
        clear o8 g8 hat HO HV O1 Q2 S2 ST hS
        go_wp2_with fail
        go_roundw
        case rel => exact ⟨k - 1, m + 1, ao2, c3, _, _, by go_num, rfl, by omega, st8⟩
        case measure => first | (simp [intOf]; done) | (simp [intOf]; omega)
    · obtain rfl : k = 0 := by omega
      go_wp2_with fail
      refine (next_any sb _ _ ST.out.src (by omega)).mono ?_
      rintro e w4 ⟨q, rfl, -, -, s4, q4⟩
      have z4 := q4.size
      have ST4 := Lib.hid (ST.out.next s4 q4)
      clear s4 q4 ST x0
      by_cases hq : q = 0
      · subst hq
        have x0 := ST4.out.box.cell 0
        simp at x0
        have hV : Vals ((w4.alloc (.cells #[.int .i64 N] 2)).alloc (.cells #[.slice (some ⟨w4.heap.size, 0, none⟩) 1 1] 49)) (some ⟨w4.heap.size + 1, 0, none⟩) 1 [.slice (some ⟨w4.heap.size, 0, none⟩) 1 1] := vals_one ((blk_at (by simp)).cell 0)
        have HV := Lib.hid hV
        have hO : Own ((w4.alloc (.cells #[.int .i64 N] 2)).alloc (.cells #[.slice (some ⟨w4.heap.size, 0, none⟩) 1 1] 49)) (w.heap.size + 1) 49 ao m c us := (ST4.out.row.own.alloc _).alloc _
        have HO := Lib.hid hO
        have hS : w.heap.size + 1 ≤ ((w4.alloc (.cells #[.int .i64 N] 2)).alloc (.cells #[.slice (some ⟨w4.heap.size, 0, none⟩) 1 1] 49)).heap.size := by simp; omega
        have s5 : Src (w4.alloc (.cells #[.int .i64 N] 2)) sb := ST4.out.src.grown (row := none) (World.grownBy_alloc w4 _ none) (fun g hg => by cases hg)
        have q5 : Only sb (sb + 1) w4 (w4.alloc (.cells #[.int .i64 N] 2)) := only_grown (Only.refl _ _ _) (World.grownBy_alloc w4 _ none) (fun g hg => by cases hg)
        have S5 := Lib.hid s5
        have Q5 := Lib.hid q5
        have o1 : Own (w4.alloc (.cells #[.int .i64 N] 2)) w4.heap.size 2 (some ⟨w4.heap.size, 0, none⟩) 1 1 ([N].map (Value.int .i64)) := own_lit (us := [.int .i64 N]) rfl (Nat.le_refl _) (by simp)
        have O1 := Lib.hid o1
        clear hV hO s5 q5 o1
        go_wp2_with (at_builtin; refine wpList_apV etSS _ rfl _ _ rfl (w.heap.size + 1) ao m c us rfl HO.out (some ⟨w4.heap.size + 1, 0, none⟩) 1 1 [.slice (some ⟨w4.heap.size, 0, none⟩) 1 1] rfl HV.out (by intro u hu; simp at hu; subst hu; rfl) (by omega) hS ?_; intro ao2 c3 w8 o8 g8 hat)
        have st8 := ST4.out.push S5.out Q5.out O1.out (below_alloc1 _ _) o8 g8 hat
        have hl8 := st8.row.len
        go_ret
        exact ⟨_, _, rfl, by omega, ⟨_, _, _, _, rfl, st8.row.mono (by omega) (Nat.le_refl _)⟩, st8.src, st8.only⟩
      · have g0 : ((q : Int) == 0) = false := by simp; omega
        go_wp2
        have hl8 := ST4.out.row.len
        go_ret
        exact ⟨_, _, rfl, by omega, ⟨_, _, _, _, rfl, ST4.out.row.mono (by omega) (Nat.le_refl _)⟩, ST4.out.src, ST4.out.only⟩
end Go.Proofs.Ytpognnifgcacnaa

/- Draws of presentations and lists of words: DrawCosetTable, DrawCosetWords, DrawIsNormalSubgroup. -/
namespace Go.Proofs.Ytpognnifgcacnaa
open Go.RowKit

/-- what a draw of a presentation and a list of words leaves -/
def DrawnPWs (w : World) (e : Ending) (w' : World) : Prop :=
  ∃ v d u ws, e = .returned (.tuple #[v, u]) ∧ OwP 2 49 w' w.heap.size w'.heap.size v d ∧ OwSS 2 49 w' w.heap.size w'.heap.size u ws ∧ d.2.length ≤ 18 ∧ ws.length ≤ 3 ∧ Below w.heap.size w w'
theorem OwSS.form {E1 E : Nat} {w : World} {lo hi : Nat} {v : Value} {zss : List (List Int)} (h : OwSS E1 E w lo hi v zss) : ∃ ao n c, v = .slice ao n c ∧ zss.length = n := by
  obtain ⟨ao, n, c, us, rfl, ho⟩ := h
  exact ⟨ao, n, c, rfl, ho.len⟩

set_option maxRecDepth 100000 in
set_option maxHeartbeats 3200000 in
theorem drawCT_any (ao : Option Addr) (n c : Nat) (w : World) (h : Bts w ao n w.heap.size) :
    Calls Try.prog 59 #[.slice ao n c] w (DrawnPWs w) := by
  go_enter Try.func59, Try.ntmps59
  have r1 : Blk (w.alloc (.cells #[.int .i64 0, .slice none 0 0] 72)) w.heap.size 72 #[.int .i64 0, .slice none 0 0] := blk_at rfl
  have b1 : Below w.heap.size w (w.alloc (.cells #[.int .i64 0, .slice none 0 0] 72)) := below_alloc1 _ _
  have t1 : Bts (w.alloc (.cells #[.int .i64 0, .slice none 0 0] 72)) ao n (w.alloc (.cells #[.int .i64 0, .slice none 0 0] 72)).heap.size := by
    obtain ⟨x1, x2⟩ := h.below b1
    exact ⟨x1, fun hn => by obtain ⟨b, off, e, hb, hc⟩ := x2 hn; exact ⟨b, off, e, by simp; omega, hc⟩⟩
  have hz1 : w.heap.size < (w.alloc (.cells #[.int .i64 0, .slice none 0 0] 72)).heap.size := by simp
  go_wp2_with fail
  generalize w.alloc (.cells #[.int .i64 0, .slice none 0 0] 72) = w1 at *
  refine (from_any ao n c w1 t1).mono ?_
  rintro e w2 ⟨rfl, s2, z2, b2⟩
  have r2 := r1.belowS b2
  have B2 := b1.trans (b2.mono (by omega))
  clear r1 b1 t1 b2
  go_wp2_with fail
  refine (drawAny_any _ w2 s2 z2).mono ?_
  rintro e w3 ⟨v, ⟨N, ds⟩, rfl, hN0, hN6, hds, ho, s3, q3⟩
  obtain ⟨a3, n3, c3, rfl⟩ := ho.form
  have r3 := r2.only q3 (.inl hz1)
  have B3 := below_only B2 q3 (by omega) (by omega)
  have z3 := q3.size
  dsimp only at hN0 hN6 hds
  clear r2 B2 s2 q3
  go_upto_region 3 with (fail)
  have r4 := r3.alloc (.cells #[.int .i64 N, .slice a3 n3 c3] 72)
  have k4 : Blk (w3.alloc (.cells #[.int .i64 N, .slice a3 n3 c3] 72)) w3.heap.size 72 #[.int .i64 N, .slice a3 n3 c3] := blk_at rfl
  have o4 := ho.below (below_alloc1 w3 (.cells #[.int .i64 N, .slice a3 n3 c3] 72))
  have s4 := s3.grown (row := none) (World.grownBy_alloc w3 (.cells #[.int .i64 N, .slice a3 n3 c3] 72) none) (fun g hg => by cases hg)
  have B4 := B3.trans ((below_alloc1 w3 (.cells #[.int .i64 N, .slice a3 n3 c3] 72)).mono (by omega))
  have z4 : w3.heap.size < (w3.alloc (.cells #[.int .i64 N, .slice a3 n3 c3] 72)).heap.size := by simp
  generalize w3.alloc (.cells #[.int .i64 N, .slice a3 n3 c3] 72) = w4 at *
  clear r3 ho s3 B3
  have x0 := k4.cell 0
  have x1 := k4.cell 1
  simp at x0 x1
  have y0 := r4.cell 0
  have y1 := r4.cell 1
  have f0 := r4.frozen 0
  have f1 := r4.frozen 1
  simp at y0 y1
  have O4 := Lib.hid o4
  have S4D : Src w4.drew w1.heap.size := ⟨s4.box⟩
  have O4D : Only w1.heap.size (w1.heap.size + 1) w4 w4.drew := ⟨rfl, rfl, rfl, Nat.le_refl _, fun _ _ _ => rfl⟩
  clear o4 s4
  go_region_law ((go_simp; go_at_call 140; refine (drawSub_any w1.heap.size N a3 n3 c3 _ S4D (show w1.heap.size < w4.heap.size by omega) hN0 hN6).mono ?_; rintro e w5 ⟨v5, ws, rfl, hws, o5, s5, q5d⟩; have q5 := Only.trans O4D q5d; have k5 := k4.only q5 (.inr (by omega)); have r5 := r4.only q5 (.inl hz1); have u0 := k5.cell 0; have u1 := k5.cell 1; have v0 := r5.cell 0; have v1 := r5.cell 1; have g0 := r5.frozen 0; have g1 := r5.frozen 1; simp at u0 u1 v0 v1; have B5 := below_only B4 q5 (by omega) (by omega); have O5 := Lib.hid (O4.out.only q5 (.inr (by omega))); have z5 := q5.size; have W5 := Lib.hid (o5.mono (show w4.heap.size ≤ w4.drew.heap.size from Nat.le_refl _) (Nat.le_refl _)); clear q5d o5 s5))
  all_goals
    clear x0 x1 y0 y1 f0 f1 S4D O4D q5 k4 r4 B4 O4
    have qf := only_sets w5 w.heap.size (.int .i64 N) (.slice a3 n3 c3)
    have rf : Blk ((w5.setCell ⟨w.heap.size, 0, none⟩ (.int .i64 N)).setCell ⟨w.heap.size, 1, none⟩ (.slice a3 n3 c3)) w.heap.size 72 #[.int .i64 N, .slice a3 n3 c3] := by
      have := (r5.set_ 0 (.int .i64 N)).set_ 1 (.slice a3 n3 c3)
      simpa using this
    have Bf := (B5.setCell (p := ⟨w.heap.size, 0, none⟩) (Nat.le_refl _) (.int .i64 N)).setCell (p := ⟨w.heap.size, 1, none⟩) (Nat.le_refl _) (.slice a3 n3 c3)
    generalize (w5.setCell ⟨w.heap.size, 0, none⟩ (.int .i64 N)).setCell ⟨w.heap.size, 1, none⟩ (.slice a3 n3 c3) = wf at *
    have zf := qf.size
    have e0 := rf.cell 0
    have e1 := rf.cell 1
    simp at e0 e1
    clear u0 u1 v0 v1 g0 g1 k5 r5 B5
    have hp := (O5.out.only qf (.inr (by omega))).mono (show w.heap.size ≤ w2.heap.size by omega) (show w3.heap.size ≤ wf.heap.size by omega)
    have ho := (W5.out.only qf (.inr (by omega))).mono (show w.heap.size ≤ w4.heap.size by omega) (show w5.heap.size ≤ wf.heap.size by omega)
    go_wp2_with fail
    refine bodyPost_ret (v := .tuple #[.agg #[.int .i64 N, .slice a3 n3 c3], v5]) (by simp [results, Try.f59, go_sem, e0, e1]) rfl ⟨_, _, _, _, rfl, hp, ho, hds, hws, Bf⟩

end Go.Proofs.Ytpognnifgcacnaa

/- The laws' helpers on words and codes: times9, big. -/
namespace Go.Proofs.Ytpognnifgcacnaa
open Go.RowKit

theorem big_any (ao : Option Addr) (n c : Nat) (w : World) : Calls Try.prog 47 #[.slice ao n c] w fun e w' => e = .returned (.bool (decide (4096 < n))) ∧ w' = w := by
  by_cases h : 4096 < n
  · have e0 : decide ((4096 : Int) < n) = true := by simp; omega
    go_enter Try.func47, Try.ntmps47
    go_wp2
    go_ret
    exact ⟨by simp [h], rfl⟩
  · have e0 : decide ((4096 : Int) < n) = false := by simp; omega
    go_enter Try.func47, Try.ntmps47
    go_wp2
    go_ret
    exact ⟨by simp [h], rfl⟩
end Go.Proofs.Ytpognnifgcacnaa

/- The laws' helpers on lists of words: likeInts, same9, run9. -/
namespace Go.Proofs.Ytpognnifgcacnaa
open Go.RowKit

set_option maxHeartbeats 400000 in
theorem likeInts_any (a b : Option Addr) (n ca cb : Nat) (zs : List Int) (w : World) (ha : Ints w a n zs) (hb : Ints w b n zs) :
    Calls Try.prog 142 #[.slice a n ca, .slice b n cb] w fun e w' => e = .returned (.bool true) ∧ ∃ m, w' = w.drewN m := by
  have hla := ha.2.1
  have hl' : ((n : Int) != (n:Int)) = false := by simp
  go_enter Try.func142, Try.ntmps142
  go_wp2
  go_loopw [5] (fun i wr => ∃ k : Nat, k ≤ n ∧ i = .int .i64 k ∧ ∃ m, wr = w.drewN m) (fun i _ => n - (intOf i).toNat)
  case atStart => exact ⟨0, Nat.zero_le _, rfl, 0, rfl⟩
  case round =>
    obtain ⟨k, hk, rfl, m, rfl⟩ := hrel
    by_cases hlt : k < n
    · obtain ⟨ba, oa, rfl, hca⟩ := ha.at_ hlt
      obtain ⟨bb, ob, rfl, hcb⟩ := hb.at_ hlt
      have he' : (iget zs k != iget zs k) = false := by simp
      go_wp2_with fail
      go_quiet (fail)
      go_wp2
      go_roundw
      case rel => exact ⟨k + 1, by omega, by go_num, _, rfl⟩
      case measure => first | (simp [intOf]; done) | (simp [intOf]; omega)
    · obtain rfl : k = n := by omega
      go_wp2
      go_ret
      exact ⟨rfl, _, rfl⟩
set_option maxHeartbeats 400000 in
theorem same9_any {v v' : Value} {zss : List (List Int)} (w : World) (h : RdSS w v zss) (h' : RdSS w v' zss) :
    Calls Try.prog 62 #[v, v'] w fun e w' => e = .returned (.bool true) ∧ Below w.heap.size w w' := by
  obtain ⟨ao, n, c, rfl, hi⟩ := h
  obtain ⟨ao', n', c', rfl, hi'⟩ := h'
  obtain rfl : n = n' := by rw [← hi.1, ← hi'.1]
  have hbd := hi.2.1
  have hl' : ((n : Int) != (n:Int)) = false := by simp
  go_enter Try.func62, Try.ntmps62
  go_wp2
  go_loopw [5] (fun i wr => ∃ k : Nat, k ≤ n ∧ i = .int .i64 k ∧ Below w.heap.size w wr) (fun i _ => n - (intOf i).toNat)
  case atStart => exact ⟨0, Nat.zero_le _, rfl, Below.refl _ _⟩
  case round =>
    obtain ⟨k, hk, rfl, hb⟩ := hrel
    by_cases hlt : k < n
    · obtain ⟨b1, o1, a1, n1, c1, rfl, hc1, hin1⟩ := (hi.below hb).at_ hlt
      obtain ⟨b2, o2, a2, n2, c2, rfl, hc2, hin2⟩ := (hi'.below hb).at_ hlt
      obtain rfl : n1 = n2 := by rw [← hin1.1, ← hin2.1]
      have HH := Lib.hid hi
      have HH' := Lib.hid hi'
      clear hi hi'
      go_wp2_with fail
      go_quiet ((go_at_call 142; exact Calls.quiet_of (likeInts_any a1 a2 n1 c1 c2 (lget zss k) _ (hin1.drewN _) (hin2.drewN _))))
      go_wp2
      go_roundw
      case rel => exact ⟨k + 1, by omega, by go_num, below_drewN hb _⟩
      case measure => first | (simp [intOf]; done) | (simp [intOf]; omega)
    · obtain rfl : k = n := by omega
      go_wp2
      go_ret
      exact ⟨rfl, hb⟩

set_option maxHeartbeats 1600000 in
theorem run9_any {v : Value} {T : List (List Int)} {m : Nat} (a : Option Addr) (n c : Nat) (W : List Int) (x : Nat) (w : World) (h : RdSS w v T) (hW : Ints w a n W) (hT : Leads T m) (hL : ∀ z ∈ W, 0 ≤ z ∧ z < T.length) (hx : x < m) (hm : m ≤ 1048576) :
    Calls Try.prog 68 #[v, .int .i64 x, .slice a n c] w fun e w' => e = .returned (.int .i64 (leadL T x W)) ∧ w = w' := by
  obtain ⟨ao, nt, ct, rfl, hi⟩ := h
  have hn := hW.2.1
  have hnt := hi.2.1
  have hTl := hi.1
  have hWl := hW.1
  have HTL := Lib.hid hTl
  have HWL := Lib.hid hWl
  clear hTl hWl
  go_enter Try.func68, Try.ntmps68
  go_wp2
  go_loopw [1, 7] (fun p i wr => ∃ k y : Nat, k ≤ n ∧ i = .int .i64 k ∧ p = .int .i64 y ∧ y < m ∧ leadL T x (W.take k) = (y : Int) ∧ wr = w) (fun _ i _ => n - (intOf i).toNat)
  case atStart => exact ⟨0, x, Nat.zero_le _, rfl, rfl, hx, rfl, rfl⟩
  case round =>
    obtain ⟨k, y, hk, rfl, rfl, hy, hle, rfl⟩ := hrel
    have HLE := Lib.hid hle
    clear hle
    by_cases hlt : k < n
    · obtain ⟨b1, o1, rfl, hc1⟩ := hW.at_ hlt
      have hz := hL (iget W k) (iget_mem (by rw [HWL.out]; exact hlt))
      obtain ⟨g, hg⟩ : ∃ g : Nat, iget W k = (g : Int) := ⟨(iget W k).toNat, by omega⟩
      have HG := Lib.hid hg
      rw [hg] at hc1
      have hgt : g < nt := by have := HTL.out; omega
      obtain ⟨b2, o2, a2, n2, c2, rfl, hc2, hin2⟩ := hi.at_ hgt
      have hn2 : n2 = m := by rw [← hin2.1]; exact hT.len g (by rw [HTL.out]; exact hgt)
      subst hn2
      obtain ⟨b3, o3, rfl, hc3⟩ := hin2.at_ hy
      have hyz := hT.within g (by rw [HTL.out]; exact hgt) y hy
      obtain ⟨y', hy'⟩ : ∃ y' : Nat, iget (lget T g) y = (y' : Int) := ⟨(iget (lget T g) y).toNat, by omega⟩
      have HY := Lib.hid hy'
      rw [hy'] at hc3 hyz
      have hy2 : y' < n2 := by omega
      have HH := Lib.hid hi
      have HW := Lib.hid hW
      have hlead : leadL T x (W.take (k + 1)) = (y' : Int) := by
        rw [take_iget (by rw [HWL.out]; exact hlt), leadL_snoc, HLE.out, HG.out, Int.toNat_natCast, Int.toNat_natCast]
        exact HY.out
      have HLD := Lib.hid hlead
      clear hi hW hz hg hy' hyz hlead
      go_wp2
      go_roundw
      case rel => exact ⟨k + 1, y', by omega, by go_num, rfl, hy2, HLD.out, trivial⟩
      case measure => first | (simp [intOf]; done) | (simp [intOf]; omega)
    · obtain rfl : k = n := by omega
      have HE : leadL T x W = (y : Int) := by have := HLE.out; rwa [List.take_of_length_le (by have := HWL.out; omega)] at this
      have HE2 := Lib.hid HE
      clear HE
      go_wp2
      go_ret
      exact ⟨by rw [HE2.out]; rfl, rfl⟩
end Go.Proofs.Ytpognnifgcacnaa
