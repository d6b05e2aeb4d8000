/- GroupOrder, IndexOfSubgroup: the reference's and the program's functions. -/
import Derived.Test.YtpognnifgcacnaaPart6
import Derived.Test.YtpognnifgcacnaaPart3
import Derived.Test.YtpognnifgcacnaaProg
import Derived.Test.YtpognnifgcacnaaPart1
import Derived.Test.YtpognnifgcacnaaPart5
import Derived.Deep.AppendLies
import Derived.Deep.DeepCutAuto
import Derived.Deep.CutBlock
namespace Go.Proofs.Ytpognnifgcacnaa
open Go.RowKit

section
variable {P : Program} {η : Env} {ω : Own?} {w : World}
theorem Env.new_mono {x : Nm} {hd : Hd} {r : Nat → Hd} {av : AV} (h : av.has x = false) : av.mono η (η.new x hd r) := fun y hy => Env.new_ne η hd r y fun e => by rw [e, h] at hy; cases hy
/-- nil for the last argument -/
theorem FC.nil2 {f : FuncId} {ins outs : List (Nm × Ch)} {a0 res : AV} {back : List (Nat × AV)} {x : Nm} {E : TypeId} {d : Dat} (h : FC P f ((x, ⟨false, E, 1, d⟩) :: ins) [a0, o1 (.sl x 0 0)] outs res back) (hd : d.len = 0) (hx : lk x ins = none) (h0 : a0.has x = false) (hb : ∀ t av, lk t back = some av → t ≠ 1)
    (hq : ∀ y c, lk y ins = some c → ∀ l, c.d ≠ .flat l) : FC P f ins [a0, vv (.slice none 0 0)] outs res back := by
  intro w η ω us hm hdl
  obtain ⟨hl, ha⟩ := hdl
  obtain ⟨u0, g0, d0⟩ := ha 0 _ rfl
  obtain ⟨u1, g1, d1⟩ := ha 1 _ rfl
  have d1 : u1 = .slice none 0 0 := d1
  subst d1
  refine h w (η.new x ⟨none, 0, 1⟩ fun _ => ⟨none, 0, 1⟩) ω us ⟨fun y c hy => ?_, fun y hy => ?_⟩ ⟨hl, fun j av hj => ?_⟩
  · by_cases e : y = x
    · subst e
      simp [lk] at hy
      subst hy
      refine ⟨⟨none, 0, 1⟩, by simp [Env.new], rfl, ?_⟩
      show VecR ω w _ d.len _
      rw [hd]
      exact ⟨Nat.zero_le _, fun j hj => absurd hj (by omega)⟩
    · have hy : lk y ins = some c := by simpa [lk, beq_ne e] using hy
      obtain ⟨h', k1, k2⟩ := hm.1 y c hy
      exact ⟨h', by simp [Env.new, e, k1], k2.same (Same.refl ω w fun _ => True) trivial (fun _ => trivial) (fun i => by simp [Env.new, e]) fun l hl => absurd hl (hq y c hy l)⟩
  · have e : y ≠ x := fun e => by subst e; simp [lk] at hy
    have hy : lk y ins = none := by simpa [lk, beq_ne e] using hy
    simp [Env.new, e, hm.2 y hy]
  · match j, hj with
    | 0, hj => simp at hj; subst hj; exact ⟨u0, g0, d0.mono (Env.new_mono h0)⟩
    | 1, hj =>
      simp at hj; subst hj
      refine ⟨_, g1, ⟨_, _, rfl⟩, fun hd' he => ?_⟩
      simp [Env.new] at he; subst he
      exact ⟨_, rfl, fun _ => rfl, fun h0 => absurd h0 (by omega)⟩
end

theorem isPres_fc (g : Int) (rels : List (List Int)) (h1 : Fit rels) : FC Try.prog 137 [(1003, rowsRo rels)] [pA g rels.length] [] (vv (.bool (isPres (g, rels)))) [] :=
  fc_of_calls fun w η ω us hm ⟨hl, ha⟩ => by
    obtain ⟨u0, g0, d0⟩ := ha 0 _ rfl
    have hp := rdP (x := 1003) (zss := rels) hm rfl d0 (by have := h1.1; omega) fun zs hz => by have := h1.2 zs hz; omega
    rw [one_of hl g0]
    exact isPresentation_any w hp

/-- what a good presentation with words is -/
structure Good (ng : Nat) (rels ws : List (List Int)) : Prop where
  pos : 0 < ng
  hi : ng ≤ 5
  r : rels.length ≤ 24
  w : ws.length ≤ 24
  rl : ∀ w ∈ rels, Letters ng w
  wl : ∀ w ∈ ws, Letters ng w
  rn : ∀ w ∈ rels, w.length ≤ 1000000000
  wn : ∀ w ∈ ws, w.length ≤ 1000000000
theorem isWordTo_spec {g : Int} {ng : Nat} (hg : g = ng) {z : List Int} (h : isWordTo (g - 1) z = true) : Letters ng z ∧ z.length ≤ 64 := by
  unfold isWordTo at h
  rw [Bool.and_eq_true, List.all_eq_true] at h
  exact ⟨fun x hx => by have := inB_true.1 (h.2 x hx); omega, of_decide_eq_true h.1⟩
theorem good_of {g : Int} {rels ws : List (List Int)} (h : withOk (g, rels) ws = true) : ∃ ng : Nat, g = (ng : Int) ∧ Good ng rels ws := by
  unfold withOk at h
  rw [Bool.and_eq_true] at h
  obtain ⟨h1, h2⟩ := h
  have hg := isPres_gens h1
  have hge : g = ((g.toNat : Nat) : Int) := (Int.toNat_of_nonneg (by dsimp only at hg; omega)).symm
  unfold isPres at h1
  rw [Bool.and_eq_true, Bool.and_eq_true, List.all_eq_true] at h1
  unfold wordsTo at h2
  rw [Bool.and_eq_true, List.all_eq_true] at h2
  have hr : ∀ w ∈ rels, Letters g.toNat w ∧ w.length ≤ 64 := fun w hw => by
    have := h1.2 w hw
    rw [Bool.and_eq_true] at this
    exact isWordTo_spec hge this.1
  have hw : ∀ w ∈ ws, Letters g.toNat w ∧ w.length ≤ 64 := fun w hw => by
    have := h2.2 w hw
    rw [Bool.and_eq_true] at this
    exact isWordTo_spec hge this.1
  dsimp only at hg
  exact ⟨g.toNat, hge, by omega, by omega, of_decide_eq_true h1.1.2, of_decide_eq_true h2.1, fun w h => (hr w h).1, fun w h => (hw w h).1, fun w h => by have := (hr w h).2; omega, fun w h => by have := (hw w h).2; omega⟩

def cosX (d : PresD) (ws : List (List Int)) : CSt := runC d.1.toNat d.2 ws
def cosN (d : PresD) (ws : List (List Int)) : Nat := (numbered d.1.toNat (cosX d ws).1 (cosX d ws).2.1).1.length
def cosTab (d : PresD) (ws : List (List Int)) : List (List Int) := tableC d.1.toNat (cosX d ws).1 (cosX d ws).2.1
def idxR (d : PresD) (ws : List (List Int)) : Int := if withOk d ws = true then (if (cosX d ws).2.2 = true then 0 else (cosN d ws : Int)) else 0
def idxC (d : PresD) (ws : List (List Int)) : Int := if withOk d ws = true then (if (cosX d ws).2.2 = true then 3 else 0) else 1
theorem tableC_length (ng : Nat) (im : List (List Int)) (less : List Int) : (tableC ng im less).length = ng := by simp [tableC]
theorem tableC_rowlen {ng g : Nat} (im : List (List Int)) (less : List Int) (h : g < ng) : (lget (tableC ng im less) g).length = (numbered ng im less).1.length := by
  simp [tableC, lget, h]
/-- the reference's and the program's tables: the same -/
theorem specTable_no {ng : Nat} {rels ws : List (List Int)} (h : Good ng rels ws) (hf : (runC ng rels ws).2.2 = true) :
    FC Try.prog 144 [(1002, rowsRo ws), (1003, rowsRo rels)] [pA ng rels.length, o1 (.sl 1002 0 ws.length)] [] (.tup [.one (.val (.slice none 0 0)), .one (.val (.bool false))]) [] :=
  l11Table_failed ng rels ws _ _ rfl rfl h.rl h.wl (by have := h.hi; omega) h.rn h.wn (by have := h.r; omega) (by have := h.w; omega) hf
theorem specTable_yes {ng : Nat} {rels ws : List (List Int)} (h : Good ng rels ws) (hf : (runC ng rels ws).2.2 = false) :
    FC Try.prog 144 [(1002, rowsRo ws), (1003, rowsRo rels)] [pA ng rels.length, o1 (.sl 1002 0 ws.length)] [(69, imOw (tableC ng (runC ng rels ws).1 (runC ng rels ws).2.1))] (.tup [.one (.sl 69 0 ng), .one (.val (.bool true))]) [] :=
  l11Table_done ng rels ws _ _ rfl rfl h.rl h.wl (by have := h.hi; omega) h.rn h.wn (by have := h.r; omega) (by have := h.w; omega) hf
theorem implTable_no {ng : Nat} {rels ws : List (List Int)} (h : Good ng rels ws) (hf : (runC ng rels ws).2.2 = true) :
    FC Try.prog 138 [(1002, rowsRo ws), (1003, rowsRo rels)] [pA ng rels.length, o1 (.sl 1002 0 ws.length)] [] (.tup [.one (.val (.slice none 0 0)), .one (.val (.bool false))]) [] := by
  have := enumerated_fc ng rels ws _ _ rfl rfl h.rl h.wl h.pos (by have := h.hi; omega) h.rn h.wn (by have := h.r; omega) (by have := h.w; omega) _ rfl
  have hf' : (runI ng rels ws).2.2 = true := by
    rcases runI_same ng rels ws with e | e
    · rw [← e]; exact hf
    · exact e.2
  rwa [if_pos hf', if_pos hf'] at this
theorem implTable_yes {ng : Nat} {rels ws : List (List Int)} (h : Good ng rels ws) (hf : (runC ng rels ws).2.2 = false) :
    FC Try.prog 138 [(1002, rowsRo ws), (1003, rowsRo rels)] [pA ng rels.length, o1 (.sl 1002 0 ws.length)] [(131, imOw (tableC ng (runC ng rels ws).1 (runC ng rels ws).2.1))] (.tup [.one (.sl 131 0 ng), .one (.val (.bool true))]) [] := by
  have := enumerated_fc ng rels ws _ _ rfl rfl h.rl h.wl h.pos (by have := h.hi; omega) h.rn h.wn (by have := h.r; omega) (by have := h.w; omega) _ rfl
  have he : runC ng rels ws = runI ng rels ws := by
    rcases runI_same ng rels ws with e | e
    · exact e
    · rw [hf] at e; exact absurd e.1 (by simp)
  rw [← he, if_neg (by rw [hf]; simp), if_neg (by rw [hf]; simp)] at this
  exact this

end Go.Proofs.Ytpognnifgcacnaa

/- GroupOrder, IndexOfSubgroup: the program's functions, and all four in words. -/
namespace Go.Proofs.Ytpognnifgcacnaa
open Go.RowKit

theorem lk_one {α : Type} {x y : Nat} {c d : α} (h : lk y [(x, c)] = some d) : d = c := by
  simp only [lk] at h
  cases hb : Nat.beq y x with
  | true => rw [hb] at h; simpa using h.symm
  | false => rw [hb] at h; simp at h
theorem noFlat {rels : List (List Int)} : ∀ y c, lk y [(1003, rowsRo rels)] = some c → ∀ l, c.d ≠ .flat l := fun y c h l e => by
  rw [lk_one h] at e; cases e
/-- nil for the words -/
theorem FC.nilW {f : FuncId} {g : Int} {rels : List (List Int)} {outs : List (Nm × Ch)} {res : AV} (h : FC Try.prog f [(1002, rowsRo []), (1003, rowsRo rels)] [pA g rels.length, o1 (.sl 1002 0 0)] outs res []) : FC Try.prog f [(1003, rowsRo rels)] [pA g rels.length, vv (.slice none 0 0)] outs res [] :=
  FC.nil2 (x := 1002) h rfl rfl rfl (fun t av h => by cases h) noFlat
theorem withOk_nil {g : Int} {rels : List (List Int)} : withOk (g, rels) [] = isPres (g, rels) := by unfold withOk wordsTo; simp
set_option maxRecDepth 100000 in
set_option maxHeartbeats 1000000 in
theorem implGroup_fc (g : Int) (rels : List (List Int)) (h1 : Fit rels) :
    FC Try.prog 57 [(1003, rowsRo rels)] [pA g rels.length] [] (.tup [.one (.val (I6 (idxR (g, rels) []))), .one (.val (I6 (idxC (g, rels) [])))]) [] := by
  have hC := isPres_fc g rels h1
  refine fc_enter (nt := 20) Try.func57 rfl rfl (by simp) fun w0 ω0 => ?_
  by_cases hok : withOk (g, rels) [] = true
  · obtain ⟨ng, rfl, hG⟩ := good_of hok
    rw [← withOk_nil, hok] at hC
    unfold idxR idxC
    rw [if_pos hok, if_pos hok]
    (refine goes_seq ?_; refine goes_region ?_; apply run_step rfl; (exact stp_box rfl rfl rfl rfl); apply run_step rfl; (exact stp_assign rfl rfl); apply run_step rfl; (exact stp_assign rfl rfl); refine run_nil ?_; refine fin_seq ?_; refine goes_seq ?_; refine goes_seq ?_; refine goes_region ?_; apply run_step rfl; (exact stp_loadAgg rfl rfl rfl rfl rfl rfl (by as_aux_lemma => kernel_rfl)); apply run_step rfl; (apply call_gate 137; exact stp_callR hC (by as_aux_lemma => kernel_rfl) rfl rfl ⟨⟨.inl rfl, .inl rfl, trivial⟩, trivial⟩ ⟨⟨_, rfl, .inl rfl⟩, trivial⟩ rfl rfl); apply run_step rfl; (exact stp_not rfl rfl); refine run_nil ?_; refine fin_seq ?_)
    refine goes_cond rfl (fun e => by cases e) (fun _ => ?_)
    have hX : cosX ((ng : Int), rels) [] = runC ng rels [] := by unfold cosX; rw [Int.toNat_natCast]
    rw [hX]
    cases hf : (runC ng rels []).2.2 with
    | true =>
      have hT := (implTable_no hG hf).nilW
      rw [if_pos rfl, if_pos rfl]
      (refine goes_skip ?_; refine fin_seq ?_; refine goes_seq ?_; refine goes_region ?_; apply run_step rfl; (exact stp_loadAgg rfl rfl rfl rfl rfl rfl (by as_aux_lemma => kernel_rfl)); apply run_step rfl; (apply call_gate 138; exact stp_callR hT (by as_aux_lemma => kernel_rfl) rfl rfl ⟨⟨.inl rfl, .inl rfl, trivial⟩, rfl, trivial⟩ ⟨⟨_, rfl, .inl rfl⟩, trivial⟩ rfl rfl); apply run_step rfl; (exact stp_move rfl rfl); apply run_step rfl; (exact stp_extract rfl rfl rfl); apply run_step rfl; (exact stp_extract rfl rfl rfl); apply run_step rfl; (exact stp_assign rfl rfl); apply run_step rfl; (exact stp_assign rfl rfl); refine run_nil ?_; refine fin_seq ?_; refine goes_seq ?_; refine goes_seq ?_; refine goes_region ?_; apply run_step rfl; (exact stp_move rfl rfl); apply run_step rfl; (exact stp_not rfl rfl); refine run_nil ?_; refine fin_seq ?_)
      refine goes_cond rfl (fun _ => ?_) (fun e => by cases e)
      (refine goes_seq ?_; refine goes_region ?_; apply run_step rfl; (exact stp_assign rfl rfl); apply run_step rfl; (exact stp_assign rfl rfl); refine run_nil ?_; refine fin_seq ?_; refine goes_ret ?_; refine fin_ret_then ?_)
      exact fin_ret2 (.inl rfl) rfl (.tmp rfl) (.tmp rfl) trivial trivial
    | false =>
      have hT := (implTable_yes hG hf).nilW
      have hN : cosN ((ng : Int), rels) [] = (lget (tableC ng (runC ng rels []).1 (runC ng rels []).2.1) 0).length := by
        unfold cosN; rw [hX, Int.toNat_natCast, tableC_rowlen _ _ hG.pos]
      rw [if_neg (by simp), if_neg (by simp), hN]
      have hrow : (irows (tableC ng (runC ng rels []).1 (runC ng rels []).2.1))[0]? = some (ivals (lget (tableC ng (runC ng rels []).1 (runC ng rels []).2.1) 0)) := irows_get (by rw [tableC_length]; exact hG.pos)
      have hlen : (irows (tableC ng (runC ng rels []).1 (runC ng rels []).2.1)).length = ng := by rw [irows_len, tableC_length]
      have hpos := hG.pos
      generalize tableC ng (runC ng rels []).1 (runC ng rels []).2.1 = T at *
      have hS := sizeE_fc 131 0 (lget T 0).length
      (refine goes_skip ?_; refine fin_seq ?_; refine goes_seq ?_; refine goes_region ?_; apply run_step rfl; (exact stp_loadAgg rfl rfl rfl rfl rfl rfl (by as_aux_lemma => kernel_rfl)); apply run_step rfl; (apply call_gate 138; exact stp_callN hT (by as_aux_lemma => kernel_rfl) rfl rfl ⟨⟨.inl rfl, .inl rfl, trivial⟩, rfl, trivial⟩ ⟨⟨_, rfl, .inl rfl⟩, trivial⟩ rfl rfl rfl); apply run_step rfl; (exact stp_move rfl rfl); apply run_step rfl; (exact stp_extract rfl rfl rfl); apply run_step rfl; (exact stp_extract rfl rfl rfl); apply run_step rfl; (exact stp_assign rfl rfl); apply run_step rfl; (exact stp_assign rfl rfl); refine run_nil ?_; refine fin_seq ?_; refine goes_seq ?_; refine goes_seq ?_; refine goes_region ?_; apply run_step rfl; (exact stp_move rfl rfl); apply run_step rfl; (exact stp_not rfl rfl); refine run_nil ?_; refine fin_seq ?_)
      refine goes_cond rfl (fun e => by cases e) (fun _ => ?_)
      (refine goes_skip ?_; refine fin_seq ?_; refine goes_seq ?_; refine goes_region ?_; apply run_step rfl; (exact stp_move rfl rfl); apply run_step rfl; (first | exact stp_ix (j := 0) rfl rfl rfl rfl rfl (by as_aux_lemma => kernel_rfl) rfl hpos (Nat.le_of_eq hlen.symm) | (apply call_gate 139; exact stp_callR hS (by as_aux_lemma => kernel_rfl) rfl rfl ⟨rfl, trivial⟩ trivial rfl rfl)); apply run_step rfl; (exact stp_loadR rfl (by as_aux_lemma => kernel_rfl) rfl rfl rfl (by first | assumption | exact ivals_get (by assumption) | exact irows_get (by assumption) | exact ivals_get (by omega) | exact irows_get (by omega) | rfl) (by first | exact ivals_len _ | assumption | rfl)); apply run_step rfl; (first | exact stp_ix (j := 0) rfl rfl rfl rfl rfl (by as_aux_lemma => kernel_rfl) rfl hpos (Nat.le_of_eq hlen.symm) | (apply call_gate 139; exact stp_callR hS (by as_aux_lemma => kernel_rfl) rfl rfl ⟨rfl, trivial⟩ trivial rfl rfl)); apply run_step rfl; (exact stp_assign rfl rfl); apply run_step rfl; (exact stp_assign rfl rfl); refine run_nil ?_; refine fin_seq ?_; refine goes_ret ?_)
      exact fin_ret2 (.inl rfl) rfl (.tmp rfl) (.tmp rfl) trivial trivial
  · have hp : isPres (g, rels) = false := by rw [withOk_nil] at hok; simpa using hok
    rw [hp] at hC
    unfold idxR idxC
    rw [if_neg hok, if_neg hok]
    (refine goes_seq ?_; refine goes_region ?_; apply run_step rfl; (exact stp_box rfl rfl rfl rfl); apply run_step rfl; (exact stp_assign rfl rfl); apply run_step rfl; (exact stp_assign rfl rfl); refine run_nil ?_; refine fin_seq ?_; refine goes_seq ?_; refine goes_seq ?_; refine goes_region ?_; apply run_step rfl; (exact stp_loadAgg rfl rfl rfl rfl rfl rfl (by as_aux_lemma => kernel_rfl)); apply run_step rfl; (apply call_gate 137; exact stp_callR hC (by as_aux_lemma => kernel_rfl) rfl rfl ⟨⟨.inl rfl, .inl rfl, trivial⟩, trivial⟩ ⟨⟨_, rfl, .inl rfl⟩, trivial⟩ rfl rfl); apply run_step rfl; (exact stp_not rfl rfl); refine run_nil ?_; refine fin_seq ?_)
    refine goes_cond rfl (fun _ => ?_) (fun e => by cases e)
    (refine goes_seq ?_; refine goes_region ?_; apply run_step rfl; (exact stp_assign rfl rfl); apply run_step rfl; (exact stp_assign rfl rfl); refine run_nil ?_; refine fin_seq ?_; refine goes_ret ?_; refine fin_ret_then ?_)
    exact fin_ret2 (.inl rfl) rfl (.tmp rfl) (.tmp rfl) trivial trivial

/-! in words -/
theorem api_implGroup {E1 E : Nat} {lo hi : Nat} {v : Value} {d : PresD} (w : World) (h : OwP E1 E w lo hi v d) :
    Calls Try.prog 57 #[v] w fun e w' => e = .returned (.tuple #[.int .i64 (idxR d []), .int .i64 (idxC d [])]) ∧ Below w.heap.size w w' := two_vals (callP (fun k1 => implGroup_fc d.1 d.2 k1) h)
end Go.Proofs.Ytpognnifgcacnaa

/- The table of a subgroup: l11Small, cosetTable; CosetTable. guards: -/
namespace Go.Proofs.Ytpognnifgcacnaa
open Go.RowKit

def smallOk (d : PresD) (ws : List (List Int)) : Bool := !(cosX d ws).2.2 && decide (cosN d ws ≤ 400)
theorem cosX_nat (ng : Nat) (rels ws : List (List Int)) : cosX ((ng : Int), rels) ws = runC ng rels ws := by unfold cosX; rw [Int.toNat_natCast]
theorem cosN_nat (ng : Nat) (rels ws : List (List Int)) : cosN ((ng : Int), rels) ws = (numbered ng (runC ng rels ws).1 (runC ng rels ws).2.1).1.length := by unfold cosN; rw [cosX_nat, Int.toNat_natCast]
theorem cosTab_nat (ng : Nat) (rels ws : List (List Int)) : cosTab ((ng : Int), rels) ws = tableC ng (runC ng rels ws).1 (runC ng rels ws).2.1 := by unfold cosTab; rw [cosX_nat, Int.toNat_natCast]
theorem cosTab_row {ng : Nat} {rels ws : List (List Int)} {g : Nat} (h : g < ng) : (lget (cosTab ((ng : Int), rels) ws) g).length = cosN ((ng : Int), rels) ws := by rw [cosTab_nat, cosN_nat, tableC_rowlen _ _ h]
theorem cosTab_len (ng : Nat) (rels ws : List (List Int)) : (cosTab ((ng : Int), rels) ws).length = ng := by rw [cosTab_nat, tableC_length]
set_option maxRecDepth 100000 in
set_option maxHeartbeats 1000000 in
theorem specSmall_yes {ng : Nat} {rels ws : List (List Int)} (hG : Good ng rels ws) (hs : smallOk ((ng : Int), rels) ws = true) :
    FC Try.prog 107 [(1002, rowsRo ws), (1003, rowsRo rels)] [pA ng rels.length, o1 (.sl 1002 0 ws.length)] [(1005, imOw (cosTab ((ng : Int), rels) ws))] (.tup [.one (.sl 1005 0 ng), .one (.val (I6 0))]) [] := by
  have hs2 : (runC ng rels ws).2.2 = false ∧ cosN ((ng : Int), rels) ws ≤ 400 := by unfold smallOk at hs; rw [cosX_nat] at hs; simpa using hs
  have hT : FC Try.prog 144 [(1002, rowsRo ws), (1003, rowsRo rels)] [pA ng rels.length, o1 (.sl 1002 0 ws.length)] [(1005, imOw (cosTab ((ng : Int), rels) ws))] (.tup [.one (.sl 1005 0 ng), .one (.val (.bool true))]) [] := by
    rw [cosTab_nat]
    exact (specTable_yes hG hs2.1).nm [(69, 1005), (1002, 1002), (1003, 1003)] (by kernel_rfl)
  have hlen : (irows (cosTab ((ng : Int), rels) ws)).length = ng := by rw [irows_len, cosTab_len]
  have hpos := hG.pos
  have hr0 : (lget (cosTab ((ng : Int), rels) ws) 0).length ≤ 400 := by rw [cosTab_row hpos]; exact hs2.2
  have hrow : (irows (cosTab ((ng : Int), rels) ws))[0]? = some (ivals (lget (cosTab ((ng : Int), rels) ws) 0)) := irows_get (by rw [← irows_len, hlen]; exact hpos)
  generalize cosTab ((ng : Int), rels) ws = T at *
  refine fc_enter (nt := 24) Try.func107 rfl rfl (by simp) fun w0 ω0 => ?_
  (refine goes_seq ?_; refine goes_region ?_; apply run_step rfl; (exact stp_box rfl rfl rfl rfl); apply run_step rfl; (exact stp_assign rfl rfl); apply run_step rfl; (exact stp_assign rfl rfl); refine run_nil ?_; refine fin_seq ?_; refine goes_seq ?_; refine goes_region ?_; apply run_step rfl; (exact stp_loadAgg rfl rfl rfl rfl rfl rfl (by as_aux_lemma => kernel_rfl)); apply run_step rfl; (exact stp_move rfl rfl); apply run_step rfl; (first | (apply call_gate 144; exact stp_callN hT (by as_aux_lemma => kernel_rfl) rfl rfl ⟨⟨.inl rfl, .inl rfl, trivial⟩, rfl, trivial⟩ ⟨⟨_, rfl, .inl rfl⟩, ⟨_, rfl, .inl rfl⟩, trivial⟩ rfl rfl rfl) | exact stp_ix (j := 0) rfl rfl rfl rfl rfl (by as_aux_lemma => kernel_rfl) rfl hpos (Nat.le_of_eq hlen.symm)); apply run_step rfl; (exact stp_move rfl rfl); apply run_step rfl; (exact stp_extract rfl rfl rfl); apply run_step rfl; (exact stp_extract rfl rfl rfl); apply run_step rfl; (exact stp_assign rfl rfl); apply run_step rfl; (exact stp_assign rfl rfl); refine run_nil ?_; refine fin_seq ?_; refine goes_seq ?_; refine goes_seq ?_; refine goes_region ?_; apply run_step rfl; (exact stp_move rfl rfl); apply run_step rfl; (exact stp_not rfl rfl); apply run_step rfl; (exact stp_move rfl rfl); apply run_gYes rfl rfl rfl; (exact stp_move rfl rfl); apply run_gYes rfl rfl rfl; (first | (apply call_gate 144; exact stp_callN hT (by as_aux_lemma => kernel_rfl) rfl rfl ⟨⟨.inl rfl, .inl rfl, trivial⟩, rfl, trivial⟩ ⟨⟨_, rfl, .inl rfl⟩, ⟨_, rfl, .inl rfl⟩, trivial⟩ rfl rfl rfl) | exact stp_ix (j := 0) rfl rfl rfl rfl rfl (by as_aux_lemma => kernel_rfl) rfl hpos (Nat.le_of_eq hlen.symm)); apply run_gYes rfl rfl rfl; (exact stp_loadR rfl (by as_aux_lemma => kernel_rfl) rfl rfl rfl (by first | assumption | exact ivals_get (by assumption) | exact irows_get (by assumption) | exact ivals_get (by omega) | exact irows_get (by omega) | rfl) (by first | exact ivals_len _ | assumption | rfl)); apply run_gYes rfl rfl rfl; (exact stp_len rfl rfl rfl (by as_aux_lemma => kernel_rfl)); apply run_gYes rfl rfl rfl; (exact stp_bin rfl rfl rfl rfl); apply run_step rfl; (exact stp_pickF rfl rfl rfl); refine run_nil ?_; refine fin_seq ?_)
  refine goes_cond rfl (fun e => ?_) (fun _ => ?_)
  · exfalso; simp at e; omega
  · (refine goes_skip ?_; refine fin_seq ?_; refine goes_seq ?_; refine goes_region ?_; apply run_step rfl; (exact stp_move rfl rfl); apply run_step rfl; (exact stp_assign rfl rfl); apply run_step rfl; (exact stp_assign rfl rfl); refine run_nil ?_; refine fin_seq ?_; refine goes_ret ?_)
    exact fin_ret2 (.inl rfl) rfl (.tmp rfl) (.tmp rfl) ⟨rfl, trivial⟩ trivial
set_option maxRecDepth 100000 in
set_option maxHeartbeats 1000000 in
theorem specSmall_no {ng : Nat} {rels ws : List (List Int)} (hG : Good ng rels ws) (hs : ¬ smallOk ((ng : Int), rels) ws = true) :
    FC Try.prog 107 [(1002, rowsRo ws), (1003, rowsRo rels)] [pA ng rels.length, o1 (.sl 1002 0 ws.length)] [] (.tup [.one (.val (.slice none 0 0)), .one (.val (I6 3))]) [] := by
  unfold smallOk at hs; rw [cosX_nat] at hs
  refine fc_enter (nt := 24) Try.func107 rfl rfl (by simp) fun w0 ω0 => ?_
  cases hf : (runC ng rels ws).2.2 with
  | true =>
    have hT := specTable_no hG hf
    (refine goes_seq ?_; refine goes_region ?_; apply run_step rfl; (exact stp_box rfl rfl rfl rfl); apply run_step rfl; (exact stp_assign rfl rfl); apply run_step rfl; (exact stp_assign rfl rfl); refine run_nil ?_; refine fin_seq ?_; refine goes_seq ?_; refine goes_region ?_; apply run_step rfl; (exact stp_loadAgg rfl rfl rfl rfl rfl rfl (by as_aux_lemma => kernel_rfl)); apply run_step rfl; (exact stp_move rfl rfl); apply run_step rfl; (apply call_gate 144; exact stp_callR hT (by as_aux_lemma => kernel_rfl) rfl rfl ⟨⟨.inl rfl, .inl rfl, trivial⟩, rfl, trivial⟩ ⟨⟨_, rfl, .inl rfl⟩, ⟨_, rfl, .inl rfl⟩, trivial⟩ rfl rfl); apply run_step rfl; (exact stp_move rfl rfl); apply run_step rfl; (exact stp_extract rfl rfl rfl); apply run_step rfl; (exact stp_extract rfl rfl rfl); apply run_step rfl; (exact stp_assign rfl rfl); apply run_step rfl; (exact stp_assign rfl rfl); refine run_nil ?_; refine fin_seq ?_; refine goes_seq ?_; refine goes_seq ?_; refine goes_region ?_; apply run_step rfl; (exact stp_move rfl rfl); apply run_step rfl; (exact stp_not rfl rfl); apply run_step rfl; (exact stp_move rfl rfl); apply run_gNo rfl rfl rfl rfl rfl; apply run_gNo rfl rfl rfl rfl rfl; apply run_gNo rfl rfl rfl rfl rfl; apply run_gNo rfl rfl rfl rfl rfl; apply run_gNo rfl rfl rfl rfl rfl; apply run_step rfl; (exact stp_pickT rfl rfl rfl); refine run_nil ?_; refine fin_seq ?_)
    refine goes_cond rfl (fun _ => ?_) (fun e => by cases e)
    (refine goes_seq ?_; refine goes_region ?_; apply run_step rfl; (exact stp_assign rfl rfl); apply run_step rfl; (exact stp_assign rfl rfl); refine run_nil ?_; refine fin_seq ?_; refine goes_ret ?_; refine fin_ret_then ?_)
    exact fin_ret2 (.inl rfl) rfl (.tmp rfl) (.tmp rfl) trivial trivial
  | false =>
    have hn : 400 < cosN ((ng : Int), rels) ws := by rw [hf] at hs; simpa using hs
    have hT : FC Try.prog 144 [(1002, rowsRo ws), (1003, rowsRo rels)] [pA ng rels.length, o1 (.sl 1002 0 ws.length)] [(1005, imOw (cosTab ((ng : Int), rels) ws))] (.tup [.one (.sl 1005 0 ng), .one (.val (.bool true))]) [] := by
      rw [cosTab_nat]
      exact (specTable_yes hG hf).nm [(69, 1005), (1002, 1002), (1003, 1003)] (by kernel_rfl)
    have hlen : (irows (cosTab ((ng : Int), rels) ws)).length = ng := by rw [irows_len, cosTab_len]
    have hpos := hG.pos
    have hr0 : 400 < (lget (cosTab ((ng : Int), rels) ws) 0).length := by rw [cosTab_row hpos]; exact hn
    have hrow : (irows (cosTab ((ng : Int), rels) ws))[0]? = some (ivals (lget (cosTab ((ng : Int), rels) ws) 0)) := irows_get (by rw [← irows_len, hlen]; exact hpos)
    clear hs hn
    generalize cosTab ((ng : Int), rels) ws = T at *
    (refine goes_seq ?_; refine goes_region ?_; apply run_step rfl; (exact stp_box rfl rfl rfl rfl); apply run_step rfl; (exact stp_assign rfl rfl); apply run_step rfl; (exact stp_assign rfl rfl); refine run_nil ?_; refine fin_seq ?_; refine goes_seq ?_; refine goes_region ?_; apply run_step rfl; (exact stp_loadAgg rfl rfl rfl rfl rfl rfl (by as_aux_lemma => kernel_rfl)); apply run_step rfl; (exact stp_move rfl rfl); apply run_step rfl; (first | (apply call_gate 144; exact stp_callN hT (by as_aux_lemma => kernel_rfl) rfl rfl ⟨⟨.inl rfl, .inl rfl, trivial⟩, rfl, trivial⟩ ⟨⟨_, rfl, .inl rfl⟩, ⟨_, rfl, .inl rfl⟩, trivial⟩ rfl rfl rfl) | exact stp_ix (j := 0) rfl rfl rfl rfl rfl (by as_aux_lemma => kernel_rfl) rfl hpos (Nat.le_of_eq hlen.symm)); apply run_step rfl; (exact stp_move rfl rfl); apply run_step rfl; (exact stp_extract rfl rfl rfl); apply run_step rfl; (exact stp_extract rfl rfl rfl); apply run_step rfl; (exact stp_assign rfl rfl); apply run_step rfl; (exact stp_assign rfl rfl); refine run_nil ?_; refine fin_seq ?_; refine goes_seq ?_; refine goes_seq ?_; refine goes_region ?_; apply run_step rfl; (exact stp_move rfl rfl); apply run_step rfl; (exact stp_not rfl rfl); apply run_step rfl; (exact stp_move rfl rfl); apply run_gYes rfl rfl rfl; (exact stp_move rfl rfl); apply run_gYes rfl rfl rfl; (first | (apply call_gate 144; exact stp_callN hT (by as_aux_lemma => kernel_rfl) rfl rfl ⟨⟨.inl rfl, .inl rfl, trivial⟩, rfl, trivial⟩ ⟨⟨_, rfl, .inl rfl⟩, ⟨_, rfl, .inl rfl⟩, trivial⟩ rfl rfl rfl) | exact stp_ix (j := 0) rfl rfl rfl rfl rfl (by as_aux_lemma => kernel_rfl) rfl hpos (Nat.le_of_eq hlen.symm)); apply run_gYes rfl rfl rfl; (exact stp_loadR rfl (by as_aux_lemma => kernel_rfl) rfl rfl rfl (by first | assumption | exact ivals_get (by assumption) | exact irows_get (by assumption) | exact ivals_get (by omega) | exact irows_get (by omega) | rfl) (by first | exact ivals_len _ | assumption | rfl)); apply run_gYes rfl rfl rfl; (exact stp_len rfl rfl rfl (by as_aux_lemma => kernel_rfl)); apply run_gYes rfl rfl rfl; (exact stp_bin rfl rfl rfl rfl); apply run_step rfl; (exact stp_pickF rfl rfl rfl); refine run_nil ?_; refine fin_seq ?_)
    refine goes_cond rfl (fun _ => ?_) (fun e => ?_)
    · (refine goes_seq ?_; refine goes_region ?_; apply run_step rfl; (exact stp_assign rfl rfl); apply run_step rfl; (exact stp_assign rfl rfl); refine run_nil ?_; refine fin_seq ?_; refine goes_ret ?_; refine fin_ret_then ?_)
      exact fin_ret2 (.inl rfl) rfl (.tmp rfl) (.tmp rfl) trivial trivial
    · exfalso; simp at e; omega

set_option maxRecDepth 100000 in
set_option maxHeartbeats 1000000 in
theorem implSmall_yes {ng : Nat} {rels ws : List (List Int)} (hG : Good ng rels ws) (hs : smallOk ((ng : Int), rels) ws = true) :
    FC Try.prog 113 [(1002, rowsRo ws), (1003, rowsRo rels)] [pA ng rels.length, o1 (.sl 1002 0 ws.length)] [(1005, imOw (cosTab ((ng : Int), rels) ws))] (.tup [.one (.sl 1005 0 ng), .one (.val (I6 0))]) [] := by
  have hs2 : (runC ng rels ws).2.2 = false ∧ cosN ((ng : Int), rels) ws ≤ 400 := by unfold smallOk at hs; rw [cosX_nat] at hs; simpa using hs
  have hT : FC Try.prog 138 [(1002, rowsRo ws), (1003, rowsRo rels)] [pA ng rels.length, o1 (.sl 1002 0 ws.length)] [(1005, imOw (cosTab ((ng : Int), rels) ws))] (.tup [.one (.sl 1005 0 ng), .one (.val (.bool true))]) [] := by
    rw [cosTab_nat]
    exact (implTable_yes hG hs2.1).nm [(131, 1005), (1002, 1002), (1003, 1003)] (by kernel_rfl)
  have hlen : (irows (cosTab ((ng : Int), rels) ws)).length = ng := by rw [irows_len, cosTab_len]
  have hpos := hG.pos
  have hr0 : (lget (cosTab ((ng : Int), rels) ws) 0).length ≤ 400 := by rw [cosTab_row hpos]; exact hs2.2
  have hrow : (irows (cosTab ((ng : Int), rels) ws))[0]? = some (ivals (lget (cosTab ((ng : Int), rels) ws) 0)) := irows_get (by rw [← irows_len, hlen]; exact hpos)
  generalize cosTab ((ng : Int), rels) ws = T at *
  refine fc_enter (nt := 24) Try.func113 rfl rfl (by simp) fun w0 ω0 => ?_
  (refine goes_seq ?_; refine goes_region ?_; apply run_step rfl; (exact stp_box rfl rfl rfl rfl); apply run_step rfl; (exact stp_assign rfl rfl); apply run_step rfl; (exact stp_assign rfl rfl); refine run_nil ?_; refine fin_seq ?_; refine goes_seq ?_; refine goes_region ?_; apply run_step rfl; (exact stp_loadAgg rfl rfl rfl rfl rfl rfl (by as_aux_lemma => kernel_rfl)); apply run_step rfl; (exact stp_move rfl rfl); apply run_step rfl; (first | (apply call_gate 138; exact stp_callN hT (by as_aux_lemma => kernel_rfl) rfl rfl ⟨⟨.inl rfl, .inl rfl, trivial⟩, rfl, trivial⟩ ⟨⟨_, rfl, .inl rfl⟩, ⟨_, rfl, .inl rfl⟩, trivial⟩ rfl rfl rfl) | exact stp_ix (j := 0) rfl rfl rfl rfl rfl (by as_aux_lemma => kernel_rfl) rfl hpos (Nat.le_of_eq hlen.symm)); apply run_step rfl; (exact stp_move rfl rfl); apply run_step rfl; (exact stp_extract rfl rfl rfl); apply run_step rfl; (exact stp_extract rfl rfl rfl); apply run_step rfl; (exact stp_assign rfl rfl); apply run_step rfl; (exact stp_assign rfl rfl); refine run_nil ?_; refine fin_seq ?_; refine goes_seq ?_; refine goes_seq ?_; refine goes_region ?_; apply run_step rfl; (exact stp_move rfl rfl); apply run_step rfl; (exact stp_not rfl rfl); apply run_step rfl; (exact stp_move rfl rfl); apply run_gYes rfl rfl rfl; (exact stp_move rfl rfl); apply run_gYes rfl rfl rfl; (first | (apply call_gate 138; exact stp_callN hT (by as_aux_lemma => kernel_rfl) rfl rfl ⟨⟨.inl rfl, .inl rfl, trivial⟩, rfl, trivial⟩ ⟨⟨_, rfl, .inl rfl⟩, ⟨_, rfl, .inl rfl⟩, trivial⟩ rfl rfl rfl) | exact stp_ix (j := 0) rfl rfl rfl rfl rfl (by as_aux_lemma => kernel_rfl) rfl hpos (Nat.le_of_eq hlen.symm)); apply run_gYes rfl rfl rfl; (exact stp_loadR rfl (by as_aux_lemma => kernel_rfl) rfl rfl rfl (by first | assumption | exact ivals_get (by assumption) | exact irows_get (by assumption) | exact ivals_get (by omega) | exact irows_get (by omega) | rfl) (by first | exact ivals_len _ | assumption | rfl)); apply run_gYes rfl rfl rfl; (exact stp_len rfl rfl rfl (by as_aux_lemma => kernel_rfl)); apply run_gYes rfl rfl rfl; (exact stp_bin rfl rfl rfl rfl); apply run_step rfl; (exact stp_pickF rfl rfl rfl); refine run_nil ?_; refine fin_seq ?_)
  refine goes_cond rfl (fun e => ?_) (fun _ => ?_)
  · exfalso; simp at e; omega
  · (refine goes_skip ?_; refine fin_seq ?_; refine goes_seq ?_; refine goes_region ?_; apply run_step rfl; (exact stp_move rfl rfl); apply run_step rfl; (exact stp_assign rfl rfl); apply run_step rfl; (exact stp_assign rfl rfl); refine run_nil ?_; refine fin_seq ?_; refine goes_ret ?_)
    exact fin_ret2 (.inl rfl) rfl (.tmp rfl) (.tmp rfl) ⟨rfl, trivial⟩ trivial
set_option maxRecDepth 100000 in
set_option maxHeartbeats 1000000 in
theorem implSmall_no {ng : Nat} {rels ws : List (List Int)} (hG : Good ng rels ws) (hs : ¬ smallOk ((ng : Int), rels) ws = true) :
    FC Try.prog 113 [(1002, rowsRo ws), (1003, rowsRo rels)] [pA ng rels.length, o1 (.sl 1002 0 ws.length)] [] (.tup [.one (.val (.slice none 0 0)), .one (.val (I6 3))]) [] := by
  unfold smallOk at hs; rw [cosX_nat] at hs
  refine fc_enter (nt := 24) Try.func113 rfl rfl (by simp) fun w0 ω0 => ?_
  cases hf : (runC ng rels ws).2.2 with
  | true =>
    have hT := implTable_no hG hf
    (refine goes_seq ?_; refine goes_region ?_; apply run_step rfl; (exact stp_box rfl rfl rfl rfl); apply run_step rfl; (exact stp_assign rfl rfl); apply run_step rfl; (exact stp_assign rfl rfl); refine run_nil ?_; refine fin_seq ?_; refine goes_seq ?_; refine goes_region ?_; apply run_step rfl; (exact stp_loadAgg rfl rfl rfl rfl rfl rfl (by as_aux_lemma => kernel_rfl)); apply run_step rfl; (exact stp_move rfl rfl); apply run_step rfl; (apply call_gate 138; exact stp_callR hT (by as_aux_lemma => kernel_rfl) rfl rfl ⟨⟨.inl rfl, .inl rfl, trivial⟩, rfl, trivial⟩ ⟨⟨_, rfl, .inl rfl⟩, ⟨_, rfl, .inl rfl⟩, trivial⟩ rfl rfl); apply run_step rfl; (exact stp_move rfl rfl); apply run_step rfl; (exact stp_extract rfl rfl rfl); apply run_step rfl; (exact stp_extract rfl rfl rfl); apply run_step rfl; (exact stp_assign rfl rfl); apply run_step rfl; (exact stp_assign rfl rfl); refine run_nil ?_; refine fin_seq ?_; refine goes_seq ?_; refine goes_seq ?_; refine goes_region ?_; apply run_step rfl; (exact stp_move rfl rfl); apply run_step rfl; (exact stp_not rfl rfl); apply run_step rfl; (exact stp_move rfl rfl); apply run_gNo rfl rfl rfl rfl rfl; apply run_gNo rfl rfl rfl rfl rfl; apply run_gNo rfl rfl rfl rfl rfl; apply run_gNo rfl rfl rfl rfl rfl; apply run_gNo rfl rfl rfl rfl rfl; apply run_step rfl; (exact stp_pickT rfl rfl rfl); refine run_nil ?_; refine fin_seq ?_)
    refine goes_cond rfl (fun _ => ?_) (fun e => by cases e)
    (refine goes_seq ?_; refine goes_region ?_; apply run_step rfl; (exact stp_assign rfl rfl); apply run_step rfl; (exact stp_assign rfl rfl); refine run_nil ?_; refine fin_seq ?_; refine goes_ret ?_; refine fin_ret_then ?_)
    exact fin_ret2 (.inl rfl) rfl (.tmp rfl) (.tmp rfl) trivial trivial
  | false =>
    have hn : 400 < cosN ((ng : Int), rels) ws := by rw [hf] at hs; simpa using hs
    have hT : FC Try.prog 138 [(1002, rowsRo ws), (1003, rowsRo rels)] [pA ng rels.length, o1 (.sl 1002 0 ws.length)] [(1005, imOw (cosTab ((ng : Int), rels) ws))] (.tup [.one (.sl 1005 0 ng), .one (.val (.bool true))]) [] := by
      rw [cosTab_nat]
      exact (implTable_yes hG hf).nm [(131, 1005), (1002, 1002), (1003, 1003)] (by kernel_rfl)
    have hlen : (irows (cosTab ((ng : Int), rels) ws)).length = ng := by rw [irows_len, cosTab_len]
    have hpos := hG.pos
    have hr0 : 400 < (lget (cosTab ((ng : Int), rels) ws) 0).length := by rw [cosTab_row hpos]; exact hn
    have hrow : (irows (cosTab ((ng : Int), rels) ws))[0]? = some (ivals (lget (cosTab ((ng : Int), rels) ws) 0)) := irows_get (by rw [← irows_len, hlen]; exact hpos)
    clear hs hn
    generalize cosTab ((ng : Int), rels) ws = T at *
    (refine goes_seq ?_; refine goes_region ?_; apply run_step rfl; (exact stp_box rfl rfl rfl rfl); apply run_step rfl; (exact stp_assign rfl rfl); apply run_step rfl; (exact stp_assign rfl rfl); refine run_nil ?_; refine fin_seq ?_; refine goes_seq ?_; refine goes_region ?_; apply run_step rfl; (exact stp_loadAgg rfl rfl rfl rfl rfl rfl (by as_aux_lemma => kernel_rfl)); apply run_step rfl; (exact stp_move rfl rfl); apply run_step rfl; (first | (apply call_gate 138; exact stp_callN hT (by as_aux_lemma => kernel_rfl) rfl rfl ⟨⟨.inl rfl, .inl rfl, trivial⟩, rfl, trivial⟩ ⟨⟨_, rfl, .inl rfl⟩, ⟨_, rfl, .inl rfl⟩, trivial⟩ rfl rfl rfl) | exact stp_ix (j := 0) rfl rfl rfl rfl rfl (by as_aux_lemma => kernel_rfl) rfl hpos (Nat.le_of_eq hlen.symm)); apply run_step rfl; (exact stp_move rfl rfl); apply run_step rfl; (exact stp_extract rfl rfl rfl); apply run_step rfl; (exact stp_extract rfl rfl rfl); apply run_step rfl; (exact stp_assign rfl rfl); apply run_step rfl; (exact stp_assign rfl rfl); refine run_nil ?_; refine fin_seq ?_; refine goes_seq ?_; refine goes_seq ?_; refine goes_region ?_; apply run_step rfl; (exact stp_move rfl rfl); apply run_step rfl; (exact stp_not rfl rfl); apply run_step rfl; (exact stp_move rfl rfl); apply run_gYes rfl rfl rfl; (exact stp_move rfl rfl); apply run_gYes rfl rfl rfl; (first | (apply call_gate 138; exact stp_callN hT (by as_aux_lemma => kernel_rfl) rfl rfl ⟨⟨.inl rfl, .inl rfl, trivial⟩, rfl, trivial⟩ ⟨⟨_, rfl, .inl rfl⟩, ⟨_, rfl, .inl rfl⟩, trivial⟩ rfl rfl rfl) | exact stp_ix (j := 0) rfl rfl rfl rfl rfl (by as_aux_lemma => kernel_rfl) rfl hpos (Nat.le_of_eq hlen.symm)); apply run_gYes rfl rfl rfl; (exact stp_loadR rfl (by as_aux_lemma => kernel_rfl) rfl rfl rfl (by first | assumption | exact ivals_get (by assumption) | exact irows_get (by assumption) | exact ivals_get (by omega) | exact irows_get (by omega) | rfl) (by first | exact ivals_len _ | assumption | rfl)); apply run_gYes rfl rfl rfl; (exact stp_len rfl rfl rfl (by as_aux_lemma => kernel_rfl)); apply run_gYes rfl rfl rfl; (exact stp_bin rfl rfl rfl rfl); apply run_step rfl; (exact stp_pickF rfl rfl rfl); refine run_nil ?_; refine fin_seq ?_)
    refine goes_cond rfl (fun _ => ?_) (fun e => ?_)
    · (refine goes_seq ?_; refine goes_region ?_; apply run_step rfl; (exact stp_assign rfl rfl); apply run_step rfl; (exact stp_assign rfl rfl); refine run_nil ?_; refine fin_seq ?_; refine goes_ret ?_; refine fin_ret_then ?_)
      exact fin_ret2 (.inl rfl) rfl (.tmp rfl) (.tmp rfl) trivial trivial
    · exfalso; simp at e; omega

end Go.Proofs.Ytpognnifgcacnaa

/- Words in a table: l11Elements, elementTable, l11Lead, applied; IsIdentityWord. guards: -/
namespace Go.Proofs.Ytpognnifgcacnaa
open Go.RowKit

theorem cosTab_leads {ng : Nat} {rels ws : List (List Int)} (h : Good ng rels ws) (hf : (runC ng rels ws).2.2 = false) : Leads (cosTab ((ng : Int), rels) ws) (cosN ((ng : Int), rels) ws) := by
  refine ⟨fun k hk => cosTab_row (by rw [cosTab_len] at hk; exact hk), fun k hk x hx => ?_⟩
  rw [cosTab_len] at hk
  have hF := full_run h.rl h.wl hf
  rw [cosTab_nat]
  rw [cosN_nat] at hx ⊢
  have := tableC_entry hF hx hk
  have he : iget (lget (tableC ng (runC ng rels ws).1 (runC ng rels ws).2.1) k) x = tabC (runC ng rels ws).1 (runC ng rels ws).2.1 (numbered ng (runC ng rels ws).1 (runC ng rels ws).2.1) k x := by
    simp [tableC, lget, iget, hk, hx, tabC]
  rw [he]
  exact this
theorem smallOk_run {ng : Nat} {rels ws : List (List Int)} (hs : smallOk ((ng : Int), rels) ws = true) : (runC ng rels ws).2.2 = false ∧ cosN ((ng : Int), rels) ws ≤ 400 := by
  unfold smallOk at hs; rw [cosX_nat] at hs; simpa using hs
theorem tabLoop_grow {ng : Nat} {im : List (List Int)} {less : List Int} (hF : Full ng im less) : ∀ (f i : Nat) (s : NSt), TOK less.length less s → NGrow s (tabLoop ng im less f i s)
  | 0, _, s, _ => NGrow.refl s
  | f + 1, i, s, h => by
    unfold tabLoop
    split
    · rename_i hlt
      obtain ⟨h1, h2, _⟩ := tabRow_ok hF h hlt ng (Nat.le_refl _)
      exact NGrow.trans h2 (tabLoop_grow hF f (i + 1) _ h1)
    · exact NGrow.refl s
theorem numbered_grow {ng : Nat} {im : List (List Int)} {less : List Int} (hF : Full ng im less) : NGrow (tabStart less.length) (numbered ng im less) := tabLoop_grow hF _ _ _ (tabStart_ok hF)
theorem cosN_pos {ng : Nat} {rels ws : List (List Int)} (h : Good ng rels ws) (hf : (runC ng rels ws).2.2 = false) : 0 < cosN ((ng : Int), rels) ws := by
  rw [cosN_nat]
  have hF := full_run h.rl h.wl hf
  obtain ⟨hk, _⟩ := numbered_ok hF
  have hF0 := hF.pos
  rcases Nat.eq_zero_or_pos (numbered ng (runC ng rels ws).1 (runC ng rels ws).2.1).1.length with h0 | h0
  · exfalso
    have g1 : NGrow (tabStart (runC ng rels ws).2.1.length) (numbered ng (runC ng rels ws).1 (runC ng rels ws).2.1) := numbered_grow hF
    have := g1.len
    simp [tabStart] at this
    omega
  · exact h0

section
variable {η : Env} {ω : Own?} {w : World} {ins : List (Nm × Ch)}
end
theorem three_of {us : List Value} {u0 u1 u2 : Value} (hl : us.length = 3) (g0 : us[0]? = some u0) (g1 : us[1]? = some u1) (g2 : us[2]? = some u2) : us = [u0, u1, u2] := by
  match us, hl with
  | [p, q, r], _ => simp at g0 g1 g2; rw [g0, g1, g2]
theorem specLead_fc (T : List (List Int)) (W : List Int) (x m n : Nat) (hn : T.length = n) (hT : Leads T m) (hx : x < m) (hm4 : m ≤ 1000000) (hn4 : n ≤ 1000000) (hW : ∀ z ∈ W, 0 ≤ z ∧ z < T.length) (hWl : W.length ≤ 1000000000) :
    FC Try.prog 135 [(1005, imRo T), (1004, wRo W)] [o1 (.sl 1005 0 n), vv (I6 x), o1 (.sl 1004 0 W.length)] [] (vv (I6 (leadL T x W))) [] :=
  fc_of_calls fun w η ω us hm ⟨hl, ha⟩ => by
    subst hn
    obtain ⟨u0, g0, d0⟩ := ha 0 _ rfl
    obtain ⟨u1, g1, d1⟩ := ha 1 _ rfl
    obtain ⟨u2, g2, d2⟩ := ha 2 _ rfl
    have d1 : u1 = I6 x := d1
    subst d1
    obtain ⟨ao, c, rfl, hi⟩ := rdSS (x := 1005) (zss := T) hm rfl d0 (by omega) fun zs hz => by
      obtain ⟨j, hj, rfl⟩ := List.getElem_of_mem hz
      rw [← lget_lt hj, hT.len j hj]; omega
    obtain ⟨ao', c', rfl, hi'⟩ := rdS (x := 1004) (zs := W) hm rfl d2 (by omega)
    rw [three_of hl g0 g1 g2]
    refine (specLead_any ao _ c T ao' _ c' W x m w hi hi' hx hT hW).mono ?_
    rintro e w' ⟨rfl, rfl⟩
    exact ⟨rfl, Below.refl _ _⟩
theorem implLead_fc (T : List (List Int)) (W : List Int) (x m n : Nat) (hn : T.length = n) (hT : Leads T m) (hx : x < m) (hm4 : m ≤ 1000000) (hn4 : n ≤ 1000000) (hW : ∀ z ∈ W, 0 ≤ z ∧ z < T.length) (hWl : W.length ≤ 1000000000) :
    FC Try.prog 133 [(1005, imRo T), (1004, wRo W)] [o1 (.sl 1005 0 n), o1 (.sl 1004 0 W.length), vv (I6 x)] [] (vv (I6 (leadL T x W))) [] :=
  fc_of_calls fun w η ω us hm ⟨hl, ha⟩ => by
    subst hn
    obtain ⟨u0, g0, d0⟩ := ha 0 _ rfl
    obtain ⟨u1, g1, d1⟩ := ha 1 _ rfl
    obtain ⟨u2, g2, d2⟩ := ha 2 _ rfl
    have d2 : u2 = I6 x := d2
    subst d2
    obtain ⟨ao, c, rfl, hi⟩ := rdSS (x := 1005) (zss := T) hm rfl d0 (by omega) fun zs hz => by
      obtain ⟨j, hj, rfl⟩ := List.getElem_of_mem hz
      rw [← lget_lt hj, hT.len j hj]; omega
    obtain ⟨ao', c', rfl, hi'⟩ := rdS (x := 1004) (zs := W) hm rfl d1 (by omega)
    rw [three_of hl g0 g1 g2]
    refine (applied_any ao _ c T ao' _ c' W x m w hi hi' hx hT hW).mono ?_
    rintro e w' ⟨rfl, rfl⟩
    exact ⟨rfl, Below.refl _ _⟩
theorem specIs_fc (g : Int) (rels : List (List Int)) (h1 : Fit rels) : FC Try.prog 143 [(1003, rowsRo rels)] [pA g rels.length] [] (vv (.bool (isPres (g, rels)))) [] :=
  fc_of_calls fun w η ω us hm ⟨hl, ha⟩ => by
    obtain ⟨u0, g0, d0⟩ := ha 0 _ rfl
    have hp := rdP (x := 1003) (zss := rels) hm rfl d0 (by have := h1.1; omega) fun zs hz => by have := h1.2 zs hz; omega
    rw [one_of hl g0]
    exact spec11Is_any w hp
theorem specWord_fc (g : Int) (W : List Int) (hg0 : 0 ≤ g) (hg1 : g ≤ 1000) (hW : W.length ≤ 4398046511104) : FC Try.prog 191 [(1004, wRo W)] [vv (I6 g), o1 (.sl 1004 0 W.length)] [] (vv (.bool (isWordTo (g - 1) W))) [] :=
  fc_of_calls fun w η ω us hm ⟨hl, ha⟩ => by
    obtain ⟨u0, g0, d0⟩ := ha 0 _ rfl
    obtain ⟨u1, g1, d1⟩ := ha 1 _ rfl
    have d0 : u0 = I6 g := d0
    subst d0
    obtain ⟨ao', c', rfl, hi'⟩ := rdS (x := 1004) (zs := W) hm rfl d1 (by omega)
    rw [two_of hl g0 g1]
    refine (spec11Word_any g ao' _ c' W w hi' hg0 hg1).mono ?_
    first | (rintro e w' ⟨rfl, rfl⟩; exact ⟨rfl, Below.refl _ _⟩) | (rintro e w' ⟨rfl, hb⟩; exact ⟨rfl, hb⟩)
theorem implWord_fc (g : Int) (W : List Int) (hg0 : 0 ≤ g) (hg1 : g ≤ 1000) (hW : W.length ≤ 4398046511104) : FC Try.prog 182 [(1004, wRo W)] [o1 (.sl 1004 0 W.length), vv (I6 g)] [] (vv (.bool (isWordTo (g - 1) W))) [] :=
  fc_of_calls fun w η ω us hm ⟨hl, ha⟩ => by
    obtain ⟨u0, g0, d0⟩ := ha 0 _ rfl
    obtain ⟨u1, g1, d1⟩ := ha 1 _ rfl
    have d1 : u1 = I6 g := d1
    subst d1
    obtain ⟨ao', c', rfl, hi'⟩ := rdS (x := 1004) (zs := W) hm rfl d0 (by omega)
    rw [two_of hl g0 g1]
    refine (isLetters_any g ao' _ c' W w hi' hg0 hg1).mono ?_
    first | (rintro e w' ⟨rfl, rfl⟩; exact ⟨rfl, Below.refl _ _⟩) | (rintro e w' ⟨rfl, hb⟩; exact ⟨rfl, hb⟩)

def elOk (d : PresD) (W : List Int) : Prop := isPres d = true ∧ isWordTo (d.1 - 1) W = true ∧ smallOk d [] = true
def elC (d : PresD) (W : List Int) : Int := if isPres d = true then (if isWordTo (d.1 - 1) W = true then (if smallOk d [] = true then 0 else 3) else 2) else 1
theorem good_nil {g : Int} {rels : List (List Int)} (h : isPres (g, rels) = true) : ∃ ng : Nat, g = (ng : Int) ∧ Good ng rels [] := good_of (by rw [withOk_nil]; exact h)

set_option maxRecDepth 100000 in
set_option maxHeartbeats 1000000 in
theorem specEl_yes {ng : Nat} {rels : List (List Int)} {W : List Int} (h1 : Fit rels) (h2 : W.length ≤ 4398046511104) (hG : Good ng rels []) (hk : elOk ((ng : Int), rels) W) :
    FC Try.prog 134 [(1004, wRo W), (1003, rowsRo rels)] [pA ng rels.length, o1 (.sl 1004 0 W.length)] [(1005, imOw (cosTab ((ng : Int), rels) []))] (.tup [.one (.sl 1005 0 ng), .one (.val (I6 0))]) [] := by
  obtain ⟨k1, k2, k3⟩ := hk
  have hI := specIs_fc ng rels h1
  rw [k1] at hI
  have hW := specWord_fc ng W (by omega) (by have := hG.hi; omega) h2
  rw [k2] at hW
  have hS := (specSmall_yes hG k3).nilW
  refine fc_enter (nt := 20) Try.func134 rfl rfl (by simp) fun w0 ω0 => ?_
  (refine goes_seq ?_; refine goes_region ?_; apply run_step rfl; (exact stp_box rfl rfl rfl rfl); apply run_step rfl; (exact stp_assign rfl rfl); apply run_step rfl; (exact stp_assign rfl rfl); refine run_nil ?_; refine fin_seq ?_; refine goes_seq ?_; refine goes_block ?_; refine goes_seq ?_; refine goes_region ?_; apply run_step rfl; (exact stp_loadAgg rfl rfl rfl rfl rfl rfl (by as_aux_lemma => kernel_rfl)); apply run_step rfl; (apply call_gate 143; exact stp_callR hI (by as_aux_lemma => kernel_rfl) rfl rfl ⟨⟨.inl rfl, .inl rfl, trivial⟩, trivial⟩ ⟨⟨_, rfl, .inl rfl⟩, trivial⟩ rfl rfl); apply run_step rfl; (exact stp_not rfl rfl); apply run_step rfl; (exact stp_assign rfl rfl); refine run_nil ?_; refine fin_seq ?_)
  refine goes_cond rfl (fun e => by cases e) (fun _ => ?_)
  (refine goes_seq ?_; refine goes_region ?_; apply run_step rfl; (exact stp_fieldAddr (d := 0) rfl rfl rfl (by as_aux_lemma => kernel_rfl)); apply run_step rfl; (exact stp_loadF rfl (by as_aux_lemma => kernel_rfl) rfl rfl rfl rfl); apply run_step rfl; (exact stp_move rfl rfl); apply run_step rfl; (apply call_gate 191; exact stp_callR hW (by as_aux_lemma => kernel_rfl) rfl rfl ⟨rfl, rfl, trivial⟩ ⟨⟨_, rfl, .inl rfl⟩, trivial⟩ rfl rfl); apply run_step rfl; (exact stp_not rfl rfl); apply run_step rfl; (exact stp_assign rfl rfl); refine run_nil ?_; refine fin_seq ?_)
  refine goes_cond rfl (fun e => by cases e) (fun _ => ?_)
  (refine goes_skip ?_; refine fin_block ?_; refine fin_seq ?_; refine goes_seq ?_; refine goes_region ?_; apply run_step rfl; (exact stp_loadAgg rfl rfl rfl rfl rfl rfl (by as_aux_lemma => kernel_rfl)); apply run_step rfl; (apply call_gate 107; exact stp_callN hS (by as_aux_lemma => kernel_rfl) rfl rfl ⟨⟨.inl rfl, .inl rfl, trivial⟩, rfl, trivial⟩ ⟨⟨_, rfl, .inl rfl⟩, trivial⟩ rfl rfl rfl); apply run_step rfl; (exact stp_extract rfl rfl rfl); apply run_step rfl; (exact stp_extract rfl rfl rfl); apply run_step rfl; (exact stp_assign rfl rfl); apply run_step rfl; (exact stp_assign rfl rfl); refine run_nil ?_; refine fin_seq ?_; refine goes_ret ?_)
  exact fin_ret2 (.inl rfl) rfl (.tmp rfl) (.tmp rfl) ⟨rfl, trivial⟩ trivial
set_option maxRecDepth 100000 in
set_option maxHeartbeats 1000000 in
theorem specEl_no {g : Int} {rels : List (List Int)} {W : List Int} (h1 : Fit rels) (h2 : W.length ≤ 4398046511104) (hk : ¬ elOk (g, rels) W) :
    FC Try.prog 134 [(1004, wRo W), (1003, rowsRo rels)] [pA g rels.length, o1 (.sl 1004 0 W.length)] [] (.tup [.one (.val (.slice none 0 0)), .one (.val (I6 (elC (g, rels) W)))]) [] := by
  have hI := specIs_fc g rels h1
  refine fc_enter (nt := 20) Try.func134 rfl rfl (by simp) fun w0 ω0 => ?_
  unfold elC
  by_cases k1 : isPres (g, rels) = true
  · obtain ⟨ng, rfl, hG⟩ := good_nil k1
    rw [k1] at hI
    rw [if_pos k1]
    have hW := specWord_fc ng W (by omega) (by have := hG.hi; omega) h2
    (refine goes_seq ?_; refine goes_region ?_; apply run_step rfl; (exact stp_box rfl rfl rfl rfl); apply run_step rfl; (exact stp_assign rfl rfl); apply run_step rfl; (exact stp_assign rfl rfl); refine run_nil ?_; refine fin_seq ?_; refine goes_seq ?_; refine goes_block ?_; refine goes_seq ?_; refine goes_region ?_; apply run_step rfl; (exact stp_loadAgg rfl rfl rfl rfl rfl rfl (by as_aux_lemma => kernel_rfl)); apply run_step rfl; (apply call_gate 143; exact stp_callR hI (by as_aux_lemma => kernel_rfl) rfl rfl ⟨⟨.inl rfl, .inl rfl, trivial⟩, trivial⟩ ⟨⟨_, rfl, .inl rfl⟩, trivial⟩ rfl rfl); apply run_step rfl; (exact stp_not rfl rfl); apply run_step rfl; (exact stp_assign rfl rfl); refine run_nil ?_; refine fin_seq ?_)
    refine goes_cond rfl (fun e => by cases e) (fun _ => ?_)
    by_cases k2 : isWordTo ((ng : Int) - 1) W = true
    · rw [k2] at hW
      have k3 : ¬ smallOk ((ng : Int), rels) [] = true := fun h => hk ⟨k1, k2, h⟩
      rw [if_pos k2, if_neg k3]
      have hS := (specSmall_no hG k3).nilW
      (refine goes_seq ?_; refine goes_region ?_; apply run_step rfl; (exact stp_fieldAddr (d := 0) rfl rfl rfl (by as_aux_lemma => kernel_rfl)); apply run_step rfl; (exact stp_loadF rfl (by as_aux_lemma => kernel_rfl) rfl rfl rfl rfl); apply run_step rfl; (exact stp_move rfl rfl); apply run_step rfl; (apply call_gate 191; exact stp_callR hW (by as_aux_lemma => kernel_rfl) rfl rfl ⟨rfl, rfl, trivial⟩ ⟨⟨_, rfl, .inl rfl⟩, trivial⟩ rfl rfl); apply run_step rfl; (exact stp_not rfl rfl); apply run_step rfl; (exact stp_assign rfl rfl); refine run_nil ?_; refine fin_seq ?_)
      refine goes_cond rfl (fun e => by cases e) (fun _ => ?_)
      (refine goes_skip ?_; refine fin_block ?_; refine fin_seq ?_; refine goes_seq ?_; refine goes_region ?_; apply run_step rfl; (exact stp_loadAgg rfl rfl rfl rfl rfl rfl (by as_aux_lemma => kernel_rfl)); apply run_step rfl; (apply call_gate 107; exact stp_callR hS (by as_aux_lemma => kernel_rfl) rfl rfl ⟨⟨.inl rfl, .inl rfl, trivial⟩, rfl, trivial⟩ ⟨⟨_, rfl, .inl rfl⟩, trivial⟩ rfl rfl); apply run_step rfl; (exact stp_extract rfl rfl rfl); apply run_step rfl; (exact stp_extract rfl rfl rfl); apply run_step rfl; (exact stp_assign rfl rfl); apply run_step rfl; (exact stp_assign rfl rfl); refine run_nil ?_; refine fin_seq ?_; refine goes_ret ?_)
      exact fin_ret2 (.inl rfl) rfl (.tmp rfl) (.tmp rfl) trivial trivial
    · rw [if_neg k2]
      have k2' : isWordTo ((ng : Int) - 1) W = false := by simpa using k2
      rw [k2'] at hW
      (refine goes_seq ?_; refine goes_region ?_; apply run_step rfl; (exact stp_fieldAddr (d := 0) rfl rfl rfl (by as_aux_lemma => kernel_rfl)); apply run_step rfl; (exact stp_loadF rfl (by as_aux_lemma => kernel_rfl) rfl rfl rfl rfl); apply run_step rfl; (exact stp_move rfl rfl); apply run_step rfl; (apply call_gate 191; exact stp_callR hW (by as_aux_lemma => kernel_rfl) rfl rfl ⟨rfl, rfl, trivial⟩ ⟨⟨_, rfl, .inl rfl⟩, trivial⟩ rfl rfl); apply run_step rfl; (exact stp_not rfl rfl); apply run_step rfl; (exact stp_assign rfl rfl); refine run_nil ?_; refine fin_seq ?_)
      refine goes_cond rfl (fun _ => ?_) (fun e => by cases e)
      (refine goes_seq ?_; refine goes_region ?_; apply run_step rfl; (exact stp_assign rfl rfl); apply run_step rfl; (exact stp_assign rfl rfl); refine run_nil ?_; refine fin_seq ?_; refine goes_ret ?_; refine fin_ret_block ?_; refine fin_ret_then ?_)
      exact fin_ret2 (.inl rfl) rfl (.tmp rfl) (.tmp rfl) trivial trivial
  · have k1' : isPres (g, rels) = false := by simpa using k1
    rw [k1'] at hI
    rw [if_neg k1]
    (refine goes_seq ?_; refine goes_region ?_; apply run_step rfl; (exact stp_box rfl rfl rfl rfl); apply run_step rfl; (exact stp_assign rfl rfl); apply run_step rfl; (exact stp_assign rfl rfl); refine run_nil ?_; refine fin_seq ?_; refine goes_seq ?_; refine goes_block ?_; refine goes_seq ?_; refine goes_region ?_; apply run_step rfl; (exact stp_loadAgg rfl rfl rfl rfl rfl rfl (by as_aux_lemma => kernel_rfl)); apply run_step rfl; (apply call_gate 143; exact stp_callR hI (by as_aux_lemma => kernel_rfl) rfl rfl ⟨⟨.inl rfl, .inl rfl, trivial⟩, trivial⟩ ⟨⟨_, rfl, .inl rfl⟩, trivial⟩ rfl rfl); apply run_step rfl; (exact stp_not rfl rfl); apply run_step rfl; (exact stp_assign rfl rfl); refine run_nil ?_; refine fin_seq ?_)
    refine goes_cond rfl (fun _ => ?_) (fun e => by cases e)
    (refine goes_seq ?_; refine goes_region ?_; apply run_step rfl; (exact stp_assign rfl rfl); apply run_step rfl; (exact stp_assign rfl rfl); refine run_nil ?_; refine fin_seq ?_; refine goes_ret ?_; refine fin_ret_block ?_; refine fin_ret_then ?_)
    exact fin_ret2 (.inl rfl) rfl (.tmp rfl) (.tmp rfl) trivial trivial

set_option maxRecDepth 100000 in
set_option maxHeartbeats 1000000 in
theorem implEl_yes {ng : Nat} {rels : List (List Int)} {W : List Int} (h1 : Fit rels) (h2 : W.length ≤ 4398046511104) (hG : Good ng rels []) (hk : elOk ((ng : Int), rels) W) :
    FC Try.prog 132 [(1004, wRo W), (1003, rowsRo rels)] [pA ng rels.length, o1 (.sl 1004 0 W.length)] [(1005, imOw (cosTab ((ng : Int), rels) []))] (.tup [.one (.sl 1005 0 ng), .one (.val (I6 0))]) [] := by
  obtain ⟨k1, k2, k3⟩ := hk
  have hI := isPres_fc ng rels h1
  rw [k1] at hI
  have hW := implWord_fc ng W (by omega) (by have := hG.hi; omega) h2
  rw [k2] at hW
  have hS := (implSmall_yes hG k3).nilW
  refine fc_enter (nt := 20) Try.func132 rfl rfl (by simp) fun w0 ω0 => ?_
  (refine goes_seq ?_; refine goes_region ?_; apply run_step rfl; (exact stp_box rfl rfl rfl rfl); apply run_step rfl; (exact stp_assign rfl rfl); apply run_step rfl; (exact stp_assign rfl rfl); refine run_nil ?_; refine fin_seq ?_; refine goes_seq ?_; refine goes_block ?_; refine goes_seq ?_; refine goes_region ?_; apply run_step rfl; (exact stp_loadAgg rfl rfl rfl rfl rfl rfl (by as_aux_lemma => kernel_rfl)); apply run_step rfl; (apply call_gate 137; exact stp_callR hI (by as_aux_lemma => kernel_rfl) rfl rfl ⟨⟨.inl rfl, .inl rfl, trivial⟩, trivial⟩ ⟨⟨_, rfl, .inl rfl⟩, trivial⟩ rfl rfl); apply run_step rfl; (exact stp_not rfl rfl); apply run_step rfl; (exact stp_assign rfl rfl); refine run_nil ?_; refine fin_seq ?_)
  refine goes_cond rfl (fun e => by cases e) (fun _ => ?_)
  (refine goes_seq ?_; refine goes_region ?_; apply run_step rfl; (exact stp_move rfl rfl); apply run_step rfl; (exact stp_fieldAddr (d := 0) rfl rfl rfl (by as_aux_lemma => kernel_rfl)); apply run_step rfl; (exact stp_loadF rfl (by as_aux_lemma => kernel_rfl) rfl rfl rfl rfl); apply run_step rfl; (apply call_gate 182; exact stp_callR hW (by as_aux_lemma => kernel_rfl) rfl rfl ⟨rfl, rfl, trivial⟩ ⟨⟨_, rfl, .inl rfl⟩, trivial⟩ rfl rfl); apply run_step rfl; (exact stp_not rfl rfl); apply run_step rfl; (exact stp_assign rfl rfl); refine run_nil ?_; refine fin_seq ?_)
  refine goes_cond rfl (fun e => by cases e) (fun _ => ?_)
  (refine goes_skip ?_; refine fin_block ?_; refine fin_seq ?_; refine goes_seq ?_; refine goes_region ?_; apply run_step rfl; (exact stp_loadAgg rfl rfl rfl rfl rfl rfl (by as_aux_lemma => kernel_rfl)); apply run_step rfl; (apply call_gate 113; exact stp_callN hS (by as_aux_lemma => kernel_rfl) rfl rfl ⟨⟨.inl rfl, .inl rfl, trivial⟩, rfl, trivial⟩ ⟨⟨_, rfl, .inl rfl⟩, trivial⟩ rfl rfl rfl); apply run_step rfl; (exact stp_extract rfl rfl rfl); apply run_step rfl; (exact stp_extract rfl rfl rfl); apply run_step rfl; (exact stp_assign rfl rfl); apply run_step rfl; (exact stp_assign rfl rfl); refine run_nil ?_; refine fin_seq ?_; refine goes_ret ?_)
  exact fin_ret2 (.inl rfl) rfl (.tmp rfl) (.tmp rfl) ⟨rfl, trivial⟩ trivial
set_option maxRecDepth 100000 in
set_option maxHeartbeats 1000000 in
theorem implEl_no {g : Int} {rels : List (List Int)} {W : List Int} (h1 : Fit rels) (h2 : W.length ≤ 4398046511104) (hk : ¬ elOk (g, rels) W) :
    FC Try.prog 132 [(1004, wRo W), (1003, rowsRo rels)] [pA g rels.length, o1 (.sl 1004 0 W.length)] [] (.tup [.one (.val (.slice none 0 0)), .one (.val (I6 (elC (g, rels) W)))]) [] := by
  have hI := isPres_fc g rels h1
  refine fc_enter (nt := 20) Try.func132 rfl rfl (by simp) fun w0 ω0 => ?_
  unfold elC
  by_cases k1 : isPres (g, rels) = true
  · obtain ⟨ng, rfl, hG⟩ := good_nil k1
    rw [k1] at hI
    rw [if_pos k1]
    have hW := implWord_fc ng W (by omega) (by have := hG.hi; omega) h2
    (refine goes_seq ?_; refine goes_region ?_; apply run_step rfl; (exact stp_box rfl rfl rfl rfl); apply run_step rfl; (exact stp_assign rfl rfl); apply run_step rfl; (exact stp_assign rfl rfl); refine run_nil ?_; refine fin_seq ?_; refine goes_seq ?_; refine goes_block ?_; refine goes_seq ?_; refine goes_region ?_; apply run_step rfl; (exact stp_loadAgg rfl rfl rfl rfl rfl rfl (by as_aux_lemma => kernel_rfl)); apply run_step rfl; (apply call_gate 137; exact stp_callR hI (by as_aux_lemma => kernel_rfl) rfl rfl ⟨⟨.inl rfl, .inl rfl, trivial⟩, trivial⟩ ⟨⟨_, rfl, .inl rfl⟩, trivial⟩ rfl rfl); apply run_step rfl; (exact stp_not rfl rfl); apply run_step rfl; (exact stp_assign rfl rfl); refine run_nil ?_; refine fin_seq ?_)
    refine goes_cond rfl (fun e => by cases e) (fun _ => ?_)
    by_cases k2 : isWordTo ((ng : Int) - 1) W = true
    · rw [k2] at hW
      have k3 : ¬ smallOk ((ng : Int), rels) [] = true := fun h => hk ⟨k1, k2, h⟩
      rw [if_pos k2, if_neg k3]
      have hS := (implSmall_no hG k3).nilW
      (refine goes_seq ?_; refine goes_region ?_; apply run_step rfl; (exact stp_move rfl rfl); apply run_step rfl; (exact stp_fieldAddr (d := 0) rfl rfl rfl (by as_aux_lemma => kernel_rfl)); apply run_step rfl; (exact stp_loadF rfl (by as_aux_lemma => kernel_rfl) rfl rfl rfl rfl); apply run_step rfl; (apply call_gate 182; exact stp_callR hW (by as_aux_lemma => kernel_rfl) rfl rfl ⟨rfl, rfl, trivial⟩ ⟨⟨_, rfl, .inl rfl⟩, trivial⟩ rfl rfl); apply run_step rfl; (exact stp_not rfl rfl); apply run_step rfl; (exact stp_assign rfl rfl); refine run_nil ?_; refine fin_seq ?_)
      refine goes_cond rfl (fun e => by cases e) (fun _ => ?_)
      (refine goes_skip ?_; refine fin_block ?_; refine fin_seq ?_; refine goes_seq ?_; refine goes_region ?_; apply run_step rfl; (exact stp_loadAgg rfl rfl rfl rfl rfl rfl (by as_aux_lemma => kernel_rfl)); apply run_step rfl; (apply call_gate 113; exact stp_callR hS (by as_aux_lemma => kernel_rfl) rfl rfl ⟨⟨.inl rfl, .inl rfl, trivial⟩, rfl, trivial⟩ ⟨⟨_, rfl, .inl rfl⟩, trivial⟩ rfl rfl); apply run_step rfl; (exact stp_extract rfl rfl rfl); apply run_step rfl; (exact stp_extract rfl rfl rfl); apply run_step rfl; (exact stp_assign rfl rfl); apply run_step rfl; (exact stp_assign rfl rfl); refine run_nil ?_; refine fin_seq ?_; refine goes_ret ?_)
      exact fin_ret2 (.inl rfl) rfl (.tmp rfl) (.tmp rfl) trivial trivial
    · rw [if_neg k2]
      have k2' : isWordTo ((ng : Int) - 1) W = false := by simpa using k2
      rw [k2'] at hW
      (refine goes_seq ?_; refine goes_region ?_; apply run_step rfl; (exact stp_move rfl rfl); apply run_step rfl; (exact stp_fieldAddr (d := 0) rfl rfl rfl (by as_aux_lemma => kernel_rfl)); apply run_step rfl; (exact stp_loadF rfl (by as_aux_lemma => kernel_rfl) rfl rfl rfl rfl); apply run_step rfl; (apply call_gate 182; exact stp_callR hW (by as_aux_lemma => kernel_rfl) rfl rfl ⟨rfl, rfl, trivial⟩ ⟨⟨_, rfl, .inl rfl⟩, trivial⟩ rfl rfl); apply run_step rfl; (exact stp_not rfl rfl); apply run_step rfl; (exact stp_assign rfl rfl); refine run_nil ?_; refine fin_seq ?_)
      refine goes_cond rfl (fun _ => ?_) (fun e => by cases e)
      (refine goes_seq ?_; refine goes_region ?_; apply run_step rfl; (exact stp_assign rfl rfl); apply run_step rfl; (exact stp_assign rfl rfl); refine run_nil ?_; refine fin_seq ?_; refine goes_ret ?_; refine fin_ret_block ?_; refine fin_ret_then ?_)
      exact fin_ret2 (.inl rfl) rfl (.tmp rfl) (.tmp rfl) trivial trivial
  · have k1' : isPres (g, rels) = false := by simpa using k1
    rw [k1'] at hI
    rw [if_neg k1]
    (refine goes_seq ?_; refine goes_region ?_; apply run_step rfl; (exact stp_box rfl rfl rfl rfl); apply run_step rfl; (exact stp_assign rfl rfl); apply run_step rfl; (exact stp_assign rfl rfl); refine run_nil ?_; refine fin_seq ?_; refine goes_seq ?_; refine goes_block ?_; refine goes_seq ?_; refine goes_region ?_; apply run_step rfl; (exact stp_loadAgg rfl rfl rfl rfl rfl rfl (by as_aux_lemma => kernel_rfl)); apply run_step rfl; (apply call_gate 137; exact stp_callR hI (by as_aux_lemma => kernel_rfl) rfl rfl ⟨⟨.inl rfl, .inl rfl, trivial⟩, trivial⟩ ⟨⟨_, rfl, .inl rfl⟩, trivial⟩ rfl rfl); apply run_step rfl; (exact stp_not rfl rfl); apply run_step rfl; (exact stp_assign rfl rfl); refine run_nil ?_; refine fin_seq ?_)
    refine goes_cond rfl (fun _ => ?_) (fun e => by cases e)
    (refine goes_seq ?_; refine goes_region ?_; apply run_step rfl; (exact stp_assign rfl rfl); apply run_step rfl; (exact stp_assign rfl rfl); refine run_nil ?_; refine fin_seq ?_; refine goes_ret ?_; refine fin_ret_block ?_; refine fin_ret_then ?_)
    exact fin_ret2 (.inl rfl) rfl (.tmp rfl) (.tmp rfl) trivial trivial

def idR (d : PresD) (W : List Int) : Bool := if elC d W = 0 then leadL (cosTab d []) 0 W == 0 else false
theorem elC_ok {d : PresD} {W : List Int} (h : elOk d W) : elC d W = 0 := by unfold elC; rw [if_pos h.1, if_pos h.2.1, if_pos h.2.2]
theorem elC_no {d : PresD} {W : List Int} (h : ¬ elOk d W) : elC d W ≠ 0 := by
  unfold elC
  split
  · split
    · split
      · exact fun _ => h ⟨by assumption, by assumption, by assumption⟩
      · decide
    · decide
  · decide
theorem word_of {ng : Nat} {rels : List (List Int)} {W : List Int} (hk : elOk ((ng : Int), rels) W) : (∀ z ∈ W, 0 ≤ z ∧ z < (cosTab ((ng : Int), rels) []).length) ∧ W.length ≤ 1000000000 := by
  have := isWordTo_spec (ng := ng) rfl hk.2.1
  refine ⟨fun z hz => ?_, by omega⟩
  rw [cosTab_len]; exact this.1 z hz
set_option maxRecDepth 100000 in
set_option maxHeartbeats 1000000 in
theorem specId_fc (g : Int) (rels : List (List Int)) (W : List Int) (h1 : Fit rels) (h2 : W.length ≤ 4398046511104) :
    FC Try.prog 55 [(1004, wRo W), (1003, rowsRo rels)] [pA g rels.length, o1 (.sl 1004 0 W.length)] [] (.tup [.one (.val (.bool (idR (g, rels) W))), .one (.val (I6 (elC (g, rels) W)))]) [] := by
  refine fc_enter (nt := 21) Try.func55 rfl rfl (by simp) fun w0 ω0 => ?_
  by_cases hk : elOk (g, rels) W
  · obtain ⟨ng, rfl, hG⟩ := good_nil hk.1
    have hE := specEl_yes h1 h2 hG hk
    have hs := smallOk_run hk.2.2
    have hw := word_of hk
    have hL : FC Try.prog 135 [(1005, imRo (cosTab ((ng : Int), rels) [])), (1004, wRo W)] [o1 (.sl 1005 0 ng), vv (I6 (0 : Nat)), o1 (.sl 1004 0 W.length)] [] (vv (I6 (leadL (cosTab ((ng : Int), rels) []) (0 : Nat) W))) [] :=
      specLead_fc _ W 0 _ ng (cosTab_len _ _ _) (cosTab_leads hG hs.1) (cosN_pos hG hs.1) (by omega) (by have := hG.hi; omega) hw.1 hw.2
    have hc := elC_ok hk
    unfold idR
    rw [hc, if_pos rfl]
    generalize cosTab ((ng : Int), rels) [] = T at *
    (refine goes_seq ?_; refine goes_region ?_; apply run_step rfl; (exact stp_box rfl rfl rfl rfl); apply run_step rfl; (exact stp_assign rfl rfl); apply run_step rfl; (exact stp_assign rfl rfl); refine run_nil ?_; refine fin_seq ?_; refine goes_seq ?_; refine goes_region ?_; apply run_step rfl; (exact stp_loadAgg rfl rfl rfl rfl rfl rfl (by as_aux_lemma => kernel_rfl)); apply run_step rfl; (exact stp_move rfl rfl); apply run_step rfl; (apply call_gate 134; exact stp_callN hE (by as_aux_lemma => kernel_rfl) rfl rfl ⟨⟨.inl rfl, .inl rfl, trivial⟩, rfl, trivial⟩ ⟨⟨_, rfl, .inl rfl⟩, ⟨_, rfl, .inl rfl⟩, trivial⟩ rfl rfl rfl); apply run_step rfl; (exact stp_move rfl rfl); apply run_step rfl; (exact stp_extract rfl rfl rfl); apply run_step rfl; (exact stp_extract rfl rfl rfl); apply run_step rfl; (exact stp_assign rfl rfl); apply run_step rfl; (exact stp_assign rfl rfl); refine run_nil ?_; refine fin_seq ?_; refine goes_seq ?_; refine goes_seq ?_; refine goes_region ?_; apply run_step rfl; (exact stp_move rfl rfl); apply run_step rfl; (exact stp_bin rfl rfl rfl rfl); refine run_nil ?_; refine fin_seq ?_)
    refine goes_cond rfl (fun e => by cases e) (fun _ => ?_)
    (refine goes_skip ?_; refine fin_seq ?_; refine goes_seq ?_; refine goes_region ?_; apply run_step rfl; (exact stp_move rfl rfl); apply run_step rfl; (exact stp_move rfl rfl); apply run_step rfl; (apply call_gate 135; exact stp_callR hL (by as_aux_lemma => kernel_rfl) rfl rfl ⟨rfl, rfl, rfl, trivial⟩ ⟨⟨_, rfl, .inr rfl⟩, ⟨_, rfl, .inl rfl⟩, trivial⟩ rfl rfl); apply run_step rfl; (exact stp_bin rfl rfl rfl rfl); apply run_step rfl; (exact stp_assign rfl rfl); apply run_step rfl; (exact stp_assign rfl rfl); refine run_nil ?_; refine fin_seq ?_; refine goes_ret ?_)
    exact fin_ret2 (.inl rfl) rfl (.tmp rfl) (.tmp rfl) trivial trivial
  · have hE := specEl_no h1 h2 hk
    have hc := elC_no hk
    unfold idR
    rw [if_neg hc]
    (refine goes_seq ?_; refine goes_region ?_; apply run_step rfl; (exact stp_box rfl rfl rfl rfl); apply run_step rfl; (exact stp_assign rfl rfl); apply run_step rfl; (exact stp_assign rfl rfl); refine run_nil ?_; refine fin_seq ?_; refine goes_seq ?_; refine goes_region ?_; apply run_step rfl; (exact stp_loadAgg rfl rfl rfl rfl rfl rfl (by as_aux_lemma => kernel_rfl)); apply run_step rfl; (exact stp_move rfl rfl); apply run_step rfl; (apply call_gate 134; exact stp_callR hE (by as_aux_lemma => kernel_rfl) rfl rfl ⟨⟨.inl rfl, .inl rfl, trivial⟩, rfl, trivial⟩ ⟨⟨_, rfl, .inl rfl⟩, ⟨_, rfl, .inl rfl⟩, trivial⟩ rfl rfl); apply run_step rfl; (exact stp_move rfl rfl); apply run_step rfl; (exact stp_extract rfl rfl rfl); apply run_step rfl; (exact stp_extract rfl rfl rfl); apply run_step rfl; (exact stp_assign rfl rfl); apply run_step rfl; (exact stp_assign rfl rfl); refine run_nil ?_; refine fin_seq ?_; refine goes_seq ?_; refine goes_seq ?_; refine goes_region ?_; apply run_step rfl; (exact stp_move rfl rfl); apply run_step rfl; (exact stp_bin rfl rfl rfl rfl); refine run_nil ?_; refine fin_seq ?_)
    refine goes_cond rfl (fun _ => ?_) (fun e => ?_)
    · (refine goes_seq ?_; refine goes_region ?_; apply run_step rfl; (exact stp_move rfl rfl); apply run_step rfl; (exact stp_assign rfl rfl); apply run_step rfl; (exact stp_assign rfl rfl); refine run_nil ?_; refine fin_seq ?_; refine goes_ret ?_; refine fin_ret_then ?_)
      exact fin_ret2 (.inl rfl) rfl (.tmp rfl) (.tmp rfl) trivial trivial
    · exfalso; simp at e; exact hc e
set_option maxRecDepth 100000 in
set_option maxHeartbeats 1000000 in
theorem implId_fc (g : Int) (rels : List (List Int)) (W : List Int) (h1 : Fit rels) (h2 : W.length ≤ 4398046511104) :
    FC Try.prog 54 [(1004, wRo W), (1003, rowsRo rels)] [pA g rels.length, o1 (.sl 1004 0 W.length)] [] (.tup [.one (.val (.bool (idR (g, rels) W))), .one (.val (I6 (elC (g, rels) W)))]) [] := by
  refine fc_enter (nt := 23) Try.func54 rfl rfl (by simp) fun w0 ω0 => ?_
  by_cases hk : elOk (g, rels) W
  · obtain ⟨ng, rfl, hG⟩ := good_nil hk.1
    have hE := implEl_yes h1 h2 hG hk
    have hs := smallOk_run hk.2.2
    have hw := word_of hk
    have hL : FC Try.prog 133 [(1005, imRo (cosTab ((ng : Int), rels) [])), (1004, wRo W)] [o1 (.sl 1005 0 ng), o1 (.sl 1004 0 W.length), vv (I6 (0 : Nat))] [] (vv (I6 (leadL (cosTab ((ng : Int), rels) []) (0 : Nat) W))) [] :=
      implLead_fc _ W 0 _ ng (cosTab_len _ _ _) (cosTab_leads hG hs.1) (cosN_pos hG hs.1) (by omega) (by have := hG.hi; omega) hw.1 hw.2
    have hc := elC_ok hk
    unfold idR
    rw [hc, if_pos rfl]
    generalize cosTab ((ng : Int), rels) [] = T at *
    (refine goes_seq ?_; refine goes_region ?_; apply run_step rfl; (exact stp_box rfl rfl rfl rfl); apply run_step rfl; (exact stp_assign rfl rfl); apply run_step rfl; (exact stp_assign rfl rfl); refine run_nil ?_; refine fin_seq ?_; refine goes_seq ?_; refine goes_region ?_; apply run_step rfl; (exact stp_loadAgg rfl rfl rfl rfl rfl rfl (by as_aux_lemma => kernel_rfl)); apply run_step rfl; (exact stp_move rfl rfl); apply run_step rfl; (first | (apply call_gate 132; exact stp_callN hE (by as_aux_lemma => kernel_rfl) rfl rfl ⟨⟨.inl rfl, .inl rfl, trivial⟩, rfl, trivial⟩ ⟨⟨_, rfl, .inl rfl⟩, ⟨_, rfl, .inl rfl⟩, trivial⟩ rfl rfl rfl) | (apply call_gate 133; exact stp_callR hL (by as_aux_lemma => kernel_rfl) rfl rfl ⟨rfl, rfl, rfl, trivial⟩ ⟨⟨_, rfl, .inr rfl⟩, ⟨_, rfl, .inl rfl⟩, trivial⟩ rfl rfl)); apply run_step rfl; (exact stp_move rfl rfl); apply run_step rfl; (exact stp_extract rfl rfl rfl); apply run_step rfl; (exact stp_extract rfl rfl rfl); apply run_step rfl; (exact stp_assign rfl rfl); apply run_step rfl; (exact stp_assign rfl rfl); refine run_nil ?_; refine fin_seq ?_; refine goes_seq ?_; refine goes_region ?_; apply run_step rfl; (exact stp_move rfl rfl); apply run_step rfl; (exact stp_bin rfl rfl rfl rfl); apply run_step rfl; (exact stp_move rfl rfl); apply run_gYes rfl rfl rfl; (exact stp_move rfl rfl); apply run_gYes rfl rfl rfl; (exact stp_move rfl rfl); apply run_gYes rfl rfl rfl; (first | (apply call_gate 132; exact stp_callN hE (by as_aux_lemma => kernel_rfl) rfl rfl ⟨⟨.inl rfl, .inl rfl, trivial⟩, rfl, trivial⟩ ⟨⟨_, rfl, .inl rfl⟩, ⟨_, rfl, .inl rfl⟩, trivial⟩ rfl rfl rfl) | (apply call_gate 133; exact stp_callR hL (by as_aux_lemma => kernel_rfl) rfl rfl ⟨rfl, rfl, rfl, trivial⟩ ⟨⟨_, rfl, .inr rfl⟩, ⟨_, rfl, .inl rfl⟩, trivial⟩ rfl rfl)); apply run_gYes rfl rfl rfl; (exact stp_bin rfl rfl rfl rfl); apply run_step rfl; (exact stp_pickT rfl rfl rfl); apply run_step rfl; (exact stp_move rfl rfl); apply run_step rfl; (exact stp_assign rfl rfl); apply run_step rfl; (exact stp_assign rfl rfl); refine run_nil ?_; refine fin_seq ?_; refine goes_ret ?_)
    exact fin_ret2 (.inl rfl) rfl (.tmp rfl) (.tmp rfl) trivial trivial
  · have hE := implEl_no h1 h2 hk
    have hc := elC_no hk
    unfold idR
    rw [if_neg hc]
    (refine goes_seq ?_; refine goes_region ?_; apply run_step rfl; (exact stp_box rfl rfl rfl rfl); apply run_step rfl; (exact stp_assign rfl rfl); apply run_step rfl; (exact stp_assign rfl rfl); refine run_nil ?_; refine fin_seq ?_; refine goes_seq ?_; refine goes_region ?_; apply run_step rfl; (exact stp_loadAgg rfl rfl rfl rfl rfl rfl (by as_aux_lemma => kernel_rfl)); apply run_step rfl; (exact stp_move rfl rfl); apply run_step rfl; (apply call_gate 132; exact stp_callR hE (by as_aux_lemma => kernel_rfl) rfl rfl ⟨⟨.inl rfl, .inl rfl, trivial⟩, rfl, trivial⟩ ⟨⟨_, rfl, .inl rfl⟩, ⟨_, rfl, .inl rfl⟩, trivial⟩ rfl rfl); apply run_step rfl; (exact stp_move rfl rfl); apply run_step rfl; (exact stp_extract rfl rfl rfl); apply run_step rfl; (exact stp_extract rfl rfl rfl); apply run_step rfl; (exact stp_assign rfl rfl); apply run_step rfl; (exact stp_assign rfl rfl); refine run_nil ?_; refine fin_seq ?_; refine goes_seq ?_; refine goes_region ?_; apply run_step rfl; (exact stp_move rfl rfl); apply run_step rfl; (exact stp_bin rfl rfl rfl rfl); apply run_step rfl; (exact stp_move rfl rfl))
    refine run_bool 16 rfl (fun e => ?_) (fun e => ?_)
    · exfalso; simp at e; exact hc e
    · (apply run_gNo rfl rfl rfl rfl rfl; apply run_gNo rfl rfl rfl rfl rfl; apply run_gNo rfl rfl rfl rfl rfl; apply run_gNo rfl rfl rfl rfl rfl; apply run_step rfl; (exact stp_pickF rfl rfl rfl); apply run_step rfl; (exact stp_move rfl rfl); apply run_step rfl; (exact stp_assign rfl rfl); apply run_step rfl; (exact stp_assign rfl rfl); refine run_nil ?_; refine fin_seq ?_; refine goes_ret ?_)
      exact fin_ret2 (.inl rfl) rfl (.tmp rfl) (.tmp rfl) trivial trivial

/-! in words -/
theorem len_of {E : Nat} {w : World} {lo hi : Nat} {v : Value} {zs : List Int} (h : OwnS E w lo hi v zs) : zs.length ≤ 4398046511104 := by
  obtain ⟨⟨ao, n, c, rfl, ho⟩, _⟩ := h
  have h1 := ho.len
  rw [List.length_map] at h1
  have h2 := ho.2
  omega
theorem callPS {f : FuncId} {outs : List (Nm × Ch)} {res : AV} {d : PresD} {W : List Int} (hf : Fit d.2 → W.length ≤ 4398046511104 → FC Try.prog f [(1004, wRo W), (1003, rowsRo d.2)] [pA d.1 d.2.length, o1 (.sl 1004 0 W.length)] outs res []) {E1 E E' : Nat} {w : World} {lo hi lo' hi' : Nat} {v v' : Value} (h : OwP E1 E w lo hi v d) (h' : OwnS E' w lo' hi' v' W) :
    Calls Try.prog f #[v, v'] w fun e w' => ∃ v η ω, e = .returned v ∧ Den η res v ∧ Mem η ω w' (fun x => lk x outs) ∧ Below w.heap.size w w' ∧ ∀ b, b < w.heap.size → ω b = none := by
  obtain ⟨u, rfl, hs⟩ := ofP h
  obtain ⟨hd, r, rfl, hv⟩ := ofSS 1003 49 2 hs
  obtain ⟨hd', r', rfl, hv'⟩ := ofS 1004 2 h'.1
  exact (hf (fit_of hs) (len_of h')).call (l := [(1004, (wRo W, hd', r')), (1003, (rowsRo d.2, hd, r))]) (us := [_, _]) (fun p hp => by simp at hp; rcases hp with rfl | rfl; exact hv'; exact hv) rfl
    (denL2 (denP (den_sl (q := (rowsRo d.2, hd, r)) rfl)) (den_sl (q := (wRo W, hd', r')) rfl))
theorem api_specId {E1 E E' : Nat} {lo hi lo' hi' : Nat} {v v' : Value} {d : PresD} {W : List Int} (w : World) (h : OwP E1 E w lo hi v d) (h' : OwnS E' w lo' hi' v' W) :
    Calls Try.prog 55 #[v, v'] w fun e w' => e = .returned (.tuple #[.bool (idR d W), .int .i64 (elC d W)]) ∧ Below w.heap.size w w' := two_vals (callPS (fun k1 k2 => specId_fc d.1 d.2 W k1 k2) h h')
theorem api_implId {E1 E E' : Nat} {lo hi lo' hi' : Nat} {v v' : Value} {d : PresD} {W : List Int} (w : World) (h : OwP E1 E w lo hi v d) (h' : OwnS E' w lo' hi' v' W) :
    Calls Try.prog 54 #[v, v'] w fun e w' => e = .returned (.tuple #[.bool (idR d W), .int .i64 (elC d W)]) ∧ Below w.heap.size w w' := two_vals (callPS (fun k1 k2 => implId_fc d.1 d.2 W k1 k2) h h')
end Go.Proofs.Ytpognnifgcacnaa

/- Orders of words: l11Order, periodOf; OrderOfElement. -/
namespace Go.Proofs.Ytpognnifgcacnaa
open Go.RowKit

/-- where a word leads 0, k times -/
def orbN (T : List (List Int)) (W : List Int) : Nat → Nat
  | 0 => 0
  | k + 1 => (leadL T (orbN T W k : Nat) W).toNat
section
variable {T : List (List Int)} {W : List Int} {m : Nat}
theorem orbN_lt (hT : Leads T m) (hm : 0 < m) (hW : ∀ z ∈ W, 0 ≤ z ∧ z < T.length) : ∀ k, orbN T W k < m
  | 0 => hm
  | k + 1 => by
    have := orbN_lt hT hm hW k
    have := hT.lead (c := (orbN T W k : Nat)) (by omega) hW
    unfold orbN; omega
theorem orbN_lead (hT : Leads T m) (hm : 0 < m) (hW : ∀ z ∈ W, 0 ≤ z ∧ z < T.length) (k : Nat) : leadL T (orbN T W k : Nat) W = (orbN T W (k + 1) : Nat) := by
  have := orbN_lt hT hm hW k
  have := hT.lead (c := (orbN T W k : Nat)) (by omega) hW
  show _ = (((leadL T (orbN T W k : Nat) W).toNat : Nat) : Int)
  omega
theorem orbN_back (hT : Leads T m) (hI : Invol T m) (hm : 0 < m) (hW : ∀ z ∈ W, 0 ≤ z ∧ z < T.length) : ∀ i d, orbN T W i = orbN T W (i + d) → orbN T W d = 0
  | 0, d, h => by rw [Nat.zero_add] at h; exact h.symm
  | i + 1, d, h => by
    have h1 := orbN_lt hT hm hW i
    have h2 := orbN_lt hT hm hW (i + d)
    have e : leadL T (orbN T W i : Nat) W = leadL T (orbN T W (i + d) : Nat) W := by
      rw [orbN_lead hT hm hW, orbN_lead hT hm hW, h, show i + d + 1 = i + 1 + d by omega]
    have := leadL_inj hT hI W hW _ _ (by omega) (by omega) e
    exact orbN_back hT hI hm hW i d (by omega)
end
theorem pigeon : ∀ (m n : Nat) (f : Nat → Nat), (∀ i, i < n → f i < m) → (∀ i j, i < n → j < n → f i = f j → i = j) → n ≤ m
  | 0, n, f, h, _ => by
    rcases Nat.eq_zero_or_pos n with e | e
    · omega
    · have := h 0 e; omega
  | m + 1, 0, f, _, _ => Nat.zero_le _
  | m + 1, n + 1, f, h, hi => by
    have := pigeon m n (fun i => if f i = m then f n else f i) (fun i hin => by
      have h1 := h i (by omega)
      have h2 := h n (by omega)
      have h3 := hi i n (by omega) (by omega)
      split <;> omega) (fun i j hin hjn e => by
      have h3 := hi i n (by omega) (by omega)
      have h4 := hi j n (by omega) (by omega)
      have h5 := hi i j (by omega) (by omega)
      split at e <;> split at e <;> omega)
    omega
def ordR (T : List (List Int)) (W : List Int) (m : Nat) : Int := match (List.range m).find? (fun k => orbN T W (k + 1) == 0) with
  | some k => ((k + 1 : Nat) : Int)
  | none => 0
theorem ord_spec {T : List (List Int)} {W : List Int} {m : Nat} (hT : Leads T m) (hI : Invol T m) (hm : 0 < m) (hW : ∀ z ∈ W, 0 ≤ z ∧ z < T.length) : ∃ p : Nat, ordR T W m = (p : Int) ∧ 1 ≤ p ∧ p ≤ m ∧ orbN T W p = 0 ∧ ∀ j, 1 ≤ j → j < p → orbN T W j ≠ 0 := by
  unfold ordR
  cases hf : (List.range m).find? (fun k => orbN T W (k + 1) == 0) with
  | some k =>
    rw [List.find?_range_eq_some] at hf
    obtain ⟨h1, h2, h3⟩ := hf
    rw [List.mem_range] at h2
    refine ⟨k + 1, rfl, by omega, by omega, by simpa using h1, fun j hj hjk => ?_⟩
    have := h3 (j - 1) (by omega)
    rw [show j - 1 + 1 = j by omega] at this
    simpa using this
  | none =>
    exfalso
    rw [List.find?_eq_none] at hf
    have hne : ∀ d, 1 ≤ d → d ≤ m → orbN T W d ≠ 0 := fun d h1 h2 => by
      have := hf (d - 1) (List.mem_range.2 (by omega))
      rw [show d - 1 + 1 = d by omega] at this
      simpa using this
    have := pigeon m (m + 1) (orbN T W) (fun i _ => orbN_lt hT hm hW i) (fun i j hi hj e => by
      rcases Nat.lt_trichotomy i j with h | h | h
      · exact absurd (orbN_back hT hI hm hW i (j - i) (by rw [show i + (j - i) = j by omega]; exact e)) (hne _ (by omega) (by omega))
      · exact h
      · exact absurd (orbN_back hT hI hm hW j (i - j) (by rw [show j + (i - j) = i by omega]; exact e.symm)) (hne _ (by omega) (by omega)))
    omega
theorem cosTab_invol {ng : Nat} {rels ws : List (List Int)} (h : Good ng rels ws) (hf : (runC ng rels ws).2.2 = false) : Invol (cosTab ((ng : Int), rels) ws) (cosN ((ng : Int), rels) ws) := fun k hk x hx => by
  rw [cosTab_len] at hk
  have hF := full_run h.rl h.wl hf
  rw [cosTab_nat]
  rw [cosN_nat] at hx
  have hr := tableC_entry hF hx hk
  have hb := tEnt_back hF (runC_back h.rl h.wl).2 hx hk
  have he : ∀ y, y < (numbered ng (runC ng rels ws).1 (runC ng rels ws).2.1).1.length → iget (lget (tableC ng (runC ng rels ws).1 (runC ng rels ws).2.1) k) y = tEnt ng (runC ng rels ws).1 (runC ng rels ws).2.1 y k := fun y hy => by
    simp [tableC, lget, iget, hk, hy, tEnt]
  have hr : 0 ≤ tEnt ng (runC ng rels ws).1 (runC ng rels ws).2.1 x k ∧ tEnt ng (runC ng rels ws).1 (runC ng rels ws).2.1 x k < _ := hr
  rw [he x hx, he _ (by omega)]
  exact hb

set_option maxRecDepth 100000 in
set_option maxHeartbeats 1000000 in
theorem implOrder_fc (T : List (List Int)) (W : List Int) (m n : Nat) (hn : T.length = n) (hT : Leads T m) (hI : Invol T m) (hm : 0 < m) (hm4 : m ≤ 1000000) (hn4 : n ≤ 1000000) (hW : ∀ z ∈ W, 0 ≤ z ∧ z < T.length) (hWl : W.length ≤ 1000000000) :
    FC Try.prog 136 [(1005, imRo T), (1004, wRo W)] [o1 (.sl 1005 0 n), o1 (.sl 1004 0 W.length)] [] (vv (I6 (ordR T W m))) [] := by
  obtain ⟨p, hp0, hp1, hp2, hp3, hp4⟩ := ord_spec hT hI hm hW
  have hL : ∀ k, FC Try.prog 133 [(1005, imRo T), (1004, wRo W)] [o1 (.sl 1005 0 n), o1 (.sl 1004 0 W.length), vv (I6 (orbN T W k : Nat))] [] (vv (I6 (orbN T W (k + 1) : Nat))) [] := fun k => by
    have := implLead_fc T W (orbN T W k) m n hn hT (orbN_lt hT hm hW k) hm4 hn4 hW hWl
    rwa [orbN_lead hT hm hW] at this
  have hL0 : FC Try.prog 133 [(1005, imRo T), (1004, wRo W)] [o1 (.sl 1005 0 n), o1 (.sl 1004 0 W.length), vv (I6 0)] [] (vv (I6 (orbN T W 1 : Nat))) [] := hL 0
  refine fc_enter (nt := 19) Try.func136 rfl rfl (by simp) fun w0 ω0 => ?_
  (refine goes_seq ?_; refine goes_region ?_; apply run_step rfl; (exact stp_assign rfl rfl); refine run_nil ?_; refine fin_seq ?_; refine goes_seq ?_; refine goes_region ?_; apply run_step rfl; (exact stp_assign rfl rfl); refine run_nil ?_; refine fin_seq ?_; refine goes_seq ?_; refine goes_seq ?_; refine goes_region ?_; apply run_step rfl; (exact stp_move rfl rfl); apply run_step rfl; (exact stp_move rfl rfl); apply run_step rfl; (apply call_gate 133; exact stp_callR hL0 (by as_aux_lemma => kernel_rfl) rfl rfl ⟨rfl, rfl, rfl, trivial⟩ ⟨⟨_, rfl, .inl rfl⟩, ⟨_, rfl, .inl rfl⟩, trivial⟩ rfl rfl); apply run_step rfl; (exact stp_assign rfl rfl); refine run_nil ?_; refine fin_seq ?_; refine goes_block ?_)
  refine goes_loop (fun k : Nat => St.of [(0, o1 (.sl 1005 0 n)), (1, o1 (.sl 1004 0 W.length)), (5, vv (I6 (k : Nat))), (6, vv (I6 (orbN T W k : Nat)))] [(1005, imRo T), (1004, wRo W)]) (fun k => 1 ≤ k ∧ k ≤ p) (fun k => p - k) 1 ⟨Nat.le_refl _, hp1⟩ (Wk.of ⟨rfl, rfl, rfl, rfl, trivial⟩ ⟨rfl, rfl, trivial⟩ trivial) ?_
  rintro k ⟨hk1, hk2⟩
  have hLk := hL k
  (refine goes_seq ?_; refine goes_seq ?_; refine goes_region ?_; apply run_step rfl; (exact stp_move rfl rfl); apply run_step rfl; (exact stp_bin rfl rfl rfl rfl); refine run_nil ?_; refine fin_seq ?_)
  refine goes_cond rfl (fun hne => ?_) (fun hne => ?_)
  · have hlt : k < p := by
      rcases Nat.lt_or_ge k p with h | h
      · exact h
      · exfalso
        obtain rfl : k = p := by omega
        simp [hp3] at hne
    (refine goes_skip ?_; refine fin_seq ?_; refine goes_seq ?_; refine goes_block ?_; refine goes_region ?_; apply run_step rfl; (exact stp_move rfl rfl); apply run_step rfl; (exact stp_add rfl rfl rfl (by first | exact IntWalk.i64_in _ (by omega) | rfl)); apply run_step rfl; (exact stp_assign rfl rfl); refine run_nil ?_; refine fin_block ?_; refine fin_seq ?_; refine goes_region ?_; apply run_step rfl; (exact stp_move rfl rfl); apply run_step rfl; (exact stp_move rfl rfl); apply run_step rfl; (exact stp_move rfl rfl); apply run_step rfl; (apply call_gate 133; exact stp_callR hLk (by as_aux_lemma => kernel_rfl) rfl rfl ⟨rfl, rfl, rfl, trivial⟩ ⟨⟨_, rfl, .inl rfl⟩, ⟨_, rfl, .inl rfl⟩, trivial⟩ rfl rfl); apply run_step rfl; (exact stp_assign rfl rfl); refine run_nil ?_)
    exact fin_round (k + 1) ⟨by omega, hlt⟩ (by omega) (Wk.of ⟨rfl, rfl, rfl, rfl, trivial⟩ ⟨rfl, rfl, trivial⟩ trivial)
  · have h0 : orbN T W k = 0 := by simpa using hne
    obtain rfl : k = p := by
      rcases Nat.lt_or_ge k p with h | h
      · exact absurd h0 (hp4 k hk1 h)
      · omega
    rw [hp0]
    (refine goes_exit ?_; refine fin_exit_then ?_; refine fin_exit_then ?_; refine fin_exit_eq ?_; refine fin_seq ?_; refine goes_seq ?_; refine goes_region ?_; apply run_step rfl; (exact stp_move rfl rfl); apply run_step rfl; (exact stp_assign rfl rfl); refine run_nil ?_; refine fin_seq ?_; refine goes_ret ?_)
    exact fin_ret1 (.inl rfl) rfl (.tmp rfl) trivial trivial

def oeR (d : PresD) (W : List Int) : Int := if elC d W = 0 then ordR (cosTab d []) W (cosN d []) else 0
set_option maxRecDepth 100000 in
set_option maxHeartbeats 1000000 in
theorem implOE_fc (g : Int) (rels : List (List Int)) (W : List Int) (h1 : Fit rels) (h2 : W.length ≤ 4398046511104) :
    FC Try.prog 56 [(1004, wRo W), (1003, rowsRo rels)] [pA g rels.length, o1 (.sl 1004 0 W.length)] [] (.tup [.one (.val (I6 (oeR (g, rels) W))), .one (.val (I6 (elC (g, rels) W)))]) [] := by
  refine fc_enter (nt := 20) Try.func56 rfl rfl (by simp) fun w0 ω0 => ?_
  by_cases hk : elOk (g, rels) W
  · obtain ⟨ng, rfl, hG⟩ := good_nil hk.1
    have hE := implEl_yes h1 h2 hG hk
    have hs := smallOk_run hk.2.2
    have hw := word_of hk
    have hL := implOrder_fc _ W _ ng (cosTab_len _ _ _) (cosTab_leads hG hs.1) (cosTab_invol hG hs.1) (cosN_pos hG hs.1) (by omega) (by have := hG.hi; omega) hw.1 hw.2
    have hc := elC_ok hk
    unfold oeR
    rw [hc, if_pos rfl]
    generalize cosN ((ng : Int), rels) [] = N at *
    generalize cosTab ((ng : Int), rels) [] = T at *
    (refine goes_seq ?_; refine goes_region ?_; apply run_step rfl; (exact stp_box rfl rfl rfl rfl); apply run_step rfl; (exact stp_assign rfl rfl); apply run_step rfl; (exact stp_assign rfl rfl); refine run_nil ?_; refine fin_seq ?_; refine goes_seq ?_; refine goes_region ?_; apply run_step rfl; (exact stp_loadAgg rfl rfl rfl rfl rfl rfl (by as_aux_lemma => kernel_rfl)); apply run_step rfl; (exact stp_move rfl rfl); apply run_step rfl; (apply call_gate 132; exact stp_callN hE (by as_aux_lemma => kernel_rfl) rfl rfl ⟨⟨.inl rfl, .inl rfl, trivial⟩, rfl, trivial⟩ ⟨⟨_, rfl, .inl rfl⟩, ⟨_, rfl, .inl rfl⟩, trivial⟩ rfl rfl rfl); apply run_step rfl; (exact stp_move rfl rfl); apply run_step rfl; (exact stp_extract rfl rfl rfl); apply run_step rfl; (exact stp_extract rfl rfl rfl); apply run_step rfl; (exact stp_assign rfl rfl); apply run_step rfl; (exact stp_assign rfl rfl); refine run_nil ?_; refine fin_seq ?_; refine goes_seq ?_; refine goes_seq ?_; refine goes_region ?_; apply run_step rfl; (exact stp_move rfl rfl); apply run_step rfl; (exact stp_bin rfl rfl rfl rfl); refine run_nil ?_; refine fin_seq ?_)
    refine goes_cond rfl (fun e => by cases e) (fun _ => ?_)
    (refine goes_skip ?_; refine fin_seq ?_; refine goes_seq ?_; refine goes_region ?_; apply run_step rfl; (exact stp_move rfl rfl); apply run_step rfl; (exact stp_move rfl rfl); apply run_step rfl; (apply call_gate 136; exact stp_callR hL (by as_aux_lemma => kernel_rfl) rfl rfl ⟨rfl, rfl, trivial⟩ ⟨⟨_, rfl, .inr rfl⟩, ⟨_, rfl, .inl rfl⟩, trivial⟩ rfl rfl); apply run_step rfl; (exact stp_assign rfl rfl); apply run_step rfl; (exact stp_assign rfl rfl); refine run_nil ?_; refine fin_seq ?_; refine goes_ret ?_)
    exact fin_ret2 (.inl rfl) rfl (.tmp rfl) (.tmp rfl) trivial trivial
  · have hE := implEl_no h1 h2 hk
    have hc := elC_no hk
    unfold oeR
    rw [if_neg hc]
    (refine goes_seq ?_; refine goes_region ?_; apply run_step rfl; (exact stp_box rfl rfl rfl rfl); apply run_step rfl; (exact stp_assign rfl rfl); apply run_step rfl; (exact stp_assign rfl rfl); refine run_nil ?_; refine fin_seq ?_; refine goes_seq ?_; refine goes_region ?_; apply run_step rfl; (exact stp_loadAgg rfl rfl rfl rfl rfl rfl (by as_aux_lemma => kernel_rfl)); apply run_step rfl; (exact stp_move rfl rfl); apply run_step rfl; (apply call_gate 132; exact stp_callR hE (by as_aux_lemma => kernel_rfl) rfl rfl ⟨⟨.inl rfl, .inl rfl, trivial⟩, rfl, trivial⟩ ⟨⟨_, rfl, .inl rfl⟩, ⟨_, rfl, .inl rfl⟩, trivial⟩ rfl rfl); apply run_step rfl; (exact stp_move rfl rfl); apply run_step rfl; (exact stp_extract rfl rfl rfl); apply run_step rfl; (exact stp_extract rfl rfl rfl); apply run_step rfl; (exact stp_assign rfl rfl); apply run_step rfl; (exact stp_assign rfl rfl); refine run_nil ?_; refine fin_seq ?_; refine goes_seq ?_; refine goes_seq ?_; refine goes_region ?_; apply run_step rfl; (exact stp_move rfl rfl); apply run_step rfl; (exact stp_bin rfl rfl rfl rfl); refine run_nil ?_; refine fin_seq ?_)
    refine goes_cond rfl (fun _ => ?_) (fun e => ?_)
    · (refine goes_seq ?_; refine goes_region ?_; apply run_step rfl; (exact stp_move rfl rfl); apply run_step rfl; (exact stp_assign rfl rfl); apply run_step rfl; (exact stp_assign rfl rfl); refine run_nil ?_; refine fin_seq ?_; refine goes_ret ?_; refine fin_ret_then ?_)
      exact fin_ret2 (.inl rfl) rfl (.tmp rfl) (.tmp rfl) trivial trivial
    · exfalso; simp at e; exact hc e
theorem api_implOE {E1 E E' : Nat} {lo hi lo' hi' : Nat} {v v' : Value} {d : PresD} {W : List Int} (w : World) (h : OwP E1 E w lo hi v d) (h' : OwnS E' w lo' hi' v' W) :
    Calls Try.prog 56 #[v, v'] w fun e w' => e = .returned (.tuple #[.int .i64 (oeR d W), .int .i64 (elC d W)]) ∧ Below w.heap.size w w' := two_vals (callPS (fun k1 k2 => implOE_fc d.1 d.2 W k1 k2) h h')
end Go.Proofs.Ytpognnifgcacnaa

/- The order of a word divides the order of the group; which powers are the identity. No program in sight. -/
namespace Go.Proofs.Ytpognnifgcacnaa

def wpow (W : List Int) : Nat → List Int
  | 0 => []
  | i + 1 => wpow W i ++ W
theorem wpow_low {ng : Nat} {W : List Int} (hW : Letters ng W) : ∀ i, Letters ng (wpow W i)
  | 0 => fun _ h => (by simp [wpow] at h)
  | i + 1 => fun z hz => (by
    simp only [wpow, List.mem_append] at hz
    exact hz.elim (wpow_low hW i z) (hW z))
section
variable {ng : Nat} {R : List (List Int)} {W : List Int}
def stepF (T : List (List Int)) (W : List Int) (x : Nat) : Nat := (leadL T x W).toNat
theorem iter_pow (h : Ran ng R []) (hW : Letters ng W) {x : Nat} (hx : x < cnm ng R []) : ∀ i, ((iterN (stepF (ctb ng R []) W) i x : Nat) : Int) = leadL (ctb ng R []) x (wpow W i)
  | 0 => rfl
  | i + 1 => by
    have ih := iter_pow h hW hx i
    have hl : (ctb ng R []).length = ng := ctb_len
    obtain ⟨y, y1, y2⟩ := lead_nat h.leads (w := wpow W i) (by rw [hl]; exact wpow_low hW i) hx
    obtain ⟨z, z1, z2⟩ := lead_nat h.leads (w := W) (by rw [hl]; exact hW) y2
    show ((stepF (ctb ng R []) W (iterN (stepF (ctb ng R []) W) i x) : Nat) : Int) = leadL (ctb ng R []) x (wpow W i ++ W)
    rw [leadL_app, y1]
    rw [y1] at ih
    have e : iterN (stepF (ctb ng R []) W) i x = y := by omega
    rw [e]
    unfold stepF
    rw [z1]; rfl
theorem orb_iter (T : List (List Int)) (W : List Int) : ∀ i, orbN T W i = iterN (stepF T W) i 0
  | 0 => rfl
  | i + 1 => by show (leadL T (orbN T W i : Nat) W).toNat = stepF T W (iterN (stepF T W) i 0); rw [orb_iter T W i]; rfl
/-- what leads one coset back leads the first one back -/
theorem Ran.fixes (h : Ran ng R []) {v : List Int} (hv : Letters ng v) {x : Nat} (hx : x < cnm ng R []) (e : leadL (ctb ng R []) x v = (x : Int)) : leadL (ctb ng R []) (0 : Nat) v = ((0 : Nat) : Int) := by
  have hl : (ctb ng R []).length = ng := ctb_len
  have hT := h.leads
  have hI := h.invol
  have hz : 0 < cnm ng R [] := cosA_zero.1
  obtain ⟨u, u1, u2⟩ := tab_reach h.full x hx
  have u2 : leadL (ctb ng R []) (0 : Nat) u = (x : Int) := u2
  have ur : Letters ng u.reverse := fun z hz => u1 z (by simpa using hz)
  obtain ⟨y, y1, y2⟩ := lead_nat hT (w := u.reverse) (by rw [hl]; exact ur) hz
  have y3 := lead_rev hT hI u.reverse 0 y (by rw [hl]; exact ur) hz y1
  rw [List.reverse_reverse] at y3
  have c : Letters ng (u ++ v ++ u.reverse) := fun z hz => by
    simp only [List.mem_append] at hz
    rcases hz with (hz | hz) | hz
    · exact u1 z hz
    · exact hv z hz
    · exact ur z hz
  have c0 : leadL (ctb ng R []) (0 : Nat) (u ++ v ++ u.reverse) = ((0 : Nat) : Int) := by
    rw [leadL_app, leadL_app, u2, e]
    exact lead_rev hT hI u 0 x (by rw [hl]; exact u1) hz u2
  have cy := h.regular c c0 y2
  rw [leadL_app, leadL_app, y3] at cy
  obtain ⟨b, b1, b2⟩ := lead_nat hT (w := v) (by rw [hl]; exact hv) hz
  rw [b1] at cy ⊢
  have r := lead_rev hT hI u.reverse b y (by rw [hl]; exact ur) b2 cy
  rw [List.reverse_reverse, y3] at r
  omega
theorem ord_div (h : Ran ng R []) (hW : Letters ng W) {p : Nat} (hp : 1 ≤ p) (h0 : orbN (ctb ng R []) W p = 0) (hm : ∀ j, 1 ≤ j → j < p → orbN (ctb ng R []) W j ≠ 0) : p ∣ cnm ng R [] := by
  have hl : (ctb ng R []).length = ng := ctb_len
  have hz : 0 < cnm ng R [] := cosA_zero.1
  have hlt : ∀ x, x < cnm ng R [] → stepF (ctb ng R []) W x < cnm ng R [] := fun x hx => by
    obtain ⟨y, y1, y2⟩ := lead_nat h.leads (w := W) (by rw [hl]; exact hW) hx
    unfold stepF; rw [y1]; exact y2
  have p0 : leadL (ctb ng R []) (0 : Nat) (wpow W p) = ((0 : Nat) : Int) := by rw [← iter_pow h hW hz, ← orb_iter, h0]
  have := free_div (f := stepF (ctb ng R []) W) (k := p) (by omega) (cnm ng R []) (List.range (cnm ng R [])) (by simp) List.nodup_range (fun x hx => by rw [List.mem_range] at hx ⊢; exact hlt x hx) (fun x hx => by
    rw [List.mem_range] at hx
    have a := iter_pow h hW hx p
    rw [h.regular (wpow_low hW p) p0 hx] at a; omega) (fun x hx i hi1 hi2 e => by
    rw [List.mem_range] at hx
    have a := iter_pow h hW hx i
    rw [e] at a
    have b := h.fixes (wpow_low hW i) hx a.symm
    rw [← iter_pow h hW hz, ← orb_iter] at b
    exact hm i hi1 hi2 (by omega))
  simpa using this
end
end Go.Proofs.Ytpognnifgcacnaa

/- IsDiagram, the program's and the reference's. -/
namespace Go.Proofs.Ytpognnifgcacnaa
open Go.RowKit

end Go.Proofs.Ytpognnifgcacnaa

/- The presentation of a diagram: what both call. -/
namespace Go.Proofs.Ytpognnifgcacnaa
open Go.RowKit

theorem repL_succ {α : Type} (zs : List α) (j : Nat) : repL zs (j + 1) = repL zs j ++ zs := by rw [repL_add, repL_one]

theorem wrap64_idN {i : Nat} (h : i ≤ 1048576) : wrap64 (i : Int) = i := by unfold wrap64; omega

theorem meas_down {i : Nat} {z : Int} (h : z = (i : Int)) : (intOf (.int .i64 z)).toNat < (intOf (.int .i64 ((i + 1 : Nat) : Int))).toNat := by subst h; simp [intOf]

set_option maxHeartbeats 400000 in
theorem specPower_any (ao : Option Addr) (n c k : Nat) (zs : List Int) (w : World) (h : Ints w ao n zs) (hk : k ≤ 1048576) (hnk : n * k ≤ 1048576) :
    Calls Try.prog 131 #[.slice ao n c, .int .i64 k] w fun e w' => ∃ ao' c', e = .returned (.slice ao' (n * k) c') ∧ Own w' w.heap.size 2 ao' (n * k) c' ((repL zs k).map (Value.int .i64)) ∧ Below w.heap.size w w' := by
  go_enter Try.func131, Try.ntmps131
  go_wp2
  go_loopw [1, 5] (fun i v wr => ∃ (j a' : Nat) (ao' : Option Addr) (c' : Nat), j ≤ k ∧ i = .int .i64 ((k - j : Nat) : Int) ∧ v = .slice ao' a' c' ∧ a' = n * j ∧ Own wr w.heap.size 2 ao' a' c' ((repL zs j).map (Value.int .i64)) ∧ Below w.heap.size w wr) (fun i _ _ => (intOf i).toNat)
  case atStart => exact ⟨0, 0, _, _, Nat.zero_le _, rfl, rfl, by simp, Own.empty_ w _ (Nat.le_refl _), (Below.refl _ _).alloc (Nat.le_refl _) _⟩
  case round =>
    obtain ⟨j, a', ao', c', hj, rfl, rfl, ha, ho, hb⟩ := hrel
    have HA := Lib.hid ha
    clear ha
    by_cases hlt : j < k
    · have hm : n * (j + 1) ≤ n * k := Nat.mul_le_mul_left _ hlt
      have hm2 : n * (j + 1) = n * j + n := Nat.mul_succ _ _
      have hi := h.below hb
      have hsz : a' + n ≤ 4398046511104 := by have := HA.out; omega
      have hbs := hb.size
      have HE := Lib.hid (show a' + n = n * (j + 1) by have := HA.out; omega)
      obtain ⟨i, hi2⟩ : ∃ i : Nat, k - j = i + 1 := ⟨k - j - 1, by omega⟩
      have HI := Lib.hid (show k - (j + 1) = i by omega)
      have hj1 : j + 1 ≤ k := hlt
      have HW := Lib.hid (wrap64_idN (i := i) (by omega))
      rw [hi2]
      clear hm hm2 hi2 h hnk hj hlt
      go_wp2_with (at_builtin; refine wpList_apN etI _ rfl _ _ rfl w.heap.size _ _ _ _ rfl ho ao n c zs rfl hi hsz hbs ?_; intro ao2 c2 w2 ho2 hg2 hblk)
      have hol := ho.lt
      clear ho hi
      go_wp2
      go_roundw
      case rel =>
        refine ⟨j + 1, _, ao2, c2, hj1, by rw [HI.out, HW.out], rfl, HE.out, ?_, hb.grown hg2 hbs (fun g hg => (hol g hg).1)⟩
        rw [repL_succ, List.map_append]; exact ho2
      case measure => exact meas_down HW.out
    · obtain rfl : j = k := by omega
      rw [Nat.sub_self]
      go_wp2
      go_ret
      rw [← HA.out]
      exact ⟨_, _, rfl, ho, hb⟩
end Go.Proofs.Ytpognnifgcacnaa

/- The laws' helpers on words and codes: times9, big. -/
namespace Go.Proofs.Ytpognnifgcacnaa
open Go.RowKit

set_option maxHeartbeats 400000 in
theorem times9_any (ao : Option Addr) (n c k : Nat) (zs : List Int) (w : World) (h : Ints w ao n zs) (hk : k ≤ 1048576) (hnk : n * k ≤ 1048576) :
    Calls Try.prog 58 #[.slice ao n c, .int .i64 k] w fun e w' => ∃ ao' c', e = .returned (.slice ao' (n * k) c') ∧ Own w' w.heap.size 2 ao' (n * k) c' ((repL zs k).map (Value.int .i64)) ∧ Below w.heap.size w w' := by
  go_enter Try.func58, Try.ntmps58
  go_wp2
  go_loopw [1, 5] (fun i v wr => ∃ (j a' : Nat) (ao' : Option Addr) (c' : Nat), j ≤ k ∧ i = .int .i64 ((k - j : Nat) : Int) ∧ v = .slice ao' a' c' ∧ a' = n * j ∧ Own wr w.heap.size 2 ao' a' c' ((repL zs j).map (Value.int .i64)) ∧ Below w.heap.size w wr) (fun i _ _ => (intOf i).toNat)
  case atStart => exact ⟨0, 0, _, _, Nat.zero_le _, rfl, rfl, by simp, Own.empty_ w _ (Nat.le_refl _), (Below.refl _ _).alloc (Nat.le_refl _) _⟩
  case round =>
    obtain ⟨j, a', ao', c', hj, rfl, rfl, ha, ho, hb⟩ := hrel
    have HA := Lib.hid ha
    clear ha
    by_cases hlt : j < k
    · have hm : n * (j + 1) ≤ n * k := Nat.mul_le_mul_left _ hlt
      have hm2 : n * (j + 1) = n * j + n := Nat.mul_succ _ _
      have hi := h.below hb
      have hsz : a' + n ≤ 4398046511104 := by have := HA.out; omega
      have hbs := hb.size
      have HE := Lib.hid (show a' + n = n * (j + 1) by have := HA.out; omega)
      obtain ⟨i, hi2⟩ : ∃ i : Nat, k - j = i + 1 := ⟨k - j - 1, by omega⟩
      have HI := Lib.hid (show k - (j + 1) = i by omega)
      have hj1 : j + 1 ≤ k := hlt
      have HW := Lib.hid (wrap64_idN (i := i) (by omega))
      rw [hi2]
      clear hm hm2 hi2 h hnk hj hlt
      go_wp2_with (at_builtin; refine wpList_apN etI _ rfl _ _ rfl w.heap.size _ _ _ _ rfl ho ao n c zs rfl hi hsz hbs ?_; intro ao2 c2 w2 ho2 hg2 hblk)
      have hol := ho.lt
      clear ho hi
      go_wp2
      go_roundw
      case rel =>
        refine ⟨j + 1, _, ao2, c2, hj1, by rw [HI.out, HW.out], rfl, HE.out, ?_, hb.grown hg2 hbs (fun g hg => (hol g hg).1)⟩
        rw [repL_succ, List.map_append]; exact ho2
      case measure => exact meas_down HW.out
    · obtain rfl : j = k := by omega
      rw [Nat.sub_self]
      go_wp2
      go_ret
      rw [← HA.out]
      exact ⟨_, _, rfl, ho, hb⟩

theorem big_any (ao : Option Addr) (n c : Nat) (w : World) : Calls Try.prog 47 #[.slice ao n c] w fun e w' => e = .returned (.bool (decide (4096 < n))) ∧ w' = w := by
  by_cases h : 4096 < n
  · have e0 : decide ((4096 : Int) < n) = true := by simp; omega
    go_enter Try.func47, Try.ntmps47
    go_wp2
    go_ret
    exact ⟨by simp [h], rfl⟩
  · have e0 : decide ((4096 : Int) < n) = false := by simp; omega
    go_enter Try.func47, Try.ntmps47
    go_wp2
    go_ret
    exact ⟨by simp [h], rfl⟩
end Go.Proofs.Ytpognnifgcacnaa

/- What the order of a word tells, of the program's own numbers. No program in sight. -/
namespace Go.Proofs.Ytpognnifgcacnaa

theorem mem_repL {z : Int} {W : List Int} : ∀ {n : Nat}, z ∈ repL W n → z ∈ W
  | 0, h => by simp [repL] at h
  | n + 1, h => by
    rw [repL_succ, List.mem_append] at h
    exact h.elim mem_repL id
theorem wpow_rep (W : List Int) : ∀ n, wpow W n = repL W n
  | 0 => by simp [wpow, repL]
  | n + 1 => by rw [repL_succ, ← wpow_rep W n]; rfl
theorem len_repL (W : List Int) : ∀ n, (repL W n).length = W.length * n
  | 0 => by simp [repL]
  | n + 1 => by rw [repL_succ, List.length_append, len_repL W n, Nat.mul_succ]
theorem isWordTo_rep {g : Int} {W : List Int} {n : Nat} (h : isWordTo g W = true) (hn : W.length * n ≤ 64) : isWordTo g (repL W n) = true := by
  unfold isWordTo at h ⊢
  rw [Bool.and_eq_true, List.all_eq_true] at h ⊢
  exact ⟨by rw [len_repL]; simpa using hn, fun z hz => h.2 z (mem_repL hz)⟩
/-- what the law asks of a word that is one -/
structure OwOk (d : PresD) (W : List Int) (p m : Nat) : Prop where
  ord : oeR d W = (p : Int)
  idx : idxR d [] = (m : Int)
  code : idxC d [] = 0
  p1 : 1 ≤ p
  pm : p ≤ m
  m4 : m ≤ 400
  len : W.length ≤ 64
  dvd : p ∣ m
  one : idR d W = decide (p = 1)
  pow : ∀ n, 1 ≤ n → n ≤ p → W.length * n ≤ 64 → elC d (repL W n) = 0 ∧ idR d (repL W n) = decide (n = p)
theorem elC_zero {d : PresD} {W : List Int} (h : elC d W = 0) : elOk d W := by
  by_cases hk : elOk d W
  · exact hk
  · exact absurd h (elC_no hk)
theorem ow_ok {d : PresD} {W : List Int} (h : elC d W = 0) : ∃ p m, OwOk d W p m := by
  obtain ⟨g, rels⟩ := d
  have hk := elC_zero h
  obtain ⟨ng, rfl, hG⟩ := good_nil hk.1
  have hs := smallOk_run hk.2.2
  have hw := word_of hk
  have hT := cosTab_leads hG hs.1
  have hI := cosTab_invol hG hs.1
  have hm := cosN_pos hG hs.1
  obtain ⟨p, p1, p2, p3, p4, p5⟩ := ord_spec hT hI hm hw.1
  have hRan : Ran ng rels [] := ⟨hG.rl, hG.wl, hs.1⟩
  have hWl : Letters ng W := fun z hz => by have := hw.1 z hz; rw [cosTab_len] at this; exact this
  have hT' : cosTab ((ng : Int), rels) [] = ctb ng rels [] := cosTab_nat ng rels []
  have hN' : cosN ((ng : Int), rels) [] = cnm ng rels [] := cosN_nat ng rels []
  have hz : 0 < cnm ng rels [] := cosA_zero.1
  have key : ∀ n, leadL (ctb ng rels []) (0 : Nat) (repL W n) = (orbN (ctb ng rels []) W n : Int) := fun n => by
    rw [← wpow_rep, ← iter_pow hRan hWl hz, orb_iter]
  have hWlen : W.length ≤ 64 := by
    have := hk.2.1
    unfold isWordTo at this
    rw [Bool.and_eq_true] at this
    simpa using this.1
  have hid : ∀ n, 1 ≤ n → n ≤ p → (leadL (ctb ng rels []) 0 (repL W n) == 0) = decide (n = p) := fun n h1 h2 => by
    have e : leadL (ctb ng rels []) 0 (repL W n) = (orbN (ctb ng rels []) W n : Int) := key n
    rw [e]
    by_cases hnp : n = p
    · subst hnp
      rw [← hT', p4]; simp
    · have := p5 n h1 (by omega)
      rw [hT'] at this
      simp [hnp, this]
  have hpow : ∀ n, 1 ≤ n → n ≤ p → W.length * n ≤ 64 → elC ((ng : Int), rels) (repL W n) = 0 ∧ idR ((ng : Int), rels) (repL W n) = decide (n = p) := fun n h1 h2 h3 => by
    have e : elC ((ng : Int), rels) (repL W n) = 0 := elC_ok ⟨hk.1, isWordTo_rep hk.2.1 h3, hk.2.2⟩
    refine ⟨e, ?_⟩
    unfold idR
    rw [e, if_pos rfl, hT']
    exact hid n h1 h2
  have hone : idR ((ng : Int), rels) W = decide (p = 1) := by
    have := hpow 1 (Nat.le_refl _) p2 (by omega)
    rw [repL_one] at this
    rw [this.2]
    by_cases e : p = 1 <;> simp [e]; omega
  refine ⟨p, cosN ((ng : Int), rels) [], ?_, ?_, ?_, p2, p3, hs.2, hWlen, ?_, hone, hpow⟩
  · unfold oeR
    rw [h, if_pos rfl]; exact p1
  · unfold idxR
    rw [withOk_nil, if_pos hk.1, cosX_nat, if_neg (by rw [hs.1]; decide)]
  · unfold idxC
    rw [withOk_nil, if_pos hk.1, cosX_nat, if_neg (by rw [hs.1]; decide)]
  · rw [hN']
    exact ord_div hRan hWl p2 (by rw [← hT']; exact p4) (fun j h1 h2 => by rw [← hT']; exact p5 j h1 h2)
end Go.Proofs.Ytpognnifgcacnaa

/- Draws of words: l11DrawWord, l11Power. -/
namespace Go.Proofs.Ytpognnifgcacnaa
open Go.RowKit

theorem only_grown {lo hi : Nat} {a w w' : World} {row : Option Nat} (h : Only lo hi a w) (hg : w.grownBy w' row) (hr : ∀ g, row = some g → a.heap.size ≤ g) : Only lo hi a w' :=
  ⟨hg.os.trans h.os, hg.tape.trans h.tape, hg.output.trans h.output, Nat.le_trans h.size hg.size, fun k hk hd => (hg.block k (Nat.lt_of_lt_of_le hk h.size) (fun e => by have := hr k e.symm; omega)).trans (h.block k hk hd)⟩
theorem Src.grown {w w' : World} {sb : Nat} {row : Option Nat} (h : Src w sb) (hg : w.grownBy w' row) (hr : ∀ g, row = some g → sb < g) : Src w' sb := by
  obtain ⟨ao, n, c, k, hh, h1, h2, h3, h4⟩ := h.box
  have hlt := h1.lt
  refine ⟨ao, n, c, k, hh, (hg.block sb hlt (fun e => by have := hr sb e.symm; omega)).trans h1, h2, h3, h4.1, fun hn => ?_⟩
  obtain ⟨b, off, e, hb, hc⟩ := h4.2 hn
  refine ⟨b, off, e, hb, fun j hj => ?_⟩
  obtain ⟨x, hx, hcx⟩ := hc j hj
  exact ⟨x, hx, (World.cell?_of_block (hg.block b (World.block_lt_of_cell? w _ hcx) (fun e => by have := hr b e.symm; omega))).trans hcx⟩
/-- a word whose letters lie below n -/
def Low (n : Int) (zs : List Int) : Prop := ∀ z ∈ zs, 0 ≤ z ∧ z < n

set_option maxHeartbeats 3200000 in
theorem drawWord_any (sb : Nat) (letters most : Nat) (w : World) (h : Src w sb) (hsb : sb < w.heap.size) (hl1 : 1 ≤ letters) (hl : letters ≤ 100) (hm : most ≤ 100) :
    Calls Try.prog 130 #[.pointer (some ⟨sb, 0, none⟩), .int .i64 letters, .int .i64 most] w fun e w' => ∃ (ao : Option Addr) (n c : Nat) (zs : List Int), e = .returned (.slice ao n c) ∧ n ≤ most ∧ Low letters zs ∧ Own w' w.heap.size 2 ao n c (zs.map (Value.int .i64)) ∧ Src w' sb ∧ Only sb (sb + 1) w w' := by
  go_enter Try.func130, Try.ntmps130
  have h1 : Src (w.alloc (.cells #[] 2)) sb := h.grown (row := none) (World.grownBy_alloc w _ none) (fun g hg => by cases hg)
  go_wp2_with fail
  refine (next_any sb _ _ h1 (by omega)).mono ?_
  rintro e w2 ⟨r, rfl, -, r2, s2, o2⟩
  have hr := r2 (by omega)
  have O2 : Only sb (sb + 1) w w2 := (only_grown (Only.refl sb (sb + 1) w) (World.grownBy_alloc w _ none) (fun g hg => by cases hg)).trans o2
  have P2 : Own w2 w.heap.size 2 (some ⟨w.heap.size, 0, none⟩) 0 0 [] := (Own.empty_ w _ (Nat.le_refl _)).only o2 (lo' := w.heap.size) (hi' := w.heap.size + 1) (fun g hg => by simp [bk] at hg; omega) (.inr (by omega))
  have z2 := O2.size
  clear h1 o2 r2
  go_wp2_with fail
  go_loopw [7, 8] (fun wv kv wr => ∃ (k a : Nat) (ao : Option Addr) (c : Nat) (zs : List Int), kv = .int .i64 k ∧ wv = .slice ao a c ∧ a + k = r ∧ Low letters zs ∧ Own wr w.heap.size 2 ao a c (zs.map (Value.int .i64)) ∧ Src wr sb ∧ Only sb (sb + 1) w wr) (fun _ kv _ => (intOf kv).toNat)
  case atStart => exact ⟨r, 0, _, 0, [], rfl, rfl, by omega, fun _ h => (by simp at h), P2, s2, O2⟩
  case round =>
    obtain ⟨k, a, ao, c, zs, rfl, rfl, hak, hlow, ho, hs, hO⟩ := hrel
    clear P2 s2 O2 z2
    by_cases hk : 0 < k
    · go_wp2_with fail
      refine (next_any sb _ _ hs (by omega)).mono ?_
      rintro e w3 ⟨q, rfl, -, q2, s3, o3⟩
      have hq := q2 (by omega)
      have hsz := hO.size
      have O3 := hO.trans o3
      have hsz3 := O3.size
      have P3 : Own w3 w.heap.size 2 ao a c (zs.map (Value.int .i64)) := ho.only o3 (lo' := w.heap.size) (hi' := wr.heap.size) (fun g hg => ⟨(ho.lt g hg).1, (ho.lt g hg).2⟩) (.inr (by omega))
      clear q2 o3 hs hO ho
      have hol := P3.lt
      have PH := Lib.hid P3
      clear P3
      go_wp2_with (at_builtin; refine wpList_ap1 etI _ rfl _ _ rfl w.heap.size ao a c _ rfl PH.out (.int .i64 (q : Int)) rfl rfl (by omega) hsz3 ?_; intro ao2 c2 w4 ho2 hg2 hblk)
      have HO := Lib.hid ho2
      have s4 := s3.grown hg2 (fun g hg => by have := (hol g hg).1; omega)
      have O4 := only_grown O3 hg2 (fun g hg => (hol g hg).1)
      clear ho2 hblk s3 O3 hg2
      go_wp2
      go_roundw
      case rel =>
        refine ⟨k - 1, a + 1, ao2, c2, zs ++ [(q : Int)], by go_num, rfl, by omega, fun z hz => ?_, by rw [List.map_append]; exact HO.out, s4, O4⟩
        rcases List.mem_append.1 hz with hz | hz
        · exact hlow z hz
        · simp at hz; omega
      case measure => simp [intOf]; omega
    · obtain rfl : k = 0 := by omega
      go_wp2
      go_ret
      exact ⟨ao, a, c, zs, rfl, by omega, hlow, ho, hs, hO⟩

set_option maxHeartbeats 3200000 in
theorem pick_any (sb : Nat) (ao : Option Addr) (n c : Nat) (zs : List Int) (w : World) (h : Src w sb) (hz : Ints w ao n zs) (hn : 1 ≤ n) (hn2 : n ≤ 100) (hne : bk ao ≠ some sb) :
    Calls Try.prog 124 #[.pointer (some ⟨sb, 0, none⟩), .slice ao n c] w fun e w' => ∃ r : Nat, r < n ∧ e = .returned (.int .i64 (iget zs r)) ∧ Src w' sb ∧ Only sb (sb + 1) w w' := by
  go_enter Try.func124, Try.ntmps124
  go_wp2_with fail
  refine (next_any sb _ _ h (by omega)).mono ?_
  rintro e w2 ⟨r, rfl, -, r2, s2, o2⟩
  have hr := r2 (by omega)
  have hr2 : r < n := by omega
  have hz2 : Ints w2 ao n zs := hz.same fun g hg hlt => o2.block g hlt (by
    have : g ≠ sb := fun e => by subst e; exact hne hg
    omega)
  obtain ⟨b, off, rfl, hc⟩ := hz2.at_ hr2
  clear r2 hz hz2
  go_wp2
  go_ret
  exact ⟨r, hr2, rfl, s2, o2⟩
end Go.Proofs.Ytpognnifgcacnaa

/- The presentation of a diagram: the data, and how one relator more is laid. -/
namespace Go.Proofs.Ytpognnifgcacnaa
open Go.RowKit

/-- one element more, at the end of a row of the call's own, in a region that draws its order -/
theorem step_ap1 {P : Program} {S E : TypeId} {z : Value} {bytes : Nat} (et : ET P S E z bytes) {ops : Array Oper} {o : Oper} {a : Act} {Q : Exit → Act → World → Prop} {w : World} {K : Act → World → Prop} {X : Prop} (hg : o.guard = none) (s x : Operand) (ho : o.op = .call { callee := .builtin .append, args := #[s, x], argTypes := #[S, S] })
    (base : Nat) (ao : Option Addr) (n c : Nat) (xs : List Value) (hs : a.eval s = .slice ao n c) (hown : Own w base E ao n c xs) (u : Value) (xb xc : Nat)
    (hx : a.eval x = .slice (some ⟨xb, 0, none⟩) 1 xc) (hc : w.cell? ⟨xb, 0, none⟩ = some u) (hu : u.oneCell' = true) (hn : n + 1 ≤ 4398046511104) (hbase : base ≤ w.heap.size)
    (h : ∀ ao' c' w', Own w' base E ao' (n + 1) c' (xs ++ [u]) → w.grownBy w' (bk ao) → (bk ao' = bk ao ∨ bk ao' = some w.heap.size) → K (a.put o.dst (.slice ao' (n + 1) c')) w') : if Region.wanted o (yielded ops a.tmps) = true then Oper.wp P o a w K Q else X := by
  obtain ⟨i, hi, hz, hsz, hby⟩ := info_parts et.info
  have hw : Region.wanted o (yielded ops a.tmps) = true := by simp [Region.wanted, hg]
  rw [if_pos hw]
  obtain ⟨v', w', hr, h2, h3, h4, h5⟩ := run_append_own_at (P := P) w base S o.type E i z 1 bytes et.und hi hz hsz hby (by rw [et.one]; rfl) (by omega) (.slice ao n c) n xs hown.1 ⟨xb, 0, none⟩ 1 xc [u] rfl
    (by
      intro j u' hu'
      match j, hu' with
      | 0, hu' => simp at hu'; subst hu'; rw [Addr.add_lit]; exact hc)
    (by intro v hv; simp at hv; subst hv; exact hu) (by simp [maxLen]; omega) (by have := et.small; have : (n + 1) * bytes ≤ (n + 1) * 32 := Nat.mul_le_mul_left _ this; omega) hbase
  unfold Oper.wp execOp
  simp only [ho, resolve, invoke, builtin, Sem.run_bind, Sem.run_pure, Result.andThen_ok, List.map_toArray, List.map_cons, List.map_nil, hs, hx, hr]
  obtain ⟨g, cap, rfl, hb, hlt⟩ := h2.form (by omega)
  rw [ownBlock_slice] at h3
  refine h _ _ _ ⟨h2, hn⟩ h3 ?_
  rw [ownBlock_slice, ownBlock_slice] at h5
  exact h5

/-- a list of the call's own, just made, is laid at the end of a row of lists -/
theorem rows_push {T1 E lo : Nat} {wr w2 w3 w4 : World} {ao ao' ao2 : Option Addr} {m c n' c' c2 : Nat} {us : List Value} {ds : List (List Int)} {zs : List Int}
    (hR : OwR (OwS T1) wr lo wr.heap.size E ao m c us ds) (hlo : lo ≤ wr.heap.size) (hb : Below wr.heap.size wr w2) (hu : Own w2 wr.heap.size T1 ao' n' c' (zs.map (Value.int .i64))) (hb3 : Below w2.heap.size w2 w3)
    (hown : Own w4 lo E ao2 (m + 1) c2 (us ++ [.slice ao' n' c'])) (hg : w3.grownBy w4 (bk ao)) (hat : bk ao2 = bk ao ∨ bk ao2 = some w3.heap.size) :
    OwR (OwS T1) w4 lo w4.heap.size E ao2 (m + 1) c2 (us ++ [.slice ao' n' c']) (ds ++ [zs]) := by
  have hR3 : OwR (OwS T1) w3 lo wr.heap.size E ao m c us ds := hR.below (innerS _) (hb.trans (hb3.mono hb.size))
  have s1 := hb.size
  have s2 := hb3.size
  have s3 := hg.size
  have hub : ∀ g, bk ao' = some g → wr.heap.size ≤ g ∧ g < w2.heap.size := hu.lt
  have hne : ∀ g, bk ao' = some g → bk ao ≠ some g := fun g h1 h2 => by have := hub g h1; have := hR.top g h2; omega
  have hu4 : OwS T1 w4 (.slice ao' n' c') zs := (innerS T1).loc (w := w2) ⟨ao', n', c', rfl, hu.mono (Nat.zero_le _)⟩ fun g h => by
    rw [ownBlock_slice] at h
    have := hub g h
    rw [hg.block g (by omega) (fun e => hne g h e.symm)]
    exact hb3.block g this.2
  refine hR3.push (innerS _) hown hg hu4 (in_slice fun g h => ⟨by have := hub g h; omega, by have := hub g h; omega⟩) (fun g h => (hown.lt g h).2) (by omega) ?_ ?_
  · intro g h
    rcases hat with h1 | h1
    · exact .inl (h1 ▸ h)
    · refine .inr fun j u hj e => ?_
      rw [h1] at h; obtain rfl := Option.some.inj h
      have := (hR3.rng j u hj _ e).2
      omega
  · intro g h
    rw [ownBlock_slice] at h
    have hh := hub g h
    refine ⟨fun e => ?_, fun j v hj e => ?_⟩
    · rcases hat with h1 | h1
      · exact hne g h (h1 ▸ e)
      · rw [h1] at e; have := Option.some.inj e; omega
    · have := (hR3.rng j v hj _ e).2; omega
end Go.Proofs.Ytpognnifgcacnaa

/- The laws' helpers on []int64 in the words of Nest. -/
namespace Go.Proofs.Ytpognnifgcacnaa
open Go.RowKit

end Go.Proofs.Ytpognnifgcacnaa

/- The laws' helpers on [][]int64. -/
namespace Go.Proofs.Ytpognnifgcacnaa
open Go.RowKit

theorem etSS : ET Try.prog 39 49 (.slice none 0 0) 24 := ⟨Try.underlying39, by kernel_rfl, rfl, by omega⟩

end Go.Proofs.Ytpognnifgcacnaa

/- The presentation of a diagram: the reference's walk. -/
namespace Go.Proofs.Ytpognnifgcacnaa
open Go.RowKit

/-- the box of the result, the box of p, its relators -/
structure CoxSt (w wr : World) (N : Nat) (ao : Option Addr) (m c : Nat) (us : List Value) (ds : List (List Int)) : Prop where
  res : Blk wr w.heap.size 72 #[.int .i64 0, .slice none 0 0]
  box : Blk wr (w.heap.size + 1) 72 #[.int .i64 N, .slice ao m c]
  row : OwR (OwS 2) wr (w.heap.size + 2) wr.heap.size 49 ao m c us ds
  size : w.heap.size + 2 ≤ wr.heap.size
  below : Below w.heap.size w wr
  few : m ≤ 1000

theorem CoxSt.push {w wr w2 w3 w4 : World} {N m c' n1 c1 c2 : Nat} {ao' a1 ao2 : Option Addr} {us : List Value} {ds : List (List Int)} {zs : List Int} (st : CoxSt w wr N ao' m c' us ds) (hm : m + 1 ≤ 1000)
    (b2 : Below wr.heap.size wr w2) (o1 : Own w2 wr.heap.size 2 a1 n1 c1 (zs.map (Value.int .i64))) (b3 : Below w2.heap.size w2 w3) (o4 : Own w4 (w.heap.size + 2) 49 ao2 (m + 1) c2 (us ++ [.slice a1 n1 c1]))
    (g4 : w3.grownBy w4 (bk ao')) (hat : bk ao2 = bk ao' ∨ bk ao2 = some w3.heap.size) :
    CoxSt w (w4.setCell ⟨w.heap.size + 1, 1, none⟩ (.slice ao2 (m + 1) c2)) N ao2 (m + 1) c2 (us ++ [.slice a1 n1 c1]) (ds ++ [zs]) := by
  have hR := rows_push st.row st.size b2 o1 b3 o4 g4 hat
  have hsz := st.size
  have s2 := b2.size
  have s3 := b3.size
  have s4 := g4.size
  have B4 : Below (w.heap.size + 2) wr w4 := ((b2.trans (b3.mono s2)).mono hsz).grown g4 (by omega) (fun g hg => (st.row.own.lt g hg).1)
  have hh : (w4.setCell ⟨w.heap.size + 1, 1, none⟩ (.slice ao2 (m + 1) c2)).heap.size = w4.heap.size := by simp [World.setCell]
  refine ⟨(st.res.below B4 (by omega)).far (by simp) _, ?_, ?_, by rw [hh]; omega, (st.below.trans (B4.mono (by omega))).setCell (by simp) _, hm⟩
  · have := (st.box.below B4 (by omega)).set_ 1 (.slice ao2 (m + 1) c2)
    simpa using this
  · rw [hh]
    exact hR.same (innerS _) fun g h1 _ _ => Below.heap_setCell _ _ _ _ (by simp; omega)

theorem CoxSt.done {w wr : World} {N m c' : Nat} {ao' : Option Addr} {us : List Value} {ds : List (List Int)} (st : CoxSt w wr N ao' m c' us ds) :
    Blk ((wr.setCell ⟨w.heap.size, 0, none⟩ (.int .i64 N)).setCell ⟨w.heap.size, 1, none⟩ (.slice ao' m c')) w.heap.size 72 #[.int .i64 N, .slice ao' m c'] ∧
    OwR (OwS 2) ((wr.setCell ⟨w.heap.size, 0, none⟩ (.int .i64 N)).setCell ⟨w.heap.size, 1, none⟩ (.slice ao' m c')) (w.heap.size + 2) ((wr.setCell ⟨w.heap.size, 0, none⟩ (.int .i64 N)).setCell ⟨w.heap.size, 1, none⟩ (.slice ao' m c')).heap.size 49 ao' m c' us ds ∧
    Below w.heap.size w ((wr.setCell ⟨w.heap.size, 0, none⟩ (.int .i64 N)).setCell ⟨w.heap.size, 1, none⟩ (.slice ao' m c')) := by
  have hh : ((wr.setCell ⟨w.heap.size, 0, none⟩ (.int .i64 N)).setCell ⟨w.heap.size, 1, none⟩ (.slice ao' m c')).heap.size = wr.heap.size := by simp [World.setCell]
  refine ⟨?_, ?_, (st.below.setCell (by simp) _).setCell (by simp) _⟩
  · have := (st.res.set_ 0 (.int .i64 N)).set_ 1 (.slice ao' m c')
    simpa using this
  · rw [hh]
    exact st.row.same (innerS _) fun g h1 _ _ => by rw [Below.heap_setCell _ _ _ _ (by simp; omega), Below.heap_setCell _ _ _ _ (by simp; omega)]

end Go.Proofs.Ytpognnifgcacnaa

/- Draws of presentations: l11Draw. -/
namespace Go.Proofs.Ytpognnifgcacnaa
open Go.RowKit

theorem Src.far {w w' : World} {sb : Nat} (h : Src w sb) (hs : ∀ g, g ≤ sb → w'.heap[g]? = w.heap[g]?) : Src w' sb := by
  obtain ⟨ao, n, c, k, hh, h1, h2, h3, h4⟩ := h.box
  refine ⟨ao, n, c, k, hh, (hs sb (Nat.le_refl _)).trans h1, h2, h3, h4.1, fun hn => ?_⟩
  obtain ⟨b, off, e, hb, hc⟩ := h4.2 hn
  refine ⟨b, off, e, hb, fun j hj => ?_⟩
  obtain ⟨x, hx, hcx⟩ := hc j hj
  exact ⟨x, hx, (World.cell?_of_block (hs b (by omega))).trans hcx⟩
/-- a presentation being drawn: the source's box sb, the result's rb, that of p at pb -/
structure DrSt (w wr : World) (sb rb pb : Nat) (N : Int) (ao : Option Addr) (m c : Nat) (us : List Value) (ds : List (List Int)) : Prop where
  src : Src wr sb
  res : Blk wr rb 72 #[.int .i64 0, .slice none 0 0]
  box : Blk wr pb 72 #[.int .i64 N, .slice ao m c]
  row : OwR (OwS 2) wr (pb + 1) wr.heap.size 49 ao m c us ds
  lo : sb < w.heap.size ∧ w.heap.size ≤ rb ∧ rb < pb ∧ pb < wr.heap.size
  only : Only sb (sb + 1) w wr
section
variable {w wr : World} {sb rb pb : Nat} {N : Int} {ao : Option Addr} {m c : Nat} {us : List Value} {ds : List (List Int)}
theorem DrSt.next {w2 : World} (st : DrSt w wr sb rb pb N ao m c us ds) (s2 : Src w2 sb) (o2 : Only sb (sb + 1) wr w2) : DrSt w w2 sb rb pb N ao m c us ds :=
  have hl := st.lo
  have hsz := o2.size
  ⟨s2, st.res.only o2 (.inr (by omega)), st.box.only o2 (.inr (by omega)), (st.row.only (innerS _) o2 (.inr (by omega))).mono (Nat.le_refl _) hsz, ⟨hl.1, hl.2.1, hl.2.2.1, by omega⟩, st.only.trans o2⟩
theorem DrSt.push {w2 w3 w4 : World} {n1 c1 c2 : Nat} {a1 ao2 : Option Addr} {zs : List Int} (st : DrSt w wr sb rb pb N ao m c us ds)
    (b2 : Below wr.heap.size wr w2) (o1 : Own w2 wr.heap.size 2 a1 n1 c1 (zs.map (Value.int .i64))) (b3 : Below w2.heap.size w2 w3) (o4 : Own w4 (pb + 1) 49 ao2 (m + 1) c2 (us ++ [.slice a1 n1 c1]))
    (g4 : w3.grownBy w4 (bk ao)) (hat : bk ao2 = bk ao ∨ bk ao2 = some w3.heap.size) :
    DrSt w (w4.setCell ⟨pb, 1, none⟩ (.slice ao2 (m + 1) c2)) sb rb pb N ao2 (m + 1) c2 (us ++ [.slice a1 n1 c1]) (ds ++ [zs]) := by
  have hl := st.lo
  have hR := rows_push st.row (by omega) b2 o1 b3 o4 g4 hat
  have s2 := b2.size
  have s3 := b3.size
  have s4 := g4.size
  have B4 : Below (pb + 1) wr w4 := ((b2.trans (b3.mono s2)).mono (by omega)).grown g4 (by omega) (fun g hg => (st.row.own.lt g hg).1)
  have hh : (w4.setCell ⟨pb, 1, none⟩ (.slice ao2 (m + 1) c2)).heap.size = w4.heap.size := by simp [World.setCell]
  have hne : ∀ g, g ≠ pb → (w4.setCell ⟨pb, 1, none⟩ (.slice ao2 (m + 1) c2)).heap[g]? = w4.heap[g]? := fun g hg => Below.heap_setCell _ _ _ _ (by simpa using hg)
  refine ⟨st.src.far fun g hg => (hne g (by omega)).trans (B4.block g (by omega)), (st.res.below B4 (by omega)).far (by simp; omega) _, ?_, ?_, ⟨hl.1, hl.2.1, hl.2.2.1, by rw [hh]; omega⟩, ?_⟩
  · have := (st.box.below B4 (by omega)).set_ 1 (.slice ao2 (m + 1) c2)
    simpa using this
  · rw [hh]
    exact hR.same (innerS _) fun g h1 _ _ => hne g (by omega)
  · have o := st.only
    exact ⟨B4.os.trans o.os, B4.tape.trans o.tape, B4.output.trans o.output, by rw [hh]; have := o.size; omega, fun k hk hd => by rw [hne k (by omega), B4.block k (by omega)]; exact o.block k hk hd⟩
theorem DrSt.done (st : DrSt w wr sb rb pb N ao m c us ds) :
    Blk ((wr.setCell ⟨rb, 0, none⟩ (.int .i64 N)).setCell ⟨rb, 1, none⟩ (.slice ao m c)) rb 72 #[.int .i64 N, .slice ao m c] ∧
    OwP 2 49 ((wr.setCell ⟨rb, 0, none⟩ (.int .i64 N)).setCell ⟨rb, 1, none⟩ (.slice ao m c)) w.heap.size ((wr.setCell ⟨rb, 0, none⟩ (.int .i64 N)).setCell ⟨rb, 1, none⟩ (.slice ao m c)).heap.size (.agg #[.int .i64 N, .slice ao m c]) (N, ds) ∧
    Src ((wr.setCell ⟨rb, 0, none⟩ (.int .i64 N)).setCell ⟨rb, 1, none⟩ (.slice ao m c)) sb ∧
    Only sb (sb + 1) w ((wr.setCell ⟨rb, 0, none⟩ (.int .i64 N)).setCell ⟨rb, 1, none⟩ (.slice ao m c)) := by
  have hl := st.lo
  have hh : ((wr.setCell ⟨rb, 0, none⟩ (.int .i64 N)).setCell ⟨rb, 1, none⟩ (.slice ao m c)).heap.size = wr.heap.size := by simp [World.setCell]
  have hne : ∀ g, g ≠ rb → ((wr.setCell ⟨rb, 0, none⟩ (.int .i64 N)).setCell ⟨rb, 1, none⟩ (.slice ao m c)).heap[g]? = wr.heap[g]? := fun g hg => by
    rw [Below.heap_setCell _ _ _ _ (by simpa using hg), Below.heap_setCell _ _ _ _ (by simpa using hg)]
  refine ⟨?_, ⟨ao, m, c, us, rfl, ?_⟩, st.src.far fun g hg => hne g (by omega), ?_⟩
  · have := (st.res.set_ 0 (.int .i64 N)).set_ 1 (.slice ao m c)
    simpa using this
  · rw [hh]
    exact (st.row.same (innerS _) fun g h1 _ _ => hne g (by omega)).mono (by omega) (Nat.le_refl _)
  · have o := st.only
    exact ⟨o.os, o.tape, o.output, by rw [hh]; exact o.size, fun k hk hd => by rw [hne k (by omega)]; exact o.block k hk hd⟩
end
/-- what a draw of a presentation leaves -/
def DrawnP (w : World) (sb : Nat) (glo ghi : Int) (most : Nat) (e : Ending) (w' : World) : Prop :=
  ∃ v d, e = .returned v ∧ glo ≤ d.1 ∧ d.1 ≤ ghi ∧ d.2.length ≤ most ∧ OwP 2 49 w' w.heap.size w'.heap.size v d ∧ Src w' sb ∧ Only sb (sb + 1) w w'
theorem pick5 {r : Nat} (h : r < 5) : ∃ L : Nat, iget [2, 3, 3, 3, 4] r = (L : Int) ∧ 2 ≤ L ∧ L ≤ 7 := by
  match r, h with
  | 0, _ => exact ⟨2, rfl, by omega, by omega⟩
  | 1, _ => exact ⟨3, rfl, by omega, by omega⟩
  | 2, _ => exact ⟨3, rfl, by omega, by omega⟩
  | 3, _ => exact ⟨3, rfl, by omega, by omega⟩
  | 4, _ => exact ⟨4, rfl, by omega, by omega⟩
theorem pick6 {r : Nat} (h : r < 6) : ∃ L : Nat, iget [2, 3, 4, 5, 6, 7] r = (L : Int) ∧ 2 ≤ L ∧ L ≤ 7 := by
  match r, h with
  | 0, _ => exact ⟨2, rfl, by omega, by omega⟩
  | 1, _ => exact ⟨3, rfl, by omega, by omega⟩
  | 2, _ => exact ⟨4, rfl, by omega, by omega⟩
  | 3, _ => exact ⟨5, rfl, by omega, by omega⟩
  | 4, _ => exact ⟨6, rfl, by omega, by omega⟩
  | 5, _ => exact ⟨7, rfl, by omega, by omega⟩

set_option maxRecDepth 100000 in
set_option maxHeartbeats 3200000 in
theorem draw_any (sb : Nat) (w : World) (h : Src w sb) (hsb : sb < w.heap.size) :
    Calls Try.prog 190 #[.pointer (some ⟨sb, 0, none⟩)] w (DrawnP w sb 1 4 17) := by
  go_enter Try.func190, Try.ntmps190
  have h1 : Src (w.alloc (.cells #[.int .i64 0, .slice none 0 0] 72)) sb := h.grown (row := none) (World.grownBy_alloc w _ none) (fun g hg => by cases hg)
  have r1 : Blk (w.alloc (.cells #[.int .i64 0, .slice none 0 0] 72)) w.heap.size 72 #[.int .i64 0, .slice none 0 0] := blk_at rfl
  have q1 : Only sb (sb + 1) w (w.alloc (.cells #[.int .i64 0, .slice none 0 0] 72)) := only_grown (Only.refl sb (sb + 1) w) (World.grownBy_alloc w _ none) (fun g hg => by cases hg)
  go_wp2_with fail
  have hz1 : (w.alloc (.cells #[.int .i64 0, .slice none 0 0] 72)).heap.size = w.heap.size + 1 := by simp
  generalize w.alloc (.cells #[.int .i64 0, .slice none 0 0] 72) = w1 at *
  have HZ1 := Lib.hid hz1
  clear hz1
  refine (next_any sb _ _ h1 (by omega)).mono ?_
  rintro e w2 ⟨r, rfl, -, r2, s2, o2⟩
  have hr := r2 (by omega)
  obtain ⟨N, hN⟩ : ∃ N : Nat, (1 : Int) + r = N := ⟨1 + r, by omega⟩
  have hN1 : 1 ≤ N := by omega
  have hN4 : N ≤ 4 := by omega
  have r2' := r1.only o2 (.inr (by omega))
  have hz2 := o2.size
  have q2 := q1.trans o2
  clear o2 h1 r1 q1 r2
  go_wp2_with fail
  have st0 : DrSt w (w2.alloc (.cells #[.int .i64 N, .slice none 0 0] 72)) sb w.heap.size w2.heap.size N none 0 0 [] [] :=
    ⟨s2.grown (row := none) (World.grownBy_alloc w2 _ none) (fun g hg => by cases hg), r2'.alloc _, blk_at rfl, OwR.empty_ (Own.nil_ _ _ _) (fun g hg => by cases hg), ⟨hsb, Nat.le_refl _, by have := HZ1.out; omega, by simp⟩, only_grown q2 (World.grownBy_alloc w2 _ none) (fun g hg => by cases hg)⟩
  have hpb : w.heap.size < w2.heap.size := by have := HZ1.out; omega
  generalize w2.alloc (.cells #[.int .i64 N, .slice none 0 0] 72) = w3 at *
  generalize w2.heap.size = pb at *
  clear s2 q2 r2' hz2 HZ1 hN hr
  go_loopw [5, 6] (fun bv iv wr => ∃ (b k m : Nat) (ao : Option Addr) (c : Nat) (us : List Value) (ds : List (List Int)), bv = .int .i64 b ∧ iv = .int .i64 k ∧ k ≤ N ∧ b ≤ 4 * k ∧ m ≤ 4 * k ∧ DrSt w wr sb w.heap.size pb N ao m c us ds) (fun _ iv _ => N - (intOf iv).toNat)
  case atStart => exact ⟨0, 0, 0, none, 0, [], [], rfl, rfl, Nat.zero_le _, by omega, by omega, st0⟩
  case round =>
    obtain ⟨b, k, m, ao, c, us, ds, rfl, rfl, hk, hb, hm, st⟩ := hrel
    clear st0 w3
    by_cases hlt : k < N
    · have ST := Lib.hid st
      clear st
      go_wp2_with fail
      go_loopw [5, 7] (fun bv iv wr => ∃ (b j m : Nat) (ao : Option Addr) (c : Nat) (us : List Value) (ds : List (List Int)), bv = .int .i64 b ∧ iv = .int .i64 j ∧ k < j ∧ j ≤ N ∧ b ≤ 4 * k + j ∧ m ≤ 4 * k + j ∧ DrSt w wr sb w.heap.size pb N ao m c us ds) (fun _ iv _ => N - (intOf iv).toNat)
      case atStart => exact ⟨b, k + 1, m, ao, c, us, ds, rfl, by simp, by omega, by omega, by omega, by omega, ST.out⟩
      case round =>
        obtain ⟨b, j, m, ao, c, us, ds, rfl, rfl, hkj, hj, hb, hm, st⟩ := hrel
        clear ST
        by_cases hlt2 : j < N
        · have ST := Lib.hid st
          clear st
          go_upto_if 30 with (fail)
          go_cut [5, 8] (fun s5 s8 wx => ∃ b' L : Nat, s5 = .int .i64 b' ∧ s8 = .int .i64 L ∧ b' ≤ 4 * k + j + 1 ∧ 2 ≤ L ∧ L ≤ 7 ∧ DrSt w wx sb w.heap.size pb N ao m c us ds)
          case first =>
            by_cases hjk : j = k + 1
            · subst hjk
              have hP : Ints (wr.alloc (.cells #[.int .i64 2, .int .i64 3, .int .i64 3, .int .i64 3, .int .i64 4] 2)) (some ⟨wr.heap.size, 0, none⟩) 5 [2, 3, 3, 3, 4] := Own.ints (zs := [2, 3, 3, 3, 4]) (own_lit (us := [.int .i64 2, .int .i64 3, .int .i64 3, .int .i64 3, .int .i64 4]) rfl (Nat.le_refl _) (by simp))
              have oP : Only sb (sb + 1) wr (wr.alloc (.cells #[.int .i64 2, .int .i64 3, .int .i64 3, .int .i64 3, .int .i64 4] 2)) := only_grown (Only.refl _ _ _) (World.grownBy_alloc wr _ none) (fun g hg => by cases hg)
              have sP : Src (wr.alloc (.cells #[.int .i64 2, .int .i64 3, .int .i64 3, .int .i64 3, .int .i64 4] 2)) sb := ST.out.src.grown (row := none) (World.grownBy_alloc wr _ none) (fun g hg => by cases hg)
              have hne : bk (some ⟨wr.heap.size, 0, none⟩) ≠ some sb := by have := ST.out.lo; simp [bk]; omega
              go_wp2_with fail
              refine (pick_any sb _ 5 5 [2, 3, 3, 3, 4] _ sP hP (by omega) (by omega) hne).mono ?_
              rintro e w4 ⟨q, hq, rfl, s4, o4⟩
              obtain ⟨L, hL, hL2, hL7⟩ := pick5 hq
              rw [hL]
              have ST4 := Lib.hid (ST.out.next s4 (oP.trans o4))
              clear hL hP oP sP hne s4 o4 hq q ST
              go_upto_if 35 with (fail)
              go_cut [8] (fun s8 wx => ∃ L : Nat, s8 = .int .i64 L ∧ 2 ≤ L ∧ L ≤ 7 ∧ DrSt w wx sb w.heap.size pb N ao m c us ds)
              case first =>
                by_cases hN3 : N < 3
                · have hP : Ints (w4.alloc (.cells #[.int .i64 2, .int .i64 3, .int .i64 4, .int .i64 5, .int .i64 6, .int .i64 7] 2)) (some ⟨w4.heap.size, 0, none⟩) 6 [2, 3, 4, 5, 6, 7] := Own.ints (zs := [2, 3, 4, 5, 6, 7]) (own_lit (us := [.int .i64 2, .int .i64 3, .int .i64 4, .int .i64 5, .int .i64 6, .int .i64 7]) rfl (Nat.le_refl _) (by simp))
                  have oP : Only sb (sb + 1) w4 (w4.alloc (.cells #[.int .i64 2, .int .i64 3, .int .i64 4, .int .i64 5, .int .i64 6, .int .i64 7] 2)) := only_grown (Only.refl _ _ _) (World.grownBy_alloc w4 _ none) (fun g hg => by cases hg)
                  have sP : Src (w4.alloc (.cells #[.int .i64 2, .int .i64 3, .int .i64 4, .int .i64 5, .int .i64 6, .int .i64 7] 2)) sb := ST4.out.src.grown (row := none) (World.grownBy_alloc w4 _ none) (fun g hg => by cases hg)
                  have hne : bk (some ⟨w4.heap.size, 0, none⟩) ≠ some sb := by have := ST4.out.lo; simp [bk]; omega
                  go_wp2_with fail
                  refine (pick_any sb _ 6 6 [2, 3, 4, 5, 6, 7] _ sP hP (by omega) (by omega) hne).mono ?_
                  rintro e w5 ⟨q, hq, rfl, s5, o5⟩
                  obtain ⟨L', hL', hL2', hL7'⟩ := pick6 hq
                  rw [hL']
                  have st5 := ST4.out.next s5 (oP.trans o5)
                  clear hL' hP oP sP hne o5 hq q
                  go_wp2_with fail
                  go_meet
                  case rel => exact ⟨L', rfl, hL2', hL7', st5⟩
                · go_wp2_with fail
                  go_meet
                  case rel => exact ⟨L, rfl, hL2, hL7, ST4.out⟩
              case rest =>
                obtain ⟨L', rfl, hL2', hL7', st5⟩ := hcut
                have ST5 := Lib.hid st5
                clear st5 ST4 hL2 hL7
                by_cases hL3 : 3 < L'
                · by_cases hb1 : 0 < b
                  · go_wp2_with fail
                    go_meet
                    case rel => exact ⟨b + 1, 3, by go_num, by go_num, by omega, by omega, by omega, ST5.out⟩
                  · obtain rfl : b = 0 := by omega
                    by_cases hN4' : N = 4
                    · subst hN4'
                      by_cases hk1 : k = 1
                      · subst hk1
                        go_wp2_with fail
                        go_meet
                        case rel => exact ⟨1, 3, by go_num, by go_num, by omega, by omega, by omega, ST5.out⟩
                      · have hk1' : ((k : Int) == 1) = false := by simp; omega
                        go_wp2_with fail
                        go_meet
                        case rel => exact ⟨1, L', by go_num, by go_num, by omega, by omega, by omega, ST5.out⟩
                    · go_wp2_with fail
                      go_meet
                      case rel => exact ⟨1, L', by go_num, by go_num, by omega, by omega, by omega, ST5.out⟩
                · by_cases hb1 : 1 < b
                  · go_wp2_with fail
                    go_meet
                    case rel => exact ⟨b, L', by go_num, by go_num, by omega, by omega, by omega, ST5.out⟩
                  · by_cases hN4' : N = 4
                    · subst hN4'
                      by_cases hk1 : k = 1
                      · subst hk1
                        go_wp2_with fail
                        go_meet
                        case rel => exact ⟨b, L', by go_num, by go_num, by omega, by omega, by omega, ST5.out⟩
                      · have hk1' : ((k : Int) == 1) = false := by simp; omega
                        go_wp2_with fail
                        go_meet
                        case rel => exact ⟨b, L', by go_num, by go_num, by omega, by omega, by omega, ST5.out⟩
                    · go_wp2_with fail
                      go_meet
                      case rel => exact ⟨b, L', by go_num, by go_num, by omega, by omega, by omega, ST5.out⟩
            · go_wp2_with fail
              go_meet
              case rel => exact ⟨b, 2, rfl, rfl, by omega, by omega, by omega, ST.out⟩
          case rest =>
            obtain ⟨b', L, rfl, rfl, hb', hL2, hL7, st2⟩ := hcut
            have ST2 := Lib.hid st2
            clear st2 ST
            have hlo := ST2.out.lo
            have x1 := ST2.out.box.cell 1
            have f1 := ST2.out.box.frozen 1
            simp at x1
            have hP : Ints (wc.alloc (.cells #[.int .i64 k, .int .i64 (j : Int)] 2)).drew (some ⟨wc.heap.size, 0, none⟩) 2 [(k : Int), (j : Int)] := Own.ints (zs := [(k : Int), (j : Int)]) (own_lit (us := [.int .i64 k, .int .i64 (j : Int)]) rfl (Nat.le_refl _) (by simp))
            have bP : Below wc.heap.size wc (wc.alloc (.cells #[.int .i64 k, .int .i64 (j : Int)] 2)) := below_alloc1 _ _
            have HP := Lib.hid hP
            have BP := Lib.hid bP
            clear hP bP
            go_wp2_with fail
            have xP : (wc.alloc (.cells #[.int .i64 k, .int .i64 (j : Int)] 2)).cell? ⟨pb, 1, none⟩ = some (.slice ao m c) := (ST2.out.box.alloc _).cell 1
            go_region_law (first | (refine step_ap1 (o := ⟨some 63, _, _, _, _, _⟩) etSS rfl (.tmp 56) (.tmp 62) rfl (pb + 1) ao m c us rfl (ST2.out.row.own.below B3) (.slice a1 (2 * L) c1) w2.heap.size 1 rfl ((blk_at rfl).cell 0) rfl (by omega) (by have := B3.size; simp at *; omega) ?_; intro ao2 c2 w4 o4 g4 hat; have B4S : Below (pb + 1) wc w4 := (B3S.grown g4 (by have := B3.size; omega) (fun g hg => (ST2.out.row.own.lt g hg).1)); have x4 : w4.cell? ⟨pb, 1, none⟩ = some (.slice ao m c) := (ST2.out.box.below B4S (by omega)).cell 1; have f4 : w4.frozen? ⟨pb, 1, none⟩ = false := (ST2.out.box.below B4S (by omega)).frozen 1) | (go_simp; go_at_call 131; refine (specPower_any _ 2 2 L [(k : Int), (j : Int)] _ HP.out (by omega) (by omega)).mono ?_; rintro e w2 ⟨a1, c1, rfl, o1, b1⟩; have B2 : Below wc.heap.size wc w2 := below_tr b1 BP.out.drew; have B2S := B2.mono (show pb + 1 ≤ wc.heap.size by omega); have B3 : Below wc.heap.size wc (w2.alloc (.cells #[.slice a1 (2 * L) c1] 49)) := B2.alloc B2.size _; have B3S := B3.mono (show pb + 1 ≤ wc.heap.size by omega); have x2 : w2.cell? ⟨pb, 1, none⟩ = some (.slice ao m c) := (ST2.out.box.below B2S (by omega)).cell 1; have x3 : (w2.alloc (.cells #[.slice a1 (2 * L) c1] 49)).cell? ⟨pb, 1, none⟩ = some (.slice ao m c) := (ST2.out.box.below B3S (by omega)).cell 1))
            all_goals
              have st3 := ST2.out.push B2 (o1.mono (by simp [World.drew])) (below_alloc1 _ _) o4 g4 hat
              generalize w4.setCell ⟨pb, 1, none⟩ (.slice ao2 (m + 1) c2) = wf at *
              clear B2 B2S B3 B3S B4S x1 x2 x3 x4 xP f1 f4 o1 b1 o4 g4 hat ST2 HP BP
              go_wp2_with fail
              go_roundw
              case rel => exact ⟨b', j + 1, m + 1, ao2, c2, _, _, rfl, by go_num, by omega, by omega, by omega, by omega, st3⟩
              case measure => simp [intOf]; omega
        · obtain rfl : j = N := by omega
          go_wp2_with fail
          go_roundw
          case rel => exact ⟨b, k + 1, m, ao, c, us, ds, rfl, by go_num, by omega, by omega, by omega, st⟩
          case measure => simp [intOf]; omega
    · obtain rfl : k = N := by omega
      have ST := Lib.hid st
      have hlo := st.lo
      clear st
      go_wp2_with fail
      refine (next_any sb _ _ ST.out.src (by omega)).mono ?_
      rintro e w4 ⟨q, rfl, -, -, s4, o4⟩
      have ST4 := Lib.hid (ST.out.next s4 o4)
      clear s4 o4 ST
      go_upto_if 67 with (fail)
      go_cut [] (fun wx => ∃ (m : Nat) (ao : Option Addr) (c : Nat) (us : List Value) (ds : List (List Int)), m ≤ 17 ∧ DrSt w wx sb w.heap.size pb k ao m c us ds)
      case first =>
        by_cases hq0 : q = 0
        · subst hq0
          go_wp2_with fail
          have hlo4 := ST4.out.lo
          refine (drawWord_any sb k 6 _ ST4.out.src (by omega) (by omega) (by omega) (by omega)).mono ?_
          rintro e w5 ⟨a5, n5, c5, zs, rfl, hn5, -, o5, s5, q5⟩
          have ST5 := Lib.hid (ST4.out.next s5 q5)
          have hi5 := o5.ints
          have hne5 : ∀ g, bk a5 = some g → sb < g := fun g hg => by have := (o5.lt g hg).1; omega
          clear o5 s5 q5 ST4 hlo4
          by_cases hn0 : 0 < n5
          · have hlo5 := ST5.out.lo
            have x1 := ST5.out.box.cell 1
            have f1 := ST5.out.box.frozen 1
            simp at x1
            have HI5 := Lib.hid hi5
            have S5D : Src w5.drew sb := ⟨ST5.out.src.box⟩
            have O5D : Only sb (sb + 1) w5 w5.drew := ⟨rfl, rfl, rfl, Nat.le_refl _, fun _ _ _ => rfl⟩
            clear hi5
            go_wp2_with fail
            go_region_law (first | (refine step_ap1 (o := ⟨some 82, _, _, _, _, _⟩) etSS rfl (.tmp 75) (.tmp 81) rfl (pb + 1) ao m c us rfl (ST6.out.row.own.below B3) (.slice a1 (n5 * Q) c1) w7.heap.size 1 rfl ((blk_at rfl).cell 0) rfl (by omega) (by have := B3.size; simp at *; omega) ?_; intro ao2 c2 w8 o8 g8 hat; have B4S : Below (pb + 1) w6 w8 := (B3S.grown g8 (by have := B3.size; omega) (fun g hg => (ST6.out.row.own.lt g hg).1)); have x4 : w8.cell? ⟨pb, 1, none⟩ = some (.slice ao m c) := (ST6.out.box.below B4S (by omega)).cell 1; have f4 : w8.frozen? ⟨pb, 1, none⟩ = false := (ST6.out.box.below B4S (by omega)).frozen 1) | (go_simp; go_at_call 120; refine (next_any sb _ _ S5D (by omega)).mono ?_; rintro e w6 ⟨q, rfl, -, r6, s6, q6⟩; have ST6 := Lib.hid (ST5.out.next s6 (Only.trans O5D q6)); have hlo6 := ST6.out.lo; have HI6 := Lib.hid (HI5.out.same (w' := w6) fun g hg hlt => q6.block g hlt (.inr (by have := hne5 g hg; omega))); have r6' := r6 (by omega); obtain ⟨Q, hQ, hQ3⟩ : ∃ Q : Nat, IntKind.i64.wrap (1 + (q : Int)) = (Q : Int) ∧ Q ≤ 3 := ⟨1 + q, by rw [IntWalk.i64_in _ (by omega)]; omega, by omega⟩; clear r6 r6' q6 s6; have y6 : w6.cell? ⟨pb, 1, none⟩ = some (.slice ao m c) := ST6.out.box.cell 1) | (go_simp; go_at_call 131; refine (specPower_any a5 n5 c5 Q zs _ HI6.out (by omega) (by have : n5 * Q ≤ 6 * 3 := Nat.mul_le_mul hn5 hQ3; omega)).mono ?_; rintro e w7 ⟨a1, c1, rfl, o7, b7⟩; have B2 : Below w6.heap.size w6 w7 := b7; have B2S := B2.mono (show pb + 1 ≤ w6.heap.size by omega); have B3 : Below w6.heap.size w6 (w7.alloc (.cells #[.slice a1 (n5 * Q) c1] 49)) := B2.alloc B2.size _; have B3S := B3.mono (show pb + 1 ≤ w6.heap.size by omega); have x2 : w7.cell? ⟨pb, 1, none⟩ = some (.slice ao m c) := (ST6.out.box.below B2S (by omega)).cell 1; have x3 : (w7.alloc (.cells #[.slice a1 (n5 * Q) c1] 49)).cell? ⟨pb, 1, none⟩ = some (.slice ao m c) := (ST6.out.box.below B3S (by omega)).cell 1))
            all_goals
              have st3 := ST6.out.push B2 o7 (below_alloc1 _ _) o8 g8 hat
              generalize w8.setCell ⟨pb, 1, none⟩ (.slice ao2 (m + 1) c2) = wf at *
              clear B2 B2S B3 B3S B4S x1 x2 x3 x4 y6 f1 f4 o7 b7 o8 g8 hat ST5 ST6 HI5 HI6 hQ
              go_wp2_with fail
              go_meet
              case rel => exact ⟨m + 1, ao2, c2, _, _, by omega, st3⟩
          · obtain rfl : n5 = 0 := by omega
            go_wp2_with fail
            go_meet
            case rel => exact ⟨m, ao, c, us, ds, by omega, ST5.out⟩
        · have hq1 : ((q : Int) == 0) = false := by simp; omega
          go_wp2_with fail
          go_meet
          case rel => exact ⟨m, ao, c, us, ds, by omega, ST4.out⟩
      case rest =>
        obtain ⟨m, ao, c, us, ds, hm, st⟩ := hcut
        have x0 := st.box.cell 0
        have x1 := st.box.cell 1
        have y0 := st.res.cell 0
        have y1 := st.res.cell 1
        have f0 := st.res.frozen 0
        have f1 := st.res.frozen 1
        simp at x0 x1 y0 y1
        have ST5 := Lib.hid st
        clear st ST4
        go_wp2_with fail
        have st2 := ST5.out.done
        have hlen := ST5.out.row.len
        generalize (wc.setCell ⟨w.heap.size, 0, none⟩ (.int .i64 k)).setCell ⟨w.heap.size, 1, none⟩ (.slice ao m c) = wf at *
        have e0 := st2.1.cell 0
        have e1 := st2.1.cell 1
        simp at e0 e1
        refine bodyPost_ret (v := .agg #[.int .i64 k, .slice ao m c]) (by simp [results, Try.f190, go_sem, e0, e1]) rfl ⟨_, _, rfl, by simp; omega, by simp; omega, by simp; omega, st2.2.1, st2.2.2.1, st2.2.2.2⟩
end Go.Proofs.Ytpognnifgcacnaa

/- Draws of presentations: l11DrawAny. -/
namespace Go.Proofs.Ytpognnifgcacnaa
open Go.RowKit

section
variable {w w' : World} {lo hi E F : Nat} {ao : Option Addr} {n c : Nat} {xs : List Value} {ds : List (List Int)}
/-- an owned block is of the element's type -/
theorem Own.typ (h : Own w lo E ao n c xs) {g : Nat} (hg : bk ao = some g) : ∃ cs, w.heap[g]? = some (.cells cs E (0, 0)) := by
  rcases h.1.2 with h2 | ⟨g', cap, cur, hv, _, hh, _⟩
  · have h2 := h2.1
    injection h2 with h3; subst h3; cases hg
  · injection hv with h3; subst h3
    obtain rfl := Option.some.inj hg
    exact ⟨cur, hh⟩
theorem OwR.sameT (h : OwR (OwS F) w lo hi E ao n c xs ds) (hs : ∀ g cs t, lo ≤ g → g < hi → w.heap[g]? = some (.cells cs t (0, 0)) → t = E ∨ t = F → w'.heap[g]? = w.heap[g]?) : OwR (OwS F) w' lo hi E ao n c xs ds :=
  { own := h.own.same fun g hg => by
      obtain ⟨cs, hc⟩ := h.own.typ hg
      exact hs g cs E (h.own.lt g hg).1 (h.top g hg) hc (.inl rfl)
    top := h.top, len := h.len, rng := h.rng, out := h.out, apart := h.apart
    el := fun j u d hu hd => by
      obtain ⟨ao', n', c', rfl, ho⟩ := h.el j u d hu hd
      refine ⟨ao', n', c', rfl, ho.same fun g hg => ?_⟩
      obtain ⟨cs, hc⟩ := ho.typ hg
      have hr := h.rng j _ hu g (by rw [ownBlock_slice]; exact hg)
      exact hs g cs F hr.1 hr.2 hc (.inr rfl) }
end
/-- a presentation that lies about its box pb; the result's box is rb -/
structure DaSt (w wr : World) (sb rb pb : Nat) (N : Int) (ao : Option Addr) (m c : Nat) (us : List Value) (ds : List (List Int)) : Prop where
  src : Src wr sb
  res : Blk wr rb 72 #[.int .i64 0, .slice none 0 0]
  box : Blk wr pb 72 #[.int .i64 N, .slice ao m c]
  row : OwR (OwS 2) wr w.heap.size wr.heap.size 49 ao m c us ds
  lo : sb < w.heap.size ∧ w.heap.size ≤ rb ∧ rb < pb ∧ pb < wr.heap.size
  only : Only sb (sb + 1) w wr
section
variable {w wr : World} {sb rb pb : Nat} {N : Int} {ao : Option Addr} {m c : Nat} {us : List Value} {ds : List (List Int)}
theorem DaSt.next {w2 : World} (st : DaSt w wr sb rb pb N ao m c us ds) (s2 : Src w2 sb) (o2 : Only sb (sb + 1) wr w2) : DaSt w w2 sb rb pb N ao m c us ds :=
  have hl := st.lo
  have hsz := o2.size
  ⟨s2, st.res.only o2 (.inr (by omega)), st.box.only o2 (.inr (by omega)), (st.row.only (innerS _) o2 (.inr (by omega))).mono (Nat.le_refl _) hsz, ⟨hl.1, hl.2.1, hl.2.2.1, by omega⟩, st.only.trans o2⟩
/-- a box of a presentation is no block of the row -/
theorem pres_off {w w' : World} {lo hi : Nat} (h : OwR (OwS 2) w lo hi 49 ao m c us ds) {pb : Nat} {cs : Array Value} (hb : Blk w pb 72 cs) (hs : ∀ g, g ≠ pb → lo ≤ g → w'.heap[g]? = w.heap[g]?) : OwR (OwS 2) w' lo hi 49 ao m c us ds :=
  h.sameT fun g cs' t h1 h2 hc ht => hs g (fun e => by
    subst e
    unfold Blk at hb
    rw [hb] at hc
    injection hc with hc
    injection hc with _ hc
    subst hc
    rcases ht with ht | ht <;> exact absurd ht (by decide)) h1
theorem DaSt.set0 (st : DaSt w wr sb rb pb N ao m c us ds) (z : Int) : DaSt w (wr.setCell ⟨pb, 0, none⟩ (.int .i64 z)) sb rb pb z ao m c us ds := by
  have hl := st.lo
  have hh : (wr.setCell ⟨pb, 0, none⟩ (.int .i64 z)).heap.size = wr.heap.size := by simp [World.setCell]
  have hne : ∀ g, g ≠ pb → (wr.setCell ⟨pb, 0, none⟩ (.int .i64 z)).heap[g]? = wr.heap[g]? := fun g hg => Below.heap_setCell _ _ _ _ (by simpa using hg)
  have o := st.only
  refine ⟨st.src.far fun g hg => hne g (by omega), st.res.far (by simp; omega) _, ?_, ?_, by rw [hh]; exact hl, ⟨o.os, o.tape, o.output, by rw [hh]; exact o.size, fun k hk hd => by rw [hne k (by omega)]; exact o.block k hk hd⟩⟩
  · have := st.box.set_ 0 (.int .i64 z)
    simpa using this
  · rw [hh]; exact pres_off st.row st.box fun g hg _ => hne g hg
theorem DaSt.nilled (st : DaSt w wr sb rb pb N ao m c us ds) : DaSt w (wr.setCell ⟨pb, 1, none⟩ (.slice none 0 0)) sb rb pb N none 0 0 [] [] := by
  have hl := st.lo
  have hh : (wr.setCell ⟨pb, 1, none⟩ (.slice none 0 0)).heap.size = wr.heap.size := by simp [World.setCell]
  have hne : ∀ g, g ≠ pb → (wr.setCell ⟨pb, 1, none⟩ (.slice none 0 0)).heap[g]? = wr.heap[g]? := fun g hg => Below.heap_setCell _ _ _ _ (by simpa using hg)
  have o := st.only
  refine ⟨st.src.far fun g hg => hne g (by omega), st.res.far (by simp; omega) _, ?_, OwR.empty_ (Own.nil_ _ _ _) (fun g hg => by cases hg), by rw [hh]; exact hl, ⟨o.os, o.tape, o.output, by rw [hh]; exact o.size, fun k hk hd => by rw [hne k (by omega)]; exact o.block k hk hd⟩⟩
  have := st.box.set_ 1 (.slice none 0 0)
  simpa using this
theorem DaSt.box4 {w2 w3 w4 : World} (st : DaSt w wr sb rb pb N ao m c us ds) (b2 : Below wr.heap.size wr w2) (b3 : Below w2.heap.size w2 w3) (g4 : w3.grownBy w4 (bk ao)) : Blk w4 pb 72 #[.int .i64 N, .slice ao m c] := by
  have hl := st.lo
  have s2 := b2.size
  have s3 := b3.size
  refine Eq.trans ?_ st.box
  rw [g4.block pb (by omega) (fun e => ?_), b3.block pb (by omega), b2.block pb (by omega)]
  obtain ⟨cs', hc⟩ := st.row.own.typ e.symm
  have hx := st.box
  unfold Blk at hx
  rw [hx] at hc
  injection hc with hc
  injection hc with _ hc
  exact absurd hc (by decide)
theorem DaSt.push {w2 w3 w4 : World} {n1 c1 c2 : Nat} {a1 ao2 : Option Addr} {zs : List Int} (st : DaSt w wr sb rb pb N ao m c us ds)
    (b2 : Below wr.heap.size wr w2) (o1 : Own w2 wr.heap.size 2 a1 n1 c1 (zs.map (Value.int .i64))) (b3 : Below w2.heap.size w2 w3) (o4 : Own w4 w.heap.size 49 ao2 (m + 1) c2 (us ++ [.slice a1 n1 c1]))
    (g4 : w3.grownBy w4 (bk ao)) (hat : bk ao2 = bk ao ∨ bk ao2 = some w3.heap.size) :
    DaSt w (w4.setCell ⟨pb, 1, none⟩ (.slice ao2 (m + 1) c2)) sb rb pb N ao2 (m + 1) c2 (us ++ [.slice a1 n1 c1]) (ds ++ [zs]) := by
  have hl := st.lo
  have hR := rows_push st.row (by omega) b2 o1 b3 o4 g4 hat
  have s2 := b2.size
  have s3 := b3.size
  have s4 := g4.size
  have hoff : ∀ x cs, Blk wr x 72 cs → bk ao ≠ some x := fun x cs hx e => by
    obtain ⟨cs', hc⟩ := st.row.own.typ e
    unfold Blk at hx
    rw [hx] at hc
    injection hc with hc
    injection hc with _ hc
    exact absurd hc (by decide)
  have B4 : ∀ g, g < wr.heap.size → bk ao ≠ some g → w4.heap[g]? = wr.heap[g]? := fun g hg hne => by
    rw [g4.block g (by omega) (fun e => hne e.symm), b3.block g (by omega), b2.block g hg]
  have old : ∀ g, g < w.heap.size → w4.heap[g]? = wr.heap[g]? := fun g hg => B4 g (by omega) (fun e => by have := (st.row.own.lt g e).1; omega)
  have hh : (w4.setCell ⟨pb, 1, none⟩ (.slice ao2 (m + 1) c2)).heap.size = w4.heap.size := by simp [World.setCell]
  have hne : ∀ g, g ≠ pb → (w4.setCell ⟨pb, 1, none⟩ (.slice ao2 (m + 1) c2)).heap[g]? = w4.heap[g]? := fun g hg => Below.heap_setCell _ _ _ _ (by simpa using hg)
  have box4 : Blk w4 pb 72 #[.int .i64 N, .slice ao m c] := (B4 pb hl.2.2.2 (hoff pb _ st.box)).trans st.box
  have res4 : Blk w4 rb 72 #[.int .i64 0, .slice none 0 0] := (B4 rb (by omega) (hoff rb _ st.res)).trans st.res
  refine ⟨st.src.far fun g hg => (hne g (by omega)).trans (old g (by omega)), res4.far (by simp; omega) _, ?_, ?_, ⟨hl.1, hl.2.1, hl.2.2.1, by rw [hh]; omega⟩, ?_⟩
  · have := box4.set_ 1 (.slice ao2 (m + 1) c2)
    simpa using this
  · rw [hh]
    exact pres_off hR box4 fun g hg _ => hne g hg
  · have o := st.only
    have s0 := o.size
    have b3o := b3.os
    exact ⟨(g4.os.trans (b3.os.trans b2.os)).trans o.os, (g4.tape.trans (b3.tape.trans b2.tape)).trans o.tape, (g4.output.trans (b3.output.trans b2.output)).trans o.output, by rw [hh]; omega, fun k hk hd => by rw [hne k (by omega), old k hk]; exact o.block k hk hd⟩
theorem DaSt.done (st : DaSt w wr sb rb pb N ao m c us ds) :
    Blk ((wr.setCell ⟨rb, 0, none⟩ (.int .i64 N)).setCell ⟨rb, 1, none⟩ (.slice ao m c)) rb 72 #[.int .i64 N, .slice ao m c] ∧
    OwP 2 49 ((wr.setCell ⟨rb, 0, none⟩ (.int .i64 N)).setCell ⟨rb, 1, none⟩ (.slice ao m c)) w.heap.size ((wr.setCell ⟨rb, 0, none⟩ (.int .i64 N)).setCell ⟨rb, 1, none⟩ (.slice ao m c)).heap.size (.agg #[.int .i64 N, .slice ao m c]) (N, ds) ∧
    Src ((wr.setCell ⟨rb, 0, none⟩ (.int .i64 N)).setCell ⟨rb, 1, none⟩ (.slice ao m c)) sb ∧
    Only sb (sb + 1) w ((wr.setCell ⟨rb, 0, none⟩ (.int .i64 N)).setCell ⟨rb, 1, none⟩ (.slice ao m c)) := by
  have hl := st.lo
  have hh : ((wr.setCell ⟨rb, 0, none⟩ (.int .i64 N)).setCell ⟨rb, 1, none⟩ (.slice ao m c)).heap.size = wr.heap.size := by simp [World.setCell]
  have hne : ∀ g, g ≠ rb → ((wr.setCell ⟨rb, 0, none⟩ (.int .i64 N)).setCell ⟨rb, 1, none⟩ (.slice ao m c)).heap[g]? = wr.heap[g]? := fun g hg => by
    rw [Below.heap_setCell _ _ _ _ (by simpa using hg), Below.heap_setCell _ _ _ _ (by simpa using hg)]
  refine ⟨?_, ⟨ao, m, c, us, rfl, ?_⟩, st.src.far fun g hg => hne g (by omega), ?_⟩
  · have := (st.res.set_ 0 (.int .i64 N)).set_ 1 (.slice ao m c)
    simpa using this
  · rw [hh]
    exact pres_off st.row st.res fun g hg _ => hne g hg
  · have o := st.only
    exact ⟨o.os, o.tape, o.output, by rw [hh]; exact o.size, fun k hk hd => by rw [hne k (by omega)]; exact o.block k hk hd⟩
end
theorem vals_one {w : World} {b : Nat} {u : Value} (h : w.cell? ⟨b, 0, none⟩ = some u) : Vals w (some ⟨b, 0, none⟩) 1 [u] :=
  ⟨rfl, by omega, fun _ => ⟨b, 0, rfl, fun j v hv => by
    cases j with
    | zero => simp at hv; subst hv; exact h
    | succ j => simp at hv⟩⟩
theorem pick4 {r : Nat} {z : Int} (h : r < 4) (h1 : 1 ≤ z) (h2 : z ≤ 4) : 0 ≤ iget [0, 6, z - 1, z + 1] r ∧ iget [0, 6, z - 1, z + 1] r ≤ 6 := by
  match r, h with
  | 0, _ => show (0 : Int) ≤ 0 ∧ (0 : Int) ≤ 6; omega
  | 1, _ => show (0 : Int) ≤ 6 ∧ (6 : Int) ≤ 6; omega
  | 2, _ => show 0 ≤ z - 1 ∧ z - 1 ≤ 6; omega
  | 3, _ => show 0 ≤ z + 1 ∧ z + 1 ≤ 6; omega

set_option maxRecDepth 100000 in
set_option maxHeartbeats 3200000 in
theorem drawAny_any (sb : Nat) (w : World) (h : Src w sb) (hsb : sb < w.heap.size) :
    Calls Try.prog 129 #[.pointer (some ⟨sb, 0, none⟩)] w (DrawnP w sb 0 6 18) := by
  go_enter Try.func129, Try.ntmps129
  have h1 : Src (w.alloc (.cells #[.int .i64 0, .slice none 0 0] 72)) sb := h.grown (row := none) (World.grownBy_alloc w _ none) (fun g hg => by cases hg)
  have r1 : Blk (w.alloc (.cells #[.int .i64 0, .slice none 0 0] 72)) w.heap.size 72 #[.int .i64 0, .slice none 0 0] := blk_at rfl
  have q1 : Only sb (sb + 1) w (w.alloc (.cells #[.int .i64 0, .slice none 0 0] 72)) := only_grown (Only.refl sb (sb + 1) w) (World.grownBy_alloc w _ none) (fun g hg => by cases hg)
  go_wp2_with fail
  have hz1 : (w.alloc (.cells #[.int .i64 0, .slice none 0 0] 72)).heap.size = w.heap.size + 1 := by simp
  generalize w.alloc (.cells #[.int .i64 0, .slice none 0 0] 72) = w1 at *
  have HZ1 := Lib.hid hz1
  refine (draw_any sb _ h1 (by omega)).mono ?_
  clear hz1
  rintro e w2 ⟨v, ⟨N, ds⟩, rfl, hN1, hN4, hds, ho, s2, q2⟩
  obtain ⟨ao, m, c, us, rfl, hrow⟩ := ho
  have hlen := hrow.len
  have r2 := r1.only q2 (.inr (by have := HZ1.out; omega))
  have q3 := q1.trans q2
  have z2 := q2.size
  dsimp only at hN1 hN4 hds hrow
  have hm : m ≤ 17 := by dsimp only at hlen; omega
  clear q1 h1 r1 q2 hlen
  go_wp2_with fail
  have st0 : DaSt w (w2.alloc (.cells #[.int .i64 N, .slice ao m c] 72)) sb w.heap.size w2.heap.size N ao m c us ds :=
    ⟨s2.grown (row := none) (World.grownBy_alloc w2 _ none) (fun g hg => by cases hg), r2.alloc _, blk_at rfl, (hrow.below (innerS _) (below_alloc1 _ _)).mono (by have := HZ1.out; omega) (by simp), ⟨hsb, Nat.le_refl _, by have := HZ1.out; omega, by simp⟩, only_grown q3 (World.grownBy_alloc w2 _ none) (fun g hg => by cases hg)⟩
  have hpb : w.heap.size < w2.heap.size := by have := HZ1.out; omega
  generalize w2.alloc (.cells #[.int .i64 N, .slice ao m c] 72) = w3 at *
  generalize w2.heap.size = pb at *
  clear s2 q3 r2 z2 HZ1 hrow hds
  have ST0 := Lib.hid st0
  clear st0
  refine (next_any sb _ _ ST0.out.src (by omega)).mono ?_
  rintro e w4 ⟨q, rfl, -, -, s4, o4⟩
  have ST := Lib.hid (ST0.out.next s4 o4)
  clear s4 o4 ST0 w3
  go_upto_block 0 with (fail)
  go_cut [] (fun wx => ∃ (N' : Int) (m : Nat) (ao : Option Addr) (c : Nat) (us : List Value) (ds : List (List Int)), 0 ≤ N' ∧ N' ≤ 6 ∧ m ≤ 18 ∧ DaSt w wx sb w.heap.size pb N' ao m c us ds)
  case first =>
    have x0 := ST.out.box.cell 0
    have x1 := ST.out.box.cell 1
    have f0 := ST.out.box.frozen 0
    have f1 := ST.out.box.frozen 1
    have hlo := ST.out.lo
    simp at x0 x1
    by_cases hq0 : q = 0
    · subst hq0
      have hP : Ints (w4.alloc (.cells #[.int .i64 0, .int .i64 6, .int .i64 (N - 1), .int .i64 (N + 1)] 2)) (some ⟨w4.heap.size, 0, none⟩) 4 [0, 6, N - 1, N + 1] := Own.ints (zs := [0, 6, N - 1, N + 1]) (own_lit (us := [.int .i64 0, .int .i64 6, .int .i64 (N - 1), .int .i64 (N + 1)]) rfl (Nat.le_refl _) (by simp))
      have oP : Only sb (sb + 1) w4 (w4.alloc (.cells #[.int .i64 0, .int .i64 6, .int .i64 (N - 1), .int .i64 (N + 1)] 2)) := only_grown (Only.refl _ _ _) (World.grownBy_alloc w4 _ none) (fun g hg => by cases hg)
      have sP : Src (w4.alloc (.cells #[.int .i64 0, .int .i64 6, .int .i64 (N - 1), .int .i64 (N + 1)] 2)) sb := ST.out.src.grown (row := none) (World.grownBy_alloc w4 _ none) (fun g hg => by cases hg)
      have hne : bk (some ⟨w4.heap.size, 0, none⟩) ≠ some sb := by simp [bk]; omega
      go_wp2_with fail
      refine (pick_any sb _ 4 4 [0, 6, N - 1, N + 1] _ sP hP (by omega) (by omega) hne).mono ?_
      rintro e w5 ⟨p, hp, rfl, s5, o5⟩
      have hN := pick4 hp hN1 hN4
      generalize iget [0, 6, N - 1, N + 1] p = M at *
      have ST5 := Lib.hid (ST.out.next s5 (oP.trans o5))
      clear hP oP sP hne s5 o5 hp ST x0 x1 f0 f1
      have f0 := ST5.out.box.frozen 0
      have x0 := ST5.out.box.cell 0
      simp at x0
      have hs := ST5.out.set0 M
      go_wp2_with fail
      go_meet
      case rel => exact ⟨M, m, ao, c, us, ds, hN.1, hN.2, by omega, hs⟩
    · by_cases hq1 : q = 1
      · subst hq1
        have hV : Vals ((w4.alloc (.cells #[] 2)).alloc (.cells #[.slice (some ⟨w4.heap.size, 0, none⟩) 0 0] 49)) (some ⟨w4.heap.size + 1, 0, none⟩) 1 [.slice (some ⟨w4.heap.size, 0, none⟩) 0 0] := vals_one ((blk_at (by simp)).cell 0)
        have HV := Lib.hid hV
        have hO : Own ((w4.alloc (.cells #[] 2)).alloc (.cells #[.slice (some ⟨w4.heap.size, 0, none⟩) 0 0] 49)) w.heap.size 49 ao m c us := (ST.out.row.own.alloc _).alloc _
        have HO := Lib.hid hO
        have hS : w.heap.size ≤ ((w4.alloc (.cells #[] 2)).alloc (.cells #[.slice (some ⟨w4.heap.size, 0, none⟩) 0 0] 49)).heap.size := by simp; omega
        have hw3 : Below w4.heap.size w4 (w4.alloc (.cells #[] 2)) := below_alloc1 _ _
        have HW3 := Lib.hid hw3
        have o1 : Own (w4.alloc (.cells #[] 2)) w4.heap.size 2 (some ⟨w4.heap.size, 0, none⟩) 0 0 (([] : List Int).map (Value.int .i64)) := Own.empty_ w4 _ (Nat.le_refl _)
        have O1 := Lib.hid o1
        clear hV hO hw3 o1
        go_wp2_with (at_builtin; refine wpList_apV etSS _ rfl _ _ rfl w.heap.size ao m c us rfl HO.out (some ⟨w4.heap.size + 1, 0, none⟩) 1 1 [.slice (some ⟨w4.heap.size, 0, none⟩) 0 0] rfl HV.out (by intro u hu; simp at hu; subst hu; rfl) (by omega) hS ?_; intro ao2 c2 w8 o8 g8 hat; have k8 := ST.out.box4 HW3.out (below_alloc1 _ _) g8; have x8 := k8.cell 1; have f8 := k8.frozen 1; simp at x8)
        have hs := ST.out.push HW3.out O1.out (below_alloc1 _ _) o8 g8 hat
        generalize w8.setCell ⟨pb, 1, none⟩ (.slice ao2 (m + 1) c2) = wf at *
        go_meet
        case rel => exact ⟨N, m + 1, ao2, c2, _, _, by omega, by omega, by omega, hs⟩
      · by_cases hq2 : q = 2
        · subst hq2
          have S5D : Src w4.drew sb := ⟨ST.out.src.box⟩
          have O5D : Only sb (sb + 1) w4 w4.drew := ⟨rfl, rfl, rfl, Nat.le_refl _, fun _ _ _ => rfl⟩
          go_wp2_with fail
          go_region_law (first | (refine step_ap1 (o := ⟨some 37, _, _, _, _, _⟩) etSS rfl (.tmp 31) (.tmp 36) rfl w.heap.size ao m c us rfl ((ST6.out.row.own.alloc _).alloc _) (.slice (some ⟨w6.heap.size, 0, none⟩) 1 1) (w6.heap.size + 1) 1 rfl ((blk_at (by simp)).cell 0) rfl (by omega) (by simp; omega) ?_; intro ao2 c2 w8 o8 g8 hat; have k8 := ST6.out.box4 B7 (below_alloc1 _ _) g8; have x8 : w8.cell? ⟨pb, 1, none⟩ = some (.slice ao m c) := k8.cell 1; have f8 := k8.frozen 1) | (go_simp; go_at_call 120; refine (next_any sb _ _ S5D (by omega)).mono ?_; rintro e w6 ⟨q, rfl, -, r6, s6, q6⟩; have ST6 := Lib.hid (ST.out.next s6 (Only.trans O5D q6)); have hlo6 := ST6.out.lo; have r6' := r6 (by omega); have hW : IntKind.i64.wrap ((q : Int) - 1) = (q : Int) - 1 := IntWalk.i64_in _ (by omega); have B7 : Below w6.heap.size w6 (w6.alloc (.cells #[.int .i64 ((q : Int) - 1)] 2)) := below_alloc1 _ _; have y6 : w6.cell? ⟨pb, 1, none⟩ = some (.slice ao m c) := ST6.out.box.cell 1; clear r6 q6 s6))
          all_goals
            have o1 : Own (w6.alloc (.cells #[.int .i64 ((q : Int) - 1)] 2)) w6.heap.size 2 (some ⟨w6.heap.size, 0, none⟩) 1 1 ([((q : Int) - 1)].map (Value.int .i64)) := own_lit (us := [.int .i64 ((q : Int) - 1)]) rfl (Nat.le_refl _) (by simp)
            have hs := ST6.out.push B7 o1 (below_alloc1 _ _) o8 g8 hat
            generalize w8.setCell ⟨pb, 1, none⟩ (.slice ao2 (m + 1) c2) = wf at *
            clear hW o1 o8 g8 hat k8 x8 f8 y6 B7
            go_wp2_with fail
            go_meet
            case rel => exact ⟨N, m + 1, ao2, c2, _, _, by omega, by omega, by omega, hs⟩
        · by_cases hq3 : q = 3
          · subst hq3
            have hs := ST.out.nilled
            go_wp2_with fail
            go_meet
            case rel => exact ⟨N, 0, none, 0, [], [], by omega, by omega, by omega, hs⟩
          · have g0 : ((q : Int) == 0) = false := by simp; omega
            have g1 : ((q : Int) == 1) = false := by simp; omega
            have g2 : ((q : Int) == 2) = false := by simp; omega
            have g3 : ((q : Int) == 3) = false := by simp; omega
            go_wp2_with fail
            go_meet
            case rel => exact ⟨N, m, ao, c, us, ds, by omega, by omega, by omega, ST.out⟩
  case rest =>
    obtain ⟨N', m, ao, c, us, ds, hN0, hN6, hm, st⟩ := hcut
    have x0 := st.box.cell 0
    have x1 := st.box.cell 1
    have y0 := st.res.cell 0
    have y1 := st.res.cell 1
    have f0 := st.res.frozen 0
    have f1 := st.res.frozen 1
    simp at x0 x1 y0 y1
    have ST5 := Lib.hid st
    clear st ST
    go_wp2_with fail
    have st2 := ST5.out.done
    have hlen := ST5.out.row.len
    generalize (wc.setCell ⟨w.heap.size, 0, none⟩ (.int .i64 N')).setCell ⟨w.heap.size, 1, none⟩ (.slice ao m c) = wf at *
    have e0 := st2.1.cell 0
    have e1 := st2.1.cell 1
    simp at e0 e1
    refine bodyPost_ret (v := .agg #[.int .i64 N', .slice ao m c]) (by simp [results, Try.f129, go_sem, e0, e1]) rfl ⟨_, _, rfl, by simp; omega, by simp; omega, by simp; omega, st2.2.1, st2.2.2.1, st2.2.2.2⟩
end Go.Proofs.Ytpognnifgcacnaa

/- Draws of presentations and words: DrawIsIdentityWord. -/
namespace Go.Proofs.Ytpognnifgcacnaa
open Go.RowKit

/-- what a draw of a presentation and a word leaves -/
def DrawnPW (w : World) (e : Ending) (w' : World) : Prop :=
  ∃ v d u zs, e = .returned (.tuple #[v, u]) ∧ OwP 2 49 w' w.heap.size w'.heap.size v d ∧ OwnS 2 w' w.heap.size w'.heap.size u zs ∧ d.2.length ≤ 18 ∧ zs.length ≤ 17 ∧ Below w.heap.size w w'
theorem only_of_grown {w w' : World} {lo hi : Nat} {row : Option Nat} (h : w.grownBy w' row) (hr : ∀ g, row = some g → lo ≤ g ∧ g < hi) : Only lo hi w w' :=
  ⟨h.os, h.tape, h.output, h.size, fun k hk hd => h.block k hk (fun e => by have := hr k e.symm; omega)⟩
theorem only_sets (w : World) (b : Nat) (u v : Value) : Only b (b + 1) w ((w.setCell ⟨b, 0, none⟩ u).setCell ⟨b, 1, none⟩ v) :=
  ⟨rfl, rfl, rfl, by simp [World.setCell], fun k hk hd => by rw [Below.heap_setCell _ _ _ _ (by show k ≠ b; omega), Below.heap_setCell _ _ _ _ (by show k ≠ b; omega)]⟩
theorem OwP.mono {E1 E : Nat} {w : World} {lo hi lo' hi' : Nat} {v : Value} {d : PresD} (h : OwP E1 E w lo hi v d) (h1 : lo' ≤ lo) (h2 : hi ≤ hi') : OwP E1 E w lo' hi' v d := by
  obtain ⟨ao, n, c, us, rfl, ho⟩ := h
  exact ⟨ao, n, c, us, rfl, ho.mono h1 h2⟩
theorem OwnS.mono {E : Nat} {w : World} {lo hi lo' hi' : Nat} {v : Value} {zs : List Int} (h : OwnS E w lo hi v zs) (h1 : lo' ≤ lo) (h2 : hi ≤ hi') : OwnS E w lo' hi' v zs := ⟨h.1, h.2.mono h1 h2⟩
theorem below_only {a w w' : World} {B lo hi : Nat} (h : Below B a w) (o : Only lo hi w w') (hB : B ≤ lo) (ha : B ≤ w.heap.size) : Below B a w' :=
  ⟨o.os.trans h.os, o.tape.trans h.tape, o.output.trans h.output, Nat.le_trans h.size o.size, fun i hi => (o.block i (by omega) (.inl (by omega))).trans (h.block i hi)⟩

set_option maxRecDepth 100000 in
set_option maxHeartbeats 3200000 in
theorem drawIdWord_any (ao : Option Addr) (n c : Nat) (w : World) (h : Bts w ao n w.heap.size) :
    Calls Try.prog 53 #[.slice ao n c] w (DrawnPW w) := by
  go_enter Try.func53, Try.ntmps53
  have r1 : Blk (w.alloc (.cells #[.int .i64 0, .slice none 0 0] 72)) w.heap.size 72 #[.int .i64 0, .slice none 0 0] := blk_at rfl
  have b1 : Below w.heap.size w (w.alloc (.cells #[.int .i64 0, .slice none 0 0] 72)) := below_alloc1 _ _
  have t1 : Bts (w.alloc (.cells #[.int .i64 0, .slice none 0 0] 72)) ao n (w.alloc (.cells #[.int .i64 0, .slice none 0 0] 72)).heap.size := by
    obtain ⟨x1, x2⟩ := h.below b1
    exact ⟨x1, fun hn => by obtain ⟨b, off, e, hb, hc⟩ := x2 hn; exact ⟨b, off, e, by simp; omega, hc⟩⟩
  have hz1 : w.heap.size < (w.alloc (.cells #[.int .i64 0, .slice none 0 0] 72)).heap.size := by simp
  go_wp2_with fail
  generalize w.alloc (.cells #[.int .i64 0, .slice none 0 0] 72) = w1 at *
  refine (from_any ao n c w1 t1).mono ?_
  rintro e w2 ⟨rfl, s2, z2, b2⟩
  have r2 := r1.belowS b2
  have B2 := b1.trans (b2.mono (by omega))
  clear r1 b1 t1 b2
  go_wp2_with fail
  refine (drawAny_any _ w2 s2 z2).mono ?_
  rintro e w3 ⟨v, ⟨N, ds⟩, rfl, hN0, hN6, hds, ho, s3, q3⟩
  obtain ⟨a3, n3, c3, rfl⟩ := ho.form
  have r3 := r2.only q3 (.inl hz1)
  have B3 := below_only B2 q3 (by omega) (by omega)
  have z3 := q3.size
  dsimp only at hN0 hN6 hds
  clear r2 B2 s2 q3
  go_upto_region 3 with (fail)
  have r4 := r3.alloc (.cells #[.int .i64 N, .slice a3 n3 c3] 72)
  have k4 : Blk (w3.alloc (.cells #[.int .i64 N, .slice a3 n3 c3] 72)) w3.heap.size 72 #[.int .i64 N, .slice a3 n3 c3] := blk_at rfl
  have o4 := ho.below (below_alloc1 w3 (.cells #[.int .i64 N, .slice a3 n3 c3] 72))
  have s4 := s3.grown (row := none) (World.grownBy_alloc w3 (.cells #[.int .i64 N, .slice a3 n3 c3] 72) none) (fun g hg => by cases hg)
  have B4 := B3.trans ((below_alloc1 w3 (.cells #[.int .i64 N, .slice a3 n3 c3] 72)).mono (by omega))
  have z4 : w3.heap.size < (w3.alloc (.cells #[.int .i64 N, .slice a3 n3 c3] 72)).heap.size := by simp
  generalize w3.alloc (.cells #[.int .i64 N, .slice a3 n3 c3] 72) = w4 at *
  clear r3 ho s3 B3
  have x4 := k4.cell 0
  simp at x4
  go_cut [6] (fun s6 wx => ∃ (a5 : Option Addr) (n5 c5 : Nat) (zs : List Int), s6 = .slice a5 n5 c5 ∧ n5 ≤ 4 ∧ Own wx w4.heap.size 2 a5 n5 c5 (zs.map (Value.int .i64)) ∧ Src wx w1.heap.size ∧ Only w1.heap.size (w1.heap.size + 1) w4 wx)
  case first =>
    by_cases hN1 : N ≤ 1
    · have g1 : decide (1 ≤ N) = decide (N = 1) := by by_cases e : N = 1 <;> simp [e]; omega
      clear g1
      go_wp2_with fail
      refine (drawWord_any _ 1 4 _ s4 (by omega) (by omega) (by omega) (by omega)).mono ?_
      rintro e w5 ⟨a5, n5, c5, zs, rfl, hn5, -, o5, s5, q5⟩
      have O5 := Lib.hid o5
      clear o5
      go_wp2_with fail
      go_meet
      case rel => exact ⟨a5, n5, c5, zs, rfl, hn5, O5.out, s5, q5⟩
    · obtain ⟨L, rfl⟩ : ∃ L : Nat, N = L := ⟨N.toNat, by omega⟩
      go_wp2_with fail
      refine (drawWord_any _ L 4 _ s4 (by omega) (by omega) (by omega) (by omega)).mono ?_
      rintro e w5 ⟨a5, n5, c5, zs, rfl, hn5, -, o5, s5, q5⟩
      have O5 := Lib.hid o5
      clear o5
      go_wp2_with fail
      go_meet
      case rel => exact ⟨a5, n5, c5, zs, rfl, hn5, O5.out, s5, q5⟩
  case rest =>
    obtain ⟨a5, n5, c5, zs, rfl, hn5, o5, s5, q5⟩ := hcut
    have r5 := r4.only q5 (.inl hz1)
    have k5 := k4.only q5 (.inr (by omega))
    have p5 := o4.only q5 (.inr (by omega))
    have B5 := below_only B4 q5 (by omega) (by omega)
    have z5 := q5.size
    have P5 := Lib.hid p5
    have O5 := Lib.hid o5
    clear x4 r4 k4 o4 s4 B4 q5 p5 o5
    go_wp2_with fail
    refine (next_any _ _ _ s5 (by omega)).mono ?_
    rintro e w6 ⟨q, rfl, -, r6, s6, q6⟩
    have hq := r6 (by omega)
    obtain ⟨Q, hQ, hQ4⟩ : ∃ Q : Nat, (1 : Int) + q = (Q : Int) ∧ Q ≤ 4 := ⟨1 + q, by omega, by omega⟩
    have r7 := r5.only q6 (.inl hz1)
    have k6 := k5.only q6 (.inr (by omega))
    have P6 := Lib.hid (P5.out.only q6 (.inr (by omega)))
    have O6 := Lib.hid (O5.out.only q6 (lo' := w4.heap.size) (hi' := wc.heap.size) (fun g hg => ⟨(O5.out.lt g hg).1, (O5.out.lt g hg).2⟩) (.inr (by omega)))
    have B6 := below_only B5 q6 (by omega) (by omega)
    have z6 := q6.size
    clear r6 r5 k5 P5 O5 B5 s5 q6
    have hm : n5 * Q ≤ 4 * 4 := Nat.mul_le_mul hn5 hQ4
    go_wp2_with fail
    refine (specPower_any a5 n5 c5 Q zs _ O6.out.ints (by omega) (by omega)).mono ?_
    rintro e w7 ⟨a7, c7, rfl, o7, b7⟩
    generalize n5 * Q = n7 at *
    have r8 := r7.belowS b7
    have k7 := k6.belowS b7
    have P7 := Lib.hid (P6.out.below b7)
    have s7 := s6.far (w' := w7) (fun g hg => b7.block g (by omega))
    have B7 := B6.trans (b7.mono (by omega))
    have z7 := b7.size
    have O7 := Lib.hid o7
    clear r7 k6 P6 O6 B6 s6 b7 o7 hQ
    go_wp2_with fail
    refine (next_any _ _ _ s7 (by omega)).mono ?_
    rintro e w8 ⟨p, rfl, -, -, s8, q8⟩
    have r9 := r8.only q8 (.inl hz1)
    have k8 := k7.only q8 (.inr (by omega))
    have P8 := Lib.hid (P7.out.only q8 (.inr (by omega)))
    have O8 := Lib.hid (O7.out.only q8 (lo' := w6.heap.size) (hi' := w7.heap.size) (fun g hg => ⟨(O7.out.lt g hg).1, (O7.out.lt g hg).2⟩) (.inr (by omega)))
    have B8 := below_only B7 q8 (by omega) (by omega)
    have z8 := q8.size
    clear r8 k7 P7 O7 B7 s7 q8 s8
    go_upto_if 23 with (fail)
    go_cut [6] (fun s6 wx => ∃ (a9 : Option Addr) (n9 c9 : Nat) (ys : List Int), s6 = .slice a9 n9 c9 ∧ n9 ≤ 17 ∧ Own wx w6.heap.size 2 a9 n9 c9 (ys.map (Value.int .i64)) ∧ w8.grownBy wx (bk a7))
    case first =>
      by_cases hp : p = 0
      · subst hp
        have x8 := k8.cell 0
        simp at x8
        go_wp2_with (at_builtin; refine wpList_ap1 etI w8 rfl _ _ rfl w6.heap.size a7 n7 c7 _ rfl O8.out (.int .i64 N) rfl rfl (by omega) (by omega) ?_; intro a9 c9 w9 o9 g9 hblk)
        have O9 := Lib.hid o9
        have G9 := Lib.hid g9
        clear o9 g9 hblk
        go_meet
        case rel => exact ⟨a9, n7 + 1, c9, repL zs Q ++ [N], rfl, by omega, by rw [List.map_append]; exact O9.out, G9.out⟩
      · have g0 : ((p : Int) == 0) = false := by simp; omega
        go_wp2_with fail
        go_meet
        case rel => exact ⟨a7, n7, c7, _, rfl, by omega, O8.out, grown_of_below (Below.refl _ _) _⟩
    case rest =>
      obtain ⟨a9, n9, c9, ys, rfl, hn9, o9, g9⟩ := hcut
      have q9 : Only w6.heap.size w8.heap.size w8 _ := only_of_grown g9 O8.out.lt
      have r10 := r9.only q9 (.inl (by omega))
      have k9 := k8.only q9 (.inl (by omega))
      have p9 := P8.out.only q9 (.inl (by omega))
      have B9 := below_only B8 q9 (by omega) (by omega)
      have z9 := q9.size
      have x0 := k9.cell 0
      have x1 := k9.cell 1
      have y0 := r10.cell 0
      have y1 := r10.cell 1
      have f0 := r10.frozen 0
      have f1 := r10.frozen 1
      simp at x0 x1 y0 y1
      have P9 := Lib.hid p9
      have O9 := Lib.hid (OwnS.of o9)
      clear P8 O8 r9 k8 B8 g9 q9 p9 o9
      go_wp2_with fail
      have qf := only_sets wc w.heap.size (.int .i64 N) (.slice a3 n3 c3)
      have rf : Blk ((wc.setCell ⟨w.heap.size, 0, none⟩ (.int .i64 N)).setCell ⟨w.heap.size, 1, none⟩ (.slice a3 n3 c3)) w.heap.size 72 #[.int .i64 N, .slice a3 n3 c3] := by
        have := (r10.set_ 0 (.int .i64 N)).set_ 1 (.slice a3 n3 c3)
        simpa using this
      have Bf := (B9.setCell (p := ⟨w.heap.size, 0, none⟩) (Nat.le_refl _) (.int .i64 N)).setCell (p := ⟨w.heap.size, 1, none⟩) (Nat.le_refl _) (.slice a3 n3 c3)
      generalize (wc.setCell ⟨w.heap.size, 0, none⟩ (.int .i64 N)).setCell ⟨w.heap.size, 1, none⟩ (.slice a3 n3 c3) = wf at *
      have zf := qf.size
      have e0 := rf.cell 0
      have e1 := rf.cell 1
      simp at e0 e1
      have hp := (P9.out.only qf (.inr (by omega))).mono (show w.heap.size ≤ w2.heap.size by omega) (show w3.heap.size ≤ wf.heap.size by omega)
      have ho := (O9.out.only qf (.inr (by omega))).mono (show w.heap.size ≤ w6.heap.size by omega) (show wc.heap.size ≤ wf.heap.size by omega)
      have hl : ys.length ≤ 17 := by
        obtain ⟨⟨_, _, _, e, ho'⟩, _⟩ := O9.out
        injection e with _ e2 _
        have := ho'.len
        rw [List.length_map] at this
        omega
      refine bodyPost_ret (v := .tuple #[.agg #[.int .i64 N, .slice a3 n3 c3], .slice a9 n9 c9]) (by simp [results, Try.f53, go_sem, e0, e1]) rfl ⟨_, _, _, _, rfl, hp, ho, hds, hl, Bf⟩
end Go.Proofs.Ytpognnifgcacnaa

/- The walk of FnOrdersOfWords: true, whatever the draws. -/
namespace Go.Proofs.Ytpognnifgcacnaa
open Go.RowKit

theorem OwnS.form {E : Nat} {w : World} {lo hi : Nat} {v : Value} {zs : List Int} (h : OwnS E w lo hi v zs) : ∃ ao n c, v = .slice ao n c ∧ zs.length = n := by
  obtain ⟨⟨ao, n, c, rfl, ho⟩, _⟩ := h
  exact ⟨ao, n, c, rfl, by have := ho.len; rwa [List.length_map] at this⟩

theorem OwnS.ints {E : Nat} {w : World} {lo hi : Nat} {ao : Option Addr} {n c : Nat} {zs : List Int} (h : OwnS E w lo hi (.slice ao n c) zs) : Ints w ao n zs := by
  obtain ⟨ao', n', c', e, hi⟩ := h.rd
  injection e with e1 e2 e3
  subst e1 e2 e3
  exact hi
set_option maxRecDepth 100000 in
set_option maxHeartbeats 3200000 in
theorem walkOrdersOfWords {ao : Option Addr} {n c : Nat} (w : World) (h : Bts w ao n w.heap.size) :
    Calls Try.prog 11 #[.slice ao n c] w fun e w' => e = .returned (.bool true) ∧ Below w.heap.size w w' := by
  go_enter Try.func11, Try.ntmps11
  go_wp2_with fail
  refine (big_any ao n c w).mono ?_
  rintro e w1 ⟨rfl, hw1⟩
  obtain rfl : w = w1 := hw1.symm
  by_cases hbig : 4096 < n
  · go_wp2
    go_ret
    exact ⟨rfl, Below.refl _ _⟩
  · go_wp2_with fail
    refine (drawIdWord_any ao n c w h).mono ?_
    rintro e w2 ⟨v, d, u, zs, rfl, op, ow, hd, hz, B2⟩
    obtain ⟨a2, n2, c2, rfl⟩ := op.form
    obtain ⟨a3, n3, c3, rfl, hzl⟩ := ow.form
    have z2 := B2.size
    have HZL := Lib.hid hzl
    clear hzl hd
    go_upto_region 4 with (fail)
    have bx := below_alloc1 w2 (.cells #[.int .i64 d.1, .slice a2 n2 c2] 72)
    have kb : Blk (w2.alloc (.cells #[.int .i64 d.1, .slice a2 n2 c2] 72)) w2.heap.size 72 #[.int .i64 d.1, .slice a2 n2 c2] := blk_at rfl
    generalize w2.alloc (.cells #[.int .i64 d.1, .slice a2 n2 c2] 72) = w3 at *
    have B3 := B2.trans (bx.mono z2)
    have OP := Lib.hid (op.below bx)
    have OW := Lib.hid (ow.below bx)
    have z3 := bx.size
    have zk := kb.lt
    clear bx op ow B2
    have x0 := kb.cell 0
    have x1 := kb.cell 1
    simp at x0 x1
    by_cases hC : elC d zs = 0
    · obtain ⟨p, m, H⟩ := ow_ok hC
      have HC := Lib.hid hC
      clear hC
      go_wp2_with fail
      refine (api_implId _ OP.out OW.out).mono ?_
      rintro e w4 ⟨rfl, b4⟩
      have OP4 := Lib.hid (OP.out.below b4)
      have OW4 := Lib.hid (OW.out.below b4)
      have kb4 := kb.belowS b4
      have B4 := B3.trans (b4.mono (by omega))
      have z4 := b4.size
      have y0 := kb4.cell 0
      have y1 := kb4.cell 1
      simp at y0 y1
      rw [HC.out, H.one]
      clear OP OW kb B3 b4 x0 x1
      go_wp2_with fail
      refine (api_specId _ OP4.out OW4.out).mono ?_
      rintro e w5 ⟨rfl, b5⟩
      have OP5 := Lib.hid (OP4.out.below b5)
      have OW5 := Lib.hid (OW4.out.below b5)
      have kb5 := kb4.belowS b5
      have B5 := B4.trans (b5.mono (by omega))
      have z5 := b5.size
      have x0 := kb5.cell 0
      have x1 := kb5.cell 1
      simp at x0 x1
      rw [HC.out, H.one]
      clear OP4 OW4 kb4 B4 b5 y0 y1
      go_wp2_with fail
      refine (api_implOE _ OP5.out OW5.out).mono ?_
      rintro e w6 ⟨rfl, b6⟩
      have OP6 := Lib.hid (OP5.out.below b6)
      have OW6 := Lib.hid (OW5.out.below b6)
      have kb6 := kb5.belowS b6
      have B6 := B5.trans (b6.mono (by omega))
      have z6 := b6.size
      have y0 := kb6.cell 0
      have y1 := kb6.cell 1
      simp at y0 y1
      rw [HC.out, H.ord]
      clear OP5 OW5 kb5 B5 b6 x0 x1
      go_wp2_with fail
      refine (api_implGroup _ OP6.out).mono ?_
      rintro e w7 ⟨rfl, b7⟩
      have OP7 := Lib.hid (OP6.out.below b7)
      have OW7 := Lib.hid (OW6.out.below b7)
      have kb7 := kb6.belowS b7
      have B7 := B6.trans (b7.mono (by omega))
      have z7 := b7.size
      have x0 := kb7.cell 0
      have x1 := kb7.cell 1
      simp at x0 x1
      rw [H.code, H.idx]
      clear OP6 OW6 kb6 B6 b7 y0 y1
      have hp1 := H.p1
      have hpm := H.pm
      have hm4 := H.m4
      have HH := Lib.hid H
      have g1 : decide ((p : Int) < 1) = false := by simp; omega
      have g2 : ((p : Int) == 1) = decide (p = 1) := by
        by_cases e : p = 1 <;> simp [e]; omega
      have g3 : (m : Int).tmod p = 0 := by
        obtain ⟨k, hk⟩ := H.dvd
        rw [hk, Int.natCast_mul, Int.mul_tmod_right]
      have g4 : ((p : Int) == 0) = false := by simp; omega
      have g5 : (m : Int) % p = 0 := by
        obtain ⟨k, hk⟩ := H.dvd
        rw [hk, Int.natCast_mul, Int.mul_emod_right]
      generalize decide (p = 1) = B at *
      clear H
      go_upto_region 14 with (fail)
      obtain ⟨Z, hZ, hZ2, hZ3⟩ : ∃ Z : Nat, (p : Int) * n3 = (Z : Int) ∧ Z = p * n3 ∧ Z ≤ 400 * 17 := ⟨p * n3, by rw [Int.natCast_mul], rfl, Nat.mul_le_mul (by omega) (by rw [← HZL.out]; exact hz)⟩
      have HZ2 := Lib.hid hZ2
      have hp4 : p ≤ 400 := by omega
      clear hZ2 g1 g2 g3 g4 g5 hpm
      by_cases hb2 : 64 < Z
      · go_wp2
        go_ret
        exact ⟨rfl, B7⟩
      · have OP8 := Lib.hid OP7.out
        go_wp2_with fail
        go_loopw [13] (fun iv wr => ∃ i : Nat, iv = .int .i64 i ∧ 1 ≤ i ∧ i ≤ p + 1 ∧ Blk wr w2.heap.size 72 #[.int .i64 d.1, .slice a2 n2 c2] ∧ OwP 2 49 wr w.heap.size w2.heap.size (.agg #[.int .i64 d.1, .slice a2 n2 c2]) d ∧ OwnS 2 wr w.heap.size w2.heap.size (.slice a3 n3 c3) zs ∧ Below w.heap.size w wr ∧ w2.heap.size < wr.heap.size) (fun iv _ => p + 1 - (intOf iv).toNat)
        case atStart => exact ⟨1, rfl, Nat.le_refl _, by omega, kb7, OP7.out, OW7.out, B7, by omega⟩
        case round =>
          obtain ⟨i, rfl, hi1, hi2, kr, opr, owr, Br, hsz⟩ := hrel
          clear kb7 x0 x1 B7 OP7 OW7 OP8
          have OPR := Lib.hid opr
          have OWR := Lib.hid owr
          clear opr owr
          have x0 := kr.cell 0
          have x1 := kr.cell 1
          simp at x0 x1
          by_cases hi : i ≤ p
          · have hni : n3 * i ≤ 64 := by
              have h1 : n3 * i ≤ n3 * p := Nat.mul_le_mul_left _ hi
              have h2 := HZ2.out
              rw [Nat.mul_comm] at h2; omega
            have hlen : zs.length * i ≤ 64 := by rw [HZL.out]; exact hni
            have HK := Lib.hid (HH.out.pow i hi1 hi hlen)
            clear hlen
            have oi : Ints wr.drew a3 n3 zs := OWR.out.ints
            have OI := Lib.hid oi
            clear oi
            go_wp2_with fail
            go_region_law (first | (go_simp; go_at_call 58; refine (times9_any a3 n3 c3 i zs _ OI.out (by omega) (by omega)).mono ?_; rintro e wt ⟨at', ct, rfl, ot, bt0⟩; have bt := below_tr bt0 (below_drew1 wr); clear bt0; have kt := kr.below bt (show w2.heap.size < wr.heap.size by omega); have xt0 := kt.cell 0; have xt1 := kt.cell 1; simp at xt0 xt1; have OPT := Lib.hid (OPR.out.below bt); have OWT := Lib.hid (OwnS.of (ot.mono (show wr.heap.size ≤ wr.drew.heap.size from Nat.le_refl _))); have BT := Br.trans (bt.mono (show w.heap.size ≤ wr.heap.size by omega)); have OWRT := Lib.hid (OWR.out.below bt); have zt := bt.size; clear bt ot) | (go_simp; go_at_call 54; refine (api_implId _ OPT.out OWT.out).mono ?_; rintro e wu ⟨rfl, bu⟩; rw [HK.out.1, HK.out.2]; have ku := kt.belowS bu; have OPU := Lib.hid (OPT.out.below bu); have OWU := Lib.hid (OWRT.out.below bu); have BU := BT.trans (bu.mono (show w.heap.size ≤ wt.heap.size by omega)); have zu := bu.size; clear bu))
            all_goals
              clear kt xt0 xt1 OPT OWT BT OWRT x0 x1 kr OPR OWR Br OI
              by_cases hip : i = p
              · subst hip
                go_wp2_with fail
                go_roundw
                case rel => exact ⟨i + 1, by go_num, by omega, by omega, ku, OPU.out, OWU.out, BU, by omega⟩
                case measure => first | (simp [intOf]; done) | (simp [intOf]; omega)
              · have e1 : ((i : Int) == p) = false := beq_false_of_ne (by omega)
                have e2 : decide (i = p) = false := by simp [hip]
                rw [e2]
                go_wp2_with fail
                go_roundw
                case rel => exact ⟨i + 1, by go_num, by omega, by omega, ku, OPU.out, OWU.out, BU, by omega⟩
                case measure => first | (simp [intOf]; done) | (simp [intOf]; omega)
          · obtain rfl : i = p + 1 := by omega
            go_wp2
            go_ret
            exact ⟨rfl, Br⟩
    · have hoe : oeR d zs = 0 := by unfold oeR; rw [if_neg hC]
      generalize hcc : elC d zs = C at *
      have HCC := Lib.hid hcc
      have HOE := Lib.hid hoe
      clear hoe hcc
      go_wp2_with fail
      refine (api_implId _ OP.out OW.out).mono ?_
      rintro e w4 ⟨rfl, b4⟩
      have OP4 := Lib.hid (OP.out.below b4)
      have OW4 := Lib.hid (OW.out.below b4)
      have kb4 := kb.belowS b4
      have B4 := B3.trans (b4.mono (by omega))
      have z4 := b4.size
      have y0 := kb4.cell 0
      have y1 := kb4.cell 1
      simp at y0 y1
      rw [HCC.out]
      clear OP OW kb B3 b4 x0 x1
      go_wp2_with fail
      refine (api_specId _ OP4.out OW4.out).mono ?_
      rintro e w5 ⟨rfl, b5⟩
      have OP5 := Lib.hid (OP4.out.below b5)
      have OW5 := Lib.hid (OW4.out.below b5)
      have kb5 := kb4.belowS b5
      have B5 := B4.trans (b5.mono (by omega))
      have z5 := b5.size
      have x0 := kb5.cell 0
      have x1 := kb5.cell 1
      simp at x0 x1
      rw [HCC.out]
      clear OP4 OW4 kb4 B4 b5 y0 y1
      generalize idR d zs = B at *
      have g1 : (C != 0) = true := by simpa using hC
      go_wp2_with fail
      refine (api_implOE _ OP5.out OW5.out).mono ?_
      rintro e w6 ⟨rfl, b6⟩
      have B6 := B5.trans (b6.mono (by omega))
      rw [HCC.out, HOE.out]
      clear OP5 OW5 kb5 B5 b6 x0 x1
      go_wp2
      go_ret
      exact ⟨rfl, B6⟩
end Go.Proofs.Ytpognnifgcacnaa
