/- Coset enumeration: new cosets and words that are closed, on lists. No program in sight. -/
import Derived.Test.YtpognnifgcacnaaPart2
import Derived.Test.YtpognnifgcacnaaProg
namespace Go.Proofs.Ytpognnifgcacnaa

/-- a new coset, the image of c under g -/
def addC (ng : Nat) (im : List (List Int)) (n c g : Nat) : List (List Int) := rset (rset (im ++ [List.replicate ng (-1)]) c g n) n g c
/-- the image of c under g, which is defined if there is none; whether it fails -/
def nextC (ng : Nat) (im : List (List Int)) (less : List Int) (c g : Nat) : List (List Int) × List Int × Bool × Nat :=
  if 0 ≤ ent im c g then (im, less, false, root less (ent im c g).toNat)
  else if less.length = 2000 then (im, less, true, 0)
  else (addC ng im less.length c g, less ++ [(less.length : Int)], false, less.length)

theorem WF.app {ng : Nat} {im : List (List Int)} {less : List Int} (h : WF ng im less) : WF ng (im ++ [List.replicate ng (-1)]) (less ++ [(less.length : Int)]) :=
  { len := by simp [h.len]
    row := fun c hc => by
      by_cases e : c < im.length
      · rw [lget_app_lt e]; exact h.row c e
      · obtain rfl : c = im.length := by simp at hc; omega
        rw [lget_app_eq]; simp
    down := fun c hc => by
      by_cases e : c < less.length
      · rw [iget_app_lt e]; exact h.down c e
      · obtain rfl : c = less.length := by simp at hc; omega
        rw [iget_app_eq]; omega
    ent := fun c g hc hg => by
      unfold Proofs.Ytpognnifgcacnaa.ent
      by_cases e : c < im.length
      · rw [lget_app_lt e]
        have := h.ent c g e hg
        unfold Proofs.Ytpognnifgcacnaa.ent at this
        simp; omega
      · obtain rfl : c = im.length := by simp at hc; omega
        rw [lget_app_eq, iget_rep hg]; omega }
theorem WF.addC {ng : Nat} {im : List (List Int)} {less : List Int} {c g : Nat} (h : WF ng im less) (hc : c < less.length) (hg : g < ng) : WF ng (addC ng im less.length c g) (less ++ [(less.length : Int)]) := by
  have h1 := h.app
  have hl := h.len
  unfold Proofs.Ytpognnifgcacnaa.addC
  refine (h1.set_im (c := c) (g := g) (z := (less.length : Int)) (by simp; omega) hg (by simp; omega)).set_im (c := less.length) (g := g) (z := (c : Int)) ?_ hg ?_
  · rw [rset_len]; simp; omega
  · simp; omega
/-- what is kept by a step -/
theorem nextC_ok {ng : Nat} {im : List (List Int)} {less : List Int} {c g : Nat} (h : WF ng im less) (hc : c < less.length) (hg : g < ng) (hn : less.length ≤ 2000) :
    WF ng (nextC ng im less c g).1 (nextC ng im less c g).2.1 ∧ less.length ≤ (nextC ng im less c g).2.1.length ∧ (nextC ng im less c g).2.1.length ≤ 2000 ∧ (nextC ng im less c g).2.2.2 < (nextC ng im less c g).2.1.length ∧ ((nextC ng im less c g).2.2.1 = true → (nextC ng im less c g).2.1.length = 2000) := by
  unfold nextC
  split
  · rename_i h1
    have := h.ent c g (by rw [h.len]; exact hc) hg
    exact ⟨h, Nat.le_refl _, hn, root_lt h.down (by omega), by simp⟩
  · split
    · rename_i h2; exact ⟨h, Nat.le_refl _, hn, by dsimp only; omega, fun _ => h2⟩
    · exact ⟨h.addC hc hg, by simp, by simp; omega, by simp, by simp⟩

/-- the letters of a word, one after the other: the state, whether it failed, the coset -/
def goC (ng : Nat) (s : List (List Int) × List Int × Bool × Nat) : List Nat → List (List Int) × List Int × Bool × Nat
  | [] => s
  | g :: r => if s.2.2.1 = true then s else goC ng (nextC ng s.1 s.2.1 s.2.2.2 g) r
/-- a word w (its letters) is closed at c -/
def closeC (ng : Nat) (im : List (List Int)) (less : List Int) (c : Nat) (w : List Nat) : List (List Int) × List Int × Bool :=
  match w.getLast? with
  | none => (im, less, false)
  | some g =>
    let s := goC ng (im, less, false, c) w.dropLast
    if s.2.2.1 = true then (s.1, s.2.1, true)
    else
      let e := image s.1 s.2.1 s.2.2.2 g
      let f := image s.1 s.2.1 c g
      if 0 ≤ e then ((ident ng s.1 s.2.1 [(e, (c : Int))]).1, (ident ng s.1 s.2.1 [(e, (c : Int))]).2, false)
      else if 0 ≤ f then ((ident ng s.1 s.2.1 [(f, (s.2.2.2 : Int))]).1, (ident ng s.1 s.2.1 [(f, (s.2.2.2 : Int))]).2, false)
      else (rset (rset s.1 s.2.2.2 g c) c g s.2.2.2, s.2.1, false)
theorem goC_failed {ng : Nat} {s : List (List Int) × List Int × Bool × Nat} (h : s.2.2.1 = true) : ∀ w, goC ng s w = s
  | [] => rfl
  | g :: r => by unfold goC; rw [if_pos h]
theorem goC_app {ng : Nat} : ∀ (a b : List Nat) (s : List (List Int) × List Int × Bool × Nat), goC ng s (a ++ b) = goC ng (goC ng s a) b
  | [], b, s => rfl
  | g :: r, b, s => by
    simp only [List.cons_append, goC]
    split
    · rename_i h; rw [goC_failed h]
    · exact goC_app r b _
structure GoOK (ng n0 : Nat) (s : List (List Int) × List Int × Bool × Nat) : Prop where
  wf : WF ng s.1 s.2.1
  lo : n0 ≤ s.2.1.length
  hi : s.2.1.length ≤ 2000
  d : s.2.2.2 < s.2.1.length
theorem goC_ok {ng n0 : Nat} : ∀ (w : List Nat) (s : List (List Int) × List Int × Bool × Nat), GoOK ng n0 s → (∀ g ∈ w, g < ng) → GoOK ng n0 (goC ng s w)
  | [], s, h, _ => h
  | g :: r, s, h, hg => by
    unfold goC
    split
    · exact h
    · obtain ⟨h1, h2, h3, h4, _⟩ := nextC_ok h.wf h.d (hg g (by simp)) h.hi
      exact goC_ok r _ ⟨h1, Nat.le_trans h.lo h2, h3, h4⟩ fun x hx => hg x (by simp [hx])
theorem identLoop_ok {ng n : Nat} : ∀ (f : Nat) (im : List (List Int)) (less : List Int) (q : List (Int × Int)), WF ng im less → less.length = n → QOK n q → WF ng (identLoop ng f im less q).1 (identLoop ng f im less q).2 ∧ (identLoop ng f im less q).2.length = n
  | 0, im, less, q, h, hn, _ => ⟨h, hn⟩
  | f + 1, im, less, [], h, hn, _ => ⟨h, hn⟩
  | f + 1, im, less, p :: q, h, hn, hq => by
    have hp := hq p (by simp)
    have hq' : QOK less.length q := fun x hx => hn ▸ hq x (by simp [hx])
    have hr1 := root_lt h.down (c := p.1.toNat) (by omega)
    have hr2 := root_lt h.down (c := p.2.toNat) (by omega)
    simp only [identLoop]
    split
    · exact identLoop_ok f im less q h hn fun x hx => hq x (by simp [hx])
    · obtain ⟨h1, h2, h3, h4⟩ := mergeUp_ok h (lo := min (root less p.1.toNat) (root less p.2.toNat)) (hi := max (root less p.1.toNat) (root less p.2.toNat)) (by rw [h.len]; omega) (by rw [h.len]; omega) hq' ng (Nat.le_refl _)
      exact identLoop_ok f _ _ _ (h1.set_less (by omega)) (by rw [List.length_set]; exact hn) (hn ▸ h2)
theorem ident_ok {ng n : Nat} {im : List (List Int)} {less : List Int} {q : List (Int × Int)} (h : WF ng im less) (hn : less.length = n) (hq : QOK n q) : WF ng (ident ng im less q).1 (ident ng im less q).2 ∧ (ident ng im less q).2.length = n := identLoop_ok _ _ _ _ h hn hq
theorem image_lt {ng : Nat} {im : List (List Int)} {less : List Int} {c g : Nat} (h : WF ng im less) (hc : c < less.length) (hg : g < ng) : image im less c g < less.length := by
  unfold image
  split
  · omega
  · have := h.ent c g (by rw [h.len]; exact hc) hg
    have := root_lt h.down (c := (ent im c g).toNat) (by omega)
    omega
structure CloseOK (ng n0 : Nat) (s : List (List Int) × List Int × Bool) : Prop where
  wf : WF ng s.1 s.2.1
  lo : n0 ≤ s.2.1.length
  hi : s.2.1.length ≤ 2000
theorem closeC_ok {ng : Nat} {im : List (List Int)} {less : List Int} {c : Nat} {w : List Nat} (h : WF ng im less) (hc : c < less.length) (hn : less.length ≤ 2000) (hg : ∀ g ∈ w, g < ng) : CloseOK ng less.length (closeC ng im less c w) := by
  unfold closeC
  cases hw : w.getLast? with
  | none => exact ⟨h, Nat.le_refl _, hn⟩
  | some g =>
    have hgl : g < ng := hg g (List.mem_of_getLast? hw)
    have ok := goC_ok (n0 := less.length) w.dropLast (im, less, false, c) ⟨h, Nat.le_refl _, hn, hc⟩ fun x hx => hg x (List.dropLast_subset _ hx)
    generalize goC ng (im, less, false, c) w.dropLast = s at *
    have hcs : c < s.2.1.length := Nat.lt_of_lt_of_le hc ok.lo
    dsimp only
    split
    · exact ⟨ok.wf, ok.lo, ok.hi⟩
    · have e1 := image_lt ok.wf ok.d hgl
      have e2 := image_lt ok.wf hcs hgl
      have hd := ok.d
      split
      · rename_i he
        have := ident_ok (q := [(image s.1 s.2.1 s.2.2.2 g, (c : Int))]) ok.wf rfl (fun p hp => by simp at hp; subst hp; exact ⟨⟨he, e1⟩, by omega, by dsimp only; omega⟩)
        exact ⟨this.1, by dsimp only; rw [this.2]; exact ok.lo, by dsimp only; rw [this.2]; exact ok.hi⟩
      · split
        · rename_i hf
          have := ident_ok (q := [(image s.1 s.2.1 c g, (s.2.2.2 : Int))]) ok.wf rfl (fun p hp => by simp at hp; subst hp; exact ⟨⟨hf, e2⟩, by omega, by dsimp only; omega⟩)
          exact ⟨this.1, by dsimp only; rw [this.2]; exact ok.lo, by dsimp only; rw [this.2]; exact ok.hi⟩
        · have hl := ok.wf.len
          exact ⟨(ok.wf.set_im (c := s.2.2.2) (g := g) (z := (c : Int)) (by omega) hgl (by omega)).set_im (c := c) (g := g) (z := (s.2.2.2 : Int)) (by rw [rset_len]; omega) hgl (by omega), ok.lo, ok.hi⟩
end Go.Proofs.Ytpognnifgcacnaa

/- Chunks of the everyday kinds. -/
namespace Go.Proofs.Ytpognnifgcacnaa
open Go.RowKit

abbrev imRo (im : List (List Int)) : Ch := ⟨false, 49, 1, .rows 2 (irows im) []⟩
abbrev leRo (less : List Int) : Ch := ⟨false, 2, 1, .vals (ivals less)⟩
abbrev imOw (im : List (List Int)) : Ch := ⟨true, 49, 1, .rows 2 (irows im) []⟩
abbrev leOw (less : List Int) : Ch := ⟨true, 2, 1, .vals (ivals less)⟩
theorem toV {z : Int} (h : 0 ≤ z) : vv (I6 z) = vv (I6 ((z.toNat : Nat) : Int)) := by rw [Int.toNat_of_nonneg h]
abbrev rowsRo (wss : List (List Int)) : Ch := ⟨false, 49, 1, .rows 2 (irows wss) []⟩
abbrev boOw (bs : List Bool) : Ch := ⟨true, 4, 1, .vals (bvals bs)⟩
section
variable {P : Program} {nt : Nat} {S : St} {t : Nat} {ty : TypeId} {ps : String} {af : Array Edge} {gd : Option (Nat × Bool)} {x y : Operand}
theorem stp_makeB {T E n : Nat} {l c : Operand} {kl kc : IntKind} {L C : Int} (ht : Nat.blt t nt = true) (hT : elZ P T E 1 = true) (hz : (P.info? E).bind (·.zero) = some (.bool false)) (hl : S.op l = some (vv (.int kl L))) (hc : S.op c = some (vv (.int kc C)))
    (hL : L = (n : Int)) (hC : C = (n : Int)) (hn : n ≤ 2199023255552) : Stp P nt ⟨some t, .makeSlice T l c, ty, ps, af, gd⟩ S ((S.new t ⟨true, E, 1, .vals (bvals (List.replicate n false))⟩).put t (o1 (.sl t 0 n))) := by
  rw [bvals_rep]
  exact stp_make (ts := #[]) ht hT hz hl hc hL hC hn rfl
theorem stp_stB {T : TypeId} {n : Nm} {i : Nat} {c : Ch} {bs : List Bool} {b : Bool} (hx : S.op x = some (o1 (.ptr n i))) (hy : S.op y = some (vv (.bool b))) (hc : S.ch n = some c) (hown : c.own = true) (hd : c.d = .vals (bvals bs)) (hi : i < bs.length) (hT : sizeB P T 1 = true) :
    Stp P nt ⟨none, .store T x y, ty, ps, af, gd⟩ S (S.set n { c with d := .vals (bvals (bs.set i b)) }) := by
  have := stp_storeV (P := P) (nt := nt) (ty := ty) (ps := ps) (af := af) (gd := gd) hx hy hc hown hd (by rw [bvals_len]; exact hi) hT rfl
  rwa [bvals_set] at this
end
end Go.Proofs.Ytpognnifgcacnaa

/- Coset enumeration: l11Find. -/
namespace Go.Proofs.Ytpognnifgcacnaa
open Go.RowKit

theorem l11Find_fc (less : List Int) (n c : Nat) (b : Bool) (hn : less.length = n) (hd : Down less) (hc : c < less.length) :
    FC Try.prog 223 [(1001, ⟨false, 2, 1, .vals (ivals less)⟩)] [.s (.agg [.any, .sl 1001 0 n, .val (.bool b)]), vv (I6 c)] [] (vv (I6 (root less c))) [] := by
  subst hn
  refine fc_enter (nt := 18) Try.func223 rfl rfl (by simp) fun w0 ω0 => ?_
  (refine goes_seq ?_; refine goes_region ?_; apply run_step rfl; (exact stp_box rfl rfl rfl rfl); apply run_step rfl; (exact stp_assign rfl rfl); refine run_nil ?_; refine fin_seq ?_; refine goes_seq ?_; refine goes_block ?_)
  refine goes_loop (fun k : Nat => St.of [(1, vv (I6 k)), (2, o1 (.ptr 2 0))] [(1001, ⟨false, 2, 1, .vals (ivals less)⟩), (2, ⟨true, 185, 3, .flat [.any, .sl 1001 0 less.length, .val (.bool b)]⟩)]) (fun k => k < less.length ∧ root less k = root less c) (fun k => k) c ⟨hc, rfl⟩ (Wk.of ⟨rfl, rfl, trivial⟩ ⟨rfl, rfl, trivial⟩ trivial) ?_
  rintro k ⟨hk, hr⟩
  (refine goes_seq ?_; refine goes_seq ?_; refine goes_region ?_; apply run_step rfl; (exact stp_fieldAddr (d := 1) rfl rfl rfl (by as_aux_lemma => kernel_rfl)); apply run_step rfl; (exact stp_loadF rfl (by as_aux_lemma => kernel_rfl) rfl rfl rfl rfl); apply run_step rfl; (exact stp_move rfl rfl); apply run_step rfl; (exact stp_ix rfl rfl rfl rfl rfl (by as_aux_lemma => kernel_rfl) (by first | rfl | exact (Int.toNat_of_nonneg (by omega)).symm) (by first | assumption | omega | (simp; omega)) (by first | exact Nat.le_refl _ | exact Nat.le_of_eq (ivals_len _).symm | exact Nat.le_of_eq (irows_len _).symm | (refine Nat.le_trans ?_ (Nat.le_of_eq (ivals_len _).symm); (first | omega | (simp; done) | (simp; omega))) | (refine Nat.le_trans ?_ (Nat.le_of_eq (irows_len _).symm); (first | omega | (simp; done) | (simp; omega))))); apply run_step rfl; (exact stp_loadV rfl (by as_aux_lemma => kernel_rfl) rfl rfl rfl (by first | assumption | exact ivals_get (by assumption) | exact irows_get (by assumption) | exact ivals_get (by omega) | exact irows_get (by omega) | rfl)); apply run_step rfl; (exact stp_move rfl rfl); apply run_step rfl; (exact stp_bin rfl rfl rfl rfl); refine run_nil ?_; refine fin_seq ?_)
  have hk2 := hd k hk
  refine goes_cond rfl (fun h => ?_) (fun h => ?_)
  · have hne : iget less k ≠ k := by simpa using h
    have hz : iget less k = (((iget less k).toNat : Nat) : Int) := (Int.toNat_of_nonneg hk2.1).symm
    (refine goes_skip ?_; refine fin_seq ?_; refine goes_block ?_; refine goes_region ?_; apply run_step rfl; (exact stp_fieldAddr (d := 1) rfl rfl rfl (by as_aux_lemma => kernel_rfl)); apply run_step rfl; (exact stp_loadF rfl (by as_aux_lemma => kernel_rfl) rfl rfl rfl rfl); apply run_step rfl; (exact stp_move rfl rfl); apply run_step rfl; (exact stp_ix rfl rfl rfl rfl rfl (by as_aux_lemma => kernel_rfl) (by first | rfl | exact (Int.toNat_of_nonneg (by omega)).symm) (by first | assumption | omega | (simp; omega)) (by first | exact Nat.le_refl _ | exact Nat.le_of_eq (ivals_len _).symm | exact Nat.le_of_eq (irows_len _).symm | (refine Nat.le_trans ?_ (Nat.le_of_eq (ivals_len _).symm); (first | omega | (simp; done) | (simp; omega))) | (refine Nat.le_trans ?_ (Nat.le_of_eq (irows_len _).symm); (first | omega | (simp; done) | (simp; omega))))); apply run_step rfl; (exact stp_loadV rfl (by as_aux_lemma => kernel_rfl) rfl rfl rfl (by first | assumption | exact ivals_get (by assumption) | exact irows_get (by assumption) | exact ivals_get (by omega) | exact irows_get (by omega) | rfl)); apply run_step rfl; (exact stp_assign rfl rfl); refine run_nil ?_; refine fin_block ?_)
    exact fin_round (iget less k).toNat ⟨by omega, (root_step hd hk hne).symm.trans hr⟩ (by omega) (Wk.of ⟨congrArg (fun z => some (vv (I6 z))) hz, rfl, trivial⟩ ⟨rfl, rfl, trivial⟩ trivial)
  · have he : iget less k = k := by simpa using h
    have e : k = root less c := by rw [← hr, root_of he]
    (refine goes_exit ?_; refine fin_exit_then ?_; refine fin_exit_then ?_; refine fin_exit_eq ?_; refine fin_seq ?_; refine goes_seq ?_; refine goes_region ?_; apply run_step rfl; (exact stp_move rfl rfl); apply run_step rfl; (exact stp_assign rfl rfl); refine run_nil ?_; refine fin_seq ?_; refine goes_ret ?_)
    exact fin_ret1 (.inl rfl) rfl (.tmp (congrArg (fun z : Nat => some (vv (I6 z))) e)) trivial trivial

abbrev stAV (m n : Nat) (b : Bool) : AV := .s (.agg [.sl 1000 0 m, .sl 1001 0 n, .val (.bool b)])
theorem l11Image_fc (im : List (List Int)) (less : List Int) (m n c g : Nat) (b : Bool) (hm : im.length = m) (hn : less.length = n) (hd : Down less) (hc : c < im.length) (hg : g < (lget im c).length) (he : ent im c g < less.length) :
    FC Try.prog 198 [(1000, imRo im), (1001, leRo less)] [stAV m n b, vv (I6 c), vv (I6 g)] [] (vv (I6 (image im less c g))) [] := by
  subst hm hn
  refine fc_enter (nt := 21) Try.func198 rfl rfl (by simp) fun w0 ω0 => ?_
  (refine goes_seq ?_; refine goes_region ?_; apply run_step rfl; (exact stp_box rfl rfl rfl rfl); apply run_step rfl; (exact stp_assign rfl rfl); refine run_nil ?_; refine fin_seq ?_; refine goes_seq ?_; refine goes_region ?_; apply run_step rfl; (exact stp_fieldAddr (d := 0) rfl rfl rfl (by as_aux_lemma => kernel_rfl)); apply run_step rfl; (exact stp_loadF rfl (by as_aux_lemma => kernel_rfl) rfl rfl rfl rfl); apply run_step rfl; (exact stp_move rfl rfl); apply run_step rfl; (exact stp_ix rfl rfl rfl rfl rfl (by as_aux_lemma => kernel_rfl) (by first | rfl | exact (Int.toNat_of_nonneg (by omega)).symm) (by first | assumption | omega | (simp; omega)) (by first | exact Nat.le_refl _ | exact Nat.le_of_eq (ivals_len _).symm | exact Nat.le_of_eq (irows_len _).symm | (refine Nat.le_trans ?_ (Nat.le_of_eq (ivals_len _).symm); (first | omega | (simp; done) | (simp; omega))) | (refine Nat.le_trans ?_ (Nat.le_of_eq (irows_len _).symm); (first | omega | (simp; done) | (simp; omega))))); apply run_step rfl; (exact stp_loadR rfl (by as_aux_lemma => kernel_rfl) rfl rfl rfl (by first | assumption | exact ivals_get (by assumption) | exact irows_get (by assumption) | exact ivals_get (by omega) | exact irows_get (by omega) | rfl) (by first | exact ivals_len _ | assumption | rfl)); apply run_step rfl; (exact stp_move rfl rfl); apply run_step rfl; (exact stp_ixE rfl rfl rfl rfl rfl (by as_aux_lemma => kernel_rfl) (by first | assumption | exact ivals_get (by assumption) | exact irows_get (by assumption) | exact ivals_get (by omega) | exact irows_get (by omega) | rfl) (by first | rfl | exact (Int.toNat_of_nonneg (by omega)).symm) (by first | assumption | omega | (simp; omega)) (by first | exact Nat.le_refl _ | exact Nat.le_of_eq (ivals_len _).symm | exact Nat.le_of_eq (irows_len _).symm | (refine Nat.le_trans ?_ (Nat.le_of_eq (ivals_len _).symm); (first | omega | (simp; done) | (simp; omega))) | (refine Nat.le_trans ?_ (Nat.le_of_eq (irows_len _).symm); (first | omega | (simp; done) | (simp; omega))))); apply run_step rfl; (exact stp_loadE' rfl (by as_aux_lemma => kernel_rfl) rfl rfl rfl (by first | assumption | exact ivals_get (by assumption) | exact irows_get (by assumption) | exact ivals_get (by omega) | exact irows_get (by omega) | rfl) (by first | assumption | exact ivals_get (by assumption) | exact irows_get (by assumption) | exact ivals_get (by omega) | exact irows_get (by omega) | rfl)); apply run_step rfl; (exact stp_assign rfl rfl); refine run_nil ?_; refine fin_seq ?_; refine goes_seq ?_; refine goes_seq ?_; refine goes_region ?_; apply run_step rfl; (exact stp_move rfl rfl); apply run_step rfl; (exact stp_bin rfl rfl rfl rfl); refine run_nil ?_; refine fin_seq ?_)
  refine goes_if rfl (fun h => ?_) (fun h => ?_)
  · have e : image im less c g = -1 := if_pos h
    (refine goes_seq ?_; refine goes_region ?_; apply run_step rfl; (exact stp_assign rfl rfl); refine run_nil ?_; refine fin_seq ?_; refine goes_ret ?_; refine fin_ret_then ?_)
    exact fin_ret1 (.inl rfl) rfl (.tmp (congrArg (fun z => some (vv (I6 z))) e.symm)) trivial trivial
  · have h : ¬ ent im c g < 0 := h
    have e : image im less c g = root less (ent im c g).toNat := if_neg h
    (refine goes_skip ?_; refine fin_seq ?_; refine goes_seq ?_; refine goes_region ?_; apply run_step rfl; (exact stp_loadAgg rfl rfl rfl rfl rfl rfl (by as_aux_lemma => kernel_rfl)); apply run_step rfl; (exact stp_move rfl rfl); apply run_step rfl; (exact stp_callR (l11Find_fc less _ (ent im c g).toNat b rfl hd (by omega)) (by as_aux_lemma => kernel_rfl) rfl rfl ⟨⟨.inr ⟨rfl, rfl⟩, .inl rfl, .inl rfl, trivial⟩, toV (by omega), trivial⟩ ⟨⟨_, rfl, .inl rfl⟩, trivial⟩ rfl rfl); apply run_step rfl; (exact stp_assign rfl rfl); refine run_nil ?_; refine fin_seq ?_; refine goes_ret ?_)
    exact fin_ret1 (.inl rfl) rfl (.tmp (congrArg (fun z => some (vv (I6 z))) e.symm)) trivial trivial
end Go.Proofs.Ytpognnifgcacnaa

/- Coset enumeration: l11Define. -/
namespace Go.Proofs.Ytpognnifgcacnaa
open Go.RowKit

theorem l11Define_full (im : List (List Int)) (less : List Int) (m n g : Nat) (b : Bool) (hm : im.length = m) (hn : less.length = n) (h : less.length = 2000) :
    FC Try.prog 220 [(1000, imOw im), (1001, leOw less)] [stAV m n b, vv (I6 g)] [(1000, imOw im), (1001, leOw less)] (.tup [.agg [.sl 1000 0 m, .sl 1001 0 n, .val (.bool true)], .one (.val (I6 0))]) [] := by
  subst hm hn
  refine fc_enter (nt := 39) Try.func220 rfl rfl (by simp) fun w0 ω0 => ?_
  (refine goes_seq ?_; refine goes_region ?_; apply run_step rfl; (exact stp_box rfl rfl rfl rfl); apply run_step rfl; (exact stp_allocZ [.slice none 0 0, .slice none 0 0, .bool false] rfl (by as_aux_lemma => kernel_rfl)); apply run_step rfl; (exact stp_assign rfl rfl); refine run_nil ?_; refine fin_seq ?_; refine goes_seq ?_; refine goes_region ?_; apply run_step rfl; (exact stp_fieldAddr (d := 1) rfl rfl rfl (by as_aux_lemma => kernel_rfl)); apply run_step rfl; (exact stp_loadF rfl (by as_aux_lemma => kernel_rfl) rfl rfl rfl rfl); apply run_step rfl; (exact stp_len rfl rfl rfl (by as_aux_lemma => kernel_rfl)); apply run_step rfl; (exact stp_assign rfl rfl); refine run_nil ?_; refine fin_seq ?_; refine goes_seq ?_; refine goes_seq ?_; refine goes_region ?_; apply run_step rfl; (exact stp_move rfl rfl); apply run_step rfl; (exact stp_bin rfl rfl rfl rfl); refine run_nil ?_; refine fin_seq ?_)
  refine goes_cond rfl (fun e => ?_) (fun e => ?_)
  · (refine goes_seq ?_; refine goes_region ?_; apply run_step rfl; (exact stp_fieldAddr (d := 2) rfl rfl rfl (by as_aux_lemma => kernel_rfl)); apply run_step rfl; (exact stp_storeF rfl rfl rfl rfl rfl rfl (by as_aux_lemma => kernel_rfl) rfl); refine run_nil ?_; refine fin_seq ?_; refine goes_seq ?_; refine goes_region ?_; apply run_step rfl; (exact stp_loadAgg rfl rfl rfl rfl rfl rfl (by as_aux_lemma => kernel_rfl)); apply run_step rfl; (exact stp_storeAgg rfl rfl rfl rfl rfl rfl rfl rfl (by as_aux_lemma => kernel_rfl) rfl); apply run_step rfl; (exact stp_assign rfl rfl); refine run_nil ?_; refine fin_seq ?_; refine goes_ret ?_; refine fin_ret_then ?_)
    exact fin_ret2 (.inl rfl) rfl (.cell rfl rfl rfl rfl rfl (by kernel_rfl)) (.tmp rfl) ⟨rfl, rfl, trivial⟩ trivial
  · rw [h] at e; cases e
theorem l11Define_fc (im : List (List Int)) (less : List Int) (m n g : Nat) (b : Bool) (hm : im.length = m) (hn : less.length = n) (h : less.length < 2000) (hg : g ≤ 1000) (hi : im.length ≤ 10000) :
    FC Try.prog 220 [(1000, imOw im), (1001, leOw less)] [stAV m n b, vv (I6 g)] [(1000, imOw (im ++ [List.replicate g (-1)])), (1001, leOw (less ++ [(n : Int)]))] (.tup [.agg [.sl 1000 0 (m + 1), .sl 1001 0 (n + 1), .val (.bool b)], .one (.val (I6 n))]) [] := by
  subst hm hn
  refine fc_enter (nt := 39) Try.func220 rfl rfl (by simp) fun w0 ω0 => ?_
  (refine goes_seq ?_; refine goes_region ?_; apply run_step rfl; (exact stp_box rfl rfl rfl rfl); apply run_step rfl; (exact stp_allocZ [.slice none 0 0, .slice none 0 0, .bool false] rfl (by as_aux_lemma => kernel_rfl)); apply run_step rfl; (exact stp_assign rfl rfl); refine run_nil ?_; refine fin_seq ?_; refine goes_seq ?_; refine goes_region ?_; apply run_step rfl; (exact stp_fieldAddr (d := 1) rfl rfl rfl (by as_aux_lemma => kernel_rfl)); apply run_step rfl; (exact stp_loadF rfl (by as_aux_lemma => kernel_rfl) rfl rfl rfl rfl); apply run_step rfl; (exact stp_len rfl rfl rfl (by as_aux_lemma => kernel_rfl)); apply run_step rfl; (exact stp_assign rfl rfl); refine run_nil ?_; refine fin_seq ?_; refine goes_seq ?_; refine goes_seq ?_; refine goes_region ?_; apply run_step rfl; (exact stp_move rfl rfl); apply run_step rfl; (exact stp_bin rfl rfl rfl rfl); refine run_nil ?_; refine fin_seq ?_)
  refine goes_cond rfl (fun e => ?_) (fun e => ?_)
  · exfalso; simp at e; omega
  · (refine goes_skip ?_; refine fin_seq ?_; refine goes_seq ?_; refine goes_region ?_; apply run_step rfl; (exact stp_lit0 (E := 2) (k := 1) rfl (by as_aux_lemma => kernel_rfl)); apply run_step rfl; (exact stp_assign rfl rfl); refine run_nil ?_; refine fin_seq ?_; refine goes_seq ?_; refine goes_seq ?_; refine goes_region ?_; apply run_step rfl; (exact stp_assign rfl rfl); refine run_nil ?_; refine fin_seq ?_; refine goes_block ?_)
    refine goes_loop (fun k : Nat => St.of [(1, vv (I6 g)), (2, o1 (.ptr 2 0)), (4, o1 (.ptr 4 0)), (6, vv (I6 less.length)), (7, o1 (.sl 16 0 k)), (8, vv (I6 k))] [(1000, imOw im), (1001, leOw less), (2, ⟨true, 185, 3, .flat [.sl 1000 0 im.length, .sl 1001 0 less.length, .val (.bool b)]⟩), (4, ⟨true, 185, 3, .flat [.val (.slice none 0 0), .val (.slice none 0 0), .val (.bool false)]⟩), (16, ⟨true, 2, 1, .vals (ivals (List.replicate k (-1)))⟩)]) (fun k => k ≤ g) (fun k => g - k) 0 (Nat.zero_le _) (Wk.of ⟨rfl, rfl, rfl, rfl, rfl, rfl, trivial⟩ ⟨rfl, rfl, rfl, rfl, rfl, trivial⟩ trivial) ?_
    intro k hk
    (refine goes_seq ?_; refine goes_seq ?_; refine goes_region ?_; apply run_step rfl; (exact stp_move rfl rfl); apply run_step rfl; (exact stp_move rfl rfl); apply run_step rfl; (exact stp_bin rfl rfl rfl rfl); refine run_nil ?_; refine fin_seq ?_)
    refine goes_if rfl (fun h => ?_) (fun h => ?_)
    · (refine goes_skip ?_; refine fin_seq ?_; refine goes_seq ?_; refine goes_block ?_; refine goes_region ?_; apply run_step rfl; (exact stp_move rfl rfl); apply run_step rfl; (exact stp_lit1I (E := 2) rfl (by as_aux_lemma => kernel_rfl) rfl); apply run_step rfl; (exact stp_appI rfl (by as_aux_lemma => kernel_rfl) rfl rfl rfl (by first | rfl | assumption | (simp; done)) rfl rfl (by omega)); apply run_step rfl; (exact stp_assign rfl rfl); refine run_nil ?_; refine fin_block ?_; refine fin_seq ?_; refine goes_region ?_; apply run_step rfl; (exact stp_move rfl rfl); apply run_step rfl; (exact stp_add rfl rfl rfl (by first | exact IntWalk.i64_in _ (by omega) | rfl)); apply run_step rfl; (exact stp_assign rfl rfl); refine run_nil ?_)
      exact fin_round (k + 1) (by omega) (by omega) (Wk.of ⟨rfl, rfl, rfl, rfl, rfl, rfl, trivial⟩ ⟨rfl, rfl, rfl, rfl, by rw [List.replicate_succ']; rfl, trivial⟩ trivial)
    · obtain rfl : k = g := by omega
      (refine goes_exit ?_; refine fin_exit_then ?_; refine fin_exit_then ?_; refine fin_exit_eq ?_; refine fin_seq ?_; refine goes_seq ?_; refine goes_region ?_; apply run_step rfl; (exact stp_fieldAddr (d := 0) rfl rfl rfl (by as_aux_lemma => kernel_rfl)); apply run_step rfl; (exact stp_loadF rfl (by as_aux_lemma => kernel_rfl) rfl rfl rfl rfl); apply run_step rfl; (exact stp_move rfl rfl); apply run_step rfl; (exact stp_lit1 (E := 49) rfl (by as_aux_lemma => kernel_rfl) rfl rfl rfl); apply run_step rfl; (exact stp_appR rfl (by as_aux_lemma => kernel_rfl) rfl rfl (by first | rfl | assumption | (simp; done)) rfl rfl rfl (by first | rfl | assumption | (simp; done)) rfl (by omega)); apply run_step rfl; (exact stp_fieldAddr (d := 0) rfl rfl rfl (by as_aux_lemma => kernel_rfl)); apply run_step rfl; (exact stp_storeF rfl rfl rfl rfl rfl rfl (by as_aux_lemma => kernel_rfl) rfl); refine run_nil ?_; refine fin_seq ?_; refine goes_seq ?_; refine goes_region ?_; apply run_step rfl; (exact stp_fieldAddr (d := 1) rfl rfl rfl (by as_aux_lemma => kernel_rfl)); apply run_step rfl; (exact stp_loadF rfl (by as_aux_lemma => kernel_rfl) rfl rfl rfl rfl); apply run_step rfl; (exact stp_move rfl rfl); apply run_step rfl; (exact stp_lit1I (E := 2) rfl (by as_aux_lemma => kernel_rfl) rfl); apply run_step rfl; (exact stp_appI rfl (by as_aux_lemma => kernel_rfl) rfl rfl rfl (by first | rfl | assumption | (simp; done)) rfl rfl (by omega)); apply run_step rfl; (exact stp_fieldAddr (d := 1) rfl rfl rfl (by as_aux_lemma => kernel_rfl)); apply run_step rfl; (exact stp_storeF rfl rfl rfl rfl rfl rfl (by as_aux_lemma => kernel_rfl) rfl); refine run_nil ?_; refine fin_seq ?_; refine goes_seq ?_; refine goes_region ?_; apply run_step rfl; (exact stp_loadAgg rfl rfl rfl rfl rfl rfl (by as_aux_lemma => kernel_rfl)); apply run_step rfl; (exact stp_move rfl rfl); apply run_step rfl; (exact stp_storeAgg rfl rfl rfl rfl rfl rfl rfl rfl (by as_aux_lemma => kernel_rfl) rfl); apply run_step rfl; (exact stp_assign rfl rfl); refine run_nil ?_; refine fin_seq ?_; refine goes_ret ?_)
      exact fin_ret2 (.inl rfl) rfl (.cell rfl rfl rfl rfl rfl (by kernel_rfl)) (.tmp rfl) ⟨rfl, rfl, trivial⟩ trivial
end Go.Proofs.Ytpognnifgcacnaa

/- Coset enumeration: l11Identify. -/
namespace Go.Proofs.Ytpognnifgcacnaa
open Go.RowKit

theorem len_snoc {α : Type} (l : List α) (x : α) : l.length + 1 = (l ++ [x]).length := by simp
theorem mergeUp_app (lo hi : Nat) (im : List (List Int)) (h : List (Int × Int)) : ∀ g, mergeUp lo hi (im, h) g = ((mergeUp lo hi (im, []) g).1, h ++ (mergeUp lo hi (im, []) g).2)
  | 0 => by simp [mergeUp]
  | g + 1 => by
    simp only [mergeUp]
    rw [mergeUp_app lo hi im h g]
    unfold stepG
    dsimp only
    split
    · rfl
    · split
      · simp
      · rfl

set_option maxRecDepth 100000 in
set_option maxHeartbeats 1000000 in
theorem l11Identify_fc (ng n : Nat) (im : List (List Int)) (less : List Int) (c d : Nat) (b : Bool) (hnn : less.length = n) (hw : WF ng im less) (hc : c < less.length) (hd : d < less.length) (hn : less.length ≤ 2000) (hng : ng ≤ 1000) :
    FC Try.prog 228 [(1000, imOw im), (1001, leOw less)] [stAV n n b, vv (I6 c), vv (I6 d)] [(1000, imOw (ident ng im less [((c : Int), (d : Int))]).1), (1001, leOw (ident ng im less [((c : Int), (d : Int))]).2)] (.s (.agg [.sl 1000 0 n, .sl 1001 0 n, .val (.bool b)])) [] := by
  refine fc_enter (nt := 97) Try.func228 rfl rfl (by simp) fun w0 ω0 => ?_
  generalize hR : ident ng im less [((c : Int), (d : Int))] = R
  (refine goes_seq ?_; refine goes_region ?_; apply run_step rfl; (exact stp_box rfl rfl rfl rfl); apply run_step rfl; (exact stp_allocZ [.slice none 0 0, .slice none 0 0, .bool false] rfl (by as_aux_lemma => kernel_rfl)); refine run_nil ?_; refine fin_seq ?_; refine goes_seq ?_; refine goes_region ?_; apply run_step rfl; (exact stp_move rfl rfl); apply run_step rfl; (exact stp_lit1I (E := 2) rfl (by as_aux_lemma => kernel_rfl) rfl); apply run_step rfl; (exact stp_move rfl rfl); apply run_step rfl; (exact stp_lit1I (E := 2) rfl (by as_aux_lemma => kernel_rfl) rfl); apply run_step rfl; (exact stp_assign rfl rfl); apply run_step rfl; (exact stp_assign rfl rfl); refine run_nil ?_; refine fin_seq ?_; refine goes_seq ?_; refine goes_seq ?_; refine goes_region ?_; apply run_step rfl; (exact stp_assign rfl rfl); refine run_nil ?_; refine fin_seq ?_; refine goes_block ?_)
  have hB : fuel ng less [((c : Int), (d : Int))] ≤ 2100000 := by
    unfold fuel
    have h1 : alive less ≤ less.length := by unfold alive; exact Nat.le_trans (List.length_filter_le _ _) (by simp)
    have h2 : alive less * (ng + 1) ≤ 2000 * 1001 := Nat.mul_le_mul (by omega) (by omega)
    simp; omega
  have hq0 : QOK less.length [((c : Int), (d : Int))] := fun p hp => by simp at hp; subst hp; exact ⟨by omega, by omega⟩
  have hnm : im.length = n := hw.len.trans hnn
  refine goes_loop (fun j : List (List Int) × List Int × List (Int × Int) × Nat => St.of [(3, o1 (.ptr 3 0)), (6, o1 (.ptr 6 0)), (7, o1 (.sl 16 0 j.2.2.1.length)), (8, o1 (.sl 18 0 j.2.2.1.length)), (9, vv (I6 j.2.2.2))]
      [(1000, imOw j.1), (1001, leOw j.2.1), (3, ⟨true, 185, 3, .flat [.sl 1000 0 n, .sl 1001 0 n, .val (.bool b)]⟩), (6, ⟨true, 185, 3, .flat [.val (.slice none 0 0), .val (.slice none 0 0), .val (.bool false)]⟩), (16, ⟨true, 2, 1, .vals (ivals (j.2.2.1.map (·.1)))⟩), (18, ⟨true, 2, 1, .vals (ivals (j.2.2.1.map (·.2)))⟩)])
    (fun j => WF ng j.1 j.2.1 ∧ j.2.1.length = n ∧ j.2.2.2 ≤ j.2.2.1.length ∧ QOK n (j.2.2.1.drop j.2.2.2) ∧ j.2.2.2 + fuel ng j.2.1 (j.2.2.1.drop j.2.2.2) ≤ 2100000 ∧ ident ng j.1 j.2.1 (j.2.2.1.drop j.2.2.2) = R)
    (fun j => fuel ng j.2.1 (j.2.2.1.drop j.2.2.2)) (im, less, [((c : Int), (d : Int))], 0) ⟨hw, hnn, Nat.zero_le _, hnn ▸ hq0, by simpa using hB, hR⟩ (Wk.of ⟨rfl, rfl, rfl, rfl, rfl, trivial⟩ ⟨rfl, rfl, rfl, rfl, rfl, rfl, trivial⟩ trivial) ?_
  rintro ⟨im1, less1, h, i⟩ ⟨hw1, hn1, hi, hq, hb, hr⟩
  dsimp only at hw1 hn1 hi hq hb hr ⊢
  have hm1 := hw1.len
  (refine goes_seq ?_; refine goes_seq ?_; refine goes_region ?_; apply run_step rfl; (exact stp_move rfl rfl); apply run_step rfl; (exact stp_move rfl rfl); apply run_step rfl; (exact stp_len rfl rfl rfl (by as_aux_lemma => kernel_rfl)); apply run_step rfl; (exact stp_bin rfl rfl rfl rfl); refine run_nil ?_; refine fin_seq ?_)
  refine goes_if rfl (fun hlt => ?_) (fun hlt => ?_)
  · have hlt' : i < h.length := by omega
    obtain ⟨p, hp⟩ : ∃ p, h[i]? = some p := ⟨h[i], List.getElem?_eq_getElem hlt'⟩
    obtain ⟨q, hqq⟩ : ∃ q, h.drop (i + 1) = q := ⟨_, rfl⟩
    have hpq : h.drop i = p :: q := by rw [List.drop_eq_getElem_cons hlt', hqq]; congr 1; rw [List.getElem?_eq_getElem hlt'] at hp; exact Option.some.inj hp
    rw [hpq] at hq hb hr
    have hpp := hq p (by simp)
    have hqn : QOK n q := fun x hx => hq x (by simp [hx])
    have g1 : (ivals (h.map (·.1)))[i]? = some (I6 p.1) := by simp [ivals, hp]
    have g2 : (ivals (h.map (·.2)))[i]? = some (I6 p.2) := by simp [ivals, hp]
    (refine goes_skip ?_; refine fin_seq ?_; refine goes_seq ?_; refine goes_block ?_; refine goes_seq ?_)
    apply goes_draw 12 [] [[], [], [], [1, 2], [1, 2, 3], [0, 1, 2, 3, 4], [], [], [], [7, 8], [7, 8, 9], [0, 1, 2, 3, 4, 5, 6, 7, 8, 9, 10], [0, 1, 2, 3, 4, 5, 6, 7, 8, 9, 10, 11], [0, 1, 2, 3, 4, 5, 6, 7, 8, 9, 10, 11, 12]] [25, 26, 27, 28, 29, 30, 31, 32, 33, 34, 35, 36] [] (by kernel_rfl) (by kernel_rfl)
    · (apply draw_put rfl; (intro S1 hS; exact stp_loadAgg rfl (hS.op rfl) (hS.ch _ _ rfl) rfl rfl rfl (by as_aux_lemma => kernel_rfl)); apply draw_put rfl; (intro S1 hS; exact stp_move rfl (hS.op rfl)); apply draw_put rfl; (intro S1 hS; exact stp_move rfl (hS.op rfl)); apply draw_put rfl; (intro S1 hS; exact stp_ix rfl (hS.op rfl) (hS.op rfl) (hS.ch _ _ rfl) rfl (by as_aux_lemma => kernel_rfl) (by first | rfl | exact (Int.toNat_of_nonneg (by omega)).symm) (by first | assumption | omega | (simp; omega)) (by first | exact Nat.le_refl _ | exact Nat.le_of_eq (ivals_len _).symm | exact Nat.le_of_eq (irows_len _).symm | (refine Nat.le_trans ?_ (Nat.le_of_eq (ivals_len _).symm); (first | omega | (simp; done) | (simp; omega))) | (refine Nat.le_trans ?_ (Nat.le_of_eq (irows_len _).symm); (first | omega | (simp; done) | (simp; omega))))); apply draw_put rfl; (intro S1 hS; exact stp_loadV rfl (by as_aux_lemma => kernel_rfl) (hS.op rfl) (hS.ch _ _ rfl) rfl (by first | assumption | exact ivals_get (by assumption) | exact irows_get (by assumption) | exact ivals_get (by omega) | exact irows_get (by omega) | rfl)); (apply draw_put rfl; (focus (intro S1 hS; refine call_gate 223 ?_; first | exact stp_callR (l11Find_fc less1 n p.1.toNat b hn1 hw1.down (by omega)) (by as_aux_lemma => kernel_rfl) rfl (opL_le hS rfl) ⟨⟨.inr ⟨rfl, rfl⟩, .inl rfl, .inl rfl, trivial⟩, toV (by omega), trivial⟩ (allIn_le hS ⟨⟨_, rfl, .inr rfl⟩, trivial⟩) rfl rfl | exact stp_callR (l11Find_fc less1 n p.2.toNat b hn1 hw1.down (by omega)) (by as_aux_lemma => kernel_rfl) rfl (opL_le hS rfl) ⟨⟨.inr ⟨rfl, rfl⟩, .inl rfl, .inl rfl, trivial⟩, toV (by omega), trivial⟩ (allIn_le hS ⟨⟨_, rfl, .inr rfl⟩, trivial⟩) rfl rfl))); apply draw_put rfl; (intro S1 hS; exact stp_loadAgg rfl (hS.op rfl) (hS.ch _ _ rfl) rfl rfl rfl (by as_aux_lemma => kernel_rfl)); apply draw_put rfl; (intro S1 hS; exact stp_move rfl (hS.op rfl)); apply draw_put rfl; (intro S1 hS; exact stp_move rfl (hS.op rfl)); apply draw_put rfl; (intro S1 hS; exact stp_ix rfl (hS.op rfl) (hS.op rfl) (hS.ch _ _ rfl) rfl (by as_aux_lemma => kernel_rfl) (by first | rfl | exact (Int.toNat_of_nonneg (by omega)).symm) (by first | assumption | omega | (simp; omega)) (by first | exact Nat.le_refl _ | exact Nat.le_of_eq (ivals_len _).symm | exact Nat.le_of_eq (irows_len _).symm | (refine Nat.le_trans ?_ (Nat.le_of_eq (ivals_len _).symm); (first | omega | (simp; done) | (simp; omega))) | (refine Nat.le_trans ?_ (Nat.le_of_eq (irows_len _).symm); (first | omega | (simp; done) | (simp; omega))))); apply draw_put rfl; (intro S1 hS; exact stp_loadV rfl (by as_aux_lemma => kernel_rfl) (hS.op rfl) (hS.ch _ _ rfl) rfl (by first | assumption | exact ivals_get (by assumption) | exact irows_get (by assumption) | exact ivals_get (by omega) | exact irows_get (by omega) | rfl)); (apply draw_put rfl; (focus (intro S1 hS; refine call_gate 223 ?_; first | exact stp_callR (l11Find_fc less1 n p.1.toNat b hn1 hw1.down (by omega)) (by as_aux_lemma => kernel_rfl) rfl (opL_le hS rfl) ⟨⟨.inr ⟨rfl, rfl⟩, .inl rfl, .inl rfl, trivial⟩, toV (by omega), trivial⟩ (allIn_le hS ⟨⟨_, rfl, .inr rfl⟩, trivial⟩) rfl rfl | exact stp_callR (l11Find_fc less1 n p.2.toNat b hn1 hw1.down (by omega)) (by as_aux_lemma => kernel_rfl) rfl (opL_le hS rfl) ⟨⟨.inr ⟨rfl, rfl⟩, .inl rfl, .inl rfl, trivial⟩, toV (by omega), trivial⟩ (allIn_le hS ⟨⟨_, rfl, .inr rfl⟩, trivial⟩) rfl rfl))); exact Draw.nil)
    · rfl
    ((apply rest_one 12 rfl (by as_aux_lemma => kernel_rfl) rfl rfl; (exact stp_assign rfl rfl)); (apply rest_one 13 rfl (by as_aux_lemma => kernel_rfl) rfl rfl; (exact stp_assign rfl rfl)); (refine rest_done (by as_aux_lemma => kernel_rfl) ?_; skip))
    have hr1 := root_lt hw1.down (c := p.1.toNat) (by omega)
    have hr2 := root_lt hw1.down (c := p.2.toNat) (by omega)
    (refine fin_seq ?_; refine goes_seq ?_; refine goes_seq ?_; refine goes_region ?_; apply run_step rfl; (exact stp_move rfl rfl); apply run_step rfl; (exact stp_move rfl rfl); apply run_step rfl; (exact stp_bin rfl rfl rfl rfl); refine run_nil ?_; refine fin_seq ?_)
    refine goes_cond rfl (fun he => ?_) (fun he => ?_)
    · have he' : root less1 p.1.toNat = root less1 p.2.toNat := by have := he; simp at this; omega
      have hfu : fuel ng less1 (p :: q) = fuel ng less1 q + 1 := by unfold fuel; simp; omega
      (refine goes_exit ?_; refine fin_exit_then ?_; refine fin_exit_eq ?_; refine fin_seq ?_; refine goes_region ?_; apply run_step rfl; (exact stp_move rfl rfl); apply run_step rfl; (exact stp_add rfl rfl rfl (by first | exact IntWalk.i64_in _ (by omega) | rfl)); apply run_step rfl; (exact stp_assign rfl rfl); refine run_nil ?_)
      exact fin_round (im1, less1, h, i + 1) ⟨hw1, hn1, hlt', by rw [hqq]; exact hqn, by show i + 1 + fuel ng less1 (h.drop (i + 1)) ≤ 2100000; rw [hqq]; omega, by rw [hqq, ← ident_same hw1 (hn1 ▸ hq) he']; exact hr⟩ (by show fuel ng less1 (h.drop (i + 1)) < fuel ng less1 (h.drop i); rw [hqq, hpq]; omega) (Wk.of ⟨rfl, rfl, rfl, rfl, rfl, trivial⟩ ⟨rfl, rfl, rfl, rfl, rfl, rfl, trivial⟩ trivial)
    · have he' : root less1 p.1.toNat ≠ root less1 p.2.toNat := by have := he; simp at this; omega
      obtain ⟨hm1, hm2, hm3, hm4⟩ := ident_merge hw1 (hn1 ▸ hq) he'
      generalize hcc : root less1 p.1.toNat = cc at *
      generalize hdd : root less1 p.2.toNat = dd at *
      obtain ⟨lo, hlo⟩ : ∃ lo, min cc dd = lo := ⟨_, rfl⟩
      obtain ⟨hi, hhi⟩ : ∃ hi, max cc dd = hi := ⟨_, rfl⟩
      have hll : lo < hi ∧ hi < n := by omega
      unfold mergeSt at hm1 hm2 hm3 hm4
      rw [hlo, hhi] at hm1 hm2 hm3 hm4
      (refine goes_skip ?_; refine fin_seq ?_; refine goes_seq ?_; refine goes_seq ?_; refine goes_region ?_; apply run_step rfl; (exact stp_move rfl rfl); apply run_step rfl; (exact stp_move rfl rfl); apply run_step rfl; (exact stp_bin rfl rfl rfl rfl); refine run_nil ?_; refine fin_seq ?_)
      refine goes_join (St.of [(3, o1 (.ptr 3 0)), (6, o1 (.ptr 6 0)), (7, o1 (.sl 16 0 h.length)), (8, o1 (.sl 18 0 h.length)), (9, vv (I6 i)), (10, vv (I6 lo)), (11, vv (I6 hi))] [(1000, imOw im1), (1001, leOw less1), (3, ⟨true, 185, 3, .flat [.sl 1000 0 n, .sl 1001 0 n, .val (.bool b)]⟩), (6, ⟨true, 185, 3, .flat [.val (.slice none 0 0), .val (.slice none 0 0), .val (.bool false)]⟩), (16, ⟨true, 2, 1, .vals (ivals (h.map (·.1)))⟩), (18, ⟨true, 2, 1, .vals (ivals (h.map (·.2)))⟩)]) rfl (fun hg => ?_) (fun hg => ?_) ?_
      · have hg : (cc : Int) > dd := of_decide_eq_true hg
        obtain ⟨rfl, rfl⟩ : lo = dd ∧ hi = cc := by omega
        (refine goes_region ?_; apply run_step rfl; (exact stp_move rfl rfl); apply run_step rfl; (exact stp_move rfl rfl); apply run_step rfl; (exact stp_assign rfl rfl); apply run_step rfl; (exact stp_assign rfl rfl); refine run_nil ?_)
        exact fin_join (Wk.of ⟨rfl, rfl, rfl, rfl, rfl, rfl, rfl, trivial⟩ ⟨rfl, rfl, rfl, rfl, rfl, rfl, trivial⟩ trivial)
      · have hg : ¬ (cc : Int) > dd := of_decide_eq_false hg
        obtain ⟨rfl, rfl⟩ : lo = cc ∧ hi = dd := by omega
        (refine goes_skip ?_)
        exact fin_join (Wk.of ⟨rfl, rfl, rfl, rfl, rfl, rfl, rfl, trivial⟩ ⟨rfl, rfl, rfl, rfl, rfl, rfl, trivial⟩ trivial)
      have hhl : hi < less1.length := by omega
      (refine fin_seq ?_; refine goes_seq ?_; refine goes_region ?_; apply run_step rfl; (exact stp_fieldAddr (d := 1) rfl rfl rfl (by as_aux_lemma => kernel_rfl)); apply run_step rfl; (exact stp_loadF rfl (by as_aux_lemma => kernel_rfl) rfl rfl rfl rfl); apply run_step rfl; (exact stp_move rfl rfl); apply run_step rfl; (exact stp_move rfl rfl); apply run_step rfl; (exact stp_ix rfl rfl rfl rfl rfl (by as_aux_lemma => kernel_rfl) (by first | rfl | exact (Int.toNat_of_nonneg (by omega)).symm) (by first | assumption | omega | (simp; omega)) (by first | exact Nat.le_refl _ | exact Nat.le_of_eq (ivals_len _).symm | exact Nat.le_of_eq (irows_len _).symm | (refine Nat.le_trans ?_ (Nat.le_of_eq (ivals_len _).symm); (first | omega | (simp; done) | (simp; omega))) | (refine Nat.le_trans ?_ (Nat.le_of_eq (irows_len _).symm); (first | omega | (simp; done) | (simp; omega))))); apply run_step rfl; (exact stp_stI rfl rfl rfl rfl rfl (by first | assumption | omega | (simp; omega)) (by as_aux_lemma => kernel_rfl)); refine run_nil ?_; refine fin_seq ?_; refine goes_seq ?_; refine goes_region ?_; apply run_step rfl; (exact stp_assign rfl rfl); refine run_nil ?_; refine fin_seq ?_; refine goes_block ?_)
      refine goes_loop (fun g : Nat => St.of [(3, o1 (.ptr 3 0)), (6, o1 (.ptr 6 0)), (7, o1 (.sl 16 0 (mergeUp lo hi (im1, h) g).2.length)), (8, o1 (.sl 18 0 (mergeUp lo hi (im1, h) g).2.length)), (9, vv (I6 i)), (10, vv (I6 lo)), (11, vv (I6 hi)), (12, vv (I6 g))] [(1000, imOw (mergeUp lo hi (im1, h) g).1), (1001, leOw (less1.set hi (lo : Int))), (3, ⟨true, 185, 3, .flat [.sl 1000 0 n, .sl 1001 0 n, .val (.bool b)]⟩), (6, ⟨true, 185, 3, .flat [.val (.slice none 0 0), .val (.slice none 0 0), .val (.bool false)]⟩), (16, ⟨true, 2, 1, .vals (ivals ((mergeUp lo hi (im1, h) g).2.map (·.1)))⟩), (18, ⟨true, 2, 1, .vals (ivals ((mergeUp lo hi (im1, h) g).2.map (·.2)))⟩)]) (fun g => g ≤ ng) (fun g => ng - g) 0 (Nat.zero_le _) (Wk.of ⟨rfl, rfl, rfl, rfl, rfl, rfl, rfl, rfl, trivial⟩ ⟨rfl, rfl, rfl, rfl, rfl, rfl, trivial⟩ trivial) ?_
      intro g hg
      obtain ⟨M, N, hMN⟩ : ∃ M N, mergeUp lo hi (im1, []) g = (M, N) := ⟨_, _, rfl⟩
      have hA := mergeUp_app lo hi im1 h g
      have hAq := mergeUp_app lo hi im1 q g
      obtain ⟨k1, k2, k3, k4⟩ := mergeUp_ok hw1 (lo := lo) (hi := hi) (q := []) (by omega) (by omega) (fun x hx => by simp at hx) g hg
      rw [hMN] at hA hAq k1 k2 k3 k4
      dsimp only at hA hAq k1 k2 k3 k4
      rw [hA]
      dsimp only
      have hMl : M.length = n := k1.len.trans hn1
      have hrow := k1.row hi (by omega)
      have hrowl := k1.row lo (by omega)
      have hNl : (h ++ N).length ≤ 2200000 := by
        have h1 : i + (p :: q).length ≤ 2100000 := by unfold fuel at hb; omega
        have h2 : h.length = i + (p :: q).length := by have := congrArg List.length hpq; rw [List.length_drop] at this; omega
        rw [List.length_append]; simp at k3; omega
      (refine goes_seq ?_; refine goes_seq ?_; refine goes_region ?_; apply run_step rfl; (exact stp_move rfl rfl); apply run_step rfl; (exact stp_fieldAddr (d := 0) rfl rfl rfl (by as_aux_lemma => kernel_rfl)); apply run_step rfl; (exact stp_loadF rfl (by as_aux_lemma => kernel_rfl) rfl rfl rfl rfl); apply run_step rfl; (exact stp_move rfl rfl); apply run_step rfl; (exact stp_ix rfl rfl rfl rfl rfl (by as_aux_lemma => kernel_rfl) (by first | rfl | exact (Int.toNat_of_nonneg (by omega)).symm) (by first | assumption | omega | (simp; omega)) (by first | exact Nat.le_refl _ | exact Nat.le_of_eq (ivals_len _).symm | exact Nat.le_of_eq (irows_len _).symm | (refine Nat.le_trans ?_ (Nat.le_of_eq (ivals_len _).symm); (first | omega | (simp; done) | (simp; omega))) | (refine Nat.le_trans ?_ (Nat.le_of_eq (irows_len _).symm); (first | omega | (simp; done) | (simp; omega))))); apply run_step rfl; (exact stp_loadR rfl (by as_aux_lemma => kernel_rfl) rfl rfl rfl (by first | assumption | exact ivals_get (by assumption) | exact irows_get (by assumption) | exact ivals_get (by omega) | exact irows_get (by omega) | rfl) (by first | exact ivals_len _ | assumption | rfl)); apply run_step rfl; (exact stp_len rfl rfl rfl (by as_aux_lemma => kernel_rfl)); apply run_step rfl; (exact stp_bin rfl rfl rfl rfl); refine run_nil ?_; refine fin_seq ?_)
      refine goes_if rfl (fun hgl => ?_) (fun hgl => ?_)
      · have hgl : (g : Int) < ((lget M hi).length : Nat) := hgl
        have hg' : g < ng := by omega
        have e1 := k1.ent hi g (by omega) hg'
        have e2 := k1.ent lo g (by omega) hg'
        (refine goes_skip ?_; refine fin_seq ?_; refine goes_seq ?_; refine goes_block ?_; refine goes_seq ?_; refine goes_region ?_; apply run_step rfl; (exact stp_fieldAddr (d := 0) rfl rfl rfl (by as_aux_lemma => kernel_rfl)); apply run_step rfl; (exact stp_loadF rfl (by as_aux_lemma => kernel_rfl) rfl rfl rfl rfl); apply run_step rfl; (exact stp_move rfl rfl); apply run_step rfl; (exact stp_ix rfl rfl rfl rfl rfl (by as_aux_lemma => kernel_rfl) (by first | rfl | exact (Int.toNat_of_nonneg (by omega)).symm) (by first | assumption | omega | (simp; omega)) (by first | exact Nat.le_refl _ | exact Nat.le_of_eq (ivals_len _).symm | exact Nat.le_of_eq (irows_len _).symm | (refine Nat.le_trans ?_ (Nat.le_of_eq (ivals_len _).symm); (first | omega | (simp; done) | (simp; omega))) | (refine Nat.le_trans ?_ (Nat.le_of_eq (irows_len _).symm); (first | omega | (simp; done) | (simp; omega))))); apply run_step rfl; (exact stp_loadR rfl (by as_aux_lemma => kernel_rfl) rfl rfl rfl (by first | assumption | exact ivals_get (by assumption) | exact irows_get (by assumption) | exact ivals_get (by omega) | exact irows_get (by omega) | rfl) (by first | exact ivals_len _ | assumption | rfl)); apply run_step rfl; (exact stp_move rfl rfl); apply run_step rfl; (exact stp_ixE rfl rfl rfl rfl rfl (by as_aux_lemma => kernel_rfl) (by first | assumption | exact ivals_get (by assumption) | exact irows_get (by assumption) | exact ivals_get (by omega) | exact irows_get (by omega) | rfl) (by first | rfl | exact (Int.toNat_of_nonneg (by omega)).symm) (by first | assumption | omega | (simp; omega)) (by first | exact Nat.le_refl _ | exact Nat.le_of_eq (ivals_len _).symm | exact Nat.le_of_eq (irows_len _).symm | (refine Nat.le_trans ?_ (Nat.le_of_eq (ivals_len _).symm); (first | omega | (simp; done) | (simp; omega))) | (refine Nat.le_trans ?_ (Nat.le_of_eq (irows_len _).symm); (first | omega | (simp; done) | (simp; omega))))); apply run_step rfl; (exact stp_loadE' rfl (by as_aux_lemma => kernel_rfl) rfl rfl rfl (by first | assumption | exact ivals_get (by assumption) | exact irows_get (by assumption) | exact ivals_get (by omega) | exact irows_get (by omega) | rfl) (by first | assumption | exact ivals_get (by assumption) | exact irows_get (by assumption) | exact ivals_get (by omega) | exact irows_get (by omega) | rfl)); apply run_step rfl; (exact stp_assign rfl rfl); refine run_nil ?_; refine fin_seq ?_; refine goes_seq ?_; refine goes_seq ?_; refine goes_region ?_; apply run_step rfl; (exact stp_move rfl rfl); apply run_step rfl; (exact stp_bin rfl rfl rfl rfl); refine run_nil ?_; refine fin_seq ?_)
        refine goes_if rfl (fun he => ?_) (fun he => ?_)
        · have he : ent M hi g < 0 := he
          have hstep : mergeUp lo hi (im1, h) (g + 1) = (M, h ++ N) := by rw [mergeUp, hA]; exact if_pos he
          (refine goes_exit ?_; refine fin_exit_then ?_; refine fin_exit_eq ?_; refine fin_seq ?_; refine goes_region ?_; apply run_step rfl; (exact stp_move rfl rfl); apply run_step rfl; (exact stp_add rfl rfl rfl (by first | exact IntWalk.i64_in _ (by omega) | rfl)); apply run_step rfl; (exact stp_assign rfl rfl); refine run_nil ?_)
          exact fin_round (g + 1) (by omega) (by omega) (Wk.of (by rw [hstep]; exact ⟨rfl, rfl, rfl, rfl, rfl, rfl, rfl, rfl, trivial⟩) (by rw [hstep]; exact ⟨rfl, rfl, rfl, rfl, rfl, rfl, trivial⟩) trivial)
        · have he : ¬ ent M hi g < 0 := he
          (refine goes_skip ?_; refine fin_seq ?_; refine goes_seq ?_; refine goes_region ?_; apply run_step rfl; (exact stp_fieldAddr (d := 0) rfl rfl rfl (by as_aux_lemma => kernel_rfl)); apply run_step rfl; (exact stp_loadF rfl (by as_aux_lemma => kernel_rfl) rfl rfl rfl rfl); apply run_step rfl; (exact stp_move rfl rfl); apply run_step rfl; (exact stp_ix rfl rfl rfl rfl rfl (by as_aux_lemma => kernel_rfl) (by first | rfl | exact (Int.toNat_of_nonneg (by omega)).symm) (by first | assumption | omega | (simp; omega)) (by first | exact Nat.le_refl _ | exact Nat.le_of_eq (ivals_len _).symm | exact Nat.le_of_eq (irows_len _).symm | (refine Nat.le_trans ?_ (Nat.le_of_eq (ivals_len _).symm); (first | omega | (simp; done) | (simp; omega))) | (refine Nat.le_trans ?_ (Nat.le_of_eq (irows_len _).symm); (first | omega | (simp; done) | (simp; omega))))); apply run_step rfl; (exact stp_loadR rfl (by as_aux_lemma => kernel_rfl) rfl rfl rfl (by first | assumption | exact ivals_get (by assumption) | exact irows_get (by assumption) | exact ivals_get (by omega) | exact irows_get (by omega) | rfl) (by first | exact ivals_len _ | assumption | rfl)); apply run_step rfl; (exact stp_move rfl rfl); apply run_step rfl; (exact stp_ixE rfl rfl rfl rfl rfl (by as_aux_lemma => kernel_rfl) (by first | assumption | exact ivals_get (by assumption) | exact irows_get (by assumption) | exact ivals_get (by omega) | exact irows_get (by omega) | rfl) (by first | rfl | exact (Int.toNat_of_nonneg (by omega)).symm) (by first | assumption | omega | (simp; omega)) (by first | exact Nat.le_refl _ | exact Nat.le_of_eq (ivals_len _).symm | exact Nat.le_of_eq (irows_len _).symm | (refine Nat.le_trans ?_ (Nat.le_of_eq (ivals_len _).symm); (first | omega | (simp; done) | (simp; omega))) | (refine Nat.le_trans ?_ (Nat.le_of_eq (irows_len _).symm); (first | omega | (simp; done) | (simp; omega))))); apply run_step rfl; (exact stp_loadE' rfl (by as_aux_lemma => kernel_rfl) rfl rfl rfl (by first | assumption | exact ivals_get (by assumption) | exact irows_get (by assumption) | exact ivals_get (by omega) | exact irows_get (by omega) | rfl) (by first | assumption | exact ivals_get (by assumption) | exact irows_get (by assumption) | exact ivals_get (by omega) | exact irows_get (by omega) | rfl)); apply run_step rfl; (exact stp_assign rfl rfl); refine run_nil ?_; refine fin_seq ?_; refine goes_seq ?_; refine goes_region ?_; apply run_step rfl; (exact stp_move rfl rfl); apply run_step rfl; (exact stp_bin rfl rfl rfl rfl); refine run_nil ?_; refine fin_seq ?_)
          refine goes_if rfl (fun hf => ?_) (fun hf => ?_)
          · have hf : ent M lo g ≥ 0 := hf
            have hstep : mergeUp lo hi (im1, h) (g + 1) = (M, (h ++ N) ++ [(ent M hi g, ent M lo g)]) := by rw [mergeUp, hA]; exact (if_neg he).trans (if_pos hf)
            (refine goes_seq ?_; refine goes_region ?_; apply run_step rfl; (exact stp_move rfl rfl); apply run_step rfl; (exact stp_move rfl rfl); apply run_step rfl; (exact stp_lit1I (E := 2) rfl (by as_aux_lemma => kernel_rfl) rfl); apply run_step rfl; (exact stp_appI rfl (by as_aux_lemma => kernel_rfl) rfl rfl rfl (by first | rfl | assumption | (simp; done)) rfl rfl (by omega)); apply run_step rfl; (exact stp_assign rfl rfl); refine run_nil ?_; refine fin_seq ?_; refine goes_region ?_; apply run_step rfl; (exact stp_move rfl rfl); apply run_step rfl; (exact stp_move rfl rfl); apply run_step rfl; (exact stp_lit1I (E := 2) rfl (by as_aux_lemma => kernel_rfl) rfl); apply run_step rfl; (exact stp_appI rfl (by as_aux_lemma => kernel_rfl) rfl rfl rfl (by first | rfl | assumption | (simp; done)) rfl rfl (by omega)); apply run_step rfl; (exact stp_assign rfl rfl); refine run_nil ?_; refine fin_block ?_; refine fin_seq ?_; refine goes_region ?_; apply run_step rfl; (exact stp_move rfl rfl); apply run_step rfl; (exact stp_add rfl rfl rfl (by first | exact IntWalk.i64_in _ (by omega) | rfl)); apply run_step rfl; (exact stp_assign rfl rfl); refine run_nil ?_)
            exact fin_round (g + 1) (by omega) (by omega) (Wk.of (by rw [hstep]; exact ⟨rfl, rfl, congrArg (fun x => some (o1 (.sl 16 0 x))) (len_snoc (h ++ N) (ent M hi g, ent M lo g)), congrArg (fun x => some (o1 (.sl 18 0 x))) (len_snoc (h ++ N) (ent M hi g, ent M lo g)), rfl, rfl, rfl, rfl, trivial⟩) (by rw [hstep]; exact ⟨rfl, rfl, rfl, rfl, congrArg (fun x => some (⟨true, 2, 1, .vals (ivals x)⟩ : Ch)) (show (h ++ N).map (fun p => p.1) ++ [ent M hi g] = ((h ++ N) ++ [(ent M hi g, ent M lo g)]).map (fun p => p.1) by simp), congrArg (fun x => some (⟨true, 2, 1, .vals (ivals x)⟩ : Ch)) (show (h ++ N).map (fun p => p.2) ++ [ent M lo g] = ((h ++ N) ++ [(ent M hi g, ent M lo g)]).map (fun p => p.2) by simp), trivial⟩) trivial)
          · have hf : ¬ ent M lo g ≥ 0 := hf
            have hstep : mergeUp lo hi (im1, h) (g + 1) = (rset M lo g (ent M hi g), h ++ N) := by rw [mergeUp, hA]; exact (if_neg he).trans (if_neg hf)
            (refine goes_region ?_; apply run_step rfl; (exact stp_fieldAddr (d := 0) rfl rfl rfl (by as_aux_lemma => kernel_rfl)); apply run_step rfl; (exact stp_loadF rfl (by as_aux_lemma => kernel_rfl) rfl rfl rfl rfl); apply run_step rfl; (exact stp_move rfl rfl); apply run_step rfl; (exact stp_ix rfl rfl rfl rfl rfl (by as_aux_lemma => kernel_rfl) (by first | rfl | exact (Int.toNat_of_nonneg (by omega)).symm) (by first | assumption | omega | (simp; omega)) (by first | exact Nat.le_refl _ | exact Nat.le_of_eq (ivals_len _).symm | exact Nat.le_of_eq (irows_len _).symm | (refine Nat.le_trans ?_ (Nat.le_of_eq (ivals_len _).symm); (first | omega | (simp; done) | (simp; omega))) | (refine Nat.le_trans ?_ (Nat.le_of_eq (irows_len _).symm); (first | omega | (simp; done) | (simp; omega))))); apply run_step rfl; (exact stp_loadR rfl (by as_aux_lemma => kernel_rfl) rfl rfl rfl (by first | assumption | exact ivals_get (by assumption) | exact irows_get (by assumption) | exact ivals_get (by omega) | exact irows_get (by omega) | rfl) (by first | exact ivals_len _ | assumption | rfl)); apply run_step rfl; (exact stp_move rfl rfl); apply run_step rfl; (exact stp_move rfl rfl); apply run_step rfl; (exact stp_ixE rfl rfl rfl rfl rfl (by as_aux_lemma => kernel_rfl) (by first | assumption | exact ivals_get (by assumption) | exact irows_get (by assumption) | exact ivals_get (by omega) | exact irows_get (by omega) | rfl) (by first | rfl | exact (Int.toNat_of_nonneg (by omega)).symm) (by first | assumption | omega | (simp; omega)) (by first | exact Nat.le_refl _ | exact Nat.le_of_eq (ivals_len _).symm | exact Nat.le_of_eq (irows_len _).symm | (refine Nat.le_trans ?_ (Nat.le_of_eq (ivals_len _).symm); (first | omega | (simp; done) | (simp; omega))) | (refine Nat.le_trans ?_ (Nat.le_of_eq (irows_len _).symm); (first | omega | (simp; done) | (simp; omega))))); apply run_step rfl; (exact stp_stE rfl rfl rfl rfl rfl (by first | assumption | omega | (simp; omega)) (by first | assumption | omega | (simp; omega)) (by as_aux_lemma => kernel_rfl)); refine run_nil ?_; refine fin_block ?_; refine fin_seq ?_; refine goes_region ?_; apply run_step rfl; (exact stp_move rfl rfl); apply run_step rfl; (exact stp_add rfl rfl rfl (by first | exact IntWalk.i64_in _ (by omega) | rfl)); apply run_step rfl; (exact stp_assign rfl rfl); refine run_nil ?_)
            exact fin_round (g + 1) (by omega) (by omega) (Wk.of (by rw [hstep]; exact ⟨rfl, rfl, rfl, rfl, rfl, rfl, rfl, rfl, trivial⟩) (by rw [hstep]; exact ⟨rfl, rfl, rfl, rfl, rfl, rfl, trivial⟩) trivial)
      · have hgl : ¬ (g : Int) < ((lget M hi).length : Nat) := hgl
        obtain rfl : g = ng := by omega
        rw [hAq] at hm1 hm2 hm3 hm4
        dsimp only at hm1 hm2 hm3 hm4
        have hdr : (h ++ N).drop (i + 1) = q ++ N := by rw [List.drop_append_of_le_length (by omega), hqq]
        (refine goes_exit ?_; refine fin_exit_then ?_; refine fin_exit_then ?_; refine fin_exit_eq ?_; refine fin_block ?_; refine fin_seq ?_; refine goes_region ?_; apply run_step rfl; (exact stp_move rfl rfl); apply run_step rfl; (exact stp_add rfl rfl rfl (by first | exact IntWalk.i64_in _ (by omega) | rfl)); apply run_step rfl; (exact stp_assign rfl rfl); refine run_nil ?_)
        exact fin_round (M, less1.set hi (lo : Int), h ++ N, i + 1) ⟨hm2, by rw [List.length_set]; exact hn1, by show i + 1 ≤ (h ++ N).length; rw [List.length_append]; omega, by show QOK n ((h ++ N).drop (i + 1)); rw [hdr, ← hn1]; exact hm3, by show i + 1 + fuel _ (less1.set hi (lo : Int)) ((h ++ N).drop (i + 1)) ≤ 2100000; rw [hdr]; omega, by show ident _ _ _ ((h ++ N).drop (i + 1)) = R; rw [hdr, ← hm1]; exact hr⟩ (by show fuel _ _ ((h ++ N).drop (i + 1)) < fuel _ less1 (h.drop i); rw [hdr, hpq]; exact hm4) (Wk.of ⟨rfl, rfl, rfl, rfl, rfl, trivial⟩ ⟨rfl, rfl, rfl, rfl, rfl, rfl, trivial⟩ trivial)
  · have hie : h.drop i = [] := List.drop_of_length_le (by omega)
    rw [hie, ident_nil] at hr
    subst hr
    (refine goes_exit ?_; refine fin_exit_then ?_; refine fin_exit_then ?_; refine fin_exit_eq ?_; refine fin_seq ?_; refine goes_seq ?_; refine goes_region ?_; apply run_step rfl; (exact stp_loadAgg rfl rfl rfl rfl rfl rfl (by as_aux_lemma => kernel_rfl)); apply run_step rfl; (exact stp_storeAgg rfl rfl rfl rfl rfl rfl rfl rfl (by as_aux_lemma => kernel_rfl) rfl); refine run_nil ?_; refine fin_seq ?_; refine goes_ret ?_)
    exact fin_ret1 (.inl rfl) rfl (.cell rfl rfl rfl rfl rfl (by kernel_rfl)) ⟨rfl, rfl, trivial⟩ trivial
end Go.Proofs.Ytpognnifgcacnaa

/- Coset enumeration: l11Next. -/
namespace Go.Proofs.Ytpognnifgcacnaa
open Go.RowKit

set_option maxRecDepth 100000 in
set_option maxHeartbeats 1000000 in
theorem l11Next_fc (ng n : Nat) (im : List (List Int)) (less : List Int) (c g : Nat) (hn : less.length = n) (hw : WF ng im less) (hc : c < n) (hg : g < ng) (h2 : n ≤ 2000) (hng : ng ≤ 1000) :
    FC Try.prog 222 [(1000, imOw im), (1001, leOw less)] [stAV n n false, vv (I6 c), vv (I6 g)] [(1000, imOw (nextC ng im less c g).1), (1001, leOw (nextC ng im less c g).2.1)]
      (.tup [.agg [.sl 1000 0 (nextC ng im less c g).2.1.length, .sl 1001 0 (nextC ng im less c g).2.1.length, .val (.bool (nextC ng im less c g).2.2.1)], .one (.val (I6 (nextC ng im less c g).2.2.2))]) [] := by
  have hm : im.length = n := hw.len.trans hn
  have hrow := hw.row c (by omega)
  have hrow0 := hw.row 0 (by omega)
  have hent := hw.ent c g (by omega) hg
  have h0im : 0 < im.length := by omega
  refine fc_enter (nt := 49) Try.func222 rfl rfl (by simp) fun w0 ω0 => ?_
  have hF := l11Image_fc im less n n c g false hm hn hw.down (by omega) (by omega) (by omega)
  (refine goes_seq ?_; refine goes_region ?_; apply run_step rfl; (exact stp_box rfl rfl rfl rfl); apply run_step rfl; (exact stp_allocZ [.slice none 0 0, .slice none 0 0, .bool false] rfl (by as_aux_lemma => kernel_rfl)); apply run_step rfl; (exact stp_assign rfl rfl); refine run_nil ?_; refine fin_seq ?_; refine goes_seq ?_; refine goes_seq ?_; refine goes_region ?_; apply run_step rfl; (exact stp_loadAgg rfl rfl rfl rfl rfl rfl (by as_aux_lemma => kernel_rfl)); apply run_step rfl; (exact stp_move rfl rfl); apply run_step rfl; (exact stp_move rfl rfl); apply run_step rfl; (apply call_gate 198; exact stp_callR hF (by as_aux_lemma => kernel_rfl) rfl rfl ⟨⟨.inl rfl, .inl rfl, .inl rfl, trivial⟩, rfl, rfl, trivial⟩ ⟨⟨_, rfl, .inr rfl⟩, ⟨_, rfl, .inr rfl⟩, trivial⟩ rfl rfl); apply run_step rfl; (exact stp_assign rfl rfl); refine run_nil ?_; refine fin_seq ?_; refine goes_seq ?_; refine goes_region ?_; apply run_step rfl; (exact stp_move rfl rfl); apply run_step rfl; (exact stp_bin rfl rfl rfl rfl); refine run_nil ?_; refine fin_seq ?_)
  by_cases h0 : 0 ≤ ent im c g
  · have hi : image im less c g = root less (ent im c g).toNat := if_neg (by omega)
    have hx : nextC ng im less c g = (im, less, false, root less (ent im c g).toNat) := if_pos h0
    rw [hx, hi]
    dsimp only
    rw [hn]
    refine goes_if rfl (fun h => ?_) (fun h => absurd (show (root less (ent im c g).toNat : Int) ≥ 0 by omega) h)
    (refine goes_seq ?_; refine goes_region ?_; apply run_step rfl; (exact stp_loadAgg rfl rfl rfl rfl rfl rfl (by as_aux_lemma => kernel_rfl)); apply run_step rfl; (exact stp_move rfl rfl); apply run_step rfl; (exact stp_storeAgg rfl rfl rfl rfl rfl rfl rfl rfl (by as_aux_lemma => kernel_rfl) rfl); apply run_step rfl; (exact stp_assign rfl rfl); refine run_nil ?_; refine fin_seq ?_; refine goes_ret ?_; refine fin_ret_then ?_)
    exact fin_ret2 (.inl rfl) rfl (.cell rfl rfl rfl rfl rfl (by kernel_rfl)) (.tmp rfl) ⟨rfl, rfl, trivial⟩ trivial
  · have hi : image im less c g = -1 := if_pos (by omega)
    rw [hi]
    refine goes_if rfl (fun h => absurd h (by show ¬ (-1 : Int) ≥ 0; omega)) (fun h => ?_)
    (refine goes_skip ?_; refine fin_seq ?_; refine goes_seq ?_)
    by_cases hf : less.length = 2000
    · have hx : nextC ng im less c g = (im, less, true, 0) := (if_neg h0).trans (if_pos hf)
      rw [hx]
      dsimp only
      rw [hn]
      have hD := l11Define_full im less n n (lget im 0).length false hm hn hf
      apply goes_draw 6 [] [[], [], [1], [1, 2], [1, 2, 3], [1, 2, 3, 4], [0, 1, 2, 3, 4, 5], [0, 1, 2, 3, 4, 5, 6], [0, 1, 2, 3, 4, 5, 6, 7], [0, 1, 2, 3, 4, 5, 6, 7], [0, 1, 2, 3, 4, 5, 6, 7, 8], [0, 1, 2, 3, 4, 5, 6, 7, 8, 9, 10]] [19, 20, 21, 22, 23, 24] [] (by kernel_rfl) (by kernel_rfl)
      · (apply draw_put rfl; (intro S1 hS; exact stp_loadAgg rfl (hS.op rfl) (hS.ch _ _ rfl) rfl rfl rfl (by as_aux_lemma => kernel_rfl)); apply draw_put rfl; (intro S1 hS; exact stp_fieldAddr (d := 0) rfl (hS.op rfl) (hS.ch _ _ rfl) (by as_aux_lemma => kernel_rfl)); apply draw_put rfl; (intro S1 hS; exact stp_loadF rfl (by as_aux_lemma => kernel_rfl) (hS.op rfl) (hS.ch _ _ rfl) rfl rfl); apply draw_put rfl; (intro S1 hS; exact stp_ix rfl (hS.op rfl) (hS.op rfl) (hS.ch _ _ rfl) rfl (by as_aux_lemma => kernel_rfl) (by first | rfl | exact (Int.toNat_of_nonneg (by omega)).symm) (by first | assumption | omega | (simp; omega)) (by first | exact Nat.le_refl _ | exact Nat.le_of_eq (ivals_len _).symm | exact Nat.le_of_eq (irows_len _).symm | (refine Nat.le_trans ?_ (Nat.le_of_eq (ivals_len _).symm); (first | omega | (simp; done) | (simp; omega))) | (refine Nat.le_trans ?_ (Nat.le_of_eq (irows_len _).symm); (first | omega | (simp; done) | (simp; omega))))); apply draw_put rfl; (intro S1 hS; exact stp_loadR rfl (by as_aux_lemma => kernel_rfl) (hS.op rfl) (hS.ch _ _ rfl) rfl (by first | assumption | exact ivals_get (by assumption) | exact irows_get (by assumption) | exact ivals_get (by omega) | exact irows_get (by omega) | rfl) (by first | exact ivals_len _ | assumption | rfl)); apply draw_put rfl; (intro S1 hS; exact stp_len rfl (hS.op rfl) rfl (by as_aux_lemma => kernel_rfl)); exact Draw.nil)
      · rfl
      refine rest_join (St.of [(1, vv (I6 c)), (2, vv (I6 g)), (3, o1 (.ptr 3 0)), (6, o1 (.ptr 6 0)), (9, vv (I6 0))] [(1000, imOw im), (1001, leOw less), (3, ⟨true, 185, 3, .flat [.sl 1000 0 n, .sl 1001 0 n, .val (.bool true)]⟩), (6, ⟨true, 185, 3, .flat [.val (.slice none 0 0), .val (.slice none 0 0), .val (.bool false)]⟩)]) ?_ ?_
      · ((apply rest_one 6 rfl (by as_aux_lemma => kernel_rfl) rfl rfl; (apply call_gate 220; exact stp_call [] hD (by as_aux_lemma => kernel_rfl) rfl rfl ⟨⟨.inl rfl, .inl rfl, .inl rfl, trivial⟩, rfl, trivial⟩ ⟨⟨_, rfl, .inl rfl⟩, ⟨_, rfl, .inl rfl⟩, trivial⟩ trivial rfl rfl)); (apply rest_one 7 rfl (by as_aux_lemma => kernel_rfl) rfl rfl; (exact stp_move rfl rfl)); (apply rest_two 8 9 rfl (by as_aux_lemma => kernel_rfl) rfl rfl rfl rfl; (exact stp_extract rfl rfl rfl); (exact stp_extract rfl rfl rfl); (focus ((apply rest_two 9 10 rfl (by as_aux_lemma => kernel_rfl) rfl rfl rfl rfl; (exact stp_extract rfl rfl rfl); (exact stp_storeAgg rfl rfl rfl rfl rfl rfl rfl rfl (by as_aux_lemma => kernel_rfl) rfl); (focus ((apply rest_one 10 rfl (by as_aux_lemma => kernel_rfl) rfl rfl; (exact stp_storeAgg rfl rfl rfl rfl rfl rfl rfl rfl (by as_aux_lemma => kernel_rfl) rfl)); (apply rest_one 11 rfl (by as_aux_lemma => kernel_rfl) rfl rfl; (exact stp_assign rfl rfl)); (refine rest_done (by as_aux_lemma => kernel_rfl) ?_; exact fin_join (Wk.of ⟨rfl, rfl, rfl, rfl, rfl, trivial⟩ ⟨rfl, rfl, rfl, rfl, trivial⟩ trivial)))); (focus ((apply rest_one 9 rfl (by as_aux_lemma => kernel_rfl) rfl rfl; (exact stp_extract rfl rfl rfl)); (apply rest_one 11 rfl (by as_aux_lemma => kernel_rfl) rfl rfl; (exact stp_assign rfl rfl)); (refine rest_done (by as_aux_lemma => kernel_rfl) ?_; exact fin_join (Wk.of ⟨rfl, rfl, rfl, rfl, rfl, trivial⟩ ⟨rfl, rfl, rfl, rfl, trivial⟩ trivial))))))); (focus ((apply rest_one 8 rfl (by as_aux_lemma => kernel_rfl) rfl rfl; (exact stp_extract rfl rfl rfl)); (apply rest_one 10 rfl (by as_aux_lemma => kernel_rfl) rfl rfl; (exact stp_storeAgg rfl rfl rfl rfl rfl rfl rfl rfl (by as_aux_lemma => kernel_rfl) rfl)); (apply rest_one 11 rfl (by as_aux_lemma => kernel_rfl) rfl rfl; (exact stp_assign rfl rfl)); (refine rest_done (by as_aux_lemma => kernel_rfl) ?_; exact fin_join (Wk.of ⟨rfl, rfl, rfl, rfl, rfl, trivial⟩ ⟨rfl, rfl, rfl, rfl, trivial⟩ trivial))))))
      (refine fin_seq ?_; refine goes_seq ?_; refine goes_seq ?_; refine goes_region ?_; apply run_step rfl; (exact stp_fieldAddr (d := 2) rfl rfl rfl (by as_aux_lemma => kernel_rfl)); apply run_step rfl; (exact stp_loadF rfl (by as_aux_lemma => kernel_rfl) rfl rfl rfl rfl); refine run_nil ?_; refine fin_seq ?_)
      refine goes_cond rfl (fun _ => ?_) (fun e => by cases e)
      (refine goes_seq ?_; refine goes_region ?_; apply run_step rfl; (exact stp_loadAgg rfl rfl rfl rfl rfl rfl (by as_aux_lemma => kernel_rfl)); apply run_step rfl; (exact stp_storeAgg rfl rfl rfl rfl rfl rfl rfl rfl (by as_aux_lemma => kernel_rfl) rfl); apply run_step rfl; (exact stp_assign rfl rfl); refine run_nil ?_; refine fin_seq ?_; refine goes_ret ?_; refine fin_ret_then ?_)
      exact fin_ret2 (.inl rfl) rfl (.cell rfl rfl rfl rfl rfl (by kernel_rfl)) (.tmp rfl) ⟨rfl, rfl, trivial⟩ trivial
    · have hx : nextC ng im less c g = (addC ng im n c g, less ++ [(n : Int)], false, n) := by rw [← hn]; exact (if_neg h0).trans (if_neg hf)
      rw [hx]
      dsimp only
      rw [List.length_append, hn]
      have hD := l11Define_fc im less n n ng false hm hn (by omega) hng (by omega)
      apply goes_draw 6 [] [[], [], [1], [1, 2], [1, 2, 3], [1, 2, 3, 4], [0, 1, 2, 3, 4, 5], [0, 1, 2, 3, 4, 5, 6], [0, 1, 2, 3, 4, 5, 6, 7], [0, 1, 2, 3, 4, 5, 6, 7], [0, 1, 2, 3, 4, 5, 6, 7, 8], [0, 1, 2, 3, 4, 5, 6, 7, 8, 9, 10]] [19, 20, 21, 22, 23, 24] [] (by kernel_rfl) (by kernel_rfl)
      · (apply draw_put rfl; (intro S1 hS; exact stp_loadAgg rfl (hS.op rfl) (hS.ch _ _ rfl) rfl rfl rfl (by as_aux_lemma => kernel_rfl)); apply draw_put rfl; (intro S1 hS; exact stp_fieldAddr (d := 0) rfl (hS.op rfl) (hS.ch _ _ rfl) (by as_aux_lemma => kernel_rfl)); apply draw_put rfl; (intro S1 hS; exact stp_loadF rfl (by as_aux_lemma => kernel_rfl) (hS.op rfl) (hS.ch _ _ rfl) rfl rfl); apply draw_put rfl; (intro S1 hS; exact stp_ix rfl (hS.op rfl) (hS.op rfl) (hS.ch _ _ rfl) rfl (by as_aux_lemma => kernel_rfl) (by first | rfl | exact (Int.toNat_of_nonneg (by omega)).symm) (by first | assumption | omega | (simp; omega)) (by first | exact Nat.le_refl _ | exact Nat.le_of_eq (ivals_len _).symm | exact Nat.le_of_eq (irows_len _).symm | (refine Nat.le_trans ?_ (Nat.le_of_eq (ivals_len _).symm); (first | omega | (simp; done) | (simp; omega))) | (refine Nat.le_trans ?_ (Nat.le_of_eq (irows_len _).symm); (first | omega | (simp; done) | (simp; omega))))); apply draw_put rfl; (intro S1 hS; exact stp_loadR rfl (by as_aux_lemma => kernel_rfl) (hS.op rfl) (hS.ch _ _ rfl) rfl (by first | assumption | exact ivals_get (by assumption) | exact irows_get (by assumption) | exact ivals_get (by omega) | exact irows_get (by omega) | rfl) (by first | exact ivals_len _ | assumption | rfl)); apply draw_put rfl; (intro S1 hS; exact stp_len rfl (hS.op rfl) rfl (by as_aux_lemma => kernel_rfl)); exact Draw.nil)
      · rfl
      refine rest_join (St.of [(1, vv (I6 c)), (2, vv (I6 g)), (3, o1 (.ptr 3 0)), (6, o1 (.ptr 6 0)), (9, vv (I6 n))] [(1000, imOw (im ++ [List.replicate ng (-1)])), (1001, leOw (less ++ [(n : Int)])), (3, ⟨true, 185, 3, .flat [.sl 1000 0 (n + 1), .sl 1001 0 (n + 1), .val (.bool false)]⟩), (6, ⟨true, 185, 3, .flat [.val (.slice none 0 0), .val (.slice none 0 0), .val (.bool false)]⟩)]) ?_ ?_
      · ((apply rest_one 6 rfl (by as_aux_lemma => kernel_rfl) rfl rfl; (apply call_gate 220; exact stp_call [] hD (by as_aux_lemma => kernel_rfl) rfl rfl ⟨⟨.inl rfl, .inl rfl, .inl rfl, trivial⟩, congrArg (fun k : Nat => vv (I6 k)) hrow0, trivial⟩ ⟨⟨_, rfl, .inl rfl⟩, ⟨_, rfl, .inl rfl⟩, trivial⟩ trivial rfl rfl)); (apply rest_one 7 rfl (by as_aux_lemma => kernel_rfl) rfl rfl; (exact stp_move rfl rfl)); (apply rest_two 8 9 rfl (by as_aux_lemma => kernel_rfl) rfl rfl rfl rfl; (exact stp_extract rfl rfl rfl); (exact stp_extract rfl rfl rfl); (focus ((apply rest_two 9 10 rfl (by as_aux_lemma => kernel_rfl) rfl rfl rfl rfl; (exact stp_extract rfl rfl rfl); (exact stp_storeAgg rfl rfl rfl rfl rfl rfl rfl rfl (by as_aux_lemma => kernel_rfl) rfl); (focus ((apply rest_one 10 rfl (by as_aux_lemma => kernel_rfl) rfl rfl; (exact stp_storeAgg rfl rfl rfl rfl rfl rfl rfl rfl (by as_aux_lemma => kernel_rfl) rfl)); (apply rest_one 11 rfl (by as_aux_lemma => kernel_rfl) rfl rfl; (exact stp_assign rfl rfl)); (refine rest_done (by as_aux_lemma => kernel_rfl) ?_; exact fin_join (Wk.of ⟨rfl, rfl, rfl, rfl, rfl, trivial⟩ ⟨rfl, rfl, rfl, rfl, trivial⟩ trivial)))); (focus ((apply rest_one 9 rfl (by as_aux_lemma => kernel_rfl) rfl rfl; (exact stp_extract rfl rfl rfl)); (apply rest_one 11 rfl (by as_aux_lemma => kernel_rfl) rfl rfl; (exact stp_assign rfl rfl)); (refine rest_done (by as_aux_lemma => kernel_rfl) ?_; exact fin_join (Wk.of ⟨rfl, rfl, rfl, rfl, rfl, trivial⟩ ⟨rfl, rfl, rfl, rfl, trivial⟩ trivial))))))); (focus ((apply rest_one 8 rfl (by as_aux_lemma => kernel_rfl) rfl rfl; (exact stp_extract rfl rfl rfl)); (apply rest_one 10 rfl (by as_aux_lemma => kernel_rfl) rfl rfl; (exact stp_storeAgg rfl rfl rfl rfl rfl rfl rfl rfl (by as_aux_lemma => kernel_rfl) rfl)); (apply rest_one 11 rfl (by as_aux_lemma => kernel_rfl) rfl rfl; (exact stp_assign rfl rfl)); (refine rest_done (by as_aux_lemma => kernel_rfl) ?_; exact fin_join (Wk.of ⟨rfl, rfl, rfl, rfl, rfl, trivial⟩ ⟨rfl, rfl, rfl, rfl, trivial⟩ trivial))))))
      have h1 := (hw.app).row c (by simp; omega)
      have hlc : (lget (im ++ [List.replicate ng (-1)]) c).length = ng := h1
      have hl : (im ++ [List.replicate ng (-1)]).length = n + 1 := by simp [hm]
      have hln : (lget (rset (im ++ [List.replicate ng (-1)]) c g n) n).length = ng := by rw [rset_row, ← hm, lget_app_eq]; simp
      have hl2 : (rset (im ++ [List.replicate ng (-1)]) c g n).length = n + 1 := by rw [rset_len]; exact hl
      (refine fin_seq ?_; refine goes_seq ?_; refine goes_seq ?_; refine goes_region ?_; apply run_step rfl; (exact stp_fieldAddr (d := 2) rfl rfl rfl (by as_aux_lemma => kernel_rfl)); apply run_step rfl; (exact stp_loadF rfl (by as_aux_lemma => kernel_rfl) rfl rfl rfl rfl); refine run_nil ?_; refine fin_seq ?_)
      refine goes_cond rfl (fun e => by cases e) (fun _ => ?_)
      (refine goes_skip ?_; refine fin_seq ?_; refine goes_seq ?_; refine goes_region ?_; apply run_step rfl; (exact stp_fieldAddr (d := 0) rfl rfl rfl (by as_aux_lemma => kernel_rfl)); apply run_step rfl; (exact stp_loadF rfl (by as_aux_lemma => kernel_rfl) rfl rfl rfl rfl); apply run_step rfl; (exact stp_move rfl rfl); apply run_step rfl; (exact stp_ix rfl rfl rfl rfl rfl (by as_aux_lemma => kernel_rfl) (by first | rfl | exact (Int.toNat_of_nonneg (by omega)).symm) (by first | assumption | omega | (simp; omega)) (by first | exact Nat.le_refl _ | exact Nat.le_of_eq (ivals_len _).symm | exact Nat.le_of_eq (irows_len _).symm | (refine Nat.le_trans ?_ (Nat.le_of_eq (ivals_len _).symm); (first | omega | (simp; done) | (simp; omega))) | (refine Nat.le_trans ?_ (Nat.le_of_eq (irows_len _).symm); (first | omega | (simp; done) | (simp; omega))))); apply run_step rfl; (exact stp_loadR rfl (by as_aux_lemma => kernel_rfl) rfl rfl rfl (by first | assumption | exact ivals_get (by assumption) | exact irows_get (by assumption) | exact ivals_get (by omega) | exact irows_get (by omega) | rfl) (by first | exact ivals_len _ | assumption | rfl)); apply run_step rfl; (exact stp_move rfl rfl); apply run_step rfl; (exact stp_move rfl rfl); apply run_step rfl; (exact stp_ixE rfl rfl rfl rfl rfl (by as_aux_lemma => kernel_rfl) (by first | assumption | exact ivals_get (by assumption) | exact irows_get (by assumption) | exact ivals_get (by omega) | exact irows_get (by omega) | rfl) (by first | rfl | exact (Int.toNat_of_nonneg (by omega)).symm) (by first | assumption | omega | (simp; omega)) (by first | exact Nat.le_refl _ | exact Nat.le_of_eq (ivals_len _).symm | exact Nat.le_of_eq (irows_len _).symm | (refine Nat.le_trans ?_ (Nat.le_of_eq (ivals_len _).symm); (first | omega | (simp; done) | (simp; omega))) | (refine Nat.le_trans ?_ (Nat.le_of_eq (irows_len _).symm); (first | omega | (simp; done) | (simp; omega))))); apply run_step rfl; (exact stp_stE rfl rfl rfl rfl rfl (by first | assumption | omega | (simp; omega)) (by first | assumption | omega | (simp; omega)) (by as_aux_lemma => kernel_rfl)); refine run_nil ?_; refine fin_seq ?_; refine goes_seq ?_; refine goes_region ?_; apply run_step rfl; (exact stp_fieldAddr (d := 0) rfl rfl rfl (by as_aux_lemma => kernel_rfl)); apply run_step rfl; (exact stp_loadF rfl (by as_aux_lemma => kernel_rfl) rfl rfl rfl rfl); apply run_step rfl; (exact stp_move rfl rfl); apply run_step rfl; (exact stp_ix rfl rfl rfl rfl rfl (by as_aux_lemma => kernel_rfl) (by first | rfl | exact (Int.toNat_of_nonneg (by omega)).symm) (by first | assumption | omega | (simp; omega)) (by first | exact Nat.le_refl _ | exact Nat.le_of_eq (ivals_len _).symm | exact Nat.le_of_eq (irows_len _).symm | (refine Nat.le_trans ?_ (Nat.le_of_eq (ivals_len _).symm); (first | omega | (simp; done) | (simp; omega))) | (refine Nat.le_trans ?_ (Nat.le_of_eq (irows_len _).symm); (first | omega | (simp; done) | (simp; omega))))); apply run_step rfl; (exact stp_loadR rfl (by as_aux_lemma => kernel_rfl) rfl rfl rfl (by first | assumption | exact ivals_get (by assumption) | exact irows_get (by assumption) | exact ivals_get (by omega) | exact irows_get (by omega) | rfl) (by first | exact ivals_len _ | assumption | rfl)); apply run_step rfl; (exact stp_move rfl rfl); apply run_step rfl; (exact stp_move rfl rfl); apply run_step rfl; (exact stp_ixE rfl rfl rfl rfl rfl (by as_aux_lemma => kernel_rfl) (by first | assumption | exact ivals_get (by assumption) | exact irows_get (by assumption) | exact ivals_get (by omega) | exact irows_get (by omega) | rfl) (by first | rfl | exact (Int.toNat_of_nonneg (by omega)).symm) (by first | assumption | omega | (simp; omega)) (by first | exact Nat.le_refl _ | exact Nat.le_of_eq (ivals_len _).symm | exact Nat.le_of_eq (irows_len _).symm | (refine Nat.le_trans ?_ (Nat.le_of_eq (ivals_len _).symm); (first | omega | (simp; done) | (simp; omega))) | (refine Nat.le_trans ?_ (Nat.le_of_eq (irows_len _).symm); (first | omega | (simp; done) | (simp; omega))))); apply run_step rfl; (exact stp_stE rfl rfl rfl rfl rfl (by first | assumption | omega | (simp; omega)) (by first | assumption | omega | (simp; omega)) (by as_aux_lemma => kernel_rfl)); refine run_nil ?_; refine fin_seq ?_; refine goes_seq ?_; refine goes_region ?_; apply run_step rfl; (exact stp_loadAgg rfl rfl rfl rfl rfl rfl (by as_aux_lemma => kernel_rfl)); apply run_step rfl; (exact stp_move rfl rfl); apply run_step rfl; (exact stp_storeAgg rfl rfl rfl rfl rfl rfl rfl rfl (by as_aux_lemma => kernel_rfl) rfl); apply run_step rfl; (exact stp_assign rfl rfl); refine run_nil ?_; refine fin_seq ?_; refine goes_ret ?_)
      exact fin_ret2 (.inl rfl) rfl (.cell rfl rfl rfl rfl rfl (by kernel_rfl)) (.tmp rfl) ⟨rfl, rfl, trivial⟩ trivial
end Go.Proofs.Ytpognnifgcacnaa

/- A memory of names: a region that draws its order, in which one operation of the first ones is free to come at any time. No program in sight. -/
namespace Go.Proofs.Ytpognnifgcacnaa
open Go.RowKit

section
variable {P : Program} {nt : Nat} {w0 w : World} {ω0 : Beg} {S S1 : St} {Q : Exit → Act → World → Prop} {a : Act}

theorem memN_cons {f : Nat} {sk : List Nat} {j : Nat} : memN (f :: sk) j = (Nat.beq j f || memN sk j) := by
  unfold memN
  rw [List.any_cons]
theorem missing_le {sk : List Nat} {L : Array Bool} : ∀ k, missing sk L k ≤ k := fun k => by
  induction k with
  | zero => exact Nat.le_refl _
  | succ k ih => simp only [missing]; split <;> omega
theorem missing_cons_lo {sk : List Nat} {L : Array Bool} (f : Nat) : ∀ k, k ≤ f → missing (f :: sk) L k = missing sk L k
  | 0, _ => rfl
  | k + 1, h => by
    simp only [missing]
    rw [missing_cons_lo f k (by omega), memN_cons, beq_ne (by omega : k ≠ f), Bool.false_or]
theorem missing_le_cons {sk : List Nat} {L : Array Bool} (f : Nat) (hL : L.getD f false = false) (hs : memN sk f = false) : ∀ k, f < k → missing sk L k = missing (f :: sk) L k + 1
  | 0, h => by omega
  | k + 1, h => by
    simp only [missing]
    rw [memN_cons]
    by_cases e : k = f
    · subst e
      rw [missing_cons_lo k k (Nat.le_refl _), hL, hs]
      simp
    · rw [missing_le_cons f hL hs k (by omega), beq_ne e, Bool.false_or]; omega
theorem missing_cons {sk : List Nat} {f nA : Nat} (hf : f < nA) (hs : memN sk f = false) : missing (f :: sk) #[] nA = missing sk #[] nA - 1 ∧ 0 < missing sk #[] nA := by
  have := missing_le_cons (sk := sk) (L := #[]) f (by simp) hs nA hf
  omega

/-- what the first nA operations depend on; all others wait for them, but perhaps not for f -/
def clsFB (ops : Array Oper) (nA : Nat) (sk : List Nat) (f : Nat) (cls : List (List Nat)) : Bool :=
  Nat.ble nA ops.size && (List.range ops.size).all fun i => match ops[i]? with
    | some o => (Nat.ble nA i || memN sk i || o.after.all fun e => !Region.binds .any e || (Nat.blt e.on i && !memN sk e.on)) && ((cls.getD i []).all fun j => o.after.any fun e => Region.binds .any e && (Nat.beq j e.on || memN (cls.getD e.on []) j)) &&
        ((Nat.blt i nA && !memN sk i) || (List.range nA).all fun j => Nat.beq j f || memN sk j || memN (cls.getD i []) j) && (Nat.ble nA i || (cls.getD i []).all fun j => Nat.blt j i)
    | none => true
structure ClsFOK (ops : Array Oper) (nA : Nat) (sk : List Nat) (f : Nat) (cls : List (List Nat)) : Prop where
  size : nA ≤ ops.size
  less : ∀ i o, ops[i]? = some o → i < nA → memN sk i = false → ∀ e ∈ o.after, Region.binds .any e = true → e.on < i ∧ memN sk e.on = false
  dep : ∀ i o, ops[i]? = some o → ∀ j ∈ cls.getD i [], ∃ e ∈ o.after, Region.binds .any e = true ∧ (j = e.on ∨ j ∈ cls.getD e.on [])
  late : ∀ i o, ops[i]? = some o → (nA ≤ i ∨ memN sk i = true) → ∀ j, j < nA → memN sk j = false → j ≠ f → j ∈ cls.getD i []
  lt : ∀ i o, ops[i]? = some o → i < nA → ∀ j ∈ cls.getD i [], j < i
theorem clsFB_spec {ops : Array Oper} {nA : Nat} {sk : List Nat} {f : Nat} {cls : List (List Nat)} (h : clsFB ops nA sk f cls = true) : ClsFOK ops nA sk f cls := by
  unfold clsFB at h
  simp only [Bool.and_eq_true, Nat.ble_eq] at h
  obtain ⟨h0, h⟩ := h
  have key : ∀ i o, ops[i]? = some o → _ := fun i o ho => by
    have hi : i < ops.size := (Array.getElem?_eq_some_iff.1 ho).1
    have h1 := List.all_eq_true.1 h i (List.mem_range.2 hi)
    simp only [ho, Bool.and_eq_true, Bool.or_eq_true] at h1
    exact h1
  refine ⟨h0, fun i o ho hi hsk e he hb => ?_, fun i o ho j hj => ?_, fun i o ho hi j hj hsk hf => ?_, fun i o ho hi j hj => ?_⟩
  · rcases (key i o ho).1.1.1 with (h1 | h1) | h1
    · have := Nat.le_of_ble_eq_true h1; omega
    · rw [hsk] at h1; cases h1
    · have := Array.all_eq_true_iff_forall_mem.1 h1 e he
      simp [hb] at this; exact this
  · have := List.all_eq_true.1 (key i o ho).1.1.2 j hj
    obtain ⟨e, he, h2⟩ := Array.any_eq_true'.1 this
    simp only [Bool.and_eq_true, Bool.or_eq_true] at h2
    exact ⟨e, he, h2.1, h2.2.imp (fun h => beq_true h) (fun h => memN_iff.1 h)⟩
  · rcases (key i o ho).1.2 with h1 | h1
    · exfalso
      have h2 : i < nA := by simpa using h1.1
      have h3 : memN sk i = false := by simpa using h1.2
      rcases hi with h4 | h4
      · omega
      · rw [h3] at h4; cases h4
    · have h2 := List.all_eq_true.1 h1 j (List.mem_range.2 hj)
      simp only [Bool.or_eq_true, hsk, beq_ne hf, Bool.false_eq_true, false_or] at h2
      exact memN_iff.1 h2
  · rcases (key i o ho).2 with h1 | h1
    · have := Nat.le_of_ble_eq_true h1; omega
    · exact (by have := List.all_eq_true.1 h1 j hj; simpa using this)

theorem draw_mainF {l : List Oper} {nA : Nat} {sk : List Nat} {cls : List (List Nat)} {ds nms : List Nat} {adds done : List Add} {f : Nat} (hfA : f < nA) (hfs : memN sk f = false) (hcl : ClsFOK l.toArray nA sk f cls) (hdr : Draw P nt (S.clear ds nms) cls sk (l.take nA) [] done) (hdn : done.reverse = adds) (ok : AddsOK adds cls ds nms)
    (hk : Rest P w0 ω0 nt l.toArray Q (l.length - missing sk #[] nA) (doneL nA sk l.length) ((S.clear ds nms).part (fun j => !memN sk j) adds))
    (hk0 : Rest P w0 ω0 nt l.toArray Q (l.length - missing (f :: sk) #[] nA) (doneL nA (f :: sk) l.length) ((S.clear ds nms).part (fun j => !memN (f :: sk) j) adds)) :
    ∀ (d : Nat) (L : Array Bool) (a : Act) (w : World), missing sk L nA = d → L.size = l.length → (∀ j, L.getD j false = true → j < nA ∧ memN sk j = false) → (∀ i, L.getD i false = true → ∀ j ∈ cls.getD i [], L.getD j false = true) →
      Sat w0 ω0 nt ((S.clear ds nms).part (fun j => L.getD j false) adds) a w → wpAny P .any l.toArray Q (l.length - missing sk #[] nA + d) L a w := by
  have hsz : nA ≤ l.length := by have := hcl.size; simpa using this
  obtain ⟨⟨r, hr, hrl⟩, hob⟩ := hdr.spec
  rw [hdn] at hr hob
  have hal : adds.length = nA := by rw [hr]; simp [hrl]; omega
  have hfull : ∀ (L : Array Bool) (i : Nat), i ∈ Region.ready .any l.toArray L → (∀ i, L.getD i false = true → ∀ j ∈ cls.getD i [], L.getD j false = true) → (∃ o, l.toArray[i]? = some o ∧ L.getD i true = false) ∧ ∀ j ∈ cls.getD i [], L.getD j false = true := by
    intro L i hi hclosed
    obtain ⟨h0, o, ho, he⟩ := mem_ready.1 hi
    refine ⟨⟨o, ho, h0⟩, fun j hj => ?_⟩
    obtain ⟨e, hem, hb, hje⟩ := hcl.dep i o ho j hj
    have h1 := he e hem hb
    rcases hje with rfl | hje
    · exact h1
    · exact hclosed e.on h1 j hje
  intro d
  induction d with
  | zero =>
    intro L a w hm hs hsub hclosed hsat
    have hall := missing_zero hm
    have hL : L = doneL nA sk l.length := by
      apply Array.ext
      · simp [hs, doneL]
      · intro j h1 h2
        have h3 : L[j]? = some L[j] := Array.getElem?_eq_getElem h1
        have h4 := doneL_at (nA := nA) (sk := sk) (n := l.length) (j := j) (by omega)
        rw [Array.getElem?_eq_getElem h2] at h4
        rw [Option.some.inj h4]
        cases hb : L[j] with
        | true =>
          have := hsub j (by simp [h1, hb])
          simp [this.1, this.2]
        | false =>
          by_cases hj : j < nA
          · cases hsk : memN sk j with
            | true => simp
            | false =>
              have := hall j hj hsk
              simp [h1, hb] at this
          · simp [hj]
    refine hk.go a w ((St.le.wk (part_le (ℓ1 := fun j => !memN sk j) (ℓ2 := fun j => L.getD j false) ok (fun _ _ h => h) fun j A hj hsk => ?_) fun _ _ h => h).go _ _ _ a w hsat) |> fun h => by rw [← hL] at h; exact h
    have hjl : j < adds.length := (List.getElem?_eq_some_iff.1 hj).1
    exact hall j (by omega) (by simpa using hsk)
  | succ d ih =>
    intro L a w hm hs hsub hclosed hsat
    by_cases h0 : missing (f :: sk) L nA = 0 ∧ L.getD f false = false
    · obtain ⟨h0, hff⟩ := h0
      have hall := missing_zero h0
      have hL : L = doneL nA (f :: sk) l.length := by
        apply Array.ext
        · simp [hs, doneL]
        · intro j h1 h2
          have h3 : L[j]? = some L[j] := Array.getElem?_eq_getElem h1
          have h4 := doneL_at (nA := nA) (sk := f :: sk) (n := l.length) (j := j) (by omega)
          rw [Array.getElem?_eq_getElem h2] at h4
          rw [Option.some.inj h4]
          cases hb : L[j] with
          | true =>
            have := hsub j (by simp [h1, hb])
            have hjf : j ≠ f := fun e => by subst e; simp [h1, hb] at hff
            rw [memN_cons, this.2, beq_ne hjf]; simp [this.1]
          | false =>
            by_cases hj : j < nA
            · cases hsk : memN (f :: sk) j with
              | true => simp
              | false =>
                have := hall j hj hsk
                simp [h1, hb] at this
            · simp [hj]
      have hd : missing (f :: sk) #[] nA = missing sk #[] nA - 1 ∧ 0 < missing sk #[] nA := missing_cons hfA hfs
      have hd1 : d = 0 := by
        have := missing_le_cons (sk := sk) (L := L) f hff hfs nA hfA
        omega
      subst hd1
      have hmn : ∀ k, missing sk #[] k ≤ k := missing_le
      have := hmn nA
      have e : l.length - missing (f :: sk) #[] nA = l.length - missing sk #[] nA + (0 + 1) := by omega
      rw [← e]
      refine hk0.go a w ((St.le.wk (part_le (ℓ1 := fun j => !memN (f :: sk) j) (ℓ2 := fun j => L.getD j false) ok (fun _ _ h => h) fun j A hj hsk => ?_) fun _ _ h => h).go _ _ _ a w hsat) |> fun h => by rw [← hL] at h; exact h
      have hjl : j < adds.length := (List.getElem?_eq_some_iff.1 hj).1
      exact hall j (by omega) (by simpa using hsk)
    refine ⟨fun hnil => ?_, fun i hi => ?_⟩
    · exfalso
      obtain ⟨j, hj, hjs', hjf, hlo⟩ := missing_least (k := nA) (by omega : missing sk L nA ≠ 0)
      have hjl : j < l.length := by omega
      have hjs : j < L.size := by omega
      have : j ∈ Region.ready .any l.toArray L := by
        refine mem_ready.2 ⟨?_, l[j], by simp [hjl], fun e he hb => ?_⟩
        · simp [hjs] at hjf ⊢
          exact hjf
        · have h5 := hcl.less j l[j] (by simp [hjl]) hj hjs' e he hb
          exact hlo e.on h5.1 h5.2
      rw [hnil] at this; cases this
    · obtain ⟨⟨o, ho, hi0⟩, hdep⟩ := hfull L i hi hclosed
      have hil : i < l.length := by have := (Array.getElem?_eq_some_iff.1 ho).1; simpa using this
      have his : i < L.size := by omega
      have hif : L.getD i false = false := by simp [his] at hi0 ⊢; exact hi0
      have hnl : ¬ (nA ≤ i ∨ memN sk i = true) := fun h => by
        have h1 := missing_full (sk := f :: sk) (L := L) (k := nA) fun j hj hsk => by
          rw [memN_cons] at hsk
          simp only [Bool.or_eq_false_iff] at hsk
          exact hdep j (hcl.late i o ho h j hj hsk.2 fun e => by subst e; simp at hsk)
        refine h0 ⟨h1, ?_⟩
        cases hff : L.getD f false with
        | false => rfl
        | true =>
          have := missing_zero h1
          have h2 := missing_full (sk := sk) (L := L) (k := nA) fun j hj hsk => by
            by_cases e : j = f
            · subst e; exact hff
            · exact this j hj (by rw [memN_cons, hsk, beq_ne e]; rfl)
          omega
      have hiA : i < nA := by
        rcases Nat.lt_or_ge i nA with h | h
        · exact h
        · exact absurd (.inl h) hnl
      have hisk : memN sk i = false := by
        cases hsk : memN sk i with
        | false => rfl
        | true => exact absurd (.inr hsk) hnl
      have hot : (l.take nA)[i]? = some o := by rw [List.getElem?_take, if_pos hiA]; simpa using ho
      obtain ⟨A, hA, hg, hstp⟩ := hob i o hot (by simpa using hisk)
      simp only [List.length_nil, Nat.zero_add] at hA hstp
      have hle : ((S.clear ds nms).partR (memN (cls.getD i [])) (adds.take i).reverse).le ((S.clear ds nms).part (fun j => L.getD j false) adds) := partR_le ok (fun j B hj => by
          rw [List.reverse_reverse] at hj
          rw [List.getElem?_take] at hj; split at hj
          · exact hj
          · cases hj) fun j B _ hj => hdep j (memN_iff.1 hj)
      have hst := (hstp _ hle).go w0 ω0 a w Q hsat
      unfold wpOp
      simp only [ho]
      rw [if_pos (by simp [Region.wanted, hg])]
      refine .inl (Oper.wp_mono (fun a' w' hsat' => ?_) hst)
      have hsat2 := (wk_add ok hA hif fun j hj hm' => by have := hclosed j hj i hm'; rw [hif] at this; cases this).go _ _ _ a' w' hsat'
      have hnew : ∀ j, (L.setIfInBounds i true).getD j false = (Nat.beq j i || L.getD j false) := fun j => by
        by_cases e : j = i
        · subst e; simp [his]
        · rw [getD_set_ne false (fun e' => e e'.symm), beq_ne e, Bool.false_or]
      refine ih (L.setIfInBounds i true) a' w' ?_ (by simp [hs]) (fun j hj => ?_) (fun j hj k hk' => ?_) ?_
      · have := missing_set his hif hisk nA hiA; omega
      · rw [hnew] at hj
        by_cases e : j = i
        · rw [e]; exact ⟨hiA, hisk⟩
        · rw [beq_ne e, Bool.false_or] at hj; exact hsub j hj
      · rw [hnew] at hj ⊢
        by_cases e : j = i
        · subst e; rw [hdep k hk']; simp
        · rw [beq_ne e, Bool.false_or] at hj; rw [hclosed j hj k hk']; simp
      · have : (fun j => (L.setIfInBounds i true).getD j false) = fun j => (Nat.beq j i || L.getD j false) := funext hnew
        rw [this]; exact hsat2

theorem goes_drawF {id : Nat} {l : List Oper} (nA : Nat) (sk : List Nat) (f : Nat) (cls : List (List Nat)) (ds nms : List Nat) {done : List Add} (hm : P.follows .mixedOrders = true) (hcl : clsFB l.toArray nA sk f cls = true) (hf' : (Nat.blt f nA && !memN sk f) = true) (hdr : Draw P nt (S.clear ds nms) cls sk (l.take nA) [] done) (ok : addsB done.reverse cls ds nms = true)
    (hk : Rest P w0 ω0 nt l.toArray Q (l.length - missing sk #[] nA) (doneL nA sk l.length) ((S.clear ds nms).partR (fun j => !memN sk j) done))
    (hk0 : Rest P w0 ω0 nt l.toArray Q (l.length - missing (f :: sk) #[] nA) (doneL nA (f :: sk) l.length) ((S.clear ds nms).partR (fun j => !memN (f :: sk) j) done)) : Goes P w0 ω0 nt S (.region id l.toArray true) Q := by
  have hc := clsFB_spec hcl
  have hsz : nA ≤ l.length := by have := hc.size; simpa using this
  have hk' : Rest P w0 ω0 nt l.toArray Q (l.length - missing sk #[] nA) (doneL nA sk l.length) ((S.clear ds nms).part (fun j => !memN sk j) done.reverse) :=
    ⟨fun a w hs => hk.go a w ((St.le.wk (partR_le (addsB_spec ok) (fun _ _ h => h) fun _ _ _ h => h) fun _ _ h => h).go _ _ _ a w hs)⟩
  have hk0' : Rest P w0 ω0 nt l.toArray Q (l.length - missing (f :: sk) #[] nA) (doneL nA (f :: sk) l.length) ((S.clear ds nms).part (fun j => !memN (f :: sk) j) done.reverse) :=
    ⟨fun a w hs => hk0.go a w ((St.le.wk (partR_le (addsB_spec ok) (fun _ _ h => h) fun _ _ _ h => h) fun _ _ h => h).go _ _ _ a w hs)⟩
  have hfA : f < nA := by simp only [Bool.and_eq_true] at hf'; simpa using hf'.1
  have hfs : memN sk f = false := by simp only [Bool.and_eq_true] at hf'; simpa using hf'.2
  have hle : ∀ k, missing sk #[] k ≤ k := fun k => by
    induction k with
    | zero => exact Nat.le_refl _
    | succ k ih => simp only [missing]; split <;> omega
  refine ⟨fun a w hs => wp_region_any hm ?_⟩
  have hfin := draw_mainF hfA hfs hc hdr rfl (addsB_spec ok) hk' hk0' (missing sk #[] nA) (Array.replicate l.length false) a { w with drawn := w.drawn + 1 } ?_ (by simp) (fun j hj => ?_) (fun i hi => ?_) ?_
  · have := hle nA
    rw [show l.length - missing sk #[] nA + missing sk #[] nA = l.length by omega] at hfin
    simpa using hfin
  · have : ∀ k, k ≤ l.length → missing sk (Array.replicate l.length false) k = missing sk #[] k := fun k => by
      induction k with
      | zero => intro _; rfl
      | succ k ih =>
        intro hk
        simp only [missing]
        rw [ih (by omega)]
        have : (Array.replicate l.length false).getD k false = false := by simp [show k < l.length by omega]
        rw [this]; rfl
    exact this nA hsz
  · exfalso
    by_cases h : j < l.length
    · simp [h] at hj
    · simp [h] at hj
  · exfalso
    by_cases h : i < l.length
    · simp [h] at hi
    · simp [h] at hi
  · have h1 := (wk_clear S ds nms).go _ _ _ a _ (sat_drew hs)
    have hf : ∀ j, (Array.replicate l.length false).getD j false = false := fun j => by
      by_cases h : j < l.length <;> simp [h]
    refine (Wk.less (S := S.clear ds nms) (S' := (S.clear ds nms).part (fun j => (Array.replicate l.length false).getD j false) done.reverse) (fun t av h => ?_) (fun x c h => ?_) fun _ _ h => h).go _ _ _ a _ h1
    · have h : (match lkT (fun j => (Array.replicate l.length false).getD j false) 0 done.reverse t with | some av => some av | none => (S.clear ds nms).sl t) = some av := h
      split at h
      · rename_i av' h2
        obtain ⟨j, A, _, h3, _⟩ := lkT_some h2
        rw [hf] at h3; cases h3
      · exact h
    · have h : (match lkN (fun j => (Array.replicate l.length false).getD j false) 0 done.reverse x with | some c => some c | none => (S.clear ds nms).ch x) = some c := h
      split at h
      · rename_i av' h2
        obtain ⟨j, A, _, h3, _⟩ := lkN_some h2
        rw [hf] at h3; cases h3
      · exact h


theorem rest_three {N : Nat} (i j k : Nat) {ops : Array Oper} {L : Array Bool} {o o' o'' : Oper} {S2 S3 : St} (hN : Nat.blt 0 N = true) (hr : Region.ready .any ops L = [i, j, k]) (ho : ops[i]? = some o) (ho' : ops[j]? = some o') (ho'' : ops[k]? = some o'') (hg : o.guard = none) (hg' : o'.guard = none) (hg'' : o''.guard = none)
    (h : Stp P nt o S S1) (h' : Stp P nt o' S S2) (h'' : Stp P nt o'' S S3)
    (k1 : Rest P w0 ω0 nt ops Q (N - 1) (L.setIfInBounds i true) S1) (k2 : Rest P w0 ω0 nt ops Q (N - 1) (L.setIfInBounds j true) S2) (k3 : Rest P w0 ω0 nt ops Q (N - 1) (L.setIfInBounds k true) S3) : Rest P w0 ω0 nt ops Q N L S := by
  have hN' : 0 < N := by simpa using hN
  obtain ⟨n, rfl⟩ : ∃ n, N = n + 1 := ⟨N - 1, by omega⟩
  exact ⟨fun a w hs => wpAny_all hr (by simp) fun i' hi' => by
    simp at hi'
    rcases hi' with rfl | rfl | rfl
    · unfold wpOp
      simp only [ho]
      rw [if_pos (by simp [Region.wanted, hg])]
      exact .inl (Oper.wp_mono (fun a' w' h' => k1.go a' w' h') (h.go w0 ω0 a w Q hs))
    · unfold wpOp
      simp only [ho']
      rw [if_pos (by simp [Region.wanted, hg'])]
      exact .inl (Oper.wp_mono (fun a' w' h' => k2.go a' w' h') (h'.go w0 ω0 a w Q hs))
    · unfold wpOp
      simp only [ho'']
      rw [if_pos (by simp [Region.wanted, hg''])]
      exact .inl (Oper.wp_mono (fun a' w' h' => k3.go a' w' h') (h''.go w0 ω0 a w Q hs))⟩
end
end Go.Proofs.Ytpognnifgcacnaa

/- Coset enumeration: l11Close. -/
namespace Go.Proofs.Ytpognnifgcacnaa
open Go.RowKit


set_option maxRecDepth 100000 in
set_option maxHeartbeats 1000000 in
theorem l11Close_fc (ng n : Nat) (im : List (List Int)) (less : List Int) (c : Nat) (wss : List (List Int)) (i k : Nat) (W : List Int) (hn : less.length = n) (hw : WF ng im less) (hc : c < n) (h2 : n ≤ 2000) (hng : ng ≤ 1000) (hi : i < wss.length) (hW : lget wss i = W) (hk : W.length = k) (hk2 : k ≤ 1000000000) (hg : ∀ z ∈ W, 0 ≤ z ∧ z < ng) (C : List (List Int) × List Int × Bool) (hC : closeC ng im less c (W.map Int.toNat) = C) :
    FC Try.prog 221 [(1000, imOw im), (1001, leOw less), (1002, rowsRo wss)] [stAV n n false, vv (I6 c), o1 (.esl 1002 i 0 k)] [(1000, imOw C.1), (1001, leOw C.2.1)]
      (.s (.agg [.sl 1000 0 C.2.1.length, .sl 1001 0 C.2.1.length, .val (.bool C.2.2)])) [] := by
  have hrowW : (irows wss)[i]? = some (ivals W) := by rw [← hW]; exact irows_get hi
  refine fc_enter (nt := 86) Try.func221 rfl rfl (by simp) fun w0 ω0 => ?_
  (refine goes_seq ?_; refine goes_region ?_; apply run_step rfl; (exact stp_box rfl rfl rfl rfl); apply run_step rfl; (exact stp_allocZ [.slice none 0 0, .slice none 0 0, .bool false] rfl (by as_aux_lemma => kernel_rfl)); refine run_nil ?_; refine fin_seq ?_; refine goes_seq ?_; refine goes_seq ?_; refine goes_region ?_; apply run_step rfl; (exact stp_move rfl rfl); apply run_step rfl; (exact stp_len rfl rfl rfl (by as_aux_lemma => kernel_rfl)); apply run_step rfl; (exact stp_bin rfl rfl rfl rfl); refine run_nil ?_; refine fin_seq ?_)
  by_cases h0 : k = 0
  · have hWe : W = [] := List.length_eq_zero_iff.1 (hk.trans h0)
    have hx : C = (im, less, false) := by rw [← hC, hWe]; rfl
    subst hx
    dsimp only
    rw [hn]
    refine goes_if rfl (fun h => ?_) (fun h => absurd (show (k : Int) = 0 by omega) h)
    (refine goes_seq ?_; refine goes_region ?_; apply run_step rfl; (exact stp_loadAgg rfl rfl rfl rfl rfl rfl (by as_aux_lemma => kernel_rfl)); apply run_step rfl; (exact stp_storeAgg rfl rfl rfl rfl rfl rfl rfl rfl (by as_aux_lemma => kernel_rfl) rfl); refine run_nil ?_; refine fin_seq ?_; refine goes_ret ?_; refine fin_ret_then ?_)
    exact fin_ret1 (.inl rfl) rfl (.cell rfl rfl rfl rfl rfl (by kernel_rfl)) ⟨rfl, rfl, trivial⟩ trivial
  · obtain ⟨g, hgl⟩ : ∃ g, (W.map Int.toNat).getLast? = some g := by
      cases hh : (W.map Int.toNat).getLast? with
      | some g => exact ⟨g, rfl⟩
      | none =>
        have : W.map Int.toNat = [] := List.getLast?_eq_none_iff.1 hh
        simp at this; subst this; exact absurd hk.symm h0
    refine goes_if rfl (fun h => absurd (show (k : Int) = 0 from h) (by omega)) (fun _ => ?_)
    (refine goes_skip ?_; refine fin_seq ?_; refine goes_seq ?_; refine goes_region ?_; apply run_step rfl; (exact stp_move rfl rfl); apply run_step rfl; (exact stp_assign rfl rfl); refine run_nil ?_; refine fin_seq ?_; refine goes_seq ?_; refine goes_seq ?_; refine goes_region ?_; apply run_step rfl; (exact stp_assign rfl rfl); refine run_nil ?_; refine fin_seq ?_; refine goes_block ?_)
    have step : ∀ j, j < k → (W.map Int.toNat).take (j + 1) = (W.map Int.toNat).take j ++ [(iget W j).toNat] := fun j hj => by
      rw [List.take_succ_eq_append_getElem (by simp; omega)]; simp [iget_lt (show j < W.length by omega)]
    refine goes_loop (fun j : Nat × (List (List Int) × List Int × Bool × Nat) => St.of [(1, vv (I6 c)), (2, o1 (.esl 1002 i 0 k)), (3, o1 (.ptr 3 0)), (6, o1 (.ptr 6 0)), (7, vv (I6 j.2.2.2.2)), (8, vv (I6 j.1))]
        [(1000, imOw j.2.1), (1001, leOw j.2.2.1), (1002, rowsRo wss), (3, ⟨true, 185, 3, .flat [.sl 1000 0 j.2.2.1.length, .sl 1001 0 j.2.2.1.length, .val (.bool false)]⟩), (6, ⟨true, 185, 3, .flat [.val (.slice none 0 0), .val (.slice none 0 0), .val (.bool false)]⟩)])
      (fun j => j.1 < k ∧ j.2.2.2.1 = false ∧ goC ng (im, less, false, c) ((W.map Int.toNat).take j.1) = j.2 ∧ GoOK ng n j.2)
      (fun j => k - j.1) (0, (im, less, false, c)) ⟨by omega, rfl, rfl, ⟨hw, by show n ≤ less.length; omega, by show less.length ≤ 2000; omega, by show c < less.length; omega⟩⟩ (Wk.of ⟨rfl, rfl, rfl, rfl, rfl, rfl, trivial⟩ (by dsimp only; rw [hn]; exact ⟨rfl, rfl, rfl, rfl, rfl, trivial⟩) trivial) ?_
    rintro ⟨j, M, N, b, d⟩ ⟨hj, hb, hgo, hok⟩
    dsimp only at hj hb hgo hok ⊢
    subst hb
    obtain ⟨hw1, hlo, hhi, hd⟩ := hok
    dsimp only at hw1 hlo hhi hd
    have hm1 := hw1.len
    (refine goes_seq ?_; refine goes_seq ?_; refine goes_region ?_; apply run_step rfl; (exact stp_move rfl rfl); apply run_step rfl; (exact stp_add rfl rfl rfl (by first | exact IntWalk.i64_in _ (by omega) | rfl)); apply run_step rfl; (exact stp_move rfl rfl); apply run_step rfl; (exact stp_len rfl rfl rfl (by as_aux_lemma => kernel_rfl)); apply run_step rfl; (exact stp_bin rfl rfl rfl rfl); refine run_nil ?_; refine fin_seq ?_)
    refine goes_if rfl (fun hlt => ?_) (fun hlt => ?_)
    · have hlt : ((j : Int) + 1) < (k : Nat) := hlt
      have hgj := hg (iget W j) (iget_mem (by omega))
      (refine goes_skip ?_; refine fin_seq ?_; refine goes_seq ?_; refine goes_block ?_; refine goes_seq ?_)
      obtain ⟨R, hR⟩ : ∃ R, nextC ng M N d (iget W j).toNat = R := ⟨_, rfl⟩
      have hN := l11Next_fc ng N.length M N d (iget W j).toNat rfl hw1 hd (by omega) hhi hng
      have hok' := nextC_ok hw1 hd (show (iget W j).toNat < ng by omega) hhi
      have hgo' : goC ng (im, less, false, c) ((W.map Int.toNat).take (j + 1)) = R := by
        rw [step j hj, goC_app, hgo, ← hR]; rfl
      rw [hR] at hN hok'
      obtain ⟨M', N', b', d'⟩ := R
      dsimp only at hN hok'
      obtain ⟨k1, k2, k3, k4, _⟩ := hok'
      apply goes_drawF 11 [6, 7, 8, 9] 10 [[], [], [], [], [2, 3], [2, 3, 4], [0, 1, 2, 3, 4, 5], [0, 1, 2, 3, 4, 5, 6], [0, 1, 2, 3, 4, 5, 6, 7], [0, 1, 2, 3, 4, 5, 6, 7], [], [0, 1, 2, 3, 4, 5, 6, 7, 8, 10], [0, 1, 2, 3, 4, 5, 6, 7, 8, 9, 10, 11]] [27, 28, 29, 30, 31, 32, 1000006, 1000007, 1000008, 1000009, 9] [9] (by kernel_rfl) (by kernel_rfl) rfl
      · (apply draw_put rfl; (intro S1 hS; exact stp_loadAgg rfl (hS.op rfl) (hS.ch _ _ rfl) rfl rfl rfl (by as_aux_lemma => kernel_rfl)); apply draw_put rfl; (intro S1 hS; exact stp_move rfl (hS.op rfl)); apply draw_put rfl; (intro S1 hS; exact stp_move rfl (hS.op rfl)); apply draw_put rfl; (intro S1 hS; exact stp_move rfl (hS.op rfl)); apply draw_put rfl; (intro S1 hS; exact stp_ixE rfl (hS.op rfl) (hS.op rfl) (hS.ch _ _ rfl) rfl (by as_aux_lemma => kernel_rfl) (by first | assumption | exact ivals_get (by assumption) | exact irows_get (by assumption) | exact ivals_get (by omega) | exact irows_get (by omega) | rfl) (by first | rfl | exact (Int.toNat_of_nonneg (by omega)).symm) (by first | assumption | omega | (simp; omega)) (by first | exact Nat.le_refl _ | exact Nat.le_of_eq (ivals_len _).symm | exact Nat.le_of_eq (irows_len _).symm | (refine Nat.le_trans ?_ (Nat.le_of_eq (ivals_len _).symm); (first | omega | (simp; done) | (simp; omega))) | (refine Nat.le_trans ?_ (Nat.le_of_eq (irows_len _).symm); (first | omega | (simp; done) | (simp; omega))))); apply draw_put rfl; (intro S1 hS; exact stp_loadE' rfl (by as_aux_lemma => kernel_rfl) (hS.op rfl) (hS.ch _ _ rfl) rfl (by first | assumption | exact ivals_get (by assumption) | exact irows_get (by assumption) | exact ivals_get (by omega) | exact irows_get (by omega) | rfl) (by first | assumption | exact ivals_get (by assumption) | exact irows_get (by assumption) | exact ivals_get (by omega) | exact irows_get (by omega) | rfl)); apply draw_skip rfl; apply draw_skip rfl; apply draw_skip rfl; apply draw_skip rfl; apply draw_new rfl; (intro S1 hS; exact stp_allocZ [.slice none 0 0, .slice none 0 0, .bool false] rfl (by as_aux_lemma => kernel_rfl)); exact Draw.nil)
      · rfl
      · refine rest_join (St.of [(1, vv (I6 c)), (2, o1 (.esl 1002 i 0 k)), (3, o1 (.ptr 3 0)), (6, o1 (.ptr 6 0)), (8, vv (I6 j)), (9, o1 (.ptr 9 0)), (10, vv (I6 d'))] [(1000, imOw M'), (1001, leOw N'), (1002, rowsRo wss), (3, ⟨true, 185, 3, .flat [.any, .any, .val (.bool false)]⟩), (6, ⟨true, 185, 3, .flat [.val (.slice none 0 0), .val (.slice none 0 0), .val (.bool false)]⟩), (9, ⟨true, 185, 3, .flat [.sl 1000 0 N'.length, .sl 1001 0 N'.length, .val (.bool b')]⟩)]) ?_ ?_
        · ((apply rest_one 6 rfl (by as_aux_lemma => kernel_rfl) rfl rfl; (apply call_gate 222; exact stp_call [] hN (by as_aux_lemma => kernel_rfl) rfl rfl ⟨⟨.inl rfl, .inl rfl, .inl rfl, trivial⟩, rfl, toV (by omega), trivial⟩ ⟨⟨_, rfl, .inl rfl⟩, ⟨_, rfl, .inl rfl⟩, trivial⟩ trivial rfl rfl)); (apply rest_one 7 rfl (by as_aux_lemma => kernel_rfl) rfl rfl; (exact stp_move rfl rfl)); (apply rest_two 8 9 rfl (by as_aux_lemma => kernel_rfl) rfl rfl rfl rfl; (exact stp_extract rfl rfl rfl); (exact stp_extract rfl rfl rfl); (focus ((apply rest_two 9 11 rfl (by as_aux_lemma => kernel_rfl) rfl rfl rfl rfl; (exact stp_extract rfl rfl rfl); (exact stp_storeAgg rfl rfl rfl rfl rfl rfl rfl rfl (by as_aux_lemma => kernel_rfl) rfl); (focus ((apply rest_one 11 rfl (by as_aux_lemma => kernel_rfl) rfl rfl; (exact stp_storeAgg rfl rfl rfl rfl rfl rfl rfl rfl (by as_aux_lemma => kernel_rfl) rfl)); (apply rest_one 12 rfl (by as_aux_lemma => kernel_rfl) rfl rfl; (exact stp_assign rfl rfl)); (refine rest_done (by as_aux_lemma => kernel_rfl) ?_; exact fin_join (Wk.of ⟨rfl, rfl, rfl, rfl, rfl, rfl, rfl, trivial⟩ ⟨rfl, rfl, rfl, rfl, rfl, rfl, trivial⟩ trivial)))); (focus ((apply rest_one 9 rfl (by as_aux_lemma => kernel_rfl) rfl rfl; (exact stp_extract rfl rfl rfl)); (apply rest_one 12 rfl (by as_aux_lemma => kernel_rfl) rfl rfl; (exact stp_assign rfl rfl)); (refine rest_done (by as_aux_lemma => kernel_rfl) ?_; exact fin_join (Wk.of ⟨rfl, rfl, rfl, rfl, rfl, rfl, rfl, trivial⟩ ⟨rfl, rfl, rfl, rfl, rfl, rfl, trivial⟩ trivial))))))); (focus ((apply rest_one 8 rfl (by as_aux_lemma => kernel_rfl) rfl rfl; (exact stp_extract rfl rfl rfl)); (apply rest_one 11 rfl (by as_aux_lemma => kernel_rfl) rfl rfl; (exact stp_storeAgg rfl rfl rfl rfl rfl rfl rfl rfl (by as_aux_lemma => kernel_rfl) rfl)); (apply rest_one 12 rfl (by as_aux_lemma => kernel_rfl) rfl rfl; (exact stp_assign rfl rfl)); (refine rest_done (by as_aux_lemma => kernel_rfl) ?_; exact fin_join (Wk.of ⟨rfl, rfl, rfl, rfl, rfl, rfl, rfl, trivial⟩ ⟨rfl, rfl, rfl, rfl, rfl, rfl, trivial⟩ trivial))))))
        have hmN := k1.len
        (refine fin_seq ?_; refine goes_seq ?_; refine goes_region ?_; apply run_step rfl; (exact stp_loadAgg rfl rfl rfl rfl rfl rfl (by as_aux_lemma => kernel_rfl)); apply run_step rfl; (exact stp_storeAgg rfl rfl rfl rfl rfl rfl rfl rfl (by as_aux_lemma => kernel_rfl) rfl); refine run_nil ?_; refine fin_seq ?_; refine goes_seq ?_; refine goes_region ?_; apply run_step rfl; (exact stp_move rfl rfl); apply run_step rfl; (exact stp_assign rfl rfl); refine run_nil ?_; refine fin_seq ?_; refine goes_seq ?_; refine goes_region ?_; apply run_step rfl; (exact stp_fieldAddr (d := 2) rfl rfl rfl (by as_aux_lemma => kernel_rfl)); apply run_step rfl; (exact stp_loadF rfl (by as_aux_lemma => kernel_rfl) rfl rfl rfl rfl); refine run_nil ?_; refine fin_seq ?_)
        by_cases hb' : b' = true
        · subst hb'
          have hx : C = (M', N', true) := by
            rw [← hC]; unfold closeC
            rw [hgl]
            dsimp only
            have e : goC ng (im, less, false, c) (W.map Int.toNat).dropLast = (M', N', true, d') := by
              have e1 : (W.map Int.toNat).dropLast = (W.map Int.toNat).take (j + 1) ++ ((W.map Int.toNat).take (k - 1)).drop (j + 1) := by
                rw [List.dropLast_eq_take, List.length_map, hk]
                conv => lhs; rw [← List.take_append_drop (j + 1) ((W.map Int.toNat).take (k - 1))]
                rw [List.take_take, show min (j + 1) (k - 1) = j + 1 by omega]
              rw [e1, goC_app, hgo', goC_failed rfl]
            rw [e]
            rfl
          subst hx
          refine goes_cond rfl (fun _ => ?_) (fun e => by cases e)
          (refine goes_seq ?_; refine goes_region ?_; apply run_step rfl; (exact stp_loadAgg rfl rfl rfl rfl rfl rfl (by as_aux_lemma => kernel_rfl)); apply run_step rfl; (exact stp_storeAgg rfl rfl rfl rfl rfl rfl rfl rfl (by as_aux_lemma => kernel_rfl) rfl); refine run_nil ?_; refine fin_seq ?_; refine goes_ret ?_; refine fin_ret_block ?_; refine fin_ret_then ?_; refine fin_ret_then ?_; refine fin_ret_block ?_; refine fin_ret_then ?_)
          exact fin_ret1 (.inl rfl) rfl (.cell rfl rfl rfl rfl rfl (by kernel_rfl)) ⟨rfl, rfl, trivial⟩ trivial
        · have hb' : b' = false := by simpa using hb'
          subst hb'
          refine goes_cond rfl (fun e => by cases e) (fun _ => ?_)
          (refine goes_skip ?_; refine fin_block ?_; refine fin_seq ?_; refine goes_region ?_; apply run_step rfl; (exact stp_move rfl rfl); apply run_step rfl; (exact stp_add rfl rfl rfl (by first | exact IntWalk.i64_in _ (by omega) | rfl)); apply run_step rfl; (exact stp_assign rfl rfl); refine run_nil ?_)
          exact fin_round (j + 1, (M', N', false, d')) ⟨by omega, rfl, hgo', ⟨k1, Nat.le_trans hlo k2, k3, k4⟩⟩ (by show k - (j + 1) < k - j; omega) (Wk.of ⟨rfl, rfl, rfl, rfl, rfl, rfl, trivial⟩ ⟨rfl, rfl, rfl, rfl, rfl, trivial⟩ trivial)
      · refine rest_join (St.of [(1, vv (I6 c)), (2, o1 (.esl 1002 i 0 k)), (3, o1 (.ptr 3 0)), (6, o1 (.ptr 6 0)), (8, vv (I6 j)), (9, o1 (.ptr 9 0)), (10, vv (I6 d'))] [(1000, imOw M'), (1001, leOw N'), (1002, rowsRo wss), (3, ⟨true, 185, 3, .flat [.any, .any, .val (.bool false)]⟩), (6, ⟨true, 185, 3, .flat [.val (.slice none 0 0), .val (.slice none 0 0), .val (.bool false)]⟩), (9, ⟨true, 185, 3, .flat [.sl 1000 0 N'.length, .sl 1001 0 N'.length, .val (.bool b')]⟩)]) ?_ ?_
        · ((apply rest_two 6 10 rfl (by as_aux_lemma => kernel_rfl) rfl rfl rfl rfl; (apply call_gate 222; exact stp_call [] hN (by as_aux_lemma => kernel_rfl) rfl rfl ⟨⟨.inl rfl, .inl rfl, .inl rfl, trivial⟩, rfl, toV (by omega), trivial⟩ ⟨⟨_, rfl, .inl rfl⟩, ⟨_, rfl, .inl rfl⟩, trivial⟩ trivial rfl rfl); (exact stp_allocZ [.slice none 0 0, .slice none 0 0, .bool false] rfl (by as_aux_lemma => kernel_rfl)); (focus ((apply rest_two 7 10 rfl (by as_aux_lemma => kernel_rfl) rfl rfl rfl rfl; (exact stp_move rfl rfl); (exact stp_allocZ [.slice none 0 0, .slice none 0 0, .bool false] rfl (by as_aux_lemma => kernel_rfl)); (focus ((apply rest_three 8 9 10 rfl (by as_aux_lemma => kernel_rfl) rfl rfl rfl rfl rfl rfl; (exact stp_extract rfl rfl rfl); (exact stp_extract rfl rfl rfl); (exact stp_allocZ [.slice none 0 0, .slice none 0 0, .bool false] rfl (by as_aux_lemma => kernel_rfl)); (focus ((apply rest_two 9 10 rfl (by as_aux_lemma => kernel_rfl) rfl rfl rfl rfl; (exact stp_extract rfl rfl rfl); (exact stp_allocZ [.slice none 0 0, .slice none 0 0, .bool false] rfl (by as_aux_lemma => kernel_rfl)); (focus ((apply rest_one 10 rfl (by as_aux_lemma => kernel_rfl) rfl rfl; (exact stp_allocZ [.slice none 0 0, .slice none 0 0, .bool false] rfl (by as_aux_lemma => kernel_rfl))); (apply rest_one 11 rfl (by as_aux_lemma => kernel_rfl) rfl rfl; (exact stp_storeAgg rfl rfl rfl rfl rfl rfl rfl rfl (by as_aux_lemma => kernel_rfl) rfl)); (apply rest_one 12 rfl (by as_aux_lemma => kernel_rfl) rfl rfl; (exact stp_assign rfl rfl)); (refine rest_done (by as_aux_lemma => kernel_rfl) ?_; exact fin_join (Wk.of ⟨rfl, rfl, rfl, rfl, rfl, rfl, rfl, trivial⟩ ⟨rfl, rfl, rfl, rfl, rfl, rfl, trivial⟩ trivial)))); (focus ((apply rest_two 9 11 rfl (by as_aux_lemma => kernel_rfl) rfl rfl rfl rfl; (exact stp_extract rfl rfl rfl); (exact stp_storeAgg rfl rfl rfl rfl rfl rfl rfl rfl (by as_aux_lemma => kernel_rfl) rfl); (focus ((apply rest_one 11 rfl (by as_aux_lemma => kernel_rfl) rfl rfl; (exact stp_storeAgg rfl rfl rfl rfl rfl rfl rfl rfl (by as_aux_lemma => kernel_rfl) rfl)); (apply rest_one 12 rfl (by as_aux_lemma => kernel_rfl) rfl rfl; (exact stp_assign rfl rfl)); (refine rest_done (by as_aux_lemma => kernel_rfl) ?_; exact fin_join (Wk.of ⟨rfl, rfl, rfl, rfl, rfl, rfl, rfl, trivial⟩ ⟨rfl, rfl, rfl, rfl, rfl, rfl, trivial⟩ trivial)))); (focus ((apply rest_one 9 rfl (by as_aux_lemma => kernel_rfl) rfl rfl; (exact stp_extract rfl rfl rfl)); (apply rest_one 12 rfl (by as_aux_lemma => kernel_rfl) rfl rfl; (exact stp_assign rfl rfl)); (refine rest_done (by as_aux_lemma => kernel_rfl) ?_; exact fin_join (Wk.of ⟨rfl, rfl, rfl, rfl, rfl, rfl, rfl, trivial⟩ ⟨rfl, rfl, rfl, rfl, rfl, rfl, trivial⟩ trivial)))))))))); (focus ((apply rest_two 8 10 rfl (by as_aux_lemma => kernel_rfl) rfl rfl rfl rfl; (exact stp_extract rfl rfl rfl); (exact stp_allocZ [.slice none 0 0, .slice none 0 0, .bool false] rfl (by as_aux_lemma => kernel_rfl)); (focus ((apply rest_one 10 rfl (by as_aux_lemma => kernel_rfl) rfl rfl; (exact stp_allocZ [.slice none 0 0, .slice none 0 0, .bool false] rfl (by as_aux_lemma => kernel_rfl))); (apply rest_one 11 rfl (by as_aux_lemma => kernel_rfl) rfl rfl; (exact stp_storeAgg rfl rfl rfl rfl rfl rfl rfl rfl (by as_aux_lemma => kernel_rfl) rfl)); (apply rest_one 12 rfl (by as_aux_lemma => kernel_rfl) rfl rfl; (exact stp_assign rfl rfl)); (refine rest_done (by as_aux_lemma => kernel_rfl) ?_; exact fin_join (Wk.of ⟨rfl, rfl, rfl, rfl, rfl, rfl, rfl, trivial⟩ ⟨rfl, rfl, rfl, rfl, rfl, rfl, trivial⟩ trivial)))); (focus ((apply rest_one 8 rfl (by as_aux_lemma => kernel_rfl) rfl rfl; (exact stp_extract rfl rfl rfl)); (apply rest_one 11 rfl (by as_aux_lemma => kernel_rfl) rfl rfl; (exact stp_storeAgg rfl rfl rfl rfl rfl rfl rfl rfl (by as_aux_lemma => kernel_rfl) rfl)); (apply rest_one 12 rfl (by as_aux_lemma => kernel_rfl) rfl rfl; (exact stp_assign rfl rfl)); (refine rest_done (by as_aux_lemma => kernel_rfl) ?_; exact fin_join (Wk.of ⟨rfl, rfl, rfl, rfl, rfl, rfl, rfl, trivial⟩ ⟨rfl, rfl, rfl, rfl, rfl, rfl, trivial⟩ trivial))))))); (focus ((apply rest_two 8 9 rfl (by as_aux_lemma => kernel_rfl) rfl rfl rfl rfl; (exact stp_extract rfl rfl rfl); (exact stp_extract rfl rfl rfl); (focus ((apply rest_two 9 11 rfl (by as_aux_lemma => kernel_rfl) rfl rfl rfl rfl; (exact stp_extract rfl rfl rfl); (exact stp_storeAgg rfl rfl rfl rfl rfl rfl rfl rfl (by as_aux_lemma => kernel_rfl) rfl); (focus ((apply rest_one 11 rfl (by as_aux_lemma => kernel_rfl) rfl rfl; (exact stp_storeAgg rfl rfl rfl rfl rfl rfl rfl rfl (by as_aux_lemma => kernel_rfl) rfl)); (apply rest_one 12 rfl (by as_aux_lemma => kernel_rfl) rfl rfl; (exact stp_assign rfl rfl)); (refine rest_done (by as_aux_lemma => kernel_rfl) ?_; exact fin_join (Wk.of ⟨rfl, rfl, rfl, rfl, rfl, rfl, rfl, trivial⟩ ⟨rfl, rfl, rfl, rfl, rfl, rfl, trivial⟩ trivial)))); (focus ((apply rest_one 9 rfl (by as_aux_lemma => kernel_rfl) rfl rfl; (exact stp_extract rfl rfl rfl)); (apply rest_one 12 rfl (by as_aux_lemma => kernel_rfl) rfl rfl; (exact stp_assign rfl rfl)); (refine rest_done (by as_aux_lemma => kernel_rfl) ?_; exact fin_join (Wk.of ⟨rfl, rfl, rfl, rfl, rfl, rfl, rfl, trivial⟩ ⟨rfl, rfl, rfl, rfl, rfl, rfl, trivial⟩ trivial))))))); (focus ((apply rest_one 8 rfl (by as_aux_lemma => kernel_rfl) rfl rfl; (exact stp_extract rfl rfl rfl)); (apply rest_one 11 rfl (by as_aux_lemma => kernel_rfl) rfl rfl; (exact stp_storeAgg rfl rfl rfl rfl rfl rfl rfl rfl (by as_aux_lemma => kernel_rfl) rfl)); (apply rest_one 12 rfl (by as_aux_lemma => kernel_rfl) rfl rfl; (exact stp_assign rfl rfl)); (refine rest_done (by as_aux_lemma => kernel_rfl) ?_; exact fin_join (Wk.of ⟨rfl, rfl, rfl, rfl, rfl, rfl, rfl, trivial⟩ ⟨rfl, rfl, rfl, rfl, rfl, rfl, trivial⟩ trivial)))))))))); (focus ((apply rest_one 7 rfl (by as_aux_lemma => kernel_rfl) rfl rfl; (exact stp_move rfl rfl)); (apply rest_two 8 9 rfl (by as_aux_lemma => kernel_rfl) rfl rfl rfl rfl; (exact stp_extract rfl rfl rfl); (exact stp_extract rfl rfl rfl); (focus ((apply rest_two 9 11 rfl (by as_aux_lemma => kernel_rfl) rfl rfl rfl rfl; (exact stp_extract rfl rfl rfl); (exact stp_storeAgg rfl rfl rfl rfl rfl rfl rfl rfl (by as_aux_lemma => kernel_rfl) rfl); (focus ((apply rest_one 11 rfl (by as_aux_lemma => kernel_rfl) rfl rfl; (exact stp_storeAgg rfl rfl rfl rfl rfl rfl rfl rfl (by as_aux_lemma => kernel_rfl) rfl)); (apply rest_one 12 rfl (by as_aux_lemma => kernel_rfl) rfl rfl; (exact stp_assign rfl rfl)); (refine rest_done (by as_aux_lemma => kernel_rfl) ?_; exact fin_join (Wk.of ⟨rfl, rfl, rfl, rfl, rfl, rfl, rfl, trivial⟩ ⟨rfl, rfl, rfl, rfl, rfl, rfl, trivial⟩ trivial)))); (focus ((apply rest_one 9 rfl (by as_aux_lemma => kernel_rfl) rfl rfl; (exact stp_extract rfl rfl rfl)); (apply rest_one 12 rfl (by as_aux_lemma => kernel_rfl) rfl rfl; (exact stp_assign rfl rfl)); (refine rest_done (by as_aux_lemma => kernel_rfl) ?_; exact fin_join (Wk.of ⟨rfl, rfl, rfl, rfl, rfl, rfl, rfl, trivial⟩ ⟨rfl, rfl, rfl, rfl, rfl, rfl, trivial⟩ trivial))))))); (focus ((apply rest_one 8 rfl (by as_aux_lemma => kernel_rfl) rfl rfl; (exact stp_extract rfl rfl rfl)); (apply rest_one 11 rfl (by as_aux_lemma => kernel_rfl) rfl rfl; (exact stp_storeAgg rfl rfl rfl rfl rfl rfl rfl rfl (by as_aux_lemma => kernel_rfl) rfl)); (apply rest_one 12 rfl (by as_aux_lemma => kernel_rfl) rfl rfl; (exact stp_assign rfl rfl)); (refine rest_done (by as_aux_lemma => kernel_rfl) ?_; exact fin_join (Wk.of ⟨rfl, rfl, rfl, rfl, rfl, rfl, rfl, trivial⟩ ⟨rfl, rfl, rfl, rfl, rfl, rfl, trivial⟩ trivial)))))))))); (focus ((apply rest_one 6 rfl (by as_aux_lemma => kernel_rfl) rfl rfl; (apply call_gate 222; exact stp_call [] hN (by as_aux_lemma => kernel_rfl) rfl rfl ⟨⟨.inl rfl, .inl rfl, .inl rfl, trivial⟩, rfl, toV (by omega), trivial⟩ ⟨⟨_, rfl, .inl rfl⟩, ⟨_, rfl, .inl rfl⟩, trivial⟩ trivial rfl rfl)); (apply rest_one 7 rfl (by as_aux_lemma => kernel_rfl) rfl rfl; (exact stp_move rfl rfl)); (apply rest_two 8 9 rfl (by as_aux_lemma => kernel_rfl) rfl rfl rfl rfl; (exact stp_extract rfl rfl rfl); (exact stp_extract rfl rfl rfl); (focus ((apply rest_two 9 11 rfl (by as_aux_lemma => kernel_rfl) rfl rfl rfl rfl; (exact stp_extract rfl rfl rfl); (exact stp_storeAgg rfl rfl rfl rfl rfl rfl rfl rfl (by as_aux_lemma => kernel_rfl) rfl); (focus ((apply rest_one 11 rfl (by as_aux_lemma => kernel_rfl) rfl rfl; (exact stp_storeAgg rfl rfl rfl rfl rfl rfl rfl rfl (by as_aux_lemma => kernel_rfl) rfl)); (apply rest_one 12 rfl (by as_aux_lemma => kernel_rfl) rfl rfl; (exact stp_assign rfl rfl)); (refine rest_done (by as_aux_lemma => kernel_rfl) ?_; exact fin_join (Wk.of ⟨rfl, rfl, rfl, rfl, rfl, rfl, rfl, trivial⟩ ⟨rfl, rfl, rfl, rfl, rfl, rfl, trivial⟩ trivial)))); (focus ((apply rest_one 9 rfl (by as_aux_lemma => kernel_rfl) rfl rfl; (exact stp_extract rfl rfl rfl)); (apply rest_one 12 rfl (by as_aux_lemma => kernel_rfl) rfl rfl; (exact stp_assign rfl rfl)); (refine rest_done (by as_aux_lemma => kernel_rfl) ?_; exact fin_join (Wk.of ⟨rfl, rfl, rfl, rfl, rfl, rfl, rfl, trivial⟩ ⟨rfl, rfl, rfl, rfl, rfl, rfl, trivial⟩ trivial))))))); (focus ((apply rest_one 8 rfl (by as_aux_lemma => kernel_rfl) rfl rfl; (exact stp_extract rfl rfl rfl)); (apply rest_one 11 rfl (by as_aux_lemma => kernel_rfl) rfl rfl; (exact stp_storeAgg rfl rfl rfl rfl rfl rfl rfl rfl (by as_aux_lemma => kernel_rfl) rfl)); (apply rest_one 12 rfl (by as_aux_lemma => kernel_rfl) rfl rfl; (exact stp_assign rfl rfl)); (refine rest_done (by as_aux_lemma => kernel_rfl) ?_; exact fin_join (Wk.of ⟨rfl, rfl, rfl, rfl, rfl, rfl, rfl, trivial⟩ ⟨rfl, rfl, rfl, rfl, rfl, rfl, trivial⟩ trivial)))))))))
        have hmN := k1.len
        (refine fin_seq ?_; refine goes_seq ?_; refine goes_region ?_; apply run_step rfl; (exact stp_loadAgg rfl rfl rfl rfl rfl rfl (by as_aux_lemma => kernel_rfl)); apply run_step rfl; (exact stp_storeAgg rfl rfl rfl rfl rfl rfl rfl rfl (by as_aux_lemma => kernel_rfl) rfl); refine run_nil ?_; refine fin_seq ?_; refine goes_seq ?_; refine goes_region ?_; apply run_step rfl; (exact stp_move rfl rfl); apply run_step rfl; (exact stp_assign rfl rfl); refine run_nil ?_; refine fin_seq ?_; refine goes_seq ?_; refine goes_region ?_; apply run_step rfl; (exact stp_fieldAddr (d := 2) rfl rfl rfl (by as_aux_lemma => kernel_rfl)); apply run_step rfl; (exact stp_loadF rfl (by as_aux_lemma => kernel_rfl) rfl rfl rfl rfl); refine run_nil ?_; refine fin_seq ?_)
        by_cases hb' : b' = true
        · subst hb'
          have hx : C = (M', N', true) := by
            rw [← hC]; unfold closeC
            rw [hgl]
            dsimp only
            have e : goC ng (im, less, false, c) (W.map Int.toNat).dropLast = (M', N', true, d') := by
              have e1 : (W.map Int.toNat).dropLast = (W.map Int.toNat).take (j + 1) ++ ((W.map Int.toNat).take (k - 1)).drop (j + 1) := by
                rw [List.dropLast_eq_take, List.length_map, hk]
                conv => lhs; rw [← List.take_append_drop (j + 1) ((W.map Int.toNat).take (k - 1))]
                rw [List.take_take, show min (j + 1) (k - 1) = j + 1 by omega]
              rw [e1, goC_app, hgo', goC_failed rfl]
            rw [e]
            rfl
          subst hx
          refine goes_cond rfl (fun _ => ?_) (fun e => by cases e)
          (refine goes_seq ?_; refine goes_region ?_; apply run_step rfl; (exact stp_loadAgg rfl rfl rfl rfl rfl rfl (by as_aux_lemma => kernel_rfl)); apply run_step rfl; (exact stp_storeAgg rfl rfl rfl rfl rfl rfl rfl rfl (by as_aux_lemma => kernel_rfl) rfl); refine run_nil ?_; refine fin_seq ?_; refine goes_ret ?_; refine fin_ret_block ?_; refine fin_ret_then ?_; refine fin_ret_then ?_; refine fin_ret_block ?_; refine fin_ret_then ?_)
          exact fin_ret1 (.inl rfl) rfl (.cell rfl rfl rfl rfl rfl (by kernel_rfl)) ⟨rfl, rfl, trivial⟩ trivial
        · have hb' : b' = false := by simpa using hb'
          subst hb'
          refine goes_cond rfl (fun e => by cases e) (fun _ => ?_)
          (refine goes_skip ?_; refine fin_block ?_; refine fin_seq ?_; refine goes_region ?_; apply run_step rfl; (exact stp_move rfl rfl); apply run_step rfl; (exact stp_add rfl rfl rfl (by first | exact IntWalk.i64_in _ (by omega) | rfl)); apply run_step rfl; (exact stp_assign rfl rfl); refine run_nil ?_)
          exact fin_round (j + 1, (M', N', false, d')) ⟨by omega, rfl, hgo', ⟨k1, Nat.le_trans hlo k2, k3, k4⟩⟩ (by show k - (j + 1) < k - j; omega) (Wk.of ⟨rfl, rfl, rfl, rfl, rfl, rfl, trivial⟩ ⟨rfl, rfl, rfl, rfl, rfl, trivial⟩ trivial)
    · have hlt : ¬ ((j : Int) + 1) < (k : Nat) := hlt
      obtain rfl : k = j + 1 := by omega
      have hgj := hg (iget W j) (iget_mem (by omega))
      have hgv : g = (iget W j).toNat := by
        rw [List.getLast?_eq_getElem?, List.length_map, hk, Nat.add_sub_cancel] at hgl
        simp [iget_lt (show j < W.length by omega), show j < W.length by omega] at hgl ⊢
        exact hgl.symm
      have hgn : g < ng := by omega
      obtain ⟨z, hz⟩ : ∃ z, iget W j = z := ⟨_, rfl⟩
      rw [hz] at hgj hgv
      have hzg : (g : Int) = z := by omega
      have gW : (ivals W)[j]? = some (I6 g) := by rw [ivals_get (by omega), hz, hzg]
      have hCx : closeC ng im less c (W.map Int.toNat) = C := hC
      unfold closeC at hCx
      rw [hgl] at hCx
      dsimp only at hCx
      have e : goC ng (im, less, false, c) (W.map Int.toNat).dropLast = (M, N, false, d) := by
        rw [List.dropLast_eq_take, List.length_map, hk]; exact hgo
      rw [e] at hCx
      dsimp only at hCx
      rw [if_neg (by simp)] at hCx
      have hcN : c < N.length := by omega
      have hrc := hw1.row c (by omega)
      have hrd := hw1.row d (by omega)
      have hF1 := l11Image_fc M N N.length N.length d g false hm1 rfl hw1.down (by omega) (by omega) (hw1.ent d g (by omega) hgn)
      have hF2 := l11Image_fc M N N.length N.length c g false hm1 rfl hw1.down (by omega) (by omega) (hw1.ent c g (by omega) hgn)
      have i1 := image_lt hw1 hd hgn
      have i2 := image_lt hw1 hcN hgn
      obtain ⟨x, hx⟩ : ∃ x, image M N d g = x := ⟨_, rfl⟩
      obtain ⟨y, hy⟩ : ∃ y, image M N c g = y := ⟨_, rfl⟩
      rw [hx, hy] at hCx
      rw [hx] at hF1 i1
      rw [hy] at hF2 i2
      have hgw : iget W (((j + 1 : Nat) : Int) - 1).toNat = (g : Int) := by rw [show (((j + 1 : Nat) : Int) - 1).toNat = j by omega, hz, hzg]
      (refine goes_exit ?_; refine fin_exit_then ?_; refine fin_exit_then ?_; refine fin_exit_eq ?_; refine fin_seq ?_; refine goes_seq ?_; refine goes_region ?_; apply run_step rfl; (exact stp_move rfl rfl); apply run_step rfl; (exact stp_move rfl rfl); apply run_step rfl; (exact stp_len rfl rfl rfl (by as_aux_lemma => kernel_rfl)); apply run_step rfl; (exact stp_sub rfl rfl rfl (by first | exact IntWalk.i64_in _ (by omega) | rfl)); apply run_step rfl; (exact stp_ixE rfl rfl rfl rfl rfl (by as_aux_lemma => kernel_rfl) (by first | assumption | exact ivals_get (by assumption) | exact irows_get (by assumption) | exact ivals_get (by omega) | exact irows_get (by omega) | rfl) (by first | rfl | exact (Int.toNat_of_nonneg (by omega)).symm) (by first | assumption | omega | (simp; omega)) (by first | exact Nat.le_refl _ | exact Nat.le_of_eq (ivals_len _).symm | exact Nat.le_of_eq (irows_len _).symm | (refine Nat.le_trans ?_ (Nat.le_of_eq (ivals_len _).symm); (first | omega | (simp; done) | (simp; omega))) | (refine Nat.le_trans ?_ (Nat.le_of_eq (irows_len _).symm); (first | omega | (simp; done) | (simp; omega))))); apply run_step rfl; (exact stp_loadE' rfl (by as_aux_lemma => kernel_rfl) rfl rfl rfl (by first | assumption | exact ivals_get (by assumption) | exact irows_get (by assumption) | exact ivals_get (by omega) | exact irows_get (by omega) | rfl) (by first | assumption | exact ivals_get (by assumption) | exact irows_get (by assumption) | exact ivals_get (by omega) | exact irows_get (by omega) | rfl)); apply run_step rfl; (exact stp_assign rfl rfl); refine run_nil ?_; refine fin_seq ?_; refine goes_seq ?_)
      rw [hgw]
      apply goes_draw 8 [] [[], [], [], [0, 1, 2], [], [], [], [0, 1, 2, 3, 4, 5, 6], [0, 1, 2, 3, 4, 5, 6, 7], [0, 1, 2, 3, 4, 5, 6, 7, 8]] [47, 48, 49, 50, 51, 52, 53, 54] [] (by kernel_rfl) (by kernel_rfl)
      · (apply draw_put rfl; (intro S1 hS; exact stp_loadAgg rfl (hS.op rfl) (hS.ch _ _ rfl) rfl rfl rfl (by as_aux_lemma => kernel_rfl)); apply draw_put rfl; (intro S1 hS; exact stp_move rfl (hS.op rfl)); apply draw_put rfl; (intro S1 hS; exact stp_move rfl (hS.op rfl)); (apply draw_put rfl; (focus (intro S1 hS; apply call_gate 198; first | exact stp_callR hF1 (by as_aux_lemma => kernel_rfl) rfl (opL_le hS rfl) ⟨⟨.inl rfl, .inl rfl, .inl rfl, trivial⟩, rfl, rfl, trivial⟩ (allIn_le hS ⟨⟨_, rfl, .inr rfl⟩, ⟨_, rfl, .inr rfl⟩, trivial⟩) rfl rfl | exact stp_callR hF2 (by as_aux_lemma => kernel_rfl) rfl (opL_le hS rfl) ⟨⟨.inl rfl, .inl rfl, .inl rfl, trivial⟩, rfl, rfl, trivial⟩ (allIn_le hS ⟨⟨_, rfl, .inr rfl⟩, ⟨_, rfl, .inr rfl⟩, trivial⟩) rfl rfl))); apply draw_put rfl; (intro S1 hS; exact stp_loadAgg rfl (hS.op rfl) (hS.ch _ _ rfl) rfl rfl rfl (by as_aux_lemma => kernel_rfl)); apply draw_put rfl; (intro S1 hS; exact stp_move rfl (hS.op rfl)); apply draw_put rfl; (intro S1 hS; exact stp_move rfl (hS.op rfl)); (apply draw_put rfl; (focus (intro S1 hS; apply call_gate 198; first | exact stp_callR hF1 (by as_aux_lemma => kernel_rfl) rfl (opL_le hS rfl) ⟨⟨.inl rfl, .inl rfl, .inl rfl, trivial⟩, rfl, rfl, trivial⟩ (allIn_le hS ⟨⟨_, rfl, .inr rfl⟩, ⟨_, rfl, .inr rfl⟩, trivial⟩) rfl rfl | exact stp_callR hF2 (by as_aux_lemma => kernel_rfl) rfl (opL_le hS rfl) ⟨⟨.inl rfl, .inl rfl, .inl rfl, trivial⟩, rfl, rfl, trivial⟩ (allIn_le hS ⟨⟨_, rfl, .inr rfl⟩, ⟨_, rfl, .inr rfl⟩, trivial⟩) rfl rfl))); exact Draw.nil)
      · rfl
      ((apply rest_one 8 rfl (by as_aux_lemma => kernel_rfl) rfl rfl; (exact stp_assign rfl rfl)); (apply rest_one 9 rfl (by as_aux_lemma => kernel_rfl) rfl rfl; (exact stp_assign rfl rfl)); (refine rest_done (by as_aux_lemma => kernel_rfl) ?_; skip))
      (refine fin_seq ?_; refine goes_seq ?_; refine goes_block ?_; refine goes_seq ?_; refine goes_region ?_; apply run_step rfl; (exact stp_move rfl rfl); apply run_step rfl; (exact stp_bin rfl rfl rfl rfl); apply run_step rfl; (exact stp_assign rfl rfl); refine run_nil ?_; refine fin_seq ?_)
      refine goes_if rfl (fun hx0 => ?_) (fun hx0 => ?_)
      · have hx0 : 0 ≤ x := hx0
        rw [if_pos hx0] at hCx
        have hI := l11Identify_fc ng N.length M N x.toNat c false rfl hw1 (by omega) hcN hhi hng
        rw [Int.toNat_of_nonneg hx0] at hI
        subst hCx
        have hln := (ident_ok (q := [(x, (c : Int))]) hw1 rfl (fun p hp => by simp at hp; subst hp; exact ⟨⟨hx0, i1⟩, by omega, by dsimp only; omega⟩)).2
        dsimp only
        rw [hln]
        (refine goes_seq ?_; refine goes_region ?_; apply run_step rfl; (exact stp_loadAgg rfl rfl rfl rfl rfl rfl (by as_aux_lemma => kernel_rfl)); apply run_step rfl; (exact stp_move rfl rfl); apply run_step rfl; (exact stp_move rfl rfl); apply run_step rfl; (apply call_gate 228; exact stp_call [] hI (by as_aux_lemma => kernel_rfl) rfl rfl ⟨⟨.inl rfl, .inl rfl, .inl rfl, trivial⟩, rfl, rfl, trivial⟩ ⟨⟨_, rfl, .inl rfl⟩, ⟨_, rfl, .inl rfl⟩, trivial⟩ trivial rfl rfl); apply run_step rfl; (exact stp_storeAgg rfl rfl rfl rfl rfl rfl rfl rfl (by as_aux_lemma => kernel_rfl) rfl); refine run_nil ?_; refine fin_seq ?_; refine goes_ret ?_; refine fin_ret_block ?_; refine fin_ret_then ?_)
        exact fin_ret1 (.inl rfl) rfl (.cell rfl rfl rfl rfl rfl (by kernel_rfl)) ⟨rfl, rfl, trivial⟩ trivial
      · have hx0 : ¬ 0 ≤ x := hx0
        rw [if_neg hx0] at hCx
        (refine goes_seq ?_; refine goes_region ?_; apply run_step rfl; (exact stp_move rfl rfl); apply run_step rfl; (exact stp_bin rfl rfl rfl rfl); apply run_step rfl; (exact stp_assign rfl rfl); refine run_nil ?_; refine fin_seq ?_)
        refine goes_if rfl (fun hy0 => ?_) (fun hy0 => ?_)
        · have hy0 : 0 ≤ y := hy0
          rw [if_pos hy0] at hCx
          have hI := l11Identify_fc ng N.length M N y.toNat d false rfl hw1 (by omega) hd hhi hng
          rw [Int.toNat_of_nonneg hy0] at hI
          subst hCx
          have hln := (ident_ok (q := [(y, (d : Int))]) hw1 rfl (fun p hp => by simp at hp; subst hp; exact ⟨⟨hy0, i2⟩, by omega, by dsimp only; omega⟩)).2
          dsimp only
          rw [hln]
          (refine goes_seq ?_; refine goes_region ?_; apply run_step rfl; (exact stp_loadAgg rfl rfl rfl rfl rfl rfl (by as_aux_lemma => kernel_rfl)); apply run_step rfl; (exact stp_move rfl rfl); apply run_step rfl; (exact stp_move rfl rfl); apply run_step rfl; (apply call_gate 228; exact stp_call [] hI (by as_aux_lemma => kernel_rfl) rfl rfl ⟨⟨.inl rfl, .inl rfl, .inl rfl, trivial⟩, rfl, rfl, trivial⟩ ⟨⟨_, rfl, .inl rfl⟩, ⟨_, rfl, .inl rfl⟩, trivial⟩ trivial rfl rfl); apply run_step rfl; (exact stp_storeAgg rfl rfl rfl rfl rfl rfl rfl rfl (by as_aux_lemma => kernel_rfl) rfl); refine run_nil ?_; refine fin_seq ?_; refine goes_ret ?_; refine fin_ret_block ?_; refine fin_ret_then ?_)
          exact fin_ret1 (.inl rfl) rfl (.cell rfl rfl rfl rfl rfl (by kernel_rfl)) ⟨rfl, rfl, trivial⟩ trivial
        · have hy0 : ¬ 0 ≤ y := hy0
          rw [if_neg hy0] at hCx
          subst hCx
          dsimp only
          have hr2 : (lget (rset M d g c) c).length = ng := by rw [rset_row]; exact hrc
          have hl2 : (rset M d g c).length = N.length := by rw [rset_len]; exact hm1
          (refine goes_skip ?_; refine fin_block ?_; refine fin_seq ?_; refine goes_seq ?_; refine goes_region ?_; apply run_step rfl; (exact stp_fieldAddr (d := 0) rfl rfl rfl (by as_aux_lemma => kernel_rfl)); apply run_step rfl; (exact stp_loadF rfl (by as_aux_lemma => kernel_rfl) rfl rfl rfl rfl); apply run_step rfl; (exact stp_move rfl rfl); apply run_step rfl; (exact stp_ix rfl rfl rfl rfl rfl (by as_aux_lemma => kernel_rfl) (by first | rfl | exact (Int.toNat_of_nonneg (by omega)).symm) (by first | assumption | omega | (simp; omega)) (by first | exact Nat.le_refl _ | exact Nat.le_of_eq (ivals_len _).symm | exact Nat.le_of_eq (irows_len _).symm | (refine Nat.le_trans ?_ (Nat.le_of_eq (ivals_len _).symm); (first | omega | (simp; done) | (simp; omega))) | (refine Nat.le_trans ?_ (Nat.le_of_eq (irows_len _).symm); (first | omega | (simp; done) | (simp; omega))))); apply run_step rfl; (exact stp_loadR rfl (by as_aux_lemma => kernel_rfl) rfl rfl rfl (by first | assumption | exact ivals_get (by assumption) | exact irows_get (by assumption) | exact ivals_get (by omega) | exact irows_get (by omega) | rfl) (by first | exact ivals_len _ | assumption | rfl)); apply run_step rfl; (exact stp_move rfl rfl); apply run_step rfl; (exact stp_move rfl rfl); apply run_step rfl; (exact stp_ixE rfl rfl rfl rfl rfl (by as_aux_lemma => kernel_rfl) (by first | assumption | exact ivals_get (by assumption) | exact irows_get (by assumption) | exact ivals_get (by omega) | exact irows_get (by omega) | rfl) (by first | rfl | exact (Int.toNat_of_nonneg (by omega)).symm) (by first | assumption | omega | (simp; omega)) (by first | exact Nat.le_refl _ | exact Nat.le_of_eq (ivals_len _).symm | exact Nat.le_of_eq (irows_len _).symm | (refine Nat.le_trans ?_ (Nat.le_of_eq (ivals_len _).symm); (first | omega | (simp; done) | (simp; omega))) | (refine Nat.le_trans ?_ (Nat.le_of_eq (irows_len _).symm); (first | omega | (simp; done) | (simp; omega))))); apply run_step rfl; (exact stp_stE rfl rfl rfl rfl rfl (by first | assumption | omega | (simp; omega)) (by first | assumption | omega | (simp; omega)) (by as_aux_lemma => kernel_rfl)); refine run_nil ?_; refine fin_seq ?_; refine goes_seq ?_; refine goes_region ?_; apply run_step rfl; (exact stp_fieldAddr (d := 0) rfl rfl rfl (by as_aux_lemma => kernel_rfl)); apply run_step rfl; (exact stp_loadF rfl (by as_aux_lemma => kernel_rfl) rfl rfl rfl rfl); apply run_step rfl; (exact stp_move rfl rfl); apply run_step rfl; (exact stp_ix rfl rfl rfl rfl rfl (by as_aux_lemma => kernel_rfl) (by first | rfl | exact (Int.toNat_of_nonneg (by omega)).symm) (by first | assumption | omega | (simp; omega)) (by first | exact Nat.le_refl _ | exact Nat.le_of_eq (ivals_len _).symm | exact Nat.le_of_eq (irows_len _).symm | (refine Nat.le_trans ?_ (Nat.le_of_eq (ivals_len _).symm); (first | omega | (simp; done) | (simp; omega))) | (refine Nat.le_trans ?_ (Nat.le_of_eq (irows_len _).symm); (first | omega | (simp; done) | (simp; omega))))); apply run_step rfl; (exact stp_loadR rfl (by as_aux_lemma => kernel_rfl) rfl rfl rfl (by first | assumption | exact ivals_get (by assumption) | exact irows_get (by assumption) | exact ivals_get (by omega) | exact irows_get (by omega) | rfl) (by first | exact ivals_len _ | assumption | rfl)); apply run_step rfl; (exact stp_move rfl rfl); apply run_step rfl; (exact stp_move rfl rfl); apply run_step rfl; (exact stp_ixE rfl rfl rfl rfl rfl (by as_aux_lemma => kernel_rfl) (by first | assumption | exact ivals_get (by assumption) | exact irows_get (by assumption) | exact ivals_get (by omega) | exact irows_get (by omega) | rfl) (by first | rfl | exact (Int.toNat_of_nonneg (by omega)).symm) (by first | assumption | omega | (simp; omega)) (by first | exact Nat.le_refl _ | exact Nat.le_of_eq (ivals_len _).symm | exact Nat.le_of_eq (irows_len _).symm | (refine Nat.le_trans ?_ (Nat.le_of_eq (ivals_len _).symm); (first | omega | (simp; done) | (simp; omega))) | (refine Nat.le_trans ?_ (Nat.le_of_eq (irows_len _).symm); (first | omega | (simp; done) | (simp; omega))))); apply run_step rfl; (exact stp_stE rfl rfl rfl rfl rfl (by first | assumption | omega | (simp; omega)) (by first | assumption | omega | (simp; omega)) (by as_aux_lemma => kernel_rfl)); refine run_nil ?_; refine fin_seq ?_; refine goes_seq ?_; refine goes_region ?_; apply run_step rfl; (exact stp_loadAgg rfl rfl rfl rfl rfl rfl (by as_aux_lemma => kernel_rfl)); apply run_step rfl; (exact stp_storeAgg rfl rfl rfl rfl rfl rfl rfl rfl (by as_aux_lemma => kernel_rfl) rfl); refine run_nil ?_; refine fin_seq ?_; refine goes_ret ?_)
          exact fin_ret1 (.inl rfl) rfl (.cell rfl rfl rfl rfl rfl (by kernel_rfl)) ⟨rfl, rfl, trivial⟩ trivial
end Go.Proofs.Ytpognnifgcacnaa

/- Coset enumeration: the whole procedure, on lists. No program in sight. -/
namespace Go.Proofs.Ytpognnifgcacnaa

/-- images, the smaller cosets, whether it has failed -/
abbrev CSt := List (List Int) × List Int × Bool
def liveC (s : CSt) (c : Nat) : Bool := decide (iget s.2.1 c = (c : Int)) && !s.2.2
def close0 (ng : Nat) (s : CSt) (w : List Int) : CSt := if s.2.2 = true then s else closeC ng s.1 s.2.1 0 (w.map Int.toNat)
def close1 (ng c : Nat) (s : CSt) (w : List Int) : CSt := if liveC s c = true then closeC ng s.1 s.2.1 c (w.map Int.toNat) else s
def next1 (ng c : Nat) (s : CSt) (g : Nat) : CSt := if liveC s c = true then ((nextC ng s.1 s.2.1 c g).1, (nextC ng s.1 s.2.1 c g).2.1, (nextC ng s.1 s.2.1 c g).2.2.1) else s
def coset1 (ng : Nat) (rels : List (List Int)) (c : Nat) (s : CSt) : CSt := (List.range ng).foldl (next1 ng c) (rels.foldl (close1 ng c) s)
def outer (ng : Nat) (rels : List (List Int)) : Nat → Nat → CSt → CSt
  | 0, _, s => s
  | f + 1, c, s => if c < s.2.1.length ∧ s.2.2 = false then outer ng rels f (c + 1) (coset1 ng rels c s) else s
def startC (ng : Nat) : CSt := ([List.replicate ng (-1)], [0], false)
def runC (ng : Nat) (rels words : List (List Int)) : CSt := outer ng rels 2001 0 (words.foldl (close0 ng) (startC ng))

theorem CloseOK.refl {ng : Nat} {s : CSt} (h : WF ng s.1 s.2.1) (hi : s.2.1.length ≤ 2000) : CloseOK ng s.2.1.length s := ⟨h, Nat.le_refl _, hi⟩
theorem CloseOK.le {ng n m : Nat} {s : CSt} (h : CloseOK ng n s) (hm : m ≤ n) : CloseOK ng m s := ⟨h.wf, Nat.le_trans hm h.lo, h.hi⟩
def Letters (ng : Nat) (w : List Int) : Prop := ∀ z ∈ w, 0 ≤ z ∧ z < ng
theorem Letters.nat {ng : Nat} {w : List Int} (h : Letters ng w) : ∀ g ∈ w.map Int.toNat, g < ng := fun g hg => by
  obtain ⟨z, hz, rfl⟩ := List.mem_map.1 hg
  have := h z hz; omega
theorem close0_ok {ng n : Nat} {s : CSt} {w : List Int} (h : CloseOK ng n s) (hn : 0 < n) (hw : Letters ng w) : CloseOK ng n (close0 ng s w) := by
  unfold close0
  split
  · exact h
  · exact (closeC_ok h.wf (Nat.lt_of_lt_of_le hn h.lo) h.hi hw.nat).le h.lo
theorem close1_ok {ng n c : Nat} {s : CSt} {w : List Int} (h : CloseOK ng n s) (hn : c < n) (hw : Letters ng w) : CloseOK ng n (close1 ng c s w) := by
  unfold close1
  split
  · exact (closeC_ok h.wf (Nat.lt_of_lt_of_le hn h.lo) h.hi hw.nat).le h.lo
  · exact h
theorem next1_ok {ng n c g : Nat} {s : CSt} (h : CloseOK ng n s) (hn : c < n) (hg : g < ng) : CloseOK ng n (next1 ng c s g) := by
  unfold next1
  split
  · obtain ⟨h1, h2, h3, _⟩ := nextC_ok h.wf (Nat.lt_of_lt_of_le hn h.lo) hg h.hi
    exact ⟨h1, Nat.le_trans h.lo h2, h3⟩
  · exact h
theorem foldl_ok {α : Type} {ng n : Nat} {f : CSt → α → CSt} {p : α → Prop} (hf : ∀ s x, CloseOK ng n s → p x → CloseOK ng n (f s x)) : ∀ (l : List α) (s : CSt), CloseOK ng n s → (∀ x ∈ l, p x) → CloseOK ng n (l.foldl f s)
  | [], s, h, _ => h
  | x :: r, s, h, hp => foldl_ok hf r _ (hf s x h (hp x (by simp))) fun y hy => hp y (by simp [hy])
theorem coset1_ok {ng n c : Nat} {rels : List (List Int)} {s : CSt} (h : CloseOK ng n s) (hn : c < n) (hr : ∀ w ∈ rels, Letters ng w) : CloseOK ng n (coset1 ng rels c s) :=
  foldl_ok (p := fun g => g < ng) (fun s g h hg => next1_ok h hn hg) _ _ (foldl_ok (p := Letters ng) (fun s w h hw => close1_ok h hn hw) _ _ h hr) fun g hg => List.mem_range.1 hg
theorem outer_ok {ng n : Nat} {rels : List (List Int)} (hr : ∀ w ∈ rels, Letters ng w) : ∀ (f c : Nat) (s : CSt), CloseOK ng n s → CloseOK ng n (outer ng rels f c s)
  | 0, _, s, h => h
  | f + 1, c, s, h => by
    unfold outer
    split
    · rename_i hc
      exact outer_ok hr f _ _ ((coset1_ok (n := s.2.1.length) ⟨h.wf, Nat.le_refl _, h.hi⟩ hc.1 hr).le h.lo)
    · exact h
theorem startC_ok (ng : Nat) : CloseOK ng 1 (startC ng) :=
  ⟨{ len := rfl
     row := fun c hc => by obtain rfl : c = 0 := by simp [startC] at hc; omega
                           simp [startC, lget]
     down := fun c hc => by obtain rfl : c = 0 := by simp [startC] at hc; omega
                            simp [startC, iget]
     ent := fun c g hc hg => by
       obtain rfl : c = 0 := by simp [startC] at hc; omega
       simp [startC, ent, lget, iget, hg] }, Nat.le_refl _, by simp [startC]⟩
theorem runC_ok {ng : Nat} {rels words : List (List Int)} (hr : ∀ w ∈ rels, Letters ng w) (hw : ∀ w ∈ words, Letters ng w) : CloseOK ng 1 (runC ng rels words) :=
  outer_ok hr _ _ _ (foldl_ok (p := Letters ng) (fun s w h hw => close0_ok h (by omega) hw) _ _ (startC_ok ng) hw)
theorem foldl_same {α : Type} {f : CSt → α → CSt} {s : CSt} (h : ∀ x, f s x = s) : ∀ l : List α, l.foldl f s = s
  | [] => rfl
  | x :: r => by rw [List.foldl_cons, h, foldl_same h r]
theorem close0_failed {ng : Nat} {s : CSt} (h : s.2.2 = true) (w : List Int) : close0 ng s w = s := if_pos h
theorem close1_dead {ng c : Nat} {s : CSt} (h : liveC s c = false) (w : List Int) : close1 ng c s w = s := if_neg (by simp [h])
theorem next1_dead {ng c : Nat} {s : CSt} (h : liveC s c = false) (g : Nat) : next1 ng c s g = s := if_neg (by simp [h])
theorem range_dead {ng c g : Nat} {s s' : CSt} (h : (List.range g).foldl (next1 ng c) s = s') (hl : liveC s' c = false) : ∀ n, g ≤ n → (List.range n).foldl (next1 ng c) s = s'
  | 0, hn => by obtain rfl : g = 0 := by omega
                exact h
  | n + 1, hn => by
    by_cases e : g = n + 1
    · subst e; exact h
    · rw [List.range_succ, List.foldl_append, range_dead h hl n (by omega)]
      exact next1_dead hl n
theorem fold_dead {ng c j : Nat} {rels : List (List Int)} {s s' : CSt} (h : (rels.take j).foldl (close1 ng c) s = s') (hl : liveC s' c = false) : rels.foldl (close1 ng c) s = s' := by
  conv => lhs; rw [← List.take_append_drop j rels, List.foldl_append, h]
  exact foldl_same (close1_dead hl) _
theorem fold_failed {ng j : Nat} {words : List (List Int)} {s s' : CSt} (h : (words.take j).foldl (close0 ng) s = s') (hl : s'.2.2 = true) : words.foldl (close0 ng) s = s' := by
  conv => lhs; rw [← List.take_append_drop j words, List.foldl_append, h]
  exact foldl_same (close0_failed hl) _
end Go.Proofs.Ytpognnifgcacnaa

/- A memory of names: guards, picks, nil slices inside of aggregates. No program in sight. -/
namespace Go.Proofs.Ytpognnifgcacnaa
open Go.RowKit

section
variable {P : Program} {nt : Nat} {S S1 S' : St} {w0 w : World} {ω0 : Beg} {ω : Own?} {η : Env} {a : Act} {Q : Exit → Act → World → Prop} {ops : Array Oper} {rest : List Oper} {o : Oper}
variable {t : Nat} {ty : TypeId} {ps : String} {af : Array Edge} {gd : Option (Nat × Bool)} {x y z : Operand} {av : AV}

/-- a truth value in a slot is one or the other -/
theorem run_bool (d : Nat) {b : Bool} (hb : S.sl d = some (vv (.bool b))) (h1 : b = true → Run P w0 ω0 nt ops Q (S.put d (vv (.bool true))) rest) (h2 : b = false → Run P w0 ω0 nt ops Q (S.put d (vv (.bool false))) rest) : Run P w0 ω0 nt ops Q S rest := by
  have wk : ∀ c, b = c → Wk S (S.put d (vv (.bool c))) := fun c e => by
    refine ⟨fun w0 ω0 nt a w ⟨η, ω, hs⟩ => ⟨η, ω, { hs with slots := fun t' av ht' => ?_ }⟩⟩
    rw [sl_put] at ht'
    by_cases e' : t' = d
    · subst e'
      rw [if_pos rfl] at ht'
      obtain rfl := Option.some.inj ht'
      exact hs.slots t' _ (by rw [← e]; exact hb)
    · rw [if_neg e'] at ht'; exact hs.slots t' av ht'
  cases b with
  | true => exact ⟨fun a w hs => (h1 rfl).go a w ((wk true rfl).go _ _ _ a w hs)⟩
  | false => exact ⟨fun a w hs => (h2 rfl).go a w ((wk false rfl).go _ _ _ a w hs)⟩
theorem run_gYes {j d : Nat} {want : Bool} (hg : o.guard = some (j, want)) (hj : (ops[j]?).bind (·.dst) = some d) (hb : S.sl d = some (vv (.bool want))) (h : Stp P nt o S S1) (k : Run P w0 ω0 nt ops Q S1 rest) : Run P w0 ω0 nt ops Q S (o :: rest) :=
  run_guard hg hj hb (fun _ => ⟨S1, h, k⟩) fun e => absurd rfl e
theorem run_gNo {j d t : Nat} {want : Bool} (hg : o.guard = some (j, want)) (hj : (ops[j]?).bind (·.dst) = some d) (hb : S.sl d = some (vv (.bool (!want)))) (ht : o.dst = some t) (hn : Nat.blt t nt = true) (k : Run P w0 ω0 nt ops Q (S.put t (vv undef)) rest) : Run P w0 ω0 nt ops Q S (o :: rest) :=
  run_guard hg hj hb (fun e => by cases want <;> cases e) fun _ => ⟨t, ht, hn, k⟩
theorem stp_pickT (ht : Nat.blt t nt = true) (hx : S.op x = some (vv (.bool true))) (hy : S.op y = some av) : Stp P nt ⟨some t, .pick x y z, ty, ps, af, gd⟩ S (S.put t av) :=
  Stp.of _ fun w0 ω0 η ω a w hs => by
    have h0 := hs.opV hx
    exact ⟨a.eval y, w, by simp [execOp, h0, asBool], η, ω, hs.putV (by simpa using ht) (hs.opv hy)⟩
theorem stp_pickF (ht : Nat.blt t nt = true) (hx : S.op x = some (vv (.bool false))) (hz : S.op z = some av) : Stp P nt ⟨some t, .pick x y z, ty, ps, af, gd⟩ S (S.put t av) :=
  Stp.of _ fun w0 ω0 η ω a w hs => by
    have h0 := hs.opV hx
    exact ⟨a.eval z, w, by simp [execOp, h0, asBool], η, ω, hs.putV (by simpa using ht) (hs.opv hz)⟩

theorem stp_buildZ {T : TypeId} (zs : List Value) (ht : Nat.blt t nt = true) (hb : (P.built T []).map Array.toList = some zs) : Stp P nt ⟨some t, .build T #[], ty, ps, af, gd⟩ S (S.put t (.s (.agg (zs.map .val)))) :=
  Stp.of _ fun w0 ω0 η ω a w hs => by
    simp only [Option.map_eq_some_iff] at hb
    obtain ⟨cs, hc, rfl⟩ := hb
    refine ⟨.agg cs, w, by simp [execOp, run_build w T #[] cs hc], η, ω, hs.putV (by simpa using ht) ?_⟩
    exact (⟨cs, rfl, by simp, fun j b hb => by
      simp only [List.getElem?_map, Option.map_eq_some_iff] at hb
      obtain ⟨v, hv, rfl⟩ := hb
      exact ⟨v, by simpa using hv, rfl⟩⟩ : Den2 η (.agg (cs.toList.map .val)) (.agg cs))

theorem goes_cut {c : Code} (S' : St) (h : Goes P w0 ω0 nt S c (fun e a w => e = .normal ∧ Sat w0 ω0 nt S' a w)) (k : Fin w0 ω0 nt S' .normal Q) : Goes P w0 ω0 nt S c Q :=
  ⟨fun a w hs => Code.wp_mono (fun e a w he => by obtain ⟨rfl, h2⟩ := he; exact k.go a w h2) (h.go a w hs)⟩
theorem run_wk (h : Wk S S') (k : Run P w0 ω0 nt ops Q S' rest) : Run P w0 ω0 nt ops Q S rest := ⟨fun a w hs => k.go a w (h.go _ _ _ a w hs)⟩

/-- a nil slice inside of an aggregate in a slot is taken for an empty vector of the call's own -/
theorem wk_nilA {n k : Nat} {E : TypeId} {d : Dat} {l : List A1} (i : Nat) (hs : S.sl t = some (.s (.agg l))) (hi : l[i]? = some (.val (.slice none 0 0))) (hn : l.any (A1.has n) = false) (hd : d.len = 0) : Wk S ((S.new n ⟨true, E, k, d⟩).put t (.s (.agg (l.set i (.sl n 0 0))))) := by
  refine ⟨fun w0 ω0 nt a w ⟨η, ω, h⟩ => ?_⟩
  obtain ⟨u, h1, h2⟩ := h.slots t _ hs
  obtain ⟨us, rfl, h3, h4⟩ := (h2 : Den2 η (.agg l) u)
  have hl := h.lay (x := n) (c := ⟨true, E, k, d⟩) (hd := ⟨none, 0, k⟩) (r := fun _ => ⟨none, 0, 1⟩) (Calm.refl S ω w) ⟨rfl, .inl ⟨rfl, rfl, hd⟩⟩
  refine ⟨_, ω, { hl with slots := fun t' av ht' => ?_ }⟩
  rw [sl_put] at ht'
  by_cases e : t' = t
  · subst e
    rw [if_pos rfl] at ht'
    obtain rfl := Option.some.inj ht'
    refine ⟨_, h1, us, rfl, by simpa using h3, fun j b hb => ?_⟩
    by_cases ej : j = i
    · subst ej
      obtain ⟨u', h5, h6⟩ := h4 j _ hi
      have h6 : u' = .slice none 0 0 := h6
      subst h6
      have hlt : j < l.length := (List.getElem?_eq_some_iff.1 hi).1
      rw [List.getElem?_set_self hlt] at hb
      obtain rfl := Option.some.inj hb
      exact ⟨_, h5, den_new (hd := ⟨none, 0, k⟩) (m := 0)⟩
    · rw [List.getElem?_set_ne (fun e => ej e.symm)] at hb
      obtain ⟨u', h5, h6⟩ := h4 j b hb
      refine ⟨u', h5, h6.mono fun y hy => Env.new_ne η _ _ y fun e => ?_⟩
      subst e
      have := List.any_eq_false.1 hn b (List.mem_of_getElem? hb)
      rw [hy] at this; exact this rfl
  · rw [if_neg e] at ht'
    exact hl.slots t' av ht'
end
end Go.Proofs.Ytpognnifgcacnaa
