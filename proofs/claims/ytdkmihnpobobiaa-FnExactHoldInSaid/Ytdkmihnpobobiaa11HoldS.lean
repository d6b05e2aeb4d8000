/- HoldIn, the reference's. -/
import Derived.Test.Ytdkmihnpobobiaa11HoldI
import Derived.Test.YtdkmihnpobobiaaCalm
namespace Go.Proofs.Ytdkmihnpobobiaa
open Go.RowKit

/-- permutations of equally many points -/
def isPerms (qs : List (List Int)) : Bool := qs.all fun q => isPerm q && decide (q.length = (lget qs 0).length)
theorem isPerms_true {qs : List (List Int)} : isPerms qs = true ↔ ∀ k, k < qs.length → isPerm (lget qs k) = true ∧ (lget qs k).length = (lget qs 0).length := by
  unfold isPerms; rw [List.all_eq_true]
  exact ⟨fun h k hk => by have := h _ (lget_mem hk); rw [Bool.and_eq_true] at this; exact ⟨this.1, of_decide_eq_true this.2⟩, fun h q hq => by obtain ⟨k, hk, rfl⟩ := List.getElem_of_mem hq; rw [← lget_lt hk, Bool.and_eq_true]; exact ⟨(h k hk).1, decide_eq_true (h k hk).2⟩⟩
theorem isPerms_leads {qs : List (List Int)} (h : isPerms qs = true) : Leads qs (lget qs 0).length :=
  { len := fun k hk => (isPerms_true.1 h k hk).2
    within := fun k hk x hx => by
      have h1 := isPerms_true.1 h k hk
      have := isPerm_within h1.1 (k := x) (by rw [h1.2]; exact hx)
      rw [h1.2] at this; exact this }
/-- whether the arguments are what HoldIn wants -/
def holdArgs (d : PresD) (qs : List (List Int)) : Bool := isPres d && decide ((qs.length : Int) = d.1) && isPerms qs
def holdR (d : PresD) (qs : List (List Int)) : Bool := holdArgs d qs && holdB d.2 qs
def holdC (d : PresD) (qs : List (List Int)) : Int := if holdArgs d qs = true then 0 else 1

theorem isPres_gens {d : PresD} (h : isPres d = true) : 1 ≤ d.1 ∧ d.1 ≤ 5 := by
  cases hg : inB d.1 1 5 with
  | false => rw [isPres_out hg] at h; cases h
  | true => exact inB_true.1 hg
theorem isPres_words {d : PresD} (h : isPres d = true) : ∀ i, i < d.2.length → (lget d.2 i).length ≤ 64 ∧ ∀ z ∈ lget d.2 i, 0 ≤ z ∧ z < d.1 := by
  cases hg : inB d.1 1 5 with
  | false => rw [isPres_out hg] at h; cases h
  | true =>
    rw [isPres_in hg] at h
    intro i hi
    unfold wordsTo at h
    rw [Bool.and_eq_true, List.all_eq_true] at h
    have h1 := h.2 _ (lget_mem hi)
    rw [Bool.and_eq_true] at h1
    have h2 := h1.1
    unfold isWordTo at h2
    rw [Bool.and_eq_true, List.all_eq_true] at h2
    exact ⟨of_decide_eq_true h2.1, fun z hz => by have := inB_true.1 (h2.2 z hz); omega⟩

theorem holdB_no3 {ws qs : List (List Int)} {m g x : Nat} (hl : Leads qs m) (hg : g < qs.length) (hx : x < m) (h : leadL qs x [(g : Int), (g : Int)] ≠ x) : holdB ws qs = false := by
  refine holdB_no1 hg (isIden_false (i := x) (by rw [length_thenL, hl.len g hg]; exact hx) ?_)
  rw [iget_thenL (by rw [hl.len g hg]; exact hx)]
  intro e; exact h e
theorem holdB_yes {ws qs : List (List Int)} {m : Nat} (hl : Leads qs m) (hm : (lget qs 0).length = m) (h1 : ∀ x, x < m → ∀ g : Nat, g < qs.length → leadL qs x [(g : Int), (g : Int)] = x) (h2 : ∀ x, x < m → ∀ i, i < ws.length → leadL qs x (lget ws i) = x) : holdB ws qs = true := by
  unfold holdB
  rw [Bool.and_eq_true, hm]
  refine ⟨involsL_true.2 fun k hk => isIden_true.2 fun x hx => ?_, fixAll_true.2 fun i hi x hx => h2 x hx i hi⟩
  rw [length_thenL, hl.len k hk] at hx
  rw [iget_thenL (by rw [hl.len k hk]; exact hx)]
  exact h1 x hx k hk

theorem holdR_no {d : PresD} {qs : List (List Int)} (h : holdArgs d qs = false) : holdR d qs = false ∧ holdC d qs = 1 := by
  unfold holdR holdC; rw [h]; exact ⟨rfl, rfl⟩
theorem holdR_yes {d : PresD} {qs : List (List Int)} (h : holdArgs d qs = true) : holdR d qs = holdB d.2 qs ∧ holdC d qs = 0 := by
  unfold holdR holdC; rw [h]; exact ⟨by simp, rfl⟩
theorem holdArgs_1 {d : PresD} {qs : List (List Int)} (h : isPres d = false) : holdArgs d qs = false := by unfold holdArgs; rw [h]; rfl
theorem holdArgs_2 {d : PresD} {qs : List (List Int)} (h : ¬ (qs.length : Int) = d.1) : holdArgs d qs = false := by unfold holdArgs; rw [decide_eq_false h]; simp
theorem holdArgs_3 {d : PresD} {qs : List (List Int)} (h : isPerms qs = false) : holdArgs d qs = false := by unfold holdArgs; rw [h]; simp
theorem isPerms_no {qs : List (List Int)} {k : Nat} (hk : k < qs.length) (h : isPerm (lget qs k) = false ∨ (lget qs k).length ≠ (lget qs 0).length) : isPerms qs = false := by
  refine not_true fun e => ?_
  have := isPerms_true.1 e k hk
  rcases h with h | h
  · rw [h] at this; cases this.1
  · exact h this.2

set_option maxRecDepth 100000 in
set_option maxHeartbeats 3200000 in
theorem specHold_any {v : Value} {d : PresD} (ao : Option Addr) (n c : Nat) (qs : List (List Int)) (w : World) (h : RdP w v d) (h' : Intss w ao n qs) :
    Calls Try.prog 29 #[v, .slice ao n c] w fun e w' => e = .returned (.tuple #[.bool (holdR d qs), .int .i64 (holdC d qs)]) ∧ Below w.heap.size w w' := by
  obtain ⟨ro, rn, rc, rfl, hr⟩ := h
  have HL := Lib.hid h'.1
  have HR := Lib.hid hr.1
  have hn1 := h'.2.1
  have hn2 := hr.2.1
  have hb := below_alloc1 w (.cells #[.int .i64 d.1, .slice ro rn rc] 25)
  have kb : Blk (w.alloc (.cells #[.int .i64 d.1, .slice ro rn rc] 25)) w.heap.size 25 #[.int .i64 d.1, .slice ro rn rc] := blk_at rfl
  have x0 : (w.alloc (.cells #[.int .i64 d.1, .slice ro rn rc] 25)).cell? ⟨w.heap.size, 0, none⟩ = some (.int .i64 d.1) := kb.cell 0
  have x1 : (w.alloc (.cells #[.int .i64 d.1, .slice ro rn rc] 25)).cell? ⟨w.heap.size, 1, none⟩ = some (.slice ro rn rc) := kb.cell 1
  have hp0 : RdP (w.alloc (.cells #[.int .i64 d.1, .slice ro rn rc] 25)) (.agg #[.int .i64 d.1, .slice ro rn rc]) d := ⟨ro, rn, rc, rfl, hr.below hb⟩
  cases hp : isPres d with
  | false =>
    have HP := Lib.hid hp
    have HX := Lib.hid (holdR_no (holdArgs_1 (qs := qs) hp))
    clear hp
    go_enter Try.func29, Try.ntmps29
    go_wp2_with fail
    refine (spec11Is_any _ hp0).mono ?_
    rintro e w1 ⟨rfl, b1⟩
    rw [HP.out]
    go_wp2_with fail
    go_ret2
    exact ⟨by rw [HX.out.1, HX.out.2]; rfl, below_tr b1 hb⟩
  | true =>
    have hg := isPres_gens hp
    have hwd := isPres_words hp
    have HP := Lib.hid hp
    have HWD := Lib.hid hwd
    clear hp hwd
    by_cases hlen : (qs.length : Int) = d.1
    · have hnd : (n : Int) = d.1 := by rw [← HL.out]; exact hlen
      have hn0 : 0 < n := by omega
      have hn5 : n ≤ 5 := by omega
      have HLEN := Lib.hid hlen
      go_enter Try.func29, Try.ntmps29
      go_wp2_with fail
      refine (spec11Is_any _ hp0).mono ?_
      rintro e w1 ⟨rfl, b1⟩
      rw [HP.out]
      have B1 := below_tr b1 hb
      have kb1 := kb.belowS b1
      have hlt0 := kb1.lt
      have y0 : w1.cell? ⟨w.heap.size, 0, none⟩ = some (.int .i64 d.1) := kb1.cell 0
      have hr1 := hr.below B1
      have h1 := h'.below B1
      have hs1 := B1.size
      clear x0 x1 kb hb hp0 b1 hr h' hlen
      rw [← hnd] at y0 kb1
      go_wp2_with fail
      go_loopw [6] (fun i wr => ∃ k : Nat, k ≤ n ∧ i = .int .i64 k ∧ (∀ j, j < k → isPerm (lget qs j) = true ∧ (lget qs j).length = (lget qs 0).length) ∧ Below w1.heap.size w1 wr) (fun i _ => n - (intOf i).toNat)
      case atStart => exact ⟨0, Nat.zero_le _, rfl, fun j hj => absurd hj (by omega), Below.refl _ _⟩
      case round =>
        obtain ⟨k, hk, rfl, hinv, hb⟩ := hrel
        have HI := Lib.hid hinv
        clear hinv
        have BR := below_tr hb B1
        by_cases hlt : k < n
        · obtain ⟨b, off, a1, n1, c1, rfl, hc, hi1⟩ := (h1.below hb).at_ hlt
          obtain ⟨b', off', a0, m, c0, e0, hc0, hi0⟩ := (h1.below hb).at_ hn0
          injection e0 with e0
          injection e0 with e1 e2
          subst e1 e2
          rw [Nat.add_zero] at hc0
          have HL1 := Lib.hid hi1.1
          have HL0 := Lib.hid hi0.1
          have hS : ∀ w', Below wr.heap.size wr w' → (Below wr.heap.size wr w' ∧ w'.cell? ⟨b, off + k, none⟩ = some (.slice a1 n1 c1) ∧ w'.cell? ⟨b, off, none⟩ = some (.slice a0 m c0)) := fun w' hb => ⟨hb, (hb.cell (p := ⟨b, off + k, none⟩) (World.block_lt_of_cell? wr _ hc)).trans hc, (hb.cell (p := ⟨b, off, none⟩) (World.block_lt_of_cell? wr _ hc0)).trans hc0⟩
          have HS := Lib.hid hS
          clear hS
          have q0 : (0 : Int) < d.1 := by omega
          cases hpk : isPerm (lget qs k) with
          | false =>
            have HK := Lib.hid hpk
            have HX := Lib.hid (holdR_no (d := d) (holdArgs_3 (isPerms_no (k := k) (by rw [HL.out]; exact hlt) (.inl hpk))))
            clear hpk
            go_wp2_with fail
            (refine wp_region_calm (by kernel_rfl) (by kernel_rfl) ?_; (repeat (first | go_big_quiet_skip | (go_big_quiet_want; first | (go_big_quiet_op; go_big_quiet_on) | (apply quiet_val; (· (intro _ hw; have f1 := (HS.out _ hw).2.1; have f0 := (HS.out _ hw).2.2; go_simp; exact rfl)); go_simp; go_big_quiet_on) | (apply quiet_call; (· (intro _ _; go_simp; exact ⟨rfl, rfl⟩)); (· (intro _ hw; go_at_call 70; refine (specPerm_any _ _ _ (lget qs k) _ (hi1.below hw)).mono ?_; rintro e w2 ⟨rfl, b2⟩; rw [HK.out]; exact ⟨rfl, below_tr b2 hw⟩)); go_simp; go_big_quiet_on)))); refine wpQuiet_nil ?_; intro wq bq)
            go_wp2_with fail
            go_ret2
            exact ⟨by rw [HX.out.1, HX.out.2]; rfl, below_tr bq BR⟩
          | true =>
            have HK := Lib.hid hpk
            clear hpk
            by_cases he : n1 = m
            · subst he
              have hne : ((n1 : Int) != (n1 : Int)) = false := by simp
              go_wp2_with fail
              (refine wp_region_calm (by kernel_rfl) (by kernel_rfl) ?_; (repeat (first | go_big_quiet_skip | (go_big_quiet_want; first | (go_big_quiet_op; go_big_quiet_on) | (apply quiet_val; (· (intro _ hw; have f1 := (HS.out _ hw).2.1; have f0 := (HS.out _ hw).2.2; go_simp; exact rfl)); go_simp; go_big_quiet_on) | (apply quiet_call; (· (intro _ _; go_simp; exact ⟨rfl, rfl⟩)); (· (intro _ hw; go_at_call 70; refine (specPerm_any _ _ _ (lget qs k) _ (hi1.below hw)).mono ?_; rintro e w2 ⟨rfl, b2⟩; rw [HK.out]; exact ⟨rfl, below_tr b2 hw⟩)); go_simp; go_big_quiet_on)))); refine wpQuiet_nil ?_; intro wq bq)
              have b3 := below_tr bq hb
              go_wp2_with fail
              go_roundw
              case rel => exact ⟨k + 1, by omega, by go_num, fun j hj => by rcases Nat.lt_succ_iff_lt_or_eq.1 hj with h1 | rfl; exact HI.out j h1; exact ⟨HK.out, by rw [HL1.out, HL0.out]⟩, b3⟩
              case measure => simp [intOf]; omega
            · have HX := Lib.hid (holdR_no (d := d) (holdArgs_3 (isPerms_no (k := k) (by rw [HL.out]; exact hlt) (.inr (by rw [HL1.out, HL0.out]; exact he)))))
              have hne : ((n1 : Int) != (m : Int)) = true := by simp; omega
              go_wp2_with fail
              (refine wp_region_calm (by kernel_rfl) (by kernel_rfl) ?_; (repeat (first | go_big_quiet_skip | (go_big_quiet_want; first | (go_big_quiet_op; go_big_quiet_on) | (apply quiet_val; (· (intro _ hw; have f1 := (HS.out _ hw).2.1; have f0 := (HS.out _ hw).2.2; go_simp; exact rfl)); go_simp; go_big_quiet_on) | (apply quiet_call; (· (intro _ _; go_simp; exact ⟨rfl, rfl⟩)); (· (intro _ hw; go_at_call 70; refine (specPerm_any _ _ _ (lget qs k) _ (hi1.below hw)).mono ?_; rintro e w2 ⟨rfl, b2⟩; rw [HK.out]; exact ⟨rfl, below_tr b2 hw⟩)); go_simp; go_big_quiet_on)))); refine wpQuiet_nil ?_; intro wq bq)
              go_wp2_with fail
              go_ret2
              exact ⟨by rw [HX.out.1, HX.out.2]; rfl, below_tr bq BR⟩
        · obtain rfl : k = n := by omega
          have hpm : isPerms qs = true := isPerms_true.2 (by rw [HL.out]; exact HI.out)
          have hha : holdArgs d qs = true := by unfold holdArgs; rw [HP.out, hpm, decide_eq_true HLEN.out]; rfl
          have HX := Lib.hid (holdR_yes hha)
          obtain ⟨m, hm⟩ : ∃ m, (lget qs 0).length = m := ⟨_, rfl⟩
          have HM := Lib.hid hm
          have hm4 : m ≤ 400 := by rw [← hm]; exact isPerm_few (isPerms_true.1 hpm 0 (by rw [HL.out]; exact hn0)).1
          have hq := isPerms_leads hpm
          rw [hm] at hq
          have HQ := Lib.hid hq
          have HND := Lib.hid hnd
          clear hq hm hpm hha HI BR y0 hnd
          go_wp2_with fail
          go_loopw [7] (fun i wr => ∃ x : Nat, x ≤ m ∧ i = .int .i64 x ∧ (∀ y, y < x → ∀ g : Nat, g < qs.length → leadL qs y [(g : Int), (g : Int)] = y) ∧ (∀ y, y < x → ∀ i, i < rn → leadL qs y (lget d.2 i) = y) ∧ Below w1.heap.size w1 wr) (fun i _ => m - (intOf i).toNat)
          case atStart => exact ⟨0, Nat.zero_le _, rfl, fun j hj => absurd hj (by omega), fun j hj => absurd hj (by omega), hb⟩
          case round =>
            obtain ⟨x, hx, rfl, hi1, hi2, hb⟩ := hrel
            have HI1 := Lib.hid hi1
            have HI2 := Lib.hid hi2
            clear hi1 hi2
            have BR := below_tr hb B1
            obtain ⟨b, off, a0, m', c0, rfl, hc0, hi0⟩ := (h1.below hb).at_ hn0
            obtain rfl : m = m' := by rw [← HM.out]; exact hi0.1
            rw [Nat.add_zero] at hc0
            clear hi0
            by_cases hxm : x < m
            · go_wp2_with fail
              go_loopw [8] (fun i wr => ∃ g : Nat, g ≤ k ∧ i = .int .i64 g ∧ (∀ j : Nat, j < g → leadL qs x [(j : Int), (j : Int)] = x) ∧ Below w1.heap.size w1 wr) (fun i _ => k - (intOf i).toNat)
              case atStart => exact ⟨0, Nat.zero_le _, rfl, fun j hj => absurd hj (by omega), hb⟩
              case round =>
                obtain ⟨g, hg', rfl, hig, hb⟩ := hrel
                have HG := Lib.hid hig
                clear hig BR hc0
                have BR := below_tr hb B1
                have y0 : wr.cell? ⟨w.heap.size, 0, none⟩ = some (.int .i64 k) := (kb1.below hb hlt0).cell 0
                have y1 : wr.cell? ⟨w.heap.size, 1, none⟩ = some (.slice ro rn rc) := (kb1.below hb hlt0).cell 1
                by_cases hlg : g < k
                · have hP : Ints (wr.alloc (.cells #[.int .i64 g, .int .i64 g] 2)) (some ⟨wr.heap.size, 0, none⟩) 2 [(g : Int), (g : Int)] := Own.ints (zs := [(g : Int), (g : Int)]) (own_lit (us := [.int .i64 g, .int .i64 g]) rfl (Nat.le_refl _) (by simp))
                  have hbA : Below w1.heap.size w1 (wr.alloc (.cells #[.int .i64 g, .int .i64 g] 2)) := hb.alloc hb.size _
                  have hI := h1.below hbA
                  have hgq : ∀ z ∈ [(g : Int), (g : Int)], 0 ≤ z ∧ z < qs.length := by intro z hz; have := HL.out; simp at hz; omega
                  have HP2 := Lib.hid hP
                  have HBA := Lib.hid hbA
                  have HII := Lib.hid hI
                  have HGQ := Lib.hid hgq
                  clear hP hbA hI hgq
                  by_cases he : leadL qs x [(g : Int), (g : Int)] = x
                  · have HE := Lib.hid he
                    clear he
                    go_wp2_with (go_at_call 71; refine (specLead_any _ _ _ qs _ _ _ [(g : Int), (g : Int)] x m _ HII.out HP2.out hxm HQ.out HGQ.out).mono ?_; rintro e w' ⟨rfl, hw'⟩; subst hw'; rw [HE.out])
                    go_roundw
                    case rel => exact ⟨g + 1, by omega, by go_num, fun j hj => by rcases Nat.lt_succ_iff_lt_or_eq.1 hj with h1 | rfl; exact HG.out j h1; exact HE.out, HBA.out⟩
                    case measure => simp [intOf]; omega
                  · have hne : (leadL qs x [(g : Int), (g : Int)] != (x : Int)) = true := by simpa using he
                    have HX2 := Lib.hid (holdB_no3 (ws := d.2) HQ.out (g := g) (by rw [HL.out]; exact hlg) hxm he)
                    clear he
                    go_wp2_with (go_at_call 71; refine (specLead_any _ _ _ qs _ _ _ [(g : Int), (g : Int)] x m _ HII.out HP2.out hxm HQ.out HGQ.out).mono ?_; rintro e w' ⟨rfl, hw'⟩; subst hw')
                    go_ret2
                    exact ⟨by rw [HX.out.1, HX.out.2, HX2.out]; rfl, below_tr HBA.out B1⟩
                · obtain rfl : g = k := by omega
                  have hr2 := hr1.below hb
                  have h2 := h1.below hb
                  go_wp2_with fail
                  go_loop [9] (fun i => ∃ j : Nat, j ≤ rn ∧ i = .int .i64 j ∧ ∀ i, i < j → leadL qs x (lget d.2 i) = x) (fun i => rn - (intOf i).toNat)
                  case atStart => exact ⟨0, Nat.zero_le _, rfl, fun j hj => absurd hj (by omega)⟩
                  case round =>
                    obtain ⟨j, hj, rfl, hinv⟩ := hrel
                    have HI := Lib.hid hinv
                    clear hinv
                    by_cases hlt2 : j < rn
                    · obtain ⟨b3, off3, a3, n3, c3, rfl, hc3, h3⟩ := hr2.at_ hlt2
                      have hw3 : ∀ z ∈ lget d.2 j, 0 ≤ z ∧ z < qs.length := fun z hz => by have := (HWD.out j (by rw [HR.out]; exact hlt2)).2 z hz; have := HLEN.out; omega
                      have HW3 := Lib.hid hw3
                      clear hw3
                      by_cases he : leadL qs x (lget d.2 j) = x
                      · have HE := Lib.hid he
                        clear he
                        go_wp2_with (go_at_call 71; refine (specLead_any _ _ _ qs _ _ _ (lget d.2 j) x m _ h2 h3 hxm HQ.out HW3.out).mono ?_; rintro e w' ⟨rfl, hw'⟩; subst hw'; rw [HE.out])
                        go_roundw
                        case rel => exact ⟨j + 1, by omega, by go_num, fun i hi => by rcases Nat.lt_succ_iff_lt_or_eq.1 hi with h1 | rfl; exact HI.out i h1; exact HE.out⟩
                        case measure => simp [intOf]; omega
                      · have hne : (leadL qs x (lget d.2 j) != (x : Int)) = true := by simpa using he
                        have HX2 := Lib.hid (holdB_no2 (ws := d.2) (qs := qs) (i := j) (x := x) (by rw [HR.out]; exact hlt2) (by rw [HM.out]; exact hxm) he)
                        clear he
                        go_wp2_with (go_at_call 71; refine (specLead_any _ _ _ qs _ _ _ (lget d.2 j) x m _ h2 h3 hxm HQ.out HW3.out).mono ?_; rintro e w' ⟨rfl, hw'⟩; subst hw')
                        go_ret2
                        exact ⟨by rw [HX.out.1, HX.out.2, HX2.out]; rfl, BR⟩
                    · obtain rfl : j = rn := by omega
                      go_wp2_with fail
                      go_roundw
                      case rel => exact ⟨x + 1, by omega, by go_num, fun y hy => by rcases Nat.lt_succ_iff_lt_or_eq.1 hy with h1 | rfl; exact HI1.out y h1; exact fun g' hg2 => HG.out g' (by rw [HL.out] at hg2; exact hg2), fun y hy => by rcases Nat.lt_succ_iff_lt_or_eq.1 hy with h1 | rfl; exact HI2.out y h1; exact HI.out, hb⟩
                      case measure => simp [intOf]; omega
            · obtain rfl : x = m := by omega
              have HX2 := Lib.hid (holdB_yes (ws := d.2) HQ.out HM.out HI1.out (by rw [HR.out]; exact HI2.out))
              go_wp2_with fail
              go_ret2
              exact ⟨by rw [HX.out.1, HX.out.2, HX2.out]; rfl, BR⟩
    · have HX := Lib.hid (holdR_no (holdArgs_2 hlen))
      have hne : ((n : Int) != d.1) = true := by rw [← HL.out]; simpa using hlen
      go_enter Try.func29, Try.ntmps29
      go_wp2_with fail
      refine (spec11Is_any _ hp0).mono ?_
      rintro e w1 ⟨rfl, b1⟩
      rw [HP.out]
      have y0 : w1.cell? ⟨w.heap.size, 0, none⟩ = some (.int .i64 d.1) := (kb.belowS b1).cell 0
      go_wp2_with fail
      go_ret2
      exact ⟨by rw [HX.out.1, HX.out.2]; rfl, below_tr b1 hb⟩
end Go.Proofs.Ytdkmihnpobobiaa
