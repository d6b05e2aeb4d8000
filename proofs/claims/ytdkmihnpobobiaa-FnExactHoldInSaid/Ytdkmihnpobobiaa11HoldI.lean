/- holdIn: whether permutations hold a presentation. -/
import Derived.Test.Ytdkmihnpobobiaa11Hold
namespace Go.Proofs.Ytdkmihnpobobiaa
open Go.RowKit

/-- a word leads every one of m points to itself -/
def fixes (qs : List (List Int)) (m : Nat) (w : List Int) : Bool := (List.range m).all fun x => leadL qs x w == (x : Int)
theorem fixes_true {qs : List (List Int)} {m : Nat} {w : List Int} : fixes qs m w = true ↔ ∀ x, x < m → leadL qs x w = x := by
  unfold fixes; rw [List.all_eq_true]
  exact ⟨fun h i hi => by have := h i (List.mem_range.2 hi); simpa using this, fun h i hi => by have := h i (List.mem_range.1 hi); simpa using this⟩
/-- each permutation is its own inverse -/
def involsL (qs : List (List Int)) : Bool := qs.all fun q => isIden (thenL q q)
def fixAll (qs : List (List Int)) (m : Nat) (ws : List (List Int)) : Bool := ws.all fun w => fixes qs m w
/-- the permutations hold the relators -/
def holdB (ws qs : List (List Int)) : Bool := involsL qs && fixAll qs (lget qs 0).length ws

theorem involsL_true {qs : List (List Int)} : involsL qs = true ↔ ∀ k, k < qs.length → isIden (thenL (lget qs k) (lget qs k)) = true := by
  unfold involsL; rw [List.all_eq_true]
  exact ⟨fun h k hk => h _ (lget_mem hk), fun h q hq => by obtain ⟨k, hk, rfl⟩ := List.getElem_of_mem hq; rw [← lget_lt hk]; exact h k hk⟩
theorem fixAll_true {qs ws : List (List Int)} {m : Nat} : fixAll qs m ws = true ↔ ∀ i, i < ws.length → ∀ x, x < m → leadL qs x (lget ws i) = x := by
  unfold fixAll; rw [List.all_eq_true]
  exact ⟨fun h k hk => fixes_true.1 (h _ (lget_mem hk)), fun h q hq => by obtain ⟨k, hk, rfl⟩ := List.getElem_of_mem hq; rw [← lget_lt hk]; exact fixes_true.2 (h k hk)⟩
theorem not_true {b : Bool} (h : ¬ b = true) : b = false := by cases b <;> simp_all
theorem holdB_no1 {ws qs : List (List Int)} {k : Nat} (hk : k < qs.length) (h : isIden (thenL (lget qs k) (lget qs k)) = false) : holdB ws qs = false := by
  refine not_true fun e => ?_
  unfold holdB at e; rw [Bool.and_eq_true] at e
  rw [involsL_true.1 e.1 k hk] at h; cases h
theorem holdB_no2 {ws qs : List (List Int)} {i x : Nat} (hi : i < ws.length) (hx : x < (lget qs 0).length) (h : leadL qs x (lget ws i) ≠ x) : holdB ws qs = false := by
  refine not_true fun e => ?_
  unfold holdB at e; rw [Bool.and_eq_true] at e
  exact h (fixAll_true.1 e.2 i hi x hx)

set_option maxRecDepth 100000 in
set_option maxHeartbeats 1600000 in
theorem implHold_any {v : Value} {d : PresD} (ao : Option Addr) (n c m : Nat) (qs : List (List Int)) (w : World) (h : RdP w v d) (h' : Intss w ao n qs) (hm : (lget qs 0).length = m) (hn : 0 < n) (hms : m ≤ 400) (hq : Leads qs m) (hws : ∀ i, i < d.2.length → ∀ z ∈ lget d.2 i, 0 ≤ z ∧ z < qs.length) :
    Calls Try.prog 77 #[v, .slice ao n c] w fun e w' => e = .returned (.bool (holdB d.2 qs)) ∧ Below w.heap.size w w' := by
  obtain ⟨ro, rn, rc, rfl, hr⟩ := h
  have HL := Lib.hid h'.1
  have HR := Lib.hid hr.1
  have hn1 := h'.2.1
  have hn2 := hr.2.1
  have HQ := Lib.hid hq
  have HWS := Lib.hid hws
  have HM := Lib.hid hm
  have hb := below_alloc1 w (.cells #[.int .i64 d.1, .slice ro rn rc] 25)
  have kb : Blk (w.alloc (.cells #[.int .i64 d.1, .slice ro rn rc] 25)) w.heap.size 25 #[.int .i64 d.1, .slice ro rn rc] := blk_at rfl
  clear hq hws
  go_enter Try.func77, Try.ntmps77
  go_wp2_with fail
  go_loopw [12] (fun i wr => ∃ k : Nat, k ≤ n ∧ i = .int .i64 k ∧ (∀ j, j < k → isIden (thenL (lget qs j) (lget qs j)) = true) ∧ Below (w.heap.size + 1) (w.alloc (.cells #[.int .i64 d.1, .slice ro rn rc] 25)) wr) (fun i _ => n - (intOf i).toNat)
  case atStart => exact ⟨0, Nat.zero_le _, rfl, fun j hj => absurd hj (by omega), Below.refl _ _⟩
  case round =>
    obtain ⟨k, hk, rfl, hinv, hb2⟩ := hrel
    have HI := Lib.hid hinv
    have b1 : Below w.heap.size w wr := hb.trans (hb2.mono (by omega))
    have kb2 := kb.below hb2 (by omega)
    clear hinv kb hb
    by_cases hlt : k < n
    · obtain ⟨b, off, a1, n1, c1, rfl, hc, h1⟩ := (h'.below b1).at_ hlt
      have hlen := HQ.out.len k (by rw [HL.out]; exact hlt)
      obtain rfl : m = n1 := by rw [← hlen]; exact h1.1
      have hwi := HQ.out.within k (by rw [HL.out]; exact hlt)
      have HW := Lib.hid hwi
      clear hwi hlen
      go_wp2_with fail
      refine (then_any a1 m c1 (lget qs k) a1 m c1 (lget qs k) _ h1 h1 (by omega) HW.out).mono ?_
      rintro e w2 ⟨a2, c2, rfl, o2, b2⟩
      have h2 := o2.ints
      have B2 := below_tr b2 b1
      have hb3 : Below (w.heap.size + 1) (w.alloc (.cells #[.int .i64 d.1, .slice ro rn rc] 25)) w2 := hb2.trans (b2.mono (by have := hb2.size; simp at this; omega))
      clear b2 hb2 o2 h1 hc
      go_wp2_with fail
      refine (isIdentity_any a2 m c2 _ _ h2).mono ?_
      rintro e w3 ⟨rfl, hw3⟩
      subst hw3
      cases hid : isIden (thenL (lget qs k) (lget qs k)) with
      | true =>
        have HD := Lib.hid hid
        clear hid
        go_wp2_with fail
        go_roundw
        case rel => exact ⟨k + 1, by omega, by go_num, fun j hj => by rcases Nat.lt_succ_iff_lt_or_eq.1 hj with h1 | rfl; exact HI.out j h1; exact HD.out, hb3⟩
        case measure => simp [intOf]; omega
      | false =>
        have HD := Lib.hid hid
        clear hid
        go_wp2_with fail
        go_ret
        exact ⟨ret_bool (holdB_no1 (by rw [HL.out]; exact hlt) HD.out).symm, B2⟩
    · obtain rfl : k = n := by omega
      have x1 : wr.cell? ⟨w.heap.size, 1, none⟩ = some (.slice ro rn rc) := kb2.cell 1
      have hinvs : involsL qs = true := involsL_true.2 (by rw [HL.out]; exact HI.out)
      have HV := Lib.hid hinvs
      obtain ⟨b, off, a1, n1, c1, rfl, hc, h1⟩ := (h'.below b1).at_ hn
      rw [Nat.add_zero] at hc
      obtain rfl : m = n1 := by rw [← HM.out]; exact h1.1
      have hr2 := hr.below b1
      have h2 := h'.below b1
      clear hinvs hb2 kb2 hr h' HI h1
      go_wp2_with fail
      go_loop [25] (fun i => ∃ j : Nat, j ≤ rn ∧ i = .int .i64 j ∧ ∀ i, i < j → ∀ x, x < m → leadL qs x (lget d.2 i) = x) (fun i => rn - (intOf i).toNat)
      case atStart => exact ⟨0, Nat.zero_le _, rfl, fun j hj => absurd hj (by omega)⟩
      case round =>
        obtain ⟨j, hj, rfl, hinv⟩ := hrel
        have HI := Lib.hid hinv
        clear hinv
        by_cases hlt2 : j < rn
        · obtain ⟨b3, off3, a3, n3, c3, rfl, hc3, h3⟩ := hr2.at_ hlt2
          go_wp2_with (go_at_call 119; refine (size_any _ _ _ _).mono ?_; rintro e w' ⟨rfl, rfl⟩)
          go_loop [33] (fun i => ∃ x : Nat, x ≤ m ∧ i = .int .i64 x ∧ ∀ y, y < x → leadL qs y (lget d.2 j) = y) (fun i => m - (intOf i).toNat)
          case atStart => exact ⟨0, Nat.zero_le _, rfl, fun j hj => absurd hj (by omega)⟩
          case round =>
            obtain ⟨x, hx, rfl, hinv⟩ := hrel
            have HX := Lib.hid hinv
            clear hinv
            by_cases hlt3 : x < m
            · by_cases he : leadL qs x (lget d.2 j) = x
              · have HE := Lib.hid he
                clear he
                go_wp2_with (go_at_call 134; refine (applied_any _ _ _ qs _ _ _ (lget d.2 j) x m _ h2 h3 hlt3 HQ.out (HWS.out j (by rw [HR.out]; exact hlt2))).mono ?_; rintro e w' ⟨rfl, hw'⟩; subst hw'; rw [HE.out])
                go_roundw
                case rel => exact ⟨x + 1, by omega, by go_num, fun y hy => by rcases Nat.lt_succ_iff_lt_or_eq.1 hy with h1 | rfl; exact HX.out y h1; exact HE.out⟩
                case measure => simp [intOf]; omega
              · have hne : (leadL qs x (lget d.2 j) != (x : Int)) = true := by simpa using he
                go_wp2_with (go_at_call 134; refine (applied_any _ _ _ qs _ _ _ (lget d.2 j) x m _ h2 h3 hlt3 HQ.out (HWS.out j (by rw [HR.out]; exact hlt2))).mono ?_; rintro e w' ⟨rfl, hw'⟩; subst hw')
                go_ret
                exact ⟨ret_bool (holdB_no2 (i := j) (x := x) (by rw [HR.out]; exact hlt2) (by rw [HM.out]; exact hlt3) he).symm, b1⟩
            · obtain rfl : x = m := by omega
              go_wp2_with fail
              go_roundw
              case rel => exact ⟨j + 1, by omega, by go_num, fun i hi => by rcases Nat.lt_succ_iff_lt_or_eq.1 hi with h1 | rfl; exact HI.out i h1; exact HX.out⟩
              case measure => simp [intOf]; omega
        · obtain rfl : j = rn := by omega
          go_wp2_with fail
          go_ret
          exact ⟨ret_bool (by unfold holdB; rw [HV.out, HM.out, fixAll_true.2 (by rw [HR.out]; exact HI.out)]; rfl), b1⟩
end Go.Proofs.Ytdkmihnpobobiaa
