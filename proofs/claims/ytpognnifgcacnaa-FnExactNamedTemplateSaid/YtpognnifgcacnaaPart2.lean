/- Named templates: the names' words, the four basic templates; the words on both sides. -/
import Derived.Test.YtpognnifgcacnaaPart1
import Derived.Laws.BytesString
import Derived.Deep.RegionHeld3
import Derived.Deep.RegionLaw
namespace Go.Proofs.Ytpognnifgcacnaa
open Go.RowKit

/-- the basic template of a letter -/
def basT (c : Nat) : List (List (Int × Int)) :=
  if c = 100 then [[(0, 2), (0, 1), (0, 0)]]
  else if c = 97 then [[(0, 1), (0, 0), (1, -1)], [(1, 1), (1, 2), (0, -1)]]
  else if c = 116 then [[(0, 0), (1, -1), (0, 2)], [(1, 1), (0, -1), (2, -1)], [(2, 1), (2, 2), (1, -1)]]
  else if c = 99 then [[(1, -1), (0, 2), (0, 1)], [(0, -1), (2, -1), (1, 1)], [(2, 0), (1, -1), (3, -1)], [(3, 0), (3, 1), (2, -1)]]
  else []
def IsBas (c : Nat) : Prop := c = 100 ∨ c = 97 ∨ c = 116 ∨ c = 99
/-- the word of a name -/
def nmL (b : Nat) : List Nat :=
  if b = 100 then [100] else if b = 97 then [97] else if b = 116 then [116] else if b = 99 then [99]
  else if b = 98 then [97, 116] else if b = 101 then [97, 97] else if b = 106 then [97, 100] else if b = 107 then [100, 116, 100]
  else if b = 109 then [97, 116, 100] else if b = 110 then [116, 100] else if b = 111 then [97, 97, 100] else if b = 122 then [100, 116]
  else []
def nmS (b : Nat) : ByteArray := ⟨((nmL b).map UInt8.ofNat).toArray⟩
def nmF : List Nat → List (List (Int × Int))
  | [] => []
  | c :: r => r.foldl (fun t x => cmD t (basT x)) (basT c)
theorem nmF_succ {l : List Nat} {k : Nat} (h0 : 0 < k) (hk : k < l.length) : nmF (l.take (k + 1)) = cmD (nmF (l.take k)) (basT (l.getD k 0)) := by
  cases l with
  | nil => simp at hk
  | cons c r =>
    obtain ⟨j, rfl⟩ : ∃ j, k = j + 1 := ⟨k - 1, by omega⟩
    simp at hk
    have : r.take (j + 1) = r.take j ++ [r[j]] := List.take_succ_eq_append_getElem hk
    simp only [List.take_succ_cons, nmF, this, List.foldl_append, List.foldl_cons, List.foldl_nil, List.getD_cons_succ]
    simp [hk]
theorem nm_cases (b : Nat) : (b = 100 ∨ b = 97 ∨ b = 116 ∨ b = 99 ∨ b = 98 ∨ b = 101 ∨ b = 106 ∨ b = 107 ∨ b = 109 ∨ b = 110 ∨ b = 111 ∨ b = 122) ∨
    (b ≠ 100 ∧ b ≠ 97 ∧ b ≠ 116 ∧ b ≠ 99 ∧ b ≠ 98 ∧ b ≠ 101 ∧ b ≠ 106 ∧ b ≠ 107 ∧ b ≠ 109 ∧ b ≠ 110 ∧ b ≠ 111 ∧ b ≠ 122) := by omega
theorem nmL_none {b : Nat} (h : b ≠ 100 ∧ b ≠ 97 ∧ b ≠ 116 ∧ b ≠ 99 ∧ b ≠ 98 ∧ b ≠ 101 ∧ b ≠ 106 ∧ b ≠ 107 ∧ b ≠ 109 ∧ b ≠ 110 ∧ b ≠ 111 ∧ b ≠ 122) : nmL b = [] := by
  obtain ⟨h1, h2, h3, h4, h5, h6, h7, h8, h9, h10, h11, h12⟩ := h
  simp [nmL, h1, h2, h3, h4, h5, h6, h7, h8, h9, h10, h11, h12]

/-- a template, tested -/
def tmpK (d : List (List (Int × Int))) : Bool :=
  decide (1 ≤ d.length ∧ d.length ≤ 12) && (List.range d.length).all fun j => decide ((lget d j).length = 3) &&
    ((List.range 3).all fun i => decide ((0 ≤ tP d j i ∧ tP d j i ≤ (d.length : Int) - 1) ∧ -1 ≤ tM d j i ∧ tM d j i ≤ 2) && decide (¬ (tP d j i = j ∧ tM d j i < 0)) && decide (tP d (tP d j i).toNat i = j ∧ tM d (tP d j i).toNat i = tM d j i)) &&
    decide (tP d (tP d j 0).toNat 2 = tP d (tP d j 2).toNat 0 ∧ tM d (tP d j 0).toNat 2 = tM d j 2 ∧ tM d (tP d j 2).toNat 0 = tM d j 0 ∧ cmM (tM d j 0) (tM d j 2) = true ∧ ¬ (tM d j 0 = tM d j 2 ∧ tP d (tP d j 0).toNat 2 = j))
theorem tmpK_is {d : List (List (Int × Int))} (h : tmpK d = true) : Tmp d := by
  unfold tmpK at h
  simp only [Bool.and_eq_true, decide_eq_true_eq, List.all_eq_true, List.mem_range] at h
  obtain ⟨⟨h1, h2⟩, h3⟩ := h
  exact ⟨h1, h2, fun j hj => (h3 j hj).1.1, fun j hj i hi => ((h3 j hj).1.2 i hi).1.1, fun j hj i hi => ((h3 j hj).1.2 i hi).1.2, fun j hj i hi => ((h3 j hj).1.2 i hi).2, fun j hj => (h3 j hj).2⟩
theorem basT_tmp {c : Nat} (h : IsBas c) : Tmp (basT c) := by
  rcases h with rfl | rfl | rfl | rfl <;> exact tmpK_is (by decide +kernel)
theorem nm_len (b : Nat) : (nmL b).length ≤ 3 := by
  rcases nm_cases b with h | h
  · rcases h with rfl | rfl | rfl | rfl | rfl | rfl | rfl | rfl | rfl | rfl | rfl | rfl <;> decide
  · rw [nmL_none h]; simp
theorem nm_tmp {b k : Nat} (h0 : 0 < k) (hk : k < (nmL b).length) : Tmp (nmF ((nmL b).take k)) := by
  have hl := nm_len b
  have h3 : k = 1 ∨ k = 2 := by omega
  clear hl h0
  rcases nm_cases b with h | h
  · clear hk
    rcases h with rfl | rfl | rfl | rfl | rfl | rfl | rfl | rfl | rfl | rfl | rfl | rfl <;> rcases h3 with rfl | rfl <;> exact tmpK_is (by decide +kernel)
  · rw [nmL_none h] at hk; simp at hk
theorem nm_bas {b k : Nat} (hk : k < (nmL b).length) : IsBas ((nmL b).getD k 0) := by
  rcases nm_cases b with h | h
  · rcases h with rfl | rfl | rfl | rfl | rfl | rfl | rfl | rfl | rfl | rfl | rfl | rfl <;>
    · simp [nmL] at hk
      have hk3 : k = 0 ∨ k = 1 ∨ k = 2 := by omega
      rcases hk3 with rfl | rfl | rfl <;> first | (exfalso; omega) | (unfold IsBas; decide)
  · rw [nmL_none h] at hk; simp at hk
theorem nm_fsmall (b : Nat) : lenTT0 (nmF (nmL b)) ≤ 36 := by
  rcases nm_cases b with h | h
  · rcases h with rfl | rfl | rfl | rfl | rfl | rfl | rfl | rfl | rfl | rfl | rfl | rfl <;> decide +kernel
  · rw [nmL_none h]; simp [nmF, lenTT0]

/-- string([]byte{x}) -/
theorem conv1 (w : World) (z : Int) : (convert 64 9 (.slice (some ⟨w.heap.size, 0, none⟩) 1 1)).run Try.prog (w.alloc (.cells #[.int .u8 z] 5)) = .ok (.string ⟨#[UInt8.ofNat z.toNat]⟩) (w.alloc (.cells #[.int .u8 z] 5)) := by
  refine (run_convert_bytes_string _ 64 9 5 _ 1 1 Try.underlying64 Try.underlying5 Try.underlying9).trans ?_
  refine (run_bytesToString _ _ 1 1 [z] ?_).trans rfl
  refine run_loadCells_list _ ⟨w.heap.size, 0, none⟩ [.int .u8 z] fun j v hv => ?_
  match j, hv with
  | 0, hv => simp at hv; subst hv; simp [Addr.add]

set_option maxRecDepth 100000 in
set_option maxHeartbeats 1600000 in
theorem specWord_any (b : Nat) (w : World) (hb : b < 256) : Calls Try.prog 91 #[.int .u8 b] w fun e w' => e = .returned (.string (nmS b)) ∧ Below w.heap.size w w' := by
  rcases nm_cases b with h | ⟨h1, h2, h3, h4, h5, h6, h7, h8, h9, h10, h11, h12⟩
  · rcases h with rfl | rfl | rfl | rfl | rfl | rfl | rfl | rfl | rfl | rfl | rfl | rfl
    · have hc := conv1 w 100
      go_enter Try.func91, Try.ntmps91
      go_wp2
      go_ret
      exact ⟨rfl, below_alloc1 _ _⟩
    · have hc := conv1 w 97
      go_enter Try.func91, Try.ntmps91
      go_wp2
      go_ret
      exact ⟨rfl, below_alloc1 _ _⟩
    · have hc := conv1 w 116
      go_enter Try.func91, Try.ntmps91
      go_wp2
      go_ret
      exact ⟨rfl, below_alloc1 _ _⟩
    · have hc := conv1 w 99
      go_enter Try.func91, Try.ntmps91
      go_wp2
      go_ret
      exact ⟨rfl, below_alloc1 _ _⟩
    all_goals
      go_enter Try.func91, Try.ntmps91
      go_wp2
      go_ret
      exact ⟨rfl, Below.refl _ _⟩
  · have HS : Hid (nmS b = ⟨#[]⟩) := Lib.hid (by unfold nmS; rw [nmL_none ⟨h1, h2, h3, h4, h5, h6, h7, h8, h9, h10, h11, h12⟩]; rfl)
    have k1 : ((b : Int) == 100) = false := by simp; omega
    have k2 : ((b : Int) == 97) = false := by simp; omega
    have k3 : ((b : Int) == 116) = false := by simp; omega
    have k4 : ((b : Int) == 99) = false := by simp; omega
    have k5 : ((b : Int) == 98) = false := by simp; omega
    have k6 : ((b : Int) == 101) = false := by simp; omega
    have k7 : ((b : Int) == 106) = false := by simp; omega
    have k8 : ((b : Int) == 107) = false := by simp; omega
    have k9 : ((b : Int) == 109) = false := by simp; omega
    have k10 : ((b : Int) == 110) = false := by simp; omega
    have k11 : ((b : Int) == 111) = false := by simp; omega
    have k12 : ((b : Int) == 122) = false := by simp; omega
    clear h1 h2 h3 h4 h5 h6 h7 h8 h9 h10 h11 h12
    go_enter Try.func91, Try.ntmps91
    go_wp2
    go_ret
    exact ⟨by rw [HS.out]; rfl, Below.refl _ _⟩

set_option maxRecDepth 100000 in
set_option maxHeartbeats 1600000 in
theorem implWord_any (b : Nat) (w : World) (hb : b < 256) : Calls Try.prog 93 #[.int .u8 b] w fun e w' => e = .returned (.string (nmS b)) ∧ Below w.heap.size w w' := by
  rcases nm_cases b with h | ⟨h1, h2, h3, h4, h5, h6, h7, h8, h9, h10, h11, h12⟩
  · rcases h with rfl | rfl | rfl | rfl | rfl | rfl | rfl | rfl | rfl | rfl | rfl | rfl
    · have hc := conv1 w 100
      go_enter Try.func93, Try.ntmps93
      go_wp2
      go_ret
      exact ⟨rfl, below_alloc1 _ _⟩
    · have hc := conv1 w 97
      go_enter Try.func93, Try.ntmps93
      go_wp2
      go_ret
      exact ⟨rfl, below_alloc1 _ _⟩
    · have hc := conv1 w 116
      go_enter Try.func93, Try.ntmps93
      go_wp2
      go_ret
      exact ⟨rfl, below_alloc1 _ _⟩
    · have hc := conv1 w 99
      go_enter Try.func93, Try.ntmps93
      go_wp2
      go_ret
      exact ⟨rfl, below_alloc1 _ _⟩
    all_goals
      go_enter Try.func93, Try.ntmps93
      go_wp2
      go_ret
      exact ⟨rfl, Below.refl _ _⟩
  · have HS : Hid (nmS b = ⟨#[]⟩) := Lib.hid (by unfold nmS; rw [nmL_none ⟨h1, h2, h3, h4, h5, h6, h7, h8, h9, h10, h11, h12⟩]; rfl)
    have k1 : ((b : Int) == 100) = false := by simp; omega
    have k2 : ((b : Int) == 97) = false := by simp; omega
    have k3 : ((b : Int) == 116) = false := by simp; omega
    have k4 : ((b : Int) == 99) = false := by simp; omega
    have k5 : ((b : Int) == 98) = false := by simp; omega
    have k6 : ((b : Int) == 101) = false := by simp; omega
    have k7 : ((b : Int) == 106) = false := by simp; omega
    have k8 : ((b : Int) == 107) = false := by simp; omega
    have k9 : ((b : Int) == 109) = false := by simp; omega
    have k10 : ((b : Int) == 110) = false := by simp; omega
    have k11 : ((b : Int) == 111) = false := by simp; omega
    have k12 : ((b : Int) == 122) = false := by simp; omega
    clear h1 h2 h3 h4 h5 h6 h7 h8 h9 h10 h11 h12
    go_enter Try.func93, Try.ntmps93
    go_wp2
    go_ret
    exact ⟨by rw [HS.out]; rfl, Below.refl _ _⟩
end Go.Proofs.Ytpognnifgcacnaa

/- The composition of two templates, the reference's. -/
namespace Go.Proofs.Ytpognnifgcacnaa
open Go.RowKit

theorem Tgtss.rows {w : World} {ao : Option Addr} {n : Nat} {d : List (List (Int × Int))} (h : Tgtss w ao n d) (hn : 0 < n) :
    ∃ b off, ao = some ⟨b, off, none⟩ ∧ ∀ j, j < n → ∃ a' n' c', w.cell? ⟨b, off + j, none⟩ = some (.slice a' n' c') ∧ Tgts w a' n' (lget d j) := by
  obtain ⟨b, off, e, hc⟩ := h.2.2 hn
  refine ⟨b, off, e, fun j hj => ?_⟩
  obtain ⟨u, h2, a', n', c', rfl, h3⟩ := hc j hj
  exact ⟨a', n', c', h2, h3⟩

theorem et2T : ET2 Try.prog 100 143 16 := ⟨Try.underlying100, by kernel_rfl, by omega⟩
theorem etTT : ET Try.prog 27 100 (.slice none 0 0) 24 := ⟨Try.underlying27, by kernel_rfl, rfl, by omega⟩
theorem mul_small {x y : Int} (hx : 0 ≤ x ∧ x ≤ 12) (hy : 0 ≤ y ∧ y ≤ 12) : 0 ≤ x * y ∧ x * y ≤ 144 :=
  ⟨Int.mul_nonneg hx.1 hy.1, by have := Int.mul_le_mul hx.2 hy.2 hy.1 (by omega : (0:Int) ≤ 12); omega⟩

set_option maxRecDepth 100000 in
set_option maxHeartbeats 3200000 in
theorem specCmp_any (ao bo : Option Addr) (n c m c2 : Nat) (d e : List (List (Int × Int))) (w : World) (h : Tgtss w ao n d) (h' : Tgtss w bo m e) (hT : Tmp d) (hU : Tmp e) :
    Calls Try.prog 86 #[.agg #[.slice ao n c], .agg #[.slice bo m c2]] w fun r w' => ∃ v, r = .returned v ∧ OwT 143 100 w' w.heap.size w'.heap.size v (cmD d e) ∧ Below w.heap.size w w' := by
  have hl := h.1
  have hl' := h'.1
  have n1 := hT.one
  have n2 := hT.few
  have m1 := hU.one
  have m2 := hU.few
  rw [hl] at n1 n2
  rw [hl'] at m1 m2
  obtain ⟨b, off, rfl, hrow⟩ := h.rows (by omega)
  obtain ⟨b', off', rfl, hrow'⟩ := h'.rows (by omega)
  have HL := Lib.hid hl
  have HL' := Lib.hid hl'
  have H1 := Lib.hid hrow
  have H2 := Lib.hid hrow'
  have HT := Lib.hid hT
  have HU := Lib.hid hU
  clear h h' hT hU hl hl' hrow hrow'
  go_enter Try.func86, Try.ntmps86
  go_wp2_with fail
  have st0 : CmpSt w ((((w.alloc (.cells #[.slice (some ⟨b, off, none⟩) n c] 29)).alloc (.cells #[.slice (some ⟨b', off', none⟩) m c2] 29)).alloc (.cells #[.slice none 0 0] 29)).alloc (.cells #[.slice none 0 0] 29)) (.slice (some ⟨b, off, none⟩) n c) (.slice (some ⟨b', off', none⟩) m c2) none 0 0 [] [] :=
    CmpSt.start ((below_alloc3 w _ _ _).alloc (by simp; omega) _) ((((blk_at rfl).alloc _).alloc _).alloc _) (((blk_at (by simp)).alloc _).alloc _) ((blk_at (by simp)).alloc _) (blk_at (by simp)) (by simp)
  generalize (((w.alloc (.cells #[.slice (some ⟨b, off, none⟩) n c] 29)).alloc (.cells #[.slice (some ⟨b', off', none⟩) m c2] 29)).alloc (.cells #[.slice none 0 0] 29)).alloc (.cells #[.slice none 0 0] 29) = w1 at *
  go_loopw [7] (fun i wr => ∃ (j q : Nat) (ao' : Option Addr) (c' : Nat) (us : List Value), i = .int .i64 j ∧ j ≤ n ∧ CmpSt w wr (.slice (some ⟨b, off, none⟩) n c) (.slice (some ⟨b', off', none⟩) m c2) ao' q c' us (cmUp d e j)) (fun i _ => n - (intOf i).toNat)
  case atStart => exact ⟨0, 0, none, 0, [], rfl, Nat.zero_le _, st0⟩
  case round =>
    obtain ⟨j, q, ao', c', us, rfl, hj, st⟩ := hrel
    clear st0
    have x0 := st.tt.cell 0
    have x1 := st.uu.cell 0
    simp at x0 x1
    have ST := Lib.hid st
    clear st
    by_cases hlt : j < n
    · go_wp2_with fail
      go_loopw [8] (fun i wr => ∃ (k q : Nat) (ao' : Option Addr) (c' : Nat) (us : List Value), i = .int .i64 k ∧ k ≤ m ∧ CmpSt w wr (.slice (some ⟨b, off, none⟩) n c) (.slice (some ⟨b', off', none⟩) m c2) ao' q c' us (cmUp d e j ++ cmPart d e j k)) (fun i _ => m - (intOf i).toNat)
      case atStart => exact ⟨0, q, ao', c', us, rfl, Nat.zero_le _, by rw [show cmPart d e j 0 = [] from rfl, List.append_nil]; exact ST.out⟩
      case round =>
        clear x0 x1 ST
        obtain ⟨k, q, ao', c', us, rfl, hk, st⟩ := hrel
        have x0 := st.tt.cell 0
        have x1 := st.uu.cell 0
        simp at x0 x1
        have ST := Lib.hid st
        clear st
        by_cases hlt2 : k < m
        · obtain ⟨w2, hw2⟩ : ∃ w2, w2 = wr := ⟨_, rfl⟩
          subst hw2
          go_wp2_with fail
          go_loopw [9, 10] (fun v i wi => ∃ (s : Nat) (a' : Option Addr) (c' : Nat), v = .slice a' s c' ∧ i = .int .i64 s ∧ s ≤ 3 ∧ Below w2.heap.size w2 wi ∧ Own2 wi w2.heap.size 143 a' s c' (cmRow d e j k s)) (fun _ i _ => 3 - (intOf i).toNat)
          case atStart => exact ⟨0, _, _, rfl, rfl, by omega, below_alloc1 _ _, Own2.empty_ w2 (Nat.le_refl _)⟩
          case round =>
            obtain ⟨s, a', c'', rfl, rfl, hs, hb, ho⟩ := hrel
            clear x0 x1
            have x0 := (ST.out.tt.belowS hb).cell 0
            have x1 := (ST.out.uu.belowS hb).cell 0
            simp at x0 x1
            have HB := Lib.hid hb
            have HO := Lib.hid ho
            have HBW := Lib.hid (below_tr hb ST.out.below)
            clear hb ho
            by_cases hlt3 : s < 3
            · obtain ⟨a1, n1', c1, hc, hi⟩ := H2.out k hlt2
              obtain rfl : n1' = 3 := by rw [← hi.1]; exact HU.out.three k (by rw [HL'.out]; exact hlt2)
              have hc' := (HBW.out.cell (p := ⟨b', off' + k, none⟩) (World.block_lt_of_cell? w _ hc)).trans hc
              obtain ⟨b1, o1, rfl, p1, p2⟩ := (hi.below HBW.out).at_ hlt3
              have hR := HU.out.rng k (by rw [HL'.out]; exact hlt2) s hlt3
              have hTP : tP e k s = kA (lget e k) s := rfl
              have hTM : tM e k s = kB (lget e k) s := rfl
              unfold RgT at hR
              rw [hTP, hTM, HL'.out] at hR
              generalize kA (lget e k) s = X at *
              generalize kB (lget e k) s = Y at *
              have HTP := Lib.hid hTP
              have HTM := Lib.hid hTM
              obtain ⟨hR1, hR2, hR3⟩ := hR
              clear hTP hTM hc hi
              by_cases hY : 0 ≤ Y
              · obtain ⟨y, rfl⟩ : ∃ y : Nat, Y = (y : Int) := ⟨Y.toNat, by omega⟩
                obtain ⟨a3, n3, c3, gc, gi⟩ := H1.out j hlt
                obtain rfl : n3 = 3 := by rw [← gi.1]; exact HT.out.three j (by rw [HL.out]; exact hlt)
                have gc' := (HBW.out.cell (p := ⟨b, off + j, none⟩) (World.block_lt_of_cell? w _ gc)).trans gc
                obtain ⟨b3, o3, rfl, q1, q2⟩ := (gi.below HBW.out).at_ (k := y) (by omega)
                have hR := HT.out.rng j (by rw [HL.out]; exact hlt) y (by omega)
                have hTP2 : tP d j y = kA (lget d j) y := rfl
                have hTM2 : tM d j y = kB (lget d j) y := rfl
                unfold RgT at hR
                rw [hTP2, hTM2, HL.out] at hR
                generalize kA (lget d j) y = U at *
                generalize kB (lget d j) y = V at *
                have HTP2 := Lib.hid hTP2
                have HTM2 := Lib.hid hTM2
                obtain ⟨hR4, hR5, hR6⟩ := hR
                clear hTP2 hTM2 gc gi
                have hbw := below_alloc2 wr (.cells #[.int .i64 X, .int .i64 y] 143) (.cells #[.int .i64 j, .int .i64 (-1)] 143)
                have k11 : Blk ((wr.alloc (.cells #[.int .i64 X, .int .i64 y] 143)).alloc (.cells #[.int .i64 j, .int .i64 (-1)] 143)) wr.heap.size 143 #[.int .i64 X, .int .i64 y] := (blk_at rfl).alloc _
                have k12 : Blk ((wr.alloc (.cells #[.int .i64 X, .int .i64 y] 143)).alloc (.cells #[.int .i64 j, .int .i64 (-1)] 143)) (wr.heap.size + 1) 143 #[.int .i64 j, .int .i64 (-1)] := blk_at (by simp)
                have HK11 := Lib.hid k11
                have HK12 := Lib.hid k12
                have HBX := Lib.hid hbw
                have HC0 := Lib.hid (And.intro x0 (And.intro gc' (And.intro q1 q2)))
                have HM1 := Lib.hid (mul_small (x := U) (y := m) (by omega) (by omega))
                clear k11 k12
                go_wp2_with fail
                obtain ⟨wf, hwf⟩ : ∃ wf, wf = ((wr.alloc (.cells #[.int .i64 X, .int .i64 y] 143)).alloc (.cells #[.int .i64 j, .int .i64 (-1)] 143)) := ⟨_, rfl⟩
                rw [← hwf] at HK11 HK12 HBX ⊢
                clear hwf hbw x0 x1 gc' q1 q2 p1 p2 hc'
                have HS : Hid (∀ w', Below wf.heap.size wf w' → Below wf.heap.size wf w' ∧ w'.cell? ⟨w.heap.size, 0, none⟩ = some (.slice (some ⟨b, off, none⟩) n c) ∧ w'.cell? ⟨b, off + j, none⟩ = some (.slice (some ⟨b3, o3, none⟩) 3 c3) ∧ w'.cell? ⟨b3, o3 + y * 2, none⟩ = some (.int .i64 U) ∧ w'.cell? ⟨b3, o3 + y * 2 + 1, none⟩ = some (.int .i64 V) ∧ w'.cell? ⟨wr.heap.size, 1, none⟩ = some (.int .i64 (y : Int)) ∧ w'.cell? ⟨wr.heap.size + 1, 0, none⟩ = some (.int .i64 (j : Int)) ∧ w'.cell? ⟨wr.heap.size + 1, 1, none⟩ = some (.int .i64 (-1)) ∧ w'.frozen? ⟨wr.heap.size + 1, 0, none⟩ = false ∧ w'.frozen? ⟨wr.heap.size + 1, 1, none⟩ = false) := Lib.hid (fun w' hb' => by
                  have hb2 : Below wr.heap.size wr w' := below_tr hb' HBX.out
                  obtain ⟨c0, c1, c2, c3⟩ := HC0.out
                  exact ⟨hb', (hb2.cell (World.block_lt_of_cell? wr _ c0)).trans c0, (hb2.cell (World.block_lt_of_cell? wr _ c1)).trans c1, (hb2.cell (World.block_lt_of_cell? wr _ c2)).trans c2, (hb2.cell (World.block_lt_of_cell? wr _ c3)).trans c3, (HK11.out.belowS hb').cell 1, (HK12.out.belowS hb').cell 0, (HK12.out.belowS hb').cell 1, (HK12.out.belowS hb').frozen 0, (HK12.out.belowS hb').frozen 1⟩)
                have hy3 : (y : Int) < 3 := by omega
                have hy0 : (0 : Int) ≤ (y : Int) := hY
                have HCT : Hid (cmRow d e j k (s + 1) = cmRow d e j k s ++ [(U * (m : Int) + X, V)]) := Lib.hid (by rw [cmRow_succ]; congr 2; unfold cmT; rw [HTM.out, if_pos hY, HL'.out, HTP.out, show ((y : Int)).toNat = y by omega, HTP2.out, HTM2.out])
                obtain ⟨-, f0, f1, f2, f3, f4, f5, f6, f7, f8⟩ := HS.out wf (Below.refl _ _)
                have hst : ∀ wg, Below wr.heap.size wr wg → Blk wg wr.heap.size 143 #[.int .i64 X, .int .i64 y] → Blk wg (wr.heap.size + 1) 143 #[.int .i64 U, .int .i64 V] → True := fun _ _ _ _ => trivial
                have hW : ∀ wg, (wg = (wf.setCell ⟨wr.heap.size + 1, 0, none⟩ (.int .i64 U)).setCell ⟨wr.heap.size + 1, 1, none⟩ (.int .i64 V)) → Below wr.heap.size wr wg ∧ Blk wg wr.heap.size 143 #[.int .i64 X, .int .i64 y] ∧ Blk wg (wr.heap.size + 1) 143 #[.int .i64 U, .int .i64 V] := by
                  rintro _ rfl
                  exact ⟨(HBX.out.setCell (by simp) _).setCell (by simp) _, (HK11.out.far (by simp) _).far (by simp) _, by simpa using (HK12.out.set_ 0 (.int .i64 U)).set_ 1 (.int .i64 V)⟩
                have HW := Lib.hid hW
                clear hW hst
                go_region_law (fail)
                all_goals
                  generalize hwz : (wf.setCell ⟨wr.heap.size + 1, 0, none⟩ (.int .i64 U)).setCell ⟨wr.heap.size + 1, 1, none⟩ (.int .i64 V) = wz
                  obtain ⟨hbg0, k11, k12⟩ := HW.out wz hwz.symm
                  have hbg : Below wr.heap.size wr wz.drew := hbg0.drew
                  have k11 : Blk wz.drew wr.heap.size 143 #[.int .i64 X, .int .i64 y] := k11
                  have k12 : Blk wz.drew (wr.heap.size + 1) 143 #[.int .i64 U, .int .i64 V] := k12
                  clear f0 f1 f2 f3 f4 f5 f6 f7 f8 hwz hbg0
                  generalize wz.drew = wg at *
                  have hbg2 := below_tr hbg HB.out
                  have e0 := k11.cell 0
                  have e1 := k11.cell 1
                  have g0 := k12.cell 0
                  have g1 := k12.cell 1
                  simp at e0 e1 g0 g1
                  have hsz := hbg2.size
                  have ho2 := HO.out.below hbg
                  have hlen : s + 1 ≤ 4398046511104 := by omega
                  have hwr : IntKind.i64.wrap (U * (m : Int)) = U * (m : Int) := IntWalk.i64_in _ (by have := HM1.out; omega)
                  have hwr2 : IntKind.i64.wrap (U * (m : Int) + X) = U * (m : Int) + X := IntWalk.i64_in _ (by have := HM1.out; omega)
                  clear hbg k11 k12
                  go_wp2_with (at_builtin; refine wpList_ap2 et2T wg rfl _ _ rfl w2.heap.size a' s c'' (cmRow d e j k s) rfl ho2 (U * (m : Int) + X) V rfl hlen hsz ?_; intro ao3 c3' w5 o5 g5 hat5)
                  have B5 : Below w2.heap.size w2 w5 := hbg2.grown g5 hsz (fun g hg => (ho2.lt g hg).1)
                  clear e0 e1 g0 g1 hbg2 ho2 g5 hat5
                  go_wp2_with fail
                  go_roundw
                  case rel => exact ⟨s + 1, ao3, c3', rfl, by go_num, by omega, B5, by rw [HCT.out]; exact o5⟩
                  case measure => simp [intOf]; omega
              · have hYf : decide (Y ≥ 0) = false := by simp; omega
                have hbg := below_alloc2 wr (.cells #[.int .i64 X, .int .i64 Y] 143) (.cells #[.int .i64 j, .int .i64 (-1)] 143)
                have k11 : Blk ((wr.alloc (.cells #[.int .i64 X, .int .i64 Y] 143)).alloc (.cells #[.int .i64 j, .int .i64 (-1)] 143)) wr.heap.size 143 #[.int .i64 X, .int .i64 Y] := (blk_at rfl).alloc _
                have k12 : Blk ((wr.alloc (.cells #[.int .i64 X, .int .i64 Y] 143)).alloc (.cells #[.int .i64 j, .int .i64 (-1)] 143)) (wr.heap.size + 1) 143 #[.int .i64 j, .int .i64 (-1)] := blk_at (by simp)
                have HCT : Hid (cmRow d e j k (s + 1) = cmRow d e j k s ++ [((j : Int) * (m : Int) + X, -1)]) := Lib.hid (by rw [cmRow_succ]; congr 2; unfold cmT; rw [HTM.out, if_neg hY, HL'.out, HTP.out])
                have HM1 := Lib.hid (mul_small (x := j) (y := m) (by omega) (by omega))
                have hbg2 := below_tr hbg HB.out
                have hsz := hbg2.size
                have ho2 := HO.out.below hbg
                have hlen : s + 1 ≤ 4398046511104 := by omega
                have hwr : IntKind.i64.wrap ((j : Int) * (m : Int)) = (j : Int) * (m : Int) := IntWalk.i64_in _ (by have := HM1.out; omega)
                have hwr2 : IntKind.i64.wrap ((j : Int) * (m : Int) + X) = (j : Int) * (m : Int) + X := IntWalk.i64_in _ (by have := HM1.out; omega)
                have HS2 : Hid (((wr.alloc (.cells #[.int .i64 X, .int .i64 Y] 143)).alloc (.cells #[.int .i64 j, .int .i64 (-1)] 143)).heap.size = wr.heap.size + 1 + 1) := Lib.hid (by simp)
                clear hbg k11 k12
                go_wp2_with (at_builtin; refine wpList_ap2 et2T _ rfl _ _ rfl w2.heap.size a' s c'' (cmRow d e j k s) rfl ho2 ((j : Int) * (m : Int) + X) (-1) (by rw [HS2.out]; rfl) hlen hsz ?_; intro ao3 c3' w5 o5 g5 hat5)
                have B5 : Below w2.heap.size w2 w5 := hbg2.grown g5 hsz (fun g hg => (ho2.lt g hg).1)
                clear hbg2 ho2 g5 hat5
                go_wp2_with fail
                go_roundw
                case rel => exact ⟨s + 1, ao3, c3', rfl, by go_num, by omega, B5, by rw [HCT.out]; exact o5⟩
                case measure => simp [intOf]; omega
            · obtain rfl : s = 3 := by omega
              have h3 := ST.out.box.belowS HB.out
              have z0 := h3.cell 0
              have z1 := h3.frozen 0
              simp at z0
              have hq : q = j * m + k := by have h1 := ST.out.row.len; rw [List.length_append, cmUp_len, cmPart_len, HL'.out] at h1; omega
              have hqq : q + 1 ≤ 4398046511104 := by have := mul_small (x := j) (y := m) (by omega) (by omega); have h2 : ((j * m : Nat) : Int) = (j : Int) * (m : Int) := Int.natCast_mul j m; omega
              have hwn := ST.out.size
              have hbs := HB.out.size
              have hown := ST.out.row.own.below HB.out
              have hsz : w.heap.size + 4 ≤ wr.heap.size := by omega
              have H3 := Lib.hid h3
              have HP := Lib.hid (cmPart_succ d e j k)
              clear hq h3 hbs
              go_wp2_with (at_builtin; refine wpList_ap1 etTT wr rfl _ _ rfl (w.heap.size + 4) ao' q c' us rfl hown (.slice a' 3 c'') rfl rfl hqq hsz ?_; intro ao3 c3 w5 o5 g5 hat5; have B5 : Below (w.heap.size + 4) wr w5 := (Below.refl _ _).grown g5 hsz (fun g hg => (hown.lt g hg).1); have k5 := H3.out.below B5 (by omega); have x5 : w5.cell? ⟨w.heap.size + 3, 0, none⟩ = some (.slice ao' q c') := k5.cell 0; have f5 : w5.frozen? ⟨w.heap.size + 3, 0, none⟩ = false := k5.frozen 0)
              have st2 := ST.out.push HB.out HO.out (Below.refl _ _) o5 g5 (hat5.imp id fun h => ⟨_, h, by omega⟩)
              rw [List.append_assoc, ← HP.out] at st2
              have hk1 : k + 1 ≤ m := hlt2
              clear o5 g5 hat5 B5 k5 x5 f5 hown z0 z1 x0 x1
              refine ⟨⟨k + 1, q + 1, ao3, c3, _, by go_num, hk1, st2⟩, ?_⟩
              simp [intOf]; omega
        · obtain rfl : k = m := by omega
          go_wp2_with fail
          go_roundw
          case rel => exact ⟨j + 1, q, ao', c', us, by go_num, by omega, by have := ST.out; have he : cmUp d e (j + 1) = cmUp d e j ++ cmPart d e j k := (by rw [cmUp, HL'.out]); rw [he]; exact this⟩
          case measure => simp [intOf]; omega
    · obtain rfl : j = n := by omega
      have y0 := ST.out.box.cell 0
      have y1 := ST.out.res.cell 0
      have y2 := ST.out.res.frozen 0
      simp at y0 y1
      go_wp2_with fail
      have st2 := ST.out.done
      generalize wr.setCell ⟨w.heap.size + 2, 0, none⟩ (.slice ao' q c') = wf at *
      have e0 := st2.1.cell 0
      simp at e0
      refine bodyPost_ret (v := .agg #[.slice ao' q c']) (by simp [results, Try.f86, go_sem, e0]) rfl ⟨_, rfl, ?_, st2.2.2⟩
      refine ⟨ao', q, c', us, rfl, ?_⟩
      unfold cmD
      rw [HL.out]
      exact st2.2.1.mono (by omega) (Nat.le_refl _)
end Go.Proofs.Ytpognnifgcacnaa

/- The basic templates, the reference's; the composition along a word. -/
namespace Go.Proofs.Ytpognnifgcacnaa
open Go.RowKit

/-- one struct more, at the end of a row of the call's own, in a region that draws its order -/
theorem step_ap2 {P : Program} {S E : TypeId} {bytes : Nat} (et : ET2 P S E bytes) {ops : Array Oper} {o : Oper} {a : Act} {Q : Exit → Act → World → Prop} {w : World} {K : Act → World → Prop} {X : Prop} (hg : o.guard = none) (s x : Operand) (ho : o.op = .call { callee := .builtin .append, args := #[s, x], argTypes := #[S, S] })
    (base : Nat) (ao : Option Addr) (n c : Nat) (ks : List (Int × Int)) (hs : a.eval s = .slice ao n c) (hown : Own2 w base E ao n c ks) (u v : Int) (xb xc : Nat)
    (hx : a.eval x = .slice (some ⟨xb, 0, none⟩) 1 xc) (hc : w.cell? ⟨xb, 0, none⟩ = some (.int .i64 u)) (hc2 : w.cell? ⟨xb, 1, none⟩ = some (.int .i64 v)) (hn : n + 1 ≤ 4398046511104) (hbase : base ≤ w.heap.size)
    (h : ∀ ao' c' w', Own2 w' base E ao' (n + 1) c' (ks ++ [(u, v)]) → w.grownBy w' (bk ao) → (bk ao' = bk ao ∨ bk ao' = some w.heap.size) → K (a.put o.dst (.slice ao' (n + 1) c')) w') : if Region.wanted o (yielded ops a.tmps) = true then Oper.wp P o a w K Q else X := by
  obtain ⟨i, hi, hz, hsz, hby⟩ := info_parts et.info
  have hw : Region.wanted o (yielded ops a.tmps) = true := by simp [Region.wanted, hg]
  rw [if_pos hw]
  obtain ⟨v', w', hr, h2, h3, h4, h5⟩ := run_append_own_at (P := P) w base S o.type E i (.agg #[.int .i64 0, .int .i64 0]) 2 bytes et.und hi hz hsz hby rfl (by omega) (.slice ao n c) n (ivals (pflat ks)) hown.1 ⟨xb, 0, none⟩ 1 xc [.int .i64 u, .int .i64 v] rfl
    (by
      intro j u' hu'
      match j, hu' with
      | 0, hu' => simp at hu'; subst hu'; rw [Addr.add_lit]; exact hc
      | 1, hu' => simp at hu'; subst hu'; rw [Addr.add_lit]; exact hc2)
    (by intro y hy; simp at hy; rcases hy with rfl | rfl <;> rfl) (by simp [maxLen]; omega) (by have := et.small; have : (n + 1) * bytes ≤ (n + 1) * 32 := Nat.mul_le_mul_left _ this; omega) hbase
  unfold Oper.wp execOp
  simp only [ho, resolve, invoke, builtin, Sem.run_bind, Sem.run_pure, Result.andThen_ok, List.map_toArray, List.map_cons, List.map_nil, hs, hx, hr]
  have e : ivals (pflat ks) ++ [.int .i64 u, .int .i64 v] = ivals (pflat (ks ++ [(u, v)])) := by simp [pflat, ivals]
  rw [e] at h2
  obtain ⟨g, cap, rfl, hb, hlt⟩ := h2.form (by omega)
  rw [ownBlock_slice] at h3
  refine h _ _ _ ⟨h2, hn⟩ h3 ?_
  rw [ownBlock_slice, ownBlock_slice] at h5
  exact h5

/-- the box of the result, the box of what grows, its rows -/
structure BasSt (w w0 wr : World) (bx : Nat) (ao : Option Addr) (m c : Nat) (us : List Value) (ds : List (List (Int × Int))) : Prop where
  res : Blk wr w.heap.size 29 #[.slice none 0 0]
  box : Blk wr bx 29 #[.slice ao m c]
  row : OwR (OwTs 143) wr (bx + 1) wr.heap.size 100 ao m c us ds
  size : w.heap.size < bx ∧ bx + 1 ≤ wr.heap.size
  below : Below bx w0 wr
theorem BasSt.push {w w0 wr w2 w3 w4 : World} {bx m c' n1 c1 c2 : Nat} {ao' a1 ao2 : Option Addr} {us : List Value} {ds : List (List (Int × Int))} {ks : List (Int × Int)} (st : BasSt w w0 wr bx ao' m c' us ds)
    (b2 : Below wr.heap.size wr w2) (o1 : Own2 w2 wr.heap.size 143 a1 n1 c1 ks) (b3 : Below w2.heap.size w2 w3) (o4 : Own w4 (bx + 1) 100 ao2 (m + 1) c2 (us ++ [.slice a1 n1 c1]))
    (g4 : w3.grownBy w4 (bk ao')) (hat : bk ao2 = bk ao' ∨ ∃ g, bk ao2 = some g ∧ w2.heap.size ≤ g) :
    BasSt w w0 (w4.setCell ⟨bx, 0, none⟩ (.slice ao2 (m + 1) c2)) bx ao2 (m + 1) c2 (us ++ [.slice a1 n1 c1]) (ds ++ [ks]) := by
  obtain ⟨h1, h2⟩ := st.size
  have hR := trows_push st.row h2 b2 o1 b3 o4 g4 hat
  have s2 := b2.size
  have s3 := b3.size
  have s4 := g4.size
  have B4 : Below (bx + 1) wr w4 := ((b2.trans (b3.mono s2)).mono h2).grown g4 (by omega) (fun g hg => (st.row.own.lt g hg).1)
  have hh : (w4.setCell ⟨bx, 0, none⟩ (.slice ao2 (m + 1) c2)).heap.size = w4.heap.size := by simp [World.setCell]
  refine ⟨(st.res.below B4 (by omega)).far (by simp; omega) _, ?_, ?_, ⟨h1, by rw [hh]; omega⟩, (st.below.trans (B4.mono (by omega))).setCell (by simp) _⟩
  · have := (st.box.below B4 (by omega)).set_ 0 (.slice ao2 (m + 1) c2)
    simpa using this
  · rw [hh]
    exact hR.same (innerTs _) fun g h1 _ _ => Below.heap_setCell _ _ _ _ (by simp; omega)
theorem BasSt.done {w w0 wr : World} {bx m c' : Nat} {ao' : Option Addr} {us : List Value} {ds : List (List (Int × Int))} (st : BasSt w w0 wr bx ao' m c' us ds) (hb : Below w.heap.size w w0) :
    Blk (wr.setCell ⟨w.heap.size, 0, none⟩ (.slice ao' m c')) w.heap.size 29 #[.slice ao' m c'] ∧
    OwR (OwTs 143) (wr.setCell ⟨w.heap.size, 0, none⟩ (.slice ao' m c')) (bx + 1) (wr.setCell ⟨w.heap.size, 0, none⟩ (.slice ao' m c')).heap.size 100 ao' m c' us ds ∧
    Below w.heap.size w (wr.setCell ⟨w.heap.size, 0, none⟩ (.slice ao' m c')) := by
  have hh : (wr.setCell ⟨w.heap.size, 0, none⟩ (.slice ao' m c')).heap.size = wr.heap.size := by simp [World.setCell]
  obtain ⟨h1, h2⟩ := st.size
  refine ⟨?_, ?_, (hb.trans (st.below.mono (by omega))).setCell (by simp) _⟩
  · have := st.res.set_ 0 (.slice ao' m c')
    simpa using this
  · rw [hh]
    exact st.row.same (innerTs _) fun g h1 _ _ => Below.heap_setCell _ _ _ _ (by simp; omega)

/-- rows of six numbers, as three pairs each -/
def sxK (z : List Int) (i : Nat) : Int × Int := (iget z (2 * i), iget z (2 * i + 1))
def sxRow (z : List Int) (i : Nat) : List (Int × Int) := (List.range i).map (sxK z)
theorem sxRow_succ (z : List Int) (i : Nat) : sxRow z (i + 1) = sxRow z i ++ [sxK z i] := by simp [sxRow, List.range_succ]
def sxUp (zss : List (List Int)) (j : Nat) : List (List (Int × Int)) := (List.range j).map fun j => sxRow (lget zss j) 3
theorem sxUp_succ (zss : List (List Int)) (j : Nat) : sxUp zss (j + 1) = sxUp zss j ++ [sxRow (lget zss j) 3] := by simp [sxUp, List.range_succ]
def basZ (c : Nat) : List (List Int) :=
  if c = 100 then [[0, 2, 0, 1, 0, 0]]
  else if c = 97 then [[0, 1, 0, 0, 1, -1], [1, 1, 1, 2, 0, -1]]
  else if c = 116 then [[0, 0, 1, -1, 0, 2], [1, 1, 0, -1, 2, -1], [2, 1, 2, 2, 1, -1]]
  else if c = 99 then [[1, -1, 0, 2, 0, 1], [0, -1, 2, -1, 1, 1], [2, 0, 1, -1, 3, -1], [3, 0, 3, 1, 2, -1]]
  else []
theorem sxUp_bas {c : Nat} (h : IsBas c) : sxUp (basZ c) (basZ c).length = basT c := by
  rcases h with rfl | rfl | rfl | rfl <;> decide +kernel
/-- the rows lie at blocks below bx -/
def SixAt (w : World) (bx g n : Nat) (zss : List (List Int)) : Prop := zss.length = n ∧ n ≤ 4 ∧ g < bx ∧ ∀ j, j < n → ∃ b1, b1 < bx ∧ w.cell? ⟨g, j, none⟩ = some (.slice (some ⟨b1, 0, none⟩) 6 6) ∧ ∀ i, i < 6 → w.cell? ⟨b1, i, none⟩ = some (.int .i64 (iget (lget zss j) i))
theorem SixAt.below {w w' : World} {bx g n : Nat} {zss : List (List Int)} (h : SixAt w bx g n zss) (hb : Below bx w w') (hs : bx ≤ w.heap.size) : SixAt w' bx g n zss := by
  obtain ⟨h1, h2, h3, h4⟩ := h
  refine ⟨h1, h2, h3, fun j hj => ?_⟩
  obtain ⟨b1, h5, h6, h7⟩ := h4 j hj
  exact ⟨b1, h5, (World.cell?_of_block (hb.block g h3)).trans h6, fun i hi => (World.cell?_of_block (hb.block b1 h5)).trans (h7 i hi)⟩

set_option maxRecDepth 100000 in
set_option maxHeartbeats 12800000 in
theorem specBas_any (b : Nat) (w : World) (hb : IsBas b) : Calls Try.prog 162 #[.int .u8 b] w fun e w' => ∃ v, e = .returned v ∧ OwT 143 100 w' w.heap.size w'.heap.size v (basT b) ∧ Below w.heap.size w w' := by
  have HB := Lib.hid (sxUp_bas hb)
  rcases hb with rfl | rfl | rfl | rfl
  · show Calls Try.prog 162 #[.int .u8 100] w _
    go_enter Try.func162, Try.ntmps162
    go_wp2_with fail
    have hbw : Below w.heap.size w (((((w.alloc (.cells #[.slice none 0 0] 29)).alloc (.cells #[] 49)).alloc (.cells #[.int .i64 0, .int .i64 2, .int .i64 0, .int .i64 1, .int .i64 0, .int .i64 0] 2)).alloc (.cells #[.slice (some ⟨w.heap.size + 1 + 1, 0, none⟩) 6 6] 49)).alloc (.cells #[.slice none 0 0] 29)) := (((((below_alloc1 w _).alloc (by simp) _).alloc (by simp; omega) _).alloc (by simp; omega) _).alloc (by simp; omega) _)
    have kres : Blk (((((w.alloc (.cells #[.slice none 0 0] 29)).alloc (.cells #[] 49)).alloc (.cells #[.int .i64 0, .int .i64 2, .int .i64 0, .int .i64 1, .int .i64 0, .int .i64 0] 2)).alloc (.cells #[.slice (some ⟨w.heap.size + 1 + 1, 0, none⟩) 6 6] 49)).alloc (.cells #[.slice none 0 0] 29)) w.heap.size 29 #[.slice none 0 0] := (((((blk_at rfl).alloc _).alloc _).alloc _).alloc _)
    have kbox : Blk (((((w.alloc (.cells #[.slice none 0 0] 29)).alloc (.cells #[] 49)).alloc (.cells #[.int .i64 0, .int .i64 2, .int .i64 0, .int .i64 1, .int .i64 0, .int .i64 0] 2)).alloc (.cells #[.slice (some ⟨w.heap.size + 1 + 1, 0, none⟩) 6 6] 49)).alloc (.cells #[.slice none 0 0] 29)) (w.heap.size + 1 + 1 + 1 + 1) 29 #[.slice none 0 0] := (blk_at (by simp))
    have krow : Blk (((((w.alloc (.cells #[.slice none 0 0] 29)).alloc (.cells #[] 49)).alloc (.cells #[.int .i64 0, .int .i64 2, .int .i64 0, .int .i64 1, .int .i64 0, .int .i64 0] 2)).alloc (.cells #[.slice (some ⟨w.heap.size + 1 + 1, 0, none⟩) 6 6] 49)).alloc (.cells #[.slice none 0 0] 29)) (w.heap.size + 1 + 1 + 1) 49 #[.slice (some ⟨w.heap.size + 1 + 1, 0, none⟩) 6 6] := ((blk_at (by simp)).alloc _)
    have k0 : Blk (((((w.alloc (.cells #[.slice none 0 0] 29)).alloc (.cells #[] 49)).alloc (.cells #[.int .i64 0, .int .i64 2, .int .i64 0, .int .i64 1, .int .i64 0, .int .i64 0] 2)).alloc (.cells #[.slice (some ⟨w.heap.size + 1 + 1, 0, none⟩) 6 6] 49)).alloc (.cells #[.slice none 0 0] 29)) (w.heap.size + 1 + 1) 2 #[.int .i64 0, .int .i64 2, .int .i64 0, .int .i64 1, .int .i64 0, .int .i64 0] := (((blk_at (by simp)).alloc _).alloc _)
    have hsx : SixAt (((((w.alloc (.cells #[.slice none 0 0] 29)).alloc (.cells #[] 49)).alloc (.cells #[.int .i64 0, .int .i64 2, .int .i64 0, .int .i64 1, .int .i64 0, .int .i64 0] 2)).alloc (.cells #[.slice (some ⟨w.heap.size + 1 + 1, 0, none⟩) 6 6] 49)).alloc (.cells #[.slice none 0 0] 29)) (w.heap.size + 1 + 1 + 1 + 1) (w.heap.size + 1 + 1 + 1) 1 (basZ 100) := by
      refine ⟨rfl, by omega, by omega, fun j hj => ?_⟩
      match j, hj with
      | 0, _ =>
        refine ⟨w.heap.size + 1 + 1, by omega, krow.cell 0, fun i hi => ?_⟩
        match i, hi with
        | 0, _ => exact k0.cell 0
        | 1, _ => exact k0.cell 1
        | 2, _ => exact k0.cell 2
        | 3, _ => exact k0.cell 3
        | 4, _ => exact k0.cell 4
        | 5, _ => exact k0.cell 5
    have hsz : (((((w.alloc (.cells #[.slice none 0 0] 29)).alloc (.cells #[] 49)).alloc (.cells #[.int .i64 0, .int .i64 2, .int .i64 0, .int .i64 1, .int .i64 0, .int .i64 0] 2)).alloc (.cells #[.slice (some ⟨w.heap.size + 1 + 1, 0, none⟩) 6 6] 49)).alloc (.cells #[.slice none 0 0] 29)).heap.size = w.heap.size + 1 + 1 + 1 + 1 + 1 := by simp
    have st0 : BasSt w (((((w.alloc (.cells #[.slice none 0 0] 29)).alloc (.cells #[] 49)).alloc (.cells #[.int .i64 0, .int .i64 2, .int .i64 0, .int .i64 1, .int .i64 0, .int .i64 0] 2)).alloc (.cells #[.slice (some ⟨w.heap.size + 1 + 1, 0, none⟩) 6 6] 49)).alloc (.cells #[.slice none 0 0] 29)) (((((w.alloc (.cells #[.slice none 0 0] 29)).alloc (.cells #[] 49)).alloc (.cells #[.int .i64 0, .int .i64 2, .int .i64 0, .int .i64 1, .int .i64 0, .int .i64 0] 2)).alloc (.cells #[.slice (some ⟨w.heap.size + 1 + 1, 0, none⟩) 6 6] 49)).alloc (.cells #[.slice none 0 0] 29)) (w.heap.size + 1 + 1 + 1 + 1) none 0 0 [] [] := ⟨kres, kbox, OwR.empty_ (Own.nil_ _ _ _) (fun g hg => nomatch hg), ⟨by omega, by rw [hsz]; exact Nat.le_refl _⟩, Below.refl _ _⟩
    have hsz2 : w.heap.size + 1 + 1 + 1 + 1 + 1 ≤ (((((w.alloc (.cells #[.slice none 0 0] 29)).alloc (.cells #[] 49)).alloc (.cells #[.int .i64 0, .int .i64 2, .int .i64 0, .int .i64 1, .int .i64 0, .int .i64 0] 2)).alloc (.cells #[.slice (some ⟨w.heap.size + 1 + 1, 0, none⟩) 6 6] 49)).alloc (.cells #[.slice none 0 0] 29)).heap.size := by rw [hsz]; exact Nat.le_refl _
    clear hsz kres kbox krow k0
    generalize (((((w.alloc (.cells #[.slice none 0 0] 29)).alloc (.cells #[] 49)).alloc (.cells #[.int .i64 0, .int .i64 2, .int .i64 0, .int .i64 1, .int .i64 0, .int .i64 0] 2)).alloc (.cells #[.slice (some ⟨w.heap.size + 1 + 1, 0, none⟩) 6 6] 49)).alloc (.cells #[.slice none 0 0] 29)) = w0 at *
    generalize w.heap.size + 1 + 1 + 1 + 1 = bx at *
    generalize w.heap.size + 1 + 1 + 1 = g at *
    obtain ⟨zss, hzs⟩ : ∃ zss, zss = basZ 100 := ⟨_, rfl⟩
    rw [← hzs] at hsx HB
    clear hzs
    go_loopw [5] (fun i wr => ∃ (j m : Nat) (ao' : Option Addr) (c' : Nat) (us : List Value), i = .int .i64 j ∧ j ≤ 1 ∧ BasSt w w0 wr bx ao' m c' us (sxUp zss j)) (fun i _ => 1 - (intOf i).toNat)
    case atStart => exact ⟨0, 0, none, 0, [], rfl, Nat.zero_le _, st0⟩
    case round =>
      obtain ⟨j, m, ao', c', us, rfl, hj, st⟩ := hrel
      clear st0
      have ST := Lib.hid st
      clear st
      by_cases hlt : j < 1
      · obtain ⟨w2, hw2⟩ : ∃ w2, w2 = wr := ⟨_, rfl⟩
        subst hw2
        have hdj : decide ((j : Int) < 1) = true := by rw [decide_eq_true_iff]; omega
        go_wp2_with fail
        go_loopw [6, 7] (fun v i wi => ∃ (s p : Nat) (a' : Option Addr) (c' : Nat), v = .slice a' s c' ∧ i = .int .i64 p ∧ p = 2 * s ∧ s ≤ 3 ∧ Below w2.heap.size w2 wi ∧ Own2 wi w2.heap.size 143 a' s c' (sxRow (lget zss j) s)) (fun _ i _ => 6 - (intOf i).toNat)
        case atStart => exact ⟨0, 0, _, _, rfl, rfl, rfl, by omega, below_alloc1 _ _, Own2.empty_ w2 (Nat.le_refl _)⟩
        case round =>
          obtain ⟨s, p, a', c'', rfl, rfl, hp, hs, hb, ho⟩ := hrel
          have HBI := Lib.hid hb
          have HO := Lib.hid ho
          have HSX := Lib.hid ((hsx.below (ST.out.below.trans (hb.mono (by have := ST.out.size; omega))) (by omega)).2.2.2 j hlt)
          have hbz := hb.size
          clear hb ho
          by_cases hlt3 : s < 3
          · obtain ⟨b1, hb1, hc, hi⟩ := HSX.out
            have hp5 : p < 6 := by omega
            have hp6 : p + 1 < 6 := by omega
            have hc1 := hi p hp5
            have hc2 := hi (p + 1) hp6
            have HT : Hid (sxRow (lget zss j) (s + 1) = sxRow (lget zss j) s ++ [(iget (lget zss j) p, iget (lget zss j) (p + 1))]) := Lib.hid (by rw [hp]; exact sxRow_succ _ _)
            generalize iget (lget zss j) p = X at *
            generalize iget (lget zss j) (p + 1) = Y at *
            have HP := Lib.hid hp
            have hjl : (j : Int) < 1 := by omega
            have hlt61 : (p : Int) < 6 := by omega
            have hlt62 : (p : Int) + 1 < 6 := by omega
            have hlen : s + 1 ≤ 4398046511104 := by omega
            have hto : ((p : Int) + 1).toNat = p + 1 := by omega
            have hwr : IntKind.i64.wrap ((p : Int) + 1) = (p : Int) + 1 := IntWalk.i64_in _ (by omega)
            have hge : (0 : Int) ≤ (p : Int) + 1 := by omega
            clear hi hp
            go_wp2_with fail
            go_region_law (refine step_ap2 (o := ⟨some 62, _, _, _, _, _⟩) et2T rfl (.tmp 44) (.tmp 61) rfl w2.heap.size a' s c'' (sxRow (lget zss j) s) rfl (HO.out.below (by first | exact below_alloc1 _ _ | exact (below_alloc1 _ _).drew | exact (below_drew1 _).alloc (by simp) _)) X Y wr.heap.size 1 (by first | rfl | simp) ((blk_at rfl).cell 0) ((blk_at rfl).cell 1) hlen (by first | (simp; omega) | omega) ?_; intro ao3 c3' w5 o5 g5 hat5)
            all_goals
              have hbz5 : Below w2.heap.size w2 w5 := by
                have h1 : Below w2.heap.size w2 (wr.alloc (.cells #[.int .i64 X, .int .i64 Y] 143)).drew := (below_tr (below_alloc1 wr _) HBI.out).drew
                exact h1.grown g5 h1.size (fun g hg => (HO.out.lt g hg).1)
              clear g5 hat5 hc hc1 hc2
              go_wp2_with fail
              go_roundw
              case rel => exact ⟨s + 1, p + 2, ao3, c3', rfl, by go_num, by have := HP.out; omega, by omega, hbz5, by rw [HT.out]; exact o5⟩
              case measure => simp [intOf]; omega
          · obtain rfl : s = 3 := by omega
            obtain rfl : p = 6 := by omega
            have h3 := ST.out.box.belowS HBI.out
            have z0 := h3.cell 0
            have z1 := h3.frozen 0
            simp at z0
            have hm : m = j := by have h1 := ST.out.row.len; rw [show (sxUp zss j).length = j by simp [sxUp]] at h1; omega
            have hqq : m + 1 ≤ 4398046511104 := by omega
            have hwn := ST.out.size
            have hown := ST.out.row.own.below HBI.out
            have hsz : bx + 1 ≤ wr.heap.size := by omega
            have H3 := Lib.hid h3
            have HPP := Lib.hid (sxUp_succ zss j)
            clear hm h3
            go_wp2_with (at_builtin; refine wpList_ap1 etTT wr rfl _ _ rfl (bx + 1) ao' m c' us rfl hown (.slice a' 3 c'') rfl rfl hqq hsz ?_; intro ao3 c3 w5 o5 g5 hat5; have B5 : Below (bx + 1) wr w5 := (Below.refl _ _).grown g5 hsz (fun g hg => (hown.lt g hg).1); have k5 := H3.out.below B5 (by omega); have x5 : w5.cell? ⟨bx, 0, none⟩ = some (.slice ao' m c') := k5.cell 0; have f5 : w5.frozen? ⟨bx, 0, none⟩ = false := k5.frozen 0)
            have st2 := ST.out.push HBI.out HO.out (Below.refl _ _) o5 g5 (hat5.imp id fun h => ⟨_, h, by omega⟩)
            rw [← HPP.out] at st2
            have hk1 : j + 1 ≤ 1 := hlt
            clear o5 g5 hat5 B5 k5 x5 f5 hown z0 z1
            refine ⟨⟨j + 1, m + 1, ao3, c3, _, by go_num, hk1, st2⟩, ?_⟩
            simp [intOf]; omega
      · obtain rfl : j = 1 := by omega
        have y0 := ST.out.box.cell 0
        have y1 := ST.out.res.cell 0
        have y2 := ST.out.res.frozen 0
        simp at y0 y1
        go_wp2_with fail
        have st2 := ST.out.done hbw
        have hxs := ST.out.size
        generalize wr.setCell ⟨w.heap.size, 0, none⟩ (.slice ao' m c') = wf at *
        have e0 := st2.1.cell 0
        simp at e0
        refine bodyPost_ret (v := .agg #[.slice ao' m c']) (by simp [results, Try.f162, go_sem, e0]) rfl ⟨_, rfl, ?_, st2.2.2⟩
        rw [← HB.out]
        have hzl := hsx.1
        rw [hzl]
        exact ⟨ao', m, c', us, rfl, st2.2.1.mono (by omega) (Nat.le_refl _)⟩
  · show Calls Try.prog 162 #[.int .u8 97] w _
    go_enter Try.func162, Try.ntmps162
    go_wp2_with fail
    have hbw : Below w.heap.size w ((((((w.alloc (.cells #[.slice none 0 0] 29)).alloc (.cells #[] 49)).alloc (.cells #[.int .i64 0, .int .i64 1, .int .i64 0, .int .i64 0, .int .i64 1, .int .i64 (-1)] 2)).alloc (.cells #[.int .i64 1, .int .i64 1, .int .i64 1, .int .i64 2, .int .i64 0, .int .i64 (-1)] 2)).alloc (.cells #[.slice (some ⟨w.heap.size + 1 + 1, 0, none⟩) 6 6, .slice (some ⟨w.heap.size + 1 + 1 + 1, 0, none⟩) 6 6] 49)).alloc (.cells #[.slice none 0 0] 29)) := ((((((below_alloc1 w _).alloc (by simp) _).alloc (by simp; omega) _).alloc (by simp; omega) _).alloc (by simp; omega) _).alloc (by simp; omega) _)
    have kres : Blk ((((((w.alloc (.cells #[.slice none 0 0] 29)).alloc (.cells #[] 49)).alloc (.cells #[.int .i64 0, .int .i64 1, .int .i64 0, .int .i64 0, .int .i64 1, .int .i64 (-1)] 2)).alloc (.cells #[.int .i64 1, .int .i64 1, .int .i64 1, .int .i64 2, .int .i64 0, .int .i64 (-1)] 2)).alloc (.cells #[.slice (some ⟨w.heap.size + 1 + 1, 0, none⟩) 6 6, .slice (some ⟨w.heap.size + 1 + 1 + 1, 0, none⟩) 6 6] 49)).alloc (.cells #[.slice none 0 0] 29)) w.heap.size 29 #[.slice none 0 0] := ((((((blk_at rfl).alloc _).alloc _).alloc _).alloc _).alloc _)
    have kbox : Blk ((((((w.alloc (.cells #[.slice none 0 0] 29)).alloc (.cells #[] 49)).alloc (.cells #[.int .i64 0, .int .i64 1, .int .i64 0, .int .i64 0, .int .i64 1, .int .i64 (-1)] 2)).alloc (.cells #[.int .i64 1, .int .i64 1, .int .i64 1, .int .i64 2, .int .i64 0, .int .i64 (-1)] 2)).alloc (.cells #[.slice (some ⟨w.heap.size + 1 + 1, 0, none⟩) 6 6, .slice (some ⟨w.heap.size + 1 + 1 + 1, 0, none⟩) 6 6] 49)).alloc (.cells #[.slice none 0 0] 29)) (w.heap.size + 1 + 1 + 1 + 1 + 1) 29 #[.slice none 0 0] := (blk_at (by simp))
    have krow : Blk ((((((w.alloc (.cells #[.slice none 0 0] 29)).alloc (.cells #[] 49)).alloc (.cells #[.int .i64 0, .int .i64 1, .int .i64 0, .int .i64 0, .int .i64 1, .int .i64 (-1)] 2)).alloc (.cells #[.int .i64 1, .int .i64 1, .int .i64 1, .int .i64 2, .int .i64 0, .int .i64 (-1)] 2)).alloc (.cells #[.slice (some ⟨w.heap.size + 1 + 1, 0, none⟩) 6 6, .slice (some ⟨w.heap.size + 1 + 1 + 1, 0, none⟩) 6 6] 49)).alloc (.cells #[.slice none 0 0] 29)) (w.heap.size + 1 + 1 + 1 + 1) 49 #[.slice (some ⟨w.heap.size + 1 + 1, 0, none⟩) 6 6, .slice (some ⟨w.heap.size + 1 + 1 + 1, 0, none⟩) 6 6] := ((blk_at (by simp)).alloc _)
    have k0 : Blk ((((((w.alloc (.cells #[.slice none 0 0] 29)).alloc (.cells #[] 49)).alloc (.cells #[.int .i64 0, .int .i64 1, .int .i64 0, .int .i64 0, .int .i64 1, .int .i64 (-1)] 2)).alloc (.cells #[.int .i64 1, .int .i64 1, .int .i64 1, .int .i64 2, .int .i64 0, .int .i64 (-1)] 2)).alloc (.cells #[.slice (some ⟨w.heap.size + 1 + 1, 0, none⟩) 6 6, .slice (some ⟨w.heap.size + 1 + 1 + 1, 0, none⟩) 6 6] 49)).alloc (.cells #[.slice none 0 0] 29)) (w.heap.size + 1 + 1) 2 #[.int .i64 0, .int .i64 1, .int .i64 0, .int .i64 0, .int .i64 1, .int .i64 (-1)] := ((((blk_at (by simp)).alloc _).alloc _).alloc _)
    have k1 : Blk ((((((w.alloc (.cells #[.slice none 0 0] 29)).alloc (.cells #[] 49)).alloc (.cells #[.int .i64 0, .int .i64 1, .int .i64 0, .int .i64 0, .int .i64 1, .int .i64 (-1)] 2)).alloc (.cells #[.int .i64 1, .int .i64 1, .int .i64 1, .int .i64 2, .int .i64 0, .int .i64 (-1)] 2)).alloc (.cells #[.slice (some ⟨w.heap.size + 1 + 1, 0, none⟩) 6 6, .slice (some ⟨w.heap.size + 1 + 1 + 1, 0, none⟩) 6 6] 49)).alloc (.cells #[.slice none 0 0] 29)) (w.heap.size + 1 + 1 + 1) 2 #[.int .i64 1, .int .i64 1, .int .i64 1, .int .i64 2, .int .i64 0, .int .i64 (-1)] := (((blk_at (by simp)).alloc _).alloc _)
    have hsx : SixAt ((((((w.alloc (.cells #[.slice none 0 0] 29)).alloc (.cells #[] 49)).alloc (.cells #[.int .i64 0, .int .i64 1, .int .i64 0, .int .i64 0, .int .i64 1, .int .i64 (-1)] 2)).alloc (.cells #[.int .i64 1, .int .i64 1, .int .i64 1, .int .i64 2, .int .i64 0, .int .i64 (-1)] 2)).alloc (.cells #[.slice (some ⟨w.heap.size + 1 + 1, 0, none⟩) 6 6, .slice (some ⟨w.heap.size + 1 + 1 + 1, 0, none⟩) 6 6] 49)).alloc (.cells #[.slice none 0 0] 29)) (w.heap.size + 1 + 1 + 1 + 1 + 1) (w.heap.size + 1 + 1 + 1 + 1) 2 (basZ 97) := by
      refine ⟨rfl, by omega, by omega, fun j hj => ?_⟩
      match j, hj with
      | 0, _ =>
        refine ⟨w.heap.size + 1 + 1, by omega, krow.cell 0, fun i hi => ?_⟩
        match i, hi with
        | 0, _ => exact k0.cell 0
        | 1, _ => exact k0.cell 1
        | 2, _ => exact k0.cell 2
        | 3, _ => exact k0.cell 3
        | 4, _ => exact k0.cell 4
        | 5, _ => exact k0.cell 5
      | 1, _ =>
        refine ⟨w.heap.size + 1 + 1 + 1, by omega, krow.cell 1, fun i hi => ?_⟩
        match i, hi with
        | 0, _ => exact k1.cell 0
        | 1, _ => exact k1.cell 1
        | 2, _ => exact k1.cell 2
        | 3, _ => exact k1.cell 3
        | 4, _ => exact k1.cell 4
        | 5, _ => exact k1.cell 5
    have hsz : ((((((w.alloc (.cells #[.slice none 0 0] 29)).alloc (.cells #[] 49)).alloc (.cells #[.int .i64 0, .int .i64 1, .int .i64 0, .int .i64 0, .int .i64 1, .int .i64 (-1)] 2)).alloc (.cells #[.int .i64 1, .int .i64 1, .int .i64 1, .int .i64 2, .int .i64 0, .int .i64 (-1)] 2)).alloc (.cells #[.slice (some ⟨w.heap.size + 1 + 1, 0, none⟩) 6 6, .slice (some ⟨w.heap.size + 1 + 1 + 1, 0, none⟩) 6 6] 49)).alloc (.cells #[.slice none 0 0] 29)).heap.size = w.heap.size + 1 + 1 + 1 + 1 + 1 + 1 := by simp
    have st0 : BasSt w ((((((w.alloc (.cells #[.slice none 0 0] 29)).alloc (.cells #[] 49)).alloc (.cells #[.int .i64 0, .int .i64 1, .int .i64 0, .int .i64 0, .int .i64 1, .int .i64 (-1)] 2)).alloc (.cells #[.int .i64 1, .int .i64 1, .int .i64 1, .int .i64 2, .int .i64 0, .int .i64 (-1)] 2)).alloc (.cells #[.slice (some ⟨w.heap.size + 1 + 1, 0, none⟩) 6 6, .slice (some ⟨w.heap.size + 1 + 1 + 1, 0, none⟩) 6 6] 49)).alloc (.cells #[.slice none 0 0] 29)) ((((((w.alloc (.cells #[.slice none 0 0] 29)).alloc (.cells #[] 49)).alloc (.cells #[.int .i64 0, .int .i64 1, .int .i64 0, .int .i64 0, .int .i64 1, .int .i64 (-1)] 2)).alloc (.cells #[.int .i64 1, .int .i64 1, .int .i64 1, .int .i64 2, .int .i64 0, .int .i64 (-1)] 2)).alloc (.cells #[.slice (some ⟨w.heap.size + 1 + 1, 0, none⟩) 6 6, .slice (some ⟨w.heap.size + 1 + 1 + 1, 0, none⟩) 6 6] 49)).alloc (.cells #[.slice none 0 0] 29)) (w.heap.size + 1 + 1 + 1 + 1 + 1) none 0 0 [] [] := ⟨kres, kbox, OwR.empty_ (Own.nil_ _ _ _) (fun g hg => nomatch hg), ⟨by omega, by rw [hsz]; exact Nat.le_refl _⟩, Below.refl _ _⟩
    have hsz2 : w.heap.size + 1 + 1 + 1 + 1 + 1 + 1 ≤ ((((((w.alloc (.cells #[.slice none 0 0] 29)).alloc (.cells #[] 49)).alloc (.cells #[.int .i64 0, .int .i64 1, .int .i64 0, .int .i64 0, .int .i64 1, .int .i64 (-1)] 2)).alloc (.cells #[.int .i64 1, .int .i64 1, .int .i64 1, .int .i64 2, .int .i64 0, .int .i64 (-1)] 2)).alloc (.cells #[.slice (some ⟨w.heap.size + 1 + 1, 0, none⟩) 6 6, .slice (some ⟨w.heap.size + 1 + 1 + 1, 0, none⟩) 6 6] 49)).alloc (.cells #[.slice none 0 0] 29)).heap.size := by rw [hsz]; exact Nat.le_refl _
    clear hsz kres kbox krow k0 k1
    generalize ((((((w.alloc (.cells #[.slice none 0 0] 29)).alloc (.cells #[] 49)).alloc (.cells #[.int .i64 0, .int .i64 1, .int .i64 0, .int .i64 0, .int .i64 1, .int .i64 (-1)] 2)).alloc (.cells #[.int .i64 1, .int .i64 1, .int .i64 1, .int .i64 2, .int .i64 0, .int .i64 (-1)] 2)).alloc (.cells #[.slice (some ⟨w.heap.size + 1 + 1, 0, none⟩) 6 6, .slice (some ⟨w.heap.size + 1 + 1 + 1, 0, none⟩) 6 6] 49)).alloc (.cells #[.slice none 0 0] 29)) = w0 at *
    generalize w.heap.size + 1 + 1 + 1 + 1 + 1 = bx at *
    generalize w.heap.size + 1 + 1 + 1 + 1 = g at *
    obtain ⟨zss, hzs⟩ : ∃ zss, zss = basZ 97 := ⟨_, rfl⟩
    rw [← hzs] at hsx HB
    clear hzs
    go_loopw [5] (fun i wr => ∃ (j m : Nat) (ao' : Option Addr) (c' : Nat) (us : List Value), i = .int .i64 j ∧ j ≤ 2 ∧ BasSt w w0 wr bx ao' m c' us (sxUp zss j)) (fun i _ => 2 - (intOf i).toNat)
    case atStart => exact ⟨0, 0, none, 0, [], rfl, Nat.zero_le _, st0⟩
    case round =>
      obtain ⟨j, m, ao', c', us, rfl, hj, st⟩ := hrel
      clear st0
      have ST := Lib.hid st
      clear st
      by_cases hlt : j < 2
      · obtain ⟨w2, hw2⟩ : ∃ w2, w2 = wr := ⟨_, rfl⟩
        subst hw2
        have hdj : decide ((j : Int) < 2) = true := by rw [decide_eq_true_iff]; omega
        go_wp2_with fail
        go_loopw [6, 7] (fun v i wi => ∃ (s p : Nat) (a' : Option Addr) (c' : Nat), v = .slice a' s c' ∧ i = .int .i64 p ∧ p = 2 * s ∧ s ≤ 3 ∧ Below w2.heap.size w2 wi ∧ Own2 wi w2.heap.size 143 a' s c' (sxRow (lget zss j) s)) (fun _ i _ => 6 - (intOf i).toNat)
        case atStart => exact ⟨0, 0, _, _, rfl, rfl, rfl, by omega, below_alloc1 _ _, Own2.empty_ w2 (Nat.le_refl _)⟩
        case round =>
          obtain ⟨s, p, a', c'', rfl, rfl, hp, hs, hb, ho⟩ := hrel
          have HBI := Lib.hid hb
          have HO := Lib.hid ho
          have HSX := Lib.hid ((hsx.below (ST.out.below.trans (hb.mono (by have := ST.out.size; omega))) (by omega)).2.2.2 j hlt)
          have hbz := hb.size
          clear hb ho
          by_cases hlt3 : s < 3
          · obtain ⟨b1, hb1, hc, hi⟩ := HSX.out
            have hp5 : p < 6 := by omega
            have hp6 : p + 1 < 6 := by omega
            have hc1 := hi p hp5
            have hc2 := hi (p + 1) hp6
            have HT : Hid (sxRow (lget zss j) (s + 1) = sxRow (lget zss j) s ++ [(iget (lget zss j) p, iget (lget zss j) (p + 1))]) := Lib.hid (by rw [hp]; exact sxRow_succ _ _)
            generalize iget (lget zss j) p = X at *
            generalize iget (lget zss j) (p + 1) = Y at *
            have HP := Lib.hid hp
            have hjl : (j : Int) < 2 := by omega
            have hlt61 : (p : Int) < 6 := by omega
            have hlt62 : (p : Int) + 1 < 6 := by omega
            have hlen : s + 1 ≤ 4398046511104 := by omega
            have hto : ((p : Int) + 1).toNat = p + 1 := by omega
            have hwr : IntKind.i64.wrap ((p : Int) + 1) = (p : Int) + 1 := IntWalk.i64_in _ (by omega)
            have hge : (0 : Int) ≤ (p : Int) + 1 := by omega
            clear hi hp
            go_wp2_with fail
            go_region_law (refine step_ap2 (o := ⟨some 62, _, _, _, _, _⟩) et2T rfl (.tmp 44) (.tmp 61) rfl w2.heap.size a' s c'' (sxRow (lget zss j) s) rfl (HO.out.below (by first | exact below_alloc1 _ _ | exact (below_alloc1 _ _).drew | exact (below_drew1 _).alloc (by simp) _)) X Y wr.heap.size 1 (by first | rfl | simp) ((blk_at rfl).cell 0) ((blk_at rfl).cell 1) hlen (by first | (simp; omega) | omega) ?_; intro ao3 c3' w5 o5 g5 hat5)
            all_goals
              have hbz5 : Below w2.heap.size w2 w5 := by
                have h1 : Below w2.heap.size w2 (wr.alloc (.cells #[.int .i64 X, .int .i64 Y] 143)).drew := (below_tr (below_alloc1 wr _) HBI.out).drew
                exact h1.grown g5 h1.size (fun g hg => (HO.out.lt g hg).1)
              clear g5 hat5 hc hc1 hc2
              go_wp2_with fail
              go_roundw
              case rel => exact ⟨s + 1, p + 2, ao3, c3', rfl, by go_num, by have := HP.out; omega, by omega, hbz5, by rw [HT.out]; exact o5⟩
              case measure => simp [intOf]; omega
          · obtain rfl : s = 3 := by omega
            obtain rfl : p = 6 := by omega
            have h3 := ST.out.box.belowS HBI.out
            have z0 := h3.cell 0
            have z1 := h3.frozen 0
            simp at z0
            have hm : m = j := by have h1 := ST.out.row.len; rw [show (sxUp zss j).length = j by simp [sxUp]] at h1; omega
            have hqq : m + 1 ≤ 4398046511104 := by omega
            have hwn := ST.out.size
            have hown := ST.out.row.own.below HBI.out
            have hsz : bx + 1 ≤ wr.heap.size := by omega
            have H3 := Lib.hid h3
            have HPP := Lib.hid (sxUp_succ zss j)
            clear hm h3
            go_wp2_with (at_builtin; refine wpList_ap1 etTT wr rfl _ _ rfl (bx + 1) ao' m c' us rfl hown (.slice a' 3 c'') rfl rfl hqq hsz ?_; intro ao3 c3 w5 o5 g5 hat5; have B5 : Below (bx + 1) wr w5 := (Below.refl _ _).grown g5 hsz (fun g hg => (hown.lt g hg).1); have k5 := H3.out.below B5 (by omega); have x5 : w5.cell? ⟨bx, 0, none⟩ = some (.slice ao' m c') := k5.cell 0; have f5 : w5.frozen? ⟨bx, 0, none⟩ = false := k5.frozen 0)
            have st2 := ST.out.push HBI.out HO.out (Below.refl _ _) o5 g5 (hat5.imp id fun h => ⟨_, h, by omega⟩)
            rw [← HPP.out] at st2
            have hk1 : j + 1 ≤ 2 := hlt
            clear o5 g5 hat5 B5 k5 x5 f5 hown z0 z1
            refine ⟨⟨j + 1, m + 1, ao3, c3, _, by go_num, hk1, st2⟩, ?_⟩
            simp [intOf]; omega
      · obtain rfl : j = 2 := by omega
        have y0 := ST.out.box.cell 0
        have y1 := ST.out.res.cell 0
        have y2 := ST.out.res.frozen 0
        simp at y0 y1
        go_wp2_with fail
        have st2 := ST.out.done hbw
        have hxs := ST.out.size
        generalize wr.setCell ⟨w.heap.size, 0, none⟩ (.slice ao' m c') = wf at *
        have e0 := st2.1.cell 0
        simp at e0
        refine bodyPost_ret (v := .agg #[.slice ao' m c']) (by simp [results, Try.f162, go_sem, e0]) rfl ⟨_, rfl, ?_, st2.2.2⟩
        rw [← HB.out]
        have hzl := hsx.1
        rw [hzl]
        exact ⟨ao', m, c', us, rfl, st2.2.1.mono (by omega) (Nat.le_refl _)⟩
  · show Calls Try.prog 162 #[.int .u8 116] w _
    go_enter Try.func162, Try.ntmps162
    go_wp2_with fail
    have hbw : Below w.heap.size w (((((((w.alloc (.cells #[.slice none 0 0] 29)).alloc (.cells #[] 49)).alloc (.cells #[.int .i64 0, .int .i64 0, .int .i64 1, .int .i64 (-1), .int .i64 0, .int .i64 2] 2)).alloc (.cells #[.int .i64 1, .int .i64 1, .int .i64 0, .int .i64 (-1), .int .i64 2, .int .i64 (-1)] 2)).alloc (.cells #[.int .i64 2, .int .i64 1, .int .i64 2, .int .i64 2, .int .i64 1, .int .i64 (-1)] 2)).alloc (.cells #[.slice (some ⟨w.heap.size + 1 + 1, 0, none⟩) 6 6, .slice (some ⟨w.heap.size + 1 + 1 + 1, 0, none⟩) 6 6, .slice (some ⟨w.heap.size + 1 + 1 + 1 + 1, 0, none⟩) 6 6] 49)).alloc (.cells #[.slice none 0 0] 29)) := (((((((below_alloc1 w _).alloc (by simp) _).alloc (by simp; omega) _).alloc (by simp; omega) _).alloc (by simp; omega) _).alloc (by simp; omega) _).alloc (by simp; omega) _)
    have kres : Blk (((((((w.alloc (.cells #[.slice none 0 0] 29)).alloc (.cells #[] 49)).alloc (.cells #[.int .i64 0, .int .i64 0, .int .i64 1, .int .i64 (-1), .int .i64 0, .int .i64 2] 2)).alloc (.cells #[.int .i64 1, .int .i64 1, .int .i64 0, .int .i64 (-1), .int .i64 2, .int .i64 (-1)] 2)).alloc (.cells #[.int .i64 2, .int .i64 1, .int .i64 2, .int .i64 2, .int .i64 1, .int .i64 (-1)] 2)).alloc (.cells #[.slice (some ⟨w.heap.size + 1 + 1, 0, none⟩) 6 6, .slice (some ⟨w.heap.size + 1 + 1 + 1, 0, none⟩) 6 6, .slice (some ⟨w.heap.size + 1 + 1 + 1 + 1, 0, none⟩) 6 6] 49)).alloc (.cells #[.slice none 0 0] 29)) w.heap.size 29 #[.slice none 0 0] := (((((((blk_at rfl).alloc _).alloc _).alloc _).alloc _).alloc _).alloc _)
    have kbox : Blk (((((((w.alloc (.cells #[.slice none 0 0] 29)).alloc (.cells #[] 49)).alloc (.cells #[.int .i64 0, .int .i64 0, .int .i64 1, .int .i64 (-1), .int .i64 0, .int .i64 2] 2)).alloc (.cells #[.int .i64 1, .int .i64 1, .int .i64 0, .int .i64 (-1), .int .i64 2, .int .i64 (-1)] 2)).alloc (.cells #[.int .i64 2, .int .i64 1, .int .i64 2, .int .i64 2, .int .i64 1, .int .i64 (-1)] 2)).alloc (.cells #[.slice (some ⟨w.heap.size + 1 + 1, 0, none⟩) 6 6, .slice (some ⟨w.heap.size + 1 + 1 + 1, 0, none⟩) 6 6, .slice (some ⟨w.heap.size + 1 + 1 + 1 + 1, 0, none⟩) 6 6] 49)).alloc (.cells #[.slice none 0 0] 29)) (w.heap.size + 1 + 1 + 1 + 1 + 1 + 1) 29 #[.slice none 0 0] := (blk_at (by simp))
    have krow : Blk (((((((w.alloc (.cells #[.slice none 0 0] 29)).alloc (.cells #[] 49)).alloc (.cells #[.int .i64 0, .int .i64 0, .int .i64 1, .int .i64 (-1), .int .i64 0, .int .i64 2] 2)).alloc (.cells #[.int .i64 1, .int .i64 1, .int .i64 0, .int .i64 (-1), .int .i64 2, .int .i64 (-1)] 2)).alloc (.cells #[.int .i64 2, .int .i64 1, .int .i64 2, .int .i64 2, .int .i64 1, .int .i64 (-1)] 2)).alloc (.cells #[.slice (some ⟨w.heap.size + 1 + 1, 0, none⟩) 6 6, .slice (some ⟨w.heap.size + 1 + 1 + 1, 0, none⟩) 6 6, .slice (some ⟨w.heap.size + 1 + 1 + 1 + 1, 0, none⟩) 6 6] 49)).alloc (.cells #[.slice none 0 0] 29)) (w.heap.size + 1 + 1 + 1 + 1 + 1) 49 #[.slice (some ⟨w.heap.size + 1 + 1, 0, none⟩) 6 6, .slice (some ⟨w.heap.size + 1 + 1 + 1, 0, none⟩) 6 6, .slice (some ⟨w.heap.size + 1 + 1 + 1 + 1, 0, none⟩) 6 6] := ((blk_at (by simp)).alloc _)
    have k0 : Blk (((((((w.alloc (.cells #[.slice none 0 0] 29)).alloc (.cells #[] 49)).alloc (.cells #[.int .i64 0, .int .i64 0, .int .i64 1, .int .i64 (-1), .int .i64 0, .int .i64 2] 2)).alloc (.cells #[.int .i64 1, .int .i64 1, .int .i64 0, .int .i64 (-1), .int .i64 2, .int .i64 (-1)] 2)).alloc (.cells #[.int .i64 2, .int .i64 1, .int .i64 2, .int .i64 2, .int .i64 1, .int .i64 (-1)] 2)).alloc (.cells #[.slice (some ⟨w.heap.size + 1 + 1, 0, none⟩) 6 6, .slice (some ⟨w.heap.size + 1 + 1 + 1, 0, none⟩) 6 6, .slice (some ⟨w.heap.size + 1 + 1 + 1 + 1, 0, none⟩) 6 6] 49)).alloc (.cells #[.slice none 0 0] 29)) (w.heap.size + 1 + 1) 2 #[.int .i64 0, .int .i64 0, .int .i64 1, .int .i64 (-1), .int .i64 0, .int .i64 2] := (((((blk_at (by simp)).alloc _).alloc _).alloc _).alloc _)
    have k1 : Blk (((((((w.alloc (.cells #[.slice none 0 0] 29)).alloc (.cells #[] 49)).alloc (.cells #[.int .i64 0, .int .i64 0, .int .i64 1, .int .i64 (-1), .int .i64 0, .int .i64 2] 2)).alloc (.cells #[.int .i64 1, .int .i64 1, .int .i64 0, .int .i64 (-1), .int .i64 2, .int .i64 (-1)] 2)).alloc (.cells #[.int .i64 2, .int .i64 1, .int .i64 2, .int .i64 2, .int .i64 1, .int .i64 (-1)] 2)).alloc (.cells #[.slice (some ⟨w.heap.size + 1 + 1, 0, none⟩) 6 6, .slice (some ⟨w.heap.size + 1 + 1 + 1, 0, none⟩) 6 6, .slice (some ⟨w.heap.size + 1 + 1 + 1 + 1, 0, none⟩) 6 6] 49)).alloc (.cells #[.slice none 0 0] 29)) (w.heap.size + 1 + 1 + 1) 2 #[.int .i64 1, .int .i64 1, .int .i64 0, .int .i64 (-1), .int .i64 2, .int .i64 (-1)] := ((((blk_at (by simp)).alloc _).alloc _).alloc _)
    have k2 : Blk (((((((w.alloc (.cells #[.slice none 0 0] 29)).alloc (.cells #[] 49)).alloc (.cells #[.int .i64 0, .int .i64 0, .int .i64 1, .int .i64 (-1), .int .i64 0, .int .i64 2] 2)).alloc (.cells #[.int .i64 1, .int .i64 1, .int .i64 0, .int .i64 (-1), .int .i64 2, .int .i64 (-1)] 2)).alloc (.cells #[.int .i64 2, .int .i64 1, .int .i64 2, .int .i64 2, .int .i64 1, .int .i64 (-1)] 2)).alloc (.cells #[.slice (some ⟨w.heap.size + 1 + 1, 0, none⟩) 6 6, .slice (some ⟨w.heap.size + 1 + 1 + 1, 0, none⟩) 6 6, .slice (some ⟨w.heap.size + 1 + 1 + 1 + 1, 0, none⟩) 6 6] 49)).alloc (.cells #[.slice none 0 0] 29)) (w.heap.size + 1 + 1 + 1 + 1) 2 #[.int .i64 2, .int .i64 1, .int .i64 2, .int .i64 2, .int .i64 1, .int .i64 (-1)] := (((blk_at (by simp)).alloc _).alloc _)
    have hsx : SixAt (((((((w.alloc (.cells #[.slice none 0 0] 29)).alloc (.cells #[] 49)).alloc (.cells #[.int .i64 0, .int .i64 0, .int .i64 1, .int .i64 (-1), .int .i64 0, .int .i64 2] 2)).alloc (.cells #[.int .i64 1, .int .i64 1, .int .i64 0, .int .i64 (-1), .int .i64 2, .int .i64 (-1)] 2)).alloc (.cells #[.int .i64 2, .int .i64 1, .int .i64 2, .int .i64 2, .int .i64 1, .int .i64 (-1)] 2)).alloc (.cells #[.slice (some ⟨w.heap.size + 1 + 1, 0, none⟩) 6 6, .slice (some ⟨w.heap.size + 1 + 1 + 1, 0, none⟩) 6 6, .slice (some ⟨w.heap.size + 1 + 1 + 1 + 1, 0, none⟩) 6 6] 49)).alloc (.cells #[.slice none 0 0] 29)) (w.heap.size + 1 + 1 + 1 + 1 + 1 + 1) (w.heap.size + 1 + 1 + 1 + 1 + 1) 3 (basZ 116) := by
      refine ⟨rfl, by omega, by omega, fun j hj => ?_⟩
      match j, hj with
      | 0, _ =>
        refine ⟨w.heap.size + 1 + 1, by omega, krow.cell 0, fun i hi => ?_⟩
        match i, hi with
        | 0, _ => exact k0.cell 0
        | 1, _ => exact k0.cell 1
        | 2, _ => exact k0.cell 2
        | 3, _ => exact k0.cell 3
        | 4, _ => exact k0.cell 4
        | 5, _ => exact k0.cell 5
      | 1, _ =>
        refine ⟨w.heap.size + 1 + 1 + 1, by omega, krow.cell 1, fun i hi => ?_⟩
        match i, hi with
        | 0, _ => exact k1.cell 0
        | 1, _ => exact k1.cell 1
        | 2, _ => exact k1.cell 2
        | 3, _ => exact k1.cell 3
        | 4, _ => exact k1.cell 4
        | 5, _ => exact k1.cell 5
      | 2, _ =>
        refine ⟨w.heap.size + 1 + 1 + 1 + 1, by omega, krow.cell 2, fun i hi => ?_⟩
        match i, hi with
        | 0, _ => exact k2.cell 0
        | 1, _ => exact k2.cell 1
        | 2, _ => exact k2.cell 2
        | 3, _ => exact k2.cell 3
        | 4, _ => exact k2.cell 4
        | 5, _ => exact k2.cell 5
    have hsz : (((((((w.alloc (.cells #[.slice none 0 0] 29)).alloc (.cells #[] 49)).alloc (.cells #[.int .i64 0, .int .i64 0, .int .i64 1, .int .i64 (-1), .int .i64 0, .int .i64 2] 2)).alloc (.cells #[.int .i64 1, .int .i64 1, .int .i64 0, .int .i64 (-1), .int .i64 2, .int .i64 (-1)] 2)).alloc (.cells #[.int .i64 2, .int .i64 1, .int .i64 2, .int .i64 2, .int .i64 1, .int .i64 (-1)] 2)).alloc (.cells #[.slice (some ⟨w.heap.size + 1 + 1, 0, none⟩) 6 6, .slice (some ⟨w.heap.size + 1 + 1 + 1, 0, none⟩) 6 6, .slice (some ⟨w.heap.size + 1 + 1 + 1 + 1, 0, none⟩) 6 6] 49)).alloc (.cells #[.slice none 0 0] 29)).heap.size = w.heap.size + 1 + 1 + 1 + 1 + 1 + 1 + 1 := by simp
    have st0 : BasSt w (((((((w.alloc (.cells #[.slice none 0 0] 29)).alloc (.cells #[] 49)).alloc (.cells #[.int .i64 0, .int .i64 0, .int .i64 1, .int .i64 (-1), .int .i64 0, .int .i64 2] 2)).alloc (.cells #[.int .i64 1, .int .i64 1, .int .i64 0, .int .i64 (-1), .int .i64 2, .int .i64 (-1)] 2)).alloc (.cells #[.int .i64 2, .int .i64 1, .int .i64 2, .int .i64 2, .int .i64 1, .int .i64 (-1)] 2)).alloc (.cells #[.slice (some ⟨w.heap.size + 1 + 1, 0, none⟩) 6 6, .slice (some ⟨w.heap.size + 1 + 1 + 1, 0, none⟩) 6 6, .slice (some ⟨w.heap.size + 1 + 1 + 1 + 1, 0, none⟩) 6 6] 49)).alloc (.cells #[.slice none 0 0] 29)) (((((((w.alloc (.cells #[.slice none 0 0] 29)).alloc (.cells #[] 49)).alloc (.cells #[.int .i64 0, .int .i64 0, .int .i64 1, .int .i64 (-1), .int .i64 0, .int .i64 2] 2)).alloc (.cells #[.int .i64 1, .int .i64 1, .int .i64 0, .int .i64 (-1), .int .i64 2, .int .i64 (-1)] 2)).alloc (.cells #[.int .i64 2, .int .i64 1, .int .i64 2, .int .i64 2, .int .i64 1, .int .i64 (-1)] 2)).alloc (.cells #[.slice (some ⟨w.heap.size + 1 + 1, 0, none⟩) 6 6, .slice (some ⟨w.heap.size + 1 + 1 + 1, 0, none⟩) 6 6, .slice (some ⟨w.heap.size + 1 + 1 + 1 + 1, 0, none⟩) 6 6] 49)).alloc (.cells #[.slice none 0 0] 29)) (w.heap.size + 1 + 1 + 1 + 1 + 1 + 1) none 0 0 [] [] := ⟨kres, kbox, OwR.empty_ (Own.nil_ _ _ _) (fun g hg => nomatch hg), ⟨by omega, by rw [hsz]; exact Nat.le_refl _⟩, Below.refl _ _⟩
    have hsz2 : w.heap.size + 1 + 1 + 1 + 1 + 1 + 1 + 1 ≤ (((((((w.alloc (.cells #[.slice none 0 0] 29)).alloc (.cells #[] 49)).alloc (.cells #[.int .i64 0, .int .i64 0, .int .i64 1, .int .i64 (-1), .int .i64 0, .int .i64 2] 2)).alloc (.cells #[.int .i64 1, .int .i64 1, .int .i64 0, .int .i64 (-1), .int .i64 2, .int .i64 (-1)] 2)).alloc (.cells #[.int .i64 2, .int .i64 1, .int .i64 2, .int .i64 2, .int .i64 1, .int .i64 (-1)] 2)).alloc (.cells #[.slice (some ⟨w.heap.size + 1 + 1, 0, none⟩) 6 6, .slice (some ⟨w.heap.size + 1 + 1 + 1, 0, none⟩) 6 6, .slice (some ⟨w.heap.size + 1 + 1 + 1 + 1, 0, none⟩) 6 6] 49)).alloc (.cells #[.slice none 0 0] 29)).heap.size := by rw [hsz]; exact Nat.le_refl _
    clear hsz kres kbox krow k0 k1 k2
    generalize (((((((w.alloc (.cells #[.slice none 0 0] 29)).alloc (.cells #[] 49)).alloc (.cells #[.int .i64 0, .int .i64 0, .int .i64 1, .int .i64 (-1), .int .i64 0, .int .i64 2] 2)).alloc (.cells #[.int .i64 1, .int .i64 1, .int .i64 0, .int .i64 (-1), .int .i64 2, .int .i64 (-1)] 2)).alloc (.cells #[.int .i64 2, .int .i64 1, .int .i64 2, .int .i64 2, .int .i64 1, .int .i64 (-1)] 2)).alloc (.cells #[.slice (some ⟨w.heap.size + 1 + 1, 0, none⟩) 6 6, .slice (some ⟨w.heap.size + 1 + 1 + 1, 0, none⟩) 6 6, .slice (some ⟨w.heap.size + 1 + 1 + 1 + 1, 0, none⟩) 6 6] 49)).alloc (.cells #[.slice none 0 0] 29)) = w0 at *
    generalize w.heap.size + 1 + 1 + 1 + 1 + 1 + 1 = bx at *
    generalize w.heap.size + 1 + 1 + 1 + 1 + 1 = g at *
    obtain ⟨zss, hzs⟩ : ∃ zss, zss = basZ 116 := ⟨_, rfl⟩
    rw [← hzs] at hsx HB
    clear hzs
    go_loopw [5] (fun i wr => ∃ (j m : Nat) (ao' : Option Addr) (c' : Nat) (us : List Value), i = .int .i64 j ∧ j ≤ 3 ∧ BasSt w w0 wr bx ao' m c' us (sxUp zss j)) (fun i _ => 3 - (intOf i).toNat)
    case atStart => exact ⟨0, 0, none, 0, [], rfl, Nat.zero_le _, st0⟩
    case round =>
      obtain ⟨j, m, ao', c', us, rfl, hj, st⟩ := hrel
      clear st0
      have ST := Lib.hid st
      clear st
      by_cases hlt : j < 3
      · obtain ⟨w2, hw2⟩ : ∃ w2, w2 = wr := ⟨_, rfl⟩
        subst hw2
        have hdj : decide ((j : Int) < 3) = true := by rw [decide_eq_true_iff]; omega
        go_wp2_with fail
        go_loopw [6, 7] (fun v i wi => ∃ (s p : Nat) (a' : Option Addr) (c' : Nat), v = .slice a' s c' ∧ i = .int .i64 p ∧ p = 2 * s ∧ s ≤ 3 ∧ Below w2.heap.size w2 wi ∧ Own2 wi w2.heap.size 143 a' s c' (sxRow (lget zss j) s)) (fun _ i _ => 6 - (intOf i).toNat)
        case atStart => exact ⟨0, 0, _, _, rfl, rfl, rfl, by omega, below_alloc1 _ _, Own2.empty_ w2 (Nat.le_refl _)⟩
        case round =>
          obtain ⟨s, p, a', c'', rfl, rfl, hp, hs, hb, ho⟩ := hrel
          have HBI := Lib.hid hb
          have HO := Lib.hid ho
          have HSX := Lib.hid ((hsx.below (ST.out.below.trans (hb.mono (by have := ST.out.size; omega))) (by omega)).2.2.2 j hlt)
          have hbz := hb.size
          clear hb ho
          by_cases hlt3 : s < 3
          · obtain ⟨b1, hb1, hc, hi⟩ := HSX.out
            have hp5 : p < 6 := by omega
            have hp6 : p + 1 < 6 := by omega
            have hc1 := hi p hp5
            have hc2 := hi (p + 1) hp6
            have HT : Hid (sxRow (lget zss j) (s + 1) = sxRow (lget zss j) s ++ [(iget (lget zss j) p, iget (lget zss j) (p + 1))]) := Lib.hid (by rw [hp]; exact sxRow_succ _ _)
            generalize iget (lget zss j) p = X at *
            generalize iget (lget zss j) (p + 1) = Y at *
            have HP := Lib.hid hp
            have hjl : (j : Int) < 3 := by omega
            have hlt61 : (p : Int) < 6 := by omega
            have hlt62 : (p : Int) + 1 < 6 := by omega
            have hlen : s + 1 ≤ 4398046511104 := by omega
            have hto : ((p : Int) + 1).toNat = p + 1 := by omega
            have hwr : IntKind.i64.wrap ((p : Int) + 1) = (p : Int) + 1 := IntWalk.i64_in _ (by omega)
            have hge : (0 : Int) ≤ (p : Int) + 1 := by omega
            clear hi hp
            go_wp2_with fail
            go_region_law (refine step_ap2 (o := ⟨some 62, _, _, _, _, _⟩) et2T rfl (.tmp 44) (.tmp 61) rfl w2.heap.size a' s c'' (sxRow (lget zss j) s) rfl (HO.out.below (by first | exact below_alloc1 _ _ | exact (below_alloc1 _ _).drew | exact (below_drew1 _).alloc (by simp) _)) X Y wr.heap.size 1 (by first | rfl | simp) ((blk_at rfl).cell 0) ((blk_at rfl).cell 1) hlen (by first | (simp; omega) | omega) ?_; intro ao3 c3' w5 o5 g5 hat5)
            all_goals
              have hbz5 : Below w2.heap.size w2 w5 := by
                have h1 : Below w2.heap.size w2 (wr.alloc (.cells #[.int .i64 X, .int .i64 Y] 143)).drew := (below_tr (below_alloc1 wr _) HBI.out).drew
                exact h1.grown g5 h1.size (fun g hg => (HO.out.lt g hg).1)
              clear g5 hat5 hc hc1 hc2
              go_wp2_with fail
              go_roundw
              case rel => exact ⟨s + 1, p + 2, ao3, c3', rfl, by go_num, by have := HP.out; omega, by omega, hbz5, by rw [HT.out]; exact o5⟩
              case measure => simp [intOf]; omega
          · obtain rfl : s = 3 := by omega
            obtain rfl : p = 6 := by omega
            have h3 := ST.out.box.belowS HBI.out
            have z0 := h3.cell 0
            have z1 := h3.frozen 0
            simp at z0
            have hm : m = j := by have h1 := ST.out.row.len; rw [show (sxUp zss j).length = j by simp [sxUp]] at h1; omega
            have hqq : m + 1 ≤ 4398046511104 := by omega
            have hwn := ST.out.size
            have hown := ST.out.row.own.below HBI.out
            have hsz : bx + 1 ≤ wr.heap.size := by omega
            have H3 := Lib.hid h3
            have HPP := Lib.hid (sxUp_succ zss j)
            clear hm h3
            go_wp2_with (at_builtin; refine wpList_ap1 etTT wr rfl _ _ rfl (bx + 1) ao' m c' us rfl hown (.slice a' 3 c'') rfl rfl hqq hsz ?_; intro ao3 c3 w5 o5 g5 hat5; have B5 : Below (bx + 1) wr w5 := (Below.refl _ _).grown g5 hsz (fun g hg => (hown.lt g hg).1); have k5 := H3.out.below B5 (by omega); have x5 : w5.cell? ⟨bx, 0, none⟩ = some (.slice ao' m c') := k5.cell 0; have f5 : w5.frozen? ⟨bx, 0, none⟩ = false := k5.frozen 0)
            have st2 := ST.out.push HBI.out HO.out (Below.refl _ _) o5 g5 (hat5.imp id fun h => ⟨_, h, by omega⟩)
            rw [← HPP.out] at st2
            have hk1 : j + 1 ≤ 3 := hlt
            clear o5 g5 hat5 B5 k5 x5 f5 hown z0 z1
            refine ⟨⟨j + 1, m + 1, ao3, c3, _, by go_num, hk1, st2⟩, ?_⟩
            simp [intOf]; omega
      · obtain rfl : j = 3 := by omega
        have y0 := ST.out.box.cell 0
        have y1 := ST.out.res.cell 0
        have y2 := ST.out.res.frozen 0
        simp at y0 y1
        go_wp2_with fail
        have st2 := ST.out.done hbw
        have hxs := ST.out.size
        generalize wr.setCell ⟨w.heap.size, 0, none⟩ (.slice ao' m c') = wf at *
        have e0 := st2.1.cell 0
        simp at e0
        refine bodyPost_ret (v := .agg #[.slice ao' m c']) (by simp [results, Try.f162, go_sem, e0]) rfl ⟨_, rfl, ?_, st2.2.2⟩
        rw [← HB.out]
        have hzl := hsx.1
        rw [hzl]
        exact ⟨ao', m, c', us, rfl, st2.2.1.mono (by omega) (Nat.le_refl _)⟩
  · show Calls Try.prog 162 #[.int .u8 99] w _
    go_enter Try.func162, Try.ntmps162
    go_wp2_with fail
    have hbw : Below w.heap.size w ((((((((w.alloc (.cells #[.slice none 0 0] 29)).alloc (.cells #[] 49)).alloc (.cells #[.int .i64 1, .int .i64 (-1), .int .i64 0, .int .i64 2, .int .i64 0, .int .i64 1] 2)).alloc (.cells #[.int .i64 0, .int .i64 (-1), .int .i64 2, .int .i64 (-1), .int .i64 1, .int .i64 1] 2)).alloc (.cells #[.int .i64 2, .int .i64 0, .int .i64 1, .int .i64 (-1), .int .i64 3, .int .i64 (-1)] 2)).alloc (.cells #[.int .i64 3, .int .i64 0, .int .i64 3, .int .i64 1, .int .i64 2, .int .i64 (-1)] 2)).alloc (.cells #[.slice (some ⟨w.heap.size + 1 + 1, 0, none⟩) 6 6, .slice (some ⟨w.heap.size + 1 + 1 + 1, 0, none⟩) 6 6, .slice (some ⟨w.heap.size + 1 + 1 + 1 + 1, 0, none⟩) 6 6, .slice (some ⟨w.heap.size + 1 + 1 + 1 + 1 + 1, 0, none⟩) 6 6] 49)).alloc (.cells #[.slice none 0 0] 29)) := ((((((((below_alloc1 w _).alloc (by simp) _).alloc (by simp; omega) _).alloc (by simp; omega) _).alloc (by simp; omega) _).alloc (by simp; omega) _).alloc (by simp; omega) _).alloc (by simp; omega) _)
    have kres : Blk ((((((((w.alloc (.cells #[.slice none 0 0] 29)).alloc (.cells #[] 49)).alloc (.cells #[.int .i64 1, .int .i64 (-1), .int .i64 0, .int .i64 2, .int .i64 0, .int .i64 1] 2)).alloc (.cells #[.int .i64 0, .int .i64 (-1), .int .i64 2, .int .i64 (-1), .int .i64 1, .int .i64 1] 2)).alloc (.cells #[.int .i64 2, .int .i64 0, .int .i64 1, .int .i64 (-1), .int .i64 3, .int .i64 (-1)] 2)).alloc (.cells #[.int .i64 3, .int .i64 0, .int .i64 3, .int .i64 1, .int .i64 2, .int .i64 (-1)] 2)).alloc (.cells #[.slice (some ⟨w.heap.size + 1 + 1, 0, none⟩) 6 6, .slice (some ⟨w.heap.size + 1 + 1 + 1, 0, none⟩) 6 6, .slice (some ⟨w.heap.size + 1 + 1 + 1 + 1, 0, none⟩) 6 6, .slice (some ⟨w.heap.size + 1 + 1 + 1 + 1 + 1, 0, none⟩) 6 6] 49)).alloc (.cells #[.slice none 0 0] 29)) w.heap.size 29 #[.slice none 0 0] := ((((((((blk_at rfl).alloc _).alloc _).alloc _).alloc _).alloc _).alloc _).alloc _)
    have kbox : Blk ((((((((w.alloc (.cells #[.slice none 0 0] 29)).alloc (.cells #[] 49)).alloc (.cells #[.int .i64 1, .int .i64 (-1), .int .i64 0, .int .i64 2, .int .i64 0, .int .i64 1] 2)).alloc (.cells #[.int .i64 0, .int .i64 (-1), .int .i64 2, .int .i64 (-1), .int .i64 1, .int .i64 1] 2)).alloc (.cells #[.int .i64 2, .int .i64 0, .int .i64 1, .int .i64 (-1), .int .i64 3, .int .i64 (-1)] 2)).alloc (.cells #[.int .i64 3, .int .i64 0, .int .i64 3, .int .i64 1, .int .i64 2, .int .i64 (-1)] 2)).alloc (.cells #[.slice (some ⟨w.heap.size + 1 + 1, 0, none⟩) 6 6, .slice (some ⟨w.heap.size + 1 + 1 + 1, 0, none⟩) 6 6, .slice (some ⟨w.heap.size + 1 + 1 + 1 + 1, 0, none⟩) 6 6, .slice (some ⟨w.heap.size + 1 + 1 + 1 + 1 + 1, 0, none⟩) 6 6] 49)).alloc (.cells #[.slice none 0 0] 29)) (w.heap.size + 1 + 1 + 1 + 1 + 1 + 1 + 1) 29 #[.slice none 0 0] := (blk_at (by simp))
    have krow : Blk ((((((((w.alloc (.cells #[.slice none 0 0] 29)).alloc (.cells #[] 49)).alloc (.cells #[.int .i64 1, .int .i64 (-1), .int .i64 0, .int .i64 2, .int .i64 0, .int .i64 1] 2)).alloc (.cells #[.int .i64 0, .int .i64 (-1), .int .i64 2, .int .i64 (-1), .int .i64 1, .int .i64 1] 2)).alloc (.cells #[.int .i64 2, .int .i64 0, .int .i64 1, .int .i64 (-1), .int .i64 3, .int .i64 (-1)] 2)).alloc (.cells #[.int .i64 3, .int .i64 0, .int .i64 3, .int .i64 1, .int .i64 2, .int .i64 (-1)] 2)).alloc (.cells #[.slice (some ⟨w.heap.size + 1 + 1, 0, none⟩) 6 6, .slice (some ⟨w.heap.size + 1 + 1 + 1, 0, none⟩) 6 6, .slice (some ⟨w.heap.size + 1 + 1 + 1 + 1, 0, none⟩) 6 6, .slice (some ⟨w.heap.size + 1 + 1 + 1 + 1 + 1, 0, none⟩) 6 6] 49)).alloc (.cells #[.slice none 0 0] 29)) (w.heap.size + 1 + 1 + 1 + 1 + 1 + 1) 49 #[.slice (some ⟨w.heap.size + 1 + 1, 0, none⟩) 6 6, .slice (some ⟨w.heap.size + 1 + 1 + 1, 0, none⟩) 6 6, .slice (some ⟨w.heap.size + 1 + 1 + 1 + 1, 0, none⟩) 6 6, .slice (some ⟨w.heap.size + 1 + 1 + 1 + 1 + 1, 0, none⟩) 6 6] := ((blk_at (by simp)).alloc _)
    have k0 : Blk ((((((((w.alloc (.cells #[.slice none 0 0] 29)).alloc (.cells #[] 49)).alloc (.cells #[.int .i64 1, .int .i64 (-1), .int .i64 0, .int .i64 2, .int .i64 0, .int .i64 1] 2)).alloc (.cells #[.int .i64 0, .int .i64 (-1), .int .i64 2, .int .i64 (-1), .int .i64 1, .int .i64 1] 2)).alloc (.cells #[.int .i64 2, .int .i64 0, .int .i64 1, .int .i64 (-1), .int .i64 3, .int .i64 (-1)] 2)).alloc (.cells #[.int .i64 3, .int .i64 0, .int .i64 3, .int .i64 1, .int .i64 2, .int .i64 (-1)] 2)).alloc (.cells #[.slice (some ⟨w.heap.size + 1 + 1, 0, none⟩) 6 6, .slice (some ⟨w.heap.size + 1 + 1 + 1, 0, none⟩) 6 6, .slice (some ⟨w.heap.size + 1 + 1 + 1 + 1, 0, none⟩) 6 6, .slice (some ⟨w.heap.size + 1 + 1 + 1 + 1 + 1, 0, none⟩) 6 6] 49)).alloc (.cells #[.slice none 0 0] 29)) (w.heap.size + 1 + 1) 2 #[.int .i64 1, .int .i64 (-1), .int .i64 0, .int .i64 2, .int .i64 0, .int .i64 1] := ((((((blk_at (by simp)).alloc _).alloc _).alloc _).alloc _).alloc _)
    have k1 : Blk ((((((((w.alloc (.cells #[.slice none 0 0] 29)).alloc (.cells #[] 49)).alloc (.cells #[.int .i64 1, .int .i64 (-1), .int .i64 0, .int .i64 2, .int .i64 0, .int .i64 1] 2)).alloc (.cells #[.int .i64 0, .int .i64 (-1), .int .i64 2, .int .i64 (-1), .int .i64 1, .int .i64 1] 2)).alloc (.cells #[.int .i64 2, .int .i64 0, .int .i64 1, .int .i64 (-1), .int .i64 3, .int .i64 (-1)] 2)).alloc (.cells #[.int .i64 3, .int .i64 0, .int .i64 3, .int .i64 1, .int .i64 2, .int .i64 (-1)] 2)).alloc (.cells #[.slice (some ⟨w.heap.size + 1 + 1, 0, none⟩) 6 6, .slice (some ⟨w.heap.size + 1 + 1 + 1, 0, none⟩) 6 6, .slice (some ⟨w.heap.size + 1 + 1 + 1 + 1, 0, none⟩) 6 6, .slice (some ⟨w.heap.size + 1 + 1 + 1 + 1 + 1, 0, none⟩) 6 6] 49)).alloc (.cells #[.slice none 0 0] 29)) (w.heap.size + 1 + 1 + 1) 2 #[.int .i64 0, .int .i64 (-1), .int .i64 2, .int .i64 (-1), .int .i64 1, .int .i64 1] := (((((blk_at (by simp)).alloc _).alloc _).alloc _).alloc _)
    have k2 : Blk ((((((((w.alloc (.cells #[.slice none 0 0] 29)).alloc (.cells #[] 49)).alloc (.cells #[.int .i64 1, .int .i64 (-1), .int .i64 0, .int .i64 2, .int .i64 0, .int .i64 1] 2)).alloc (.cells #[.int .i64 0, .int .i64 (-1), .int .i64 2, .int .i64 (-1), .int .i64 1, .int .i64 1] 2)).alloc (.cells #[.int .i64 2, .int .i64 0, .int .i64 1, .int .i64 (-1), .int .i64 3, .int .i64 (-1)] 2)).alloc (.cells #[.int .i64 3, .int .i64 0, .int .i64 3, .int .i64 1, .int .i64 2, .int .i64 (-1)] 2)).alloc (.cells #[.slice (some ⟨w.heap.size + 1 + 1, 0, none⟩) 6 6, .slice (some ⟨w.heap.size + 1 + 1 + 1, 0, none⟩) 6 6, .slice (some ⟨w.heap.size + 1 + 1 + 1 + 1, 0, none⟩) 6 6, .slice (some ⟨w.heap.size + 1 + 1 + 1 + 1 + 1, 0, none⟩) 6 6] 49)).alloc (.cells #[.slice none 0 0] 29)) (w.heap.size + 1 + 1 + 1 + 1) 2 #[.int .i64 2, .int .i64 0, .int .i64 1, .int .i64 (-1), .int .i64 3, .int .i64 (-1)] := ((((blk_at (by simp)).alloc _).alloc _).alloc _)
    have k3 : Blk ((((((((w.alloc (.cells #[.slice none 0 0] 29)).alloc (.cells #[] 49)).alloc (.cells #[.int .i64 1, .int .i64 (-1), .int .i64 0, .int .i64 2, .int .i64 0, .int .i64 1] 2)).alloc (.cells #[.int .i64 0, .int .i64 (-1), .int .i64 2, .int .i64 (-1), .int .i64 1, .int .i64 1] 2)).alloc (.cells #[.int .i64 2, .int .i64 0, .int .i64 1, .int .i64 (-1), .int .i64 3, .int .i64 (-1)] 2)).alloc (.cells #[.int .i64 3, .int .i64 0, .int .i64 3, .int .i64 1, .int .i64 2, .int .i64 (-1)] 2)).alloc (.cells #[.slice (some ⟨w.heap.size + 1 + 1, 0, none⟩) 6 6, .slice (some ⟨w.heap.size + 1 + 1 + 1, 0, none⟩) 6 6, .slice (some ⟨w.heap.size + 1 + 1 + 1 + 1, 0, none⟩) 6 6, .slice (some ⟨w.heap.size + 1 + 1 + 1 + 1 + 1, 0, none⟩) 6 6] 49)).alloc (.cells #[.slice none 0 0] 29)) (w.heap.size + 1 + 1 + 1 + 1 + 1) 2 #[.int .i64 3, .int .i64 0, .int .i64 3, .int .i64 1, .int .i64 2, .int .i64 (-1)] := (((blk_at (by simp)).alloc _).alloc _)
    have hsx : SixAt ((((((((w.alloc (.cells #[.slice none 0 0] 29)).alloc (.cells #[] 49)).alloc (.cells #[.int .i64 1, .int .i64 (-1), .int .i64 0, .int .i64 2, .int .i64 0, .int .i64 1] 2)).alloc (.cells #[.int .i64 0, .int .i64 (-1), .int .i64 2, .int .i64 (-1), .int .i64 1, .int .i64 1] 2)).alloc (.cells #[.int .i64 2, .int .i64 0, .int .i64 1, .int .i64 (-1), .int .i64 3, .int .i64 (-1)] 2)).alloc (.cells #[.int .i64 3, .int .i64 0, .int .i64 3, .int .i64 1, .int .i64 2, .int .i64 (-1)] 2)).alloc (.cells #[.slice (some ⟨w.heap.size + 1 + 1, 0, none⟩) 6 6, .slice (some ⟨w.heap.size + 1 + 1 + 1, 0, none⟩) 6 6, .slice (some ⟨w.heap.size + 1 + 1 + 1 + 1, 0, none⟩) 6 6, .slice (some ⟨w.heap.size + 1 + 1 + 1 + 1 + 1, 0, none⟩) 6 6] 49)).alloc (.cells #[.slice none 0 0] 29)) (w.heap.size + 1 + 1 + 1 + 1 + 1 + 1 + 1) (w.heap.size + 1 + 1 + 1 + 1 + 1 + 1) 4 (basZ 99) := by
      refine ⟨rfl, by omega, by omega, fun j hj => ?_⟩
      match j, hj with
      | 0, _ =>
        refine ⟨w.heap.size + 1 + 1, by omega, krow.cell 0, fun i hi => ?_⟩
        match i, hi with
        | 0, _ => exact k0.cell 0
        | 1, _ => exact k0.cell 1
        | 2, _ => exact k0.cell 2
        | 3, _ => exact k0.cell 3
        | 4, _ => exact k0.cell 4
        | 5, _ => exact k0.cell 5
      | 1, _ =>
        refine ⟨w.heap.size + 1 + 1 + 1, by omega, krow.cell 1, fun i hi => ?_⟩
        match i, hi with
        | 0, _ => exact k1.cell 0
        | 1, _ => exact k1.cell 1
        | 2, _ => exact k1.cell 2
        | 3, _ => exact k1.cell 3
        | 4, _ => exact k1.cell 4
        | 5, _ => exact k1.cell 5
      | 2, _ =>
        refine ⟨w.heap.size + 1 + 1 + 1 + 1, by omega, krow.cell 2, fun i hi => ?_⟩
        match i, hi with
        | 0, _ => exact k2.cell 0
        | 1, _ => exact k2.cell 1
        | 2, _ => exact k2.cell 2
        | 3, _ => exact k2.cell 3
        | 4, _ => exact k2.cell 4
        | 5, _ => exact k2.cell 5
      | 3, _ =>
        refine ⟨w.heap.size + 1 + 1 + 1 + 1 + 1, by omega, krow.cell 3, fun i hi => ?_⟩
        match i, hi with
        | 0, _ => exact k3.cell 0
        | 1, _ => exact k3.cell 1
        | 2, _ => exact k3.cell 2
        | 3, _ => exact k3.cell 3
        | 4, _ => exact k3.cell 4
        | 5, _ => exact k3.cell 5
    have hsz : ((((((((w.alloc (.cells #[.slice none 0 0] 29)).alloc (.cells #[] 49)).alloc (.cells #[.int .i64 1, .int .i64 (-1), .int .i64 0, .int .i64 2, .int .i64 0, .int .i64 1] 2)).alloc (.cells #[.int .i64 0, .int .i64 (-1), .int .i64 2, .int .i64 (-1), .int .i64 1, .int .i64 1] 2)).alloc (.cells #[.int .i64 2, .int .i64 0, .int .i64 1, .int .i64 (-1), .int .i64 3, .int .i64 (-1)] 2)).alloc (.cells #[.int .i64 3, .int .i64 0, .int .i64 3, .int .i64 1, .int .i64 2, .int .i64 (-1)] 2)).alloc (.cells #[.slice (some ⟨w.heap.size + 1 + 1, 0, none⟩) 6 6, .slice (some ⟨w.heap.size + 1 + 1 + 1, 0, none⟩) 6 6, .slice (some ⟨w.heap.size + 1 + 1 + 1 + 1, 0, none⟩) 6 6, .slice (some ⟨w.heap.size + 1 + 1 + 1 + 1 + 1, 0, none⟩) 6 6] 49)).alloc (.cells #[.slice none 0 0] 29)).heap.size = w.heap.size + 1 + 1 + 1 + 1 + 1 + 1 + 1 + 1 := by simp
    have st0 : BasSt w ((((((((w.alloc (.cells #[.slice none 0 0] 29)).alloc (.cells #[] 49)).alloc (.cells #[.int .i64 1, .int .i64 (-1), .int .i64 0, .int .i64 2, .int .i64 0, .int .i64 1] 2)).alloc (.cells #[.int .i64 0, .int .i64 (-1), .int .i64 2, .int .i64 (-1), .int .i64 1, .int .i64 1] 2)).alloc (.cells #[.int .i64 2, .int .i64 0, .int .i64 1, .int .i64 (-1), .int .i64 3, .int .i64 (-1)] 2)).alloc (.cells #[.int .i64 3, .int .i64 0, .int .i64 3, .int .i64 1, .int .i64 2, .int .i64 (-1)] 2)).alloc (.cells #[.slice (some ⟨w.heap.size + 1 + 1, 0, none⟩) 6 6, .slice (some ⟨w.heap.size + 1 + 1 + 1, 0, none⟩) 6 6, .slice (some ⟨w.heap.size + 1 + 1 + 1 + 1, 0, none⟩) 6 6, .slice (some ⟨w.heap.size + 1 + 1 + 1 + 1 + 1, 0, none⟩) 6 6] 49)).alloc (.cells #[.slice none 0 0] 29)) ((((((((w.alloc (.cells #[.slice none 0 0] 29)).alloc (.cells #[] 49)).alloc (.cells #[.int .i64 1, .int .i64 (-1), .int .i64 0, .int .i64 2, .int .i64 0, .int .i64 1] 2)).alloc (.cells #[.int .i64 0, .int .i64 (-1), .int .i64 2, .int .i64 (-1), .int .i64 1, .int .i64 1] 2)).alloc (.cells #[.int .i64 2, .int .i64 0, .int .i64 1, .int .i64 (-1), .int .i64 3, .int .i64 (-1)] 2)).alloc (.cells #[.int .i64 3, .int .i64 0, .int .i64 3, .int .i64 1, .int .i64 2, .int .i64 (-1)] 2)).alloc (.cells #[.slice (some ⟨w.heap.size + 1 + 1, 0, none⟩) 6 6, .slice (some ⟨w.heap.size + 1 + 1 + 1, 0, none⟩) 6 6, .slice (some ⟨w.heap.size + 1 + 1 + 1 + 1, 0, none⟩) 6 6, .slice (some ⟨w.heap.size + 1 + 1 + 1 + 1 + 1, 0, none⟩) 6 6] 49)).alloc (.cells #[.slice none 0 0] 29)) (w.heap.size + 1 + 1 + 1 + 1 + 1 + 1 + 1) none 0 0 [] [] := ⟨kres, kbox, OwR.empty_ (Own.nil_ _ _ _) (fun g hg => nomatch hg), ⟨by omega, by rw [hsz]; exact Nat.le_refl _⟩, Below.refl _ _⟩
    have hsz2 : w.heap.size + 1 + 1 + 1 + 1 + 1 + 1 + 1 + 1 ≤ ((((((((w.alloc (.cells #[.slice none 0 0] 29)).alloc (.cells #[] 49)).alloc (.cells #[.int .i64 1, .int .i64 (-1), .int .i64 0, .int .i64 2, .int .i64 0, .int .i64 1] 2)).alloc (.cells #[.int .i64 0, .int .i64 (-1), .int .i64 2, .int .i64 (-1), .int .i64 1, .int .i64 1] 2)).alloc (.cells #[.int .i64 2, .int .i64 0, .int .i64 1, .int .i64 (-1), .int .i64 3, .int .i64 (-1)] 2)).alloc (.cells #[.int .i64 3, .int .i64 0, .int .i64 3, .int .i64 1, .int .i64 2, .int .i64 (-1)] 2)).alloc (.cells #[.slice (some ⟨w.heap.size + 1 + 1, 0, none⟩) 6 6, .slice (some ⟨w.heap.size + 1 + 1 + 1, 0, none⟩) 6 6, .slice (some ⟨w.heap.size + 1 + 1 + 1 + 1, 0, none⟩) 6 6, .slice (some ⟨w.heap.size + 1 + 1 + 1 + 1 + 1, 0, none⟩) 6 6] 49)).alloc (.cells #[.slice none 0 0] 29)).heap.size := by rw [hsz]; exact Nat.le_refl _
    clear hsz kres kbox krow k0 k1 k2 k3
    generalize ((((((((w.alloc (.cells #[.slice none 0 0] 29)).alloc (.cells #[] 49)).alloc (.cells #[.int .i64 1, .int .i64 (-1), .int .i64 0, .int .i64 2, .int .i64 0, .int .i64 1] 2)).alloc (.cells #[.int .i64 0, .int .i64 (-1), .int .i64 2, .int .i64 (-1), .int .i64 1, .int .i64 1] 2)).alloc (.cells #[.int .i64 2, .int .i64 0, .int .i64 1, .int .i64 (-1), .int .i64 3, .int .i64 (-1)] 2)).alloc (.cells #[.int .i64 3, .int .i64 0, .int .i64 3, .int .i64 1, .int .i64 2, .int .i64 (-1)] 2)).alloc (.cells #[.slice (some ⟨w.heap.size + 1 + 1, 0, none⟩) 6 6, .slice (some ⟨w.heap.size + 1 + 1 + 1, 0, none⟩) 6 6, .slice (some ⟨w.heap.size + 1 + 1 + 1 + 1, 0, none⟩) 6 6, .slice (some ⟨w.heap.size + 1 + 1 + 1 + 1 + 1, 0, none⟩) 6 6] 49)).alloc (.cells #[.slice none 0 0] 29)) = w0 at *
    generalize w.heap.size + 1 + 1 + 1 + 1 + 1 + 1 + 1 = bx at *
    generalize w.heap.size + 1 + 1 + 1 + 1 + 1 + 1 = g at *
    obtain ⟨zss, hzs⟩ : ∃ zss, zss = basZ 99 := ⟨_, rfl⟩
    rw [← hzs] at hsx HB
    clear hzs
    go_loopw [5] (fun i wr => ∃ (j m : Nat) (ao' : Option Addr) (c' : Nat) (us : List Value), i = .int .i64 j ∧ j ≤ 4 ∧ BasSt w w0 wr bx ao' m c' us (sxUp zss j)) (fun i _ => 4 - (intOf i).toNat)
    case atStart => exact ⟨0, 0, none, 0, [], rfl, Nat.zero_le _, st0⟩
    case round =>
      obtain ⟨j, m, ao', c', us, rfl, hj, st⟩ := hrel
      clear st0
      have ST := Lib.hid st
      clear st
      by_cases hlt : j < 4
      · obtain ⟨w2, hw2⟩ : ∃ w2, w2 = wr := ⟨_, rfl⟩
        subst hw2
        have hdj : decide ((j : Int) < 4) = true := by rw [decide_eq_true_iff]; omega
        go_wp2_with fail
        go_loopw [6, 7] (fun v i wi => ∃ (s p : Nat) (a' : Option Addr) (c' : Nat), v = .slice a' s c' ∧ i = .int .i64 p ∧ p = 2 * s ∧ s ≤ 3 ∧ Below w2.heap.size w2 wi ∧ Own2 wi w2.heap.size 143 a' s c' (sxRow (lget zss j) s)) (fun _ i _ => 6 - (intOf i).toNat)
        case atStart => exact ⟨0, 0, _, _, rfl, rfl, rfl, by omega, below_alloc1 _ _, Own2.empty_ w2 (Nat.le_refl _)⟩
        case round =>
          obtain ⟨s, p, a', c'', rfl, rfl, hp, hs, hb, ho⟩ := hrel
          have HBI := Lib.hid hb
          have HO := Lib.hid ho
          have HSX := Lib.hid ((hsx.below (ST.out.below.trans (hb.mono (by have := ST.out.size; omega))) (by omega)).2.2.2 j hlt)
          have hbz := hb.size
          clear hb ho
          by_cases hlt3 : s < 3
          · obtain ⟨b1, hb1, hc, hi⟩ := HSX.out
            have hp5 : p < 6 := by omega
            have hp6 : p + 1 < 6 := by omega
            have hc1 := hi p hp5
            have hc2 := hi (p + 1) hp6
            have HT : Hid (sxRow (lget zss j) (s + 1) = sxRow (lget zss j) s ++ [(iget (lget zss j) p, iget (lget zss j) (p + 1))]) := Lib.hid (by rw [hp]; exact sxRow_succ _ _)
            generalize iget (lget zss j) p = X at *
            generalize iget (lget zss j) (p + 1) = Y at *
            have HP := Lib.hid hp
            have hjl : (j : Int) < 4 := by omega
            have hlt61 : (p : Int) < 6 := by omega
            have hlt62 : (p : Int) + 1 < 6 := by omega
            have hlen : s + 1 ≤ 4398046511104 := by omega
            have hto : ((p : Int) + 1).toNat = p + 1 := by omega
            have hwr : IntKind.i64.wrap ((p : Int) + 1) = (p : Int) + 1 := IntWalk.i64_in _ (by omega)
            have hge : (0 : Int) ≤ (p : Int) + 1 := by omega
            clear hi hp
            go_wp2_with fail
            go_region_law (refine step_ap2 (o := ⟨some 62, _, _, _, _, _⟩) et2T rfl (.tmp 44) (.tmp 61) rfl w2.heap.size a' s c'' (sxRow (lget zss j) s) rfl (HO.out.below (by first | exact below_alloc1 _ _ | exact (below_alloc1 _ _).drew | exact (below_drew1 _).alloc (by simp) _)) X Y wr.heap.size 1 (by first | rfl | simp) ((blk_at rfl).cell 0) ((blk_at rfl).cell 1) hlen (by first | (simp; omega) | omega) ?_; intro ao3 c3' w5 o5 g5 hat5)
            all_goals
              have hbz5 : Below w2.heap.size w2 w5 := by
                have h1 : Below w2.heap.size w2 (wr.alloc (.cells #[.int .i64 X, .int .i64 Y] 143)).drew := (below_tr (below_alloc1 wr _) HBI.out).drew
                exact h1.grown g5 h1.size (fun g hg => (HO.out.lt g hg).1)
              clear g5 hat5 hc hc1 hc2
              go_wp2_with fail
              go_roundw
              case rel => exact ⟨s + 1, p + 2, ao3, c3', rfl, by go_num, by have := HP.out; omega, by omega, hbz5, by rw [HT.out]; exact o5⟩
              case measure => simp [intOf]; omega
          · obtain rfl : s = 3 := by omega
            obtain rfl : p = 6 := by omega
            have h3 := ST.out.box.belowS HBI.out
            have z0 := h3.cell 0
            have z1 := h3.frozen 0
            simp at z0
            have hm : m = j := by have h1 := ST.out.row.len; rw [show (sxUp zss j).length = j by simp [sxUp]] at h1; omega
            have hqq : m + 1 ≤ 4398046511104 := by omega
            have hwn := ST.out.size
            have hown := ST.out.row.own.below HBI.out
            have hsz : bx + 1 ≤ wr.heap.size := by omega
            have H3 := Lib.hid h3
            have HPP := Lib.hid (sxUp_succ zss j)
            clear hm h3
            go_wp2_with (at_builtin; refine wpList_ap1 etTT wr rfl _ _ rfl (bx + 1) ao' m c' us rfl hown (.slice a' 3 c'') rfl rfl hqq hsz ?_; intro ao3 c3 w5 o5 g5 hat5; have B5 : Below (bx + 1) wr w5 := (Below.refl _ _).grown g5 hsz (fun g hg => (hown.lt g hg).1); have k5 := H3.out.below B5 (by omega); have x5 : w5.cell? ⟨bx, 0, none⟩ = some (.slice ao' m c') := k5.cell 0; have f5 : w5.frozen? ⟨bx, 0, none⟩ = false := k5.frozen 0)
            have st2 := ST.out.push HBI.out HO.out (Below.refl _ _) o5 g5 (hat5.imp id fun h => ⟨_, h, by omega⟩)
            rw [← HPP.out] at st2
            have hk1 : j + 1 ≤ 4 := hlt
            clear o5 g5 hat5 B5 k5 x5 f5 hown z0 z1
            refine ⟨⟨j + 1, m + 1, ao3, c3, _, by go_num, hk1, st2⟩, ?_⟩
            simp [intOf]; omega
      · obtain rfl : j = 4 := by omega
        have y0 := ST.out.box.cell 0
        have y1 := ST.out.res.cell 0
        have y2 := ST.out.res.frozen 0
        simp at y0 y1
        go_wp2_with fail
        have st2 := ST.out.done hbw
        have hxs := ST.out.size
        generalize wr.setCell ⟨w.heap.size, 0, none⟩ (.slice ao' m c') = wf at *
        have e0 := st2.1.cell 0
        simp at e0
        refine bodyPost_ret (v := .agg #[.slice ao' m c']) (by simp [results, Try.f162, go_sem, e0]) rfl ⟨_, rfl, ?_, st2.2.2⟩
        rw [← HB.out]
        have hzl := hsx.1
        rw [hzl]
        exact ⟨ao', m, c', us, rfl, st2.2.1.mono (by omega) (Nat.le_refl _)⟩
-- behind specBas_any
end Go.Proofs.Ytpognnifgcacnaa

/- Named templates, the reference's. -/
namespace Go.Proofs.Ytpognnifgcacnaa
open Go.RowKit

/-- element k of a word, closed to simp -/
def nget (L : List Nat) (k : Nat) : Nat := L.getD k 0
theorem nmS_size (b : Nat) : (nmS b).size = (nmL b).length := by
  show (((nmL b).map UInt8.ofNat).toArray).size = _
  simp
theorem nmS_get (b k : Nat) (h : k < (nmS b).size) : ((nmS b)[k]'h).toNat = nget (nmL b) k := by
  unfold nget
  have hk : k < (nmL b).length := by rw [← nmS_size]; exact h
  have hb := nm_bas hk
  show ((((nmL b).map UInt8.ofNat).toArray)[k]'(by simpa using hk)).toNat = _
  simp [hk] at hb ⊢
  rcases hb with e | e | e | e <;> rw [e] <;> decide

/-- the box of the result, the box of what grows -/
structure NamSt (w wr : World) (bx lo hi : Nat) (ao : Option Addr) (n c : Nat) (d : List (List (Int × Int))) : Prop where
  res : Blk wr w.heap.size 29 #[.slice none 0 0]
  box : Blk wr bx 29 #[.slice ao n c]
  own : OwT 143 100 wr lo hi (.agg #[.slice ao n c]) d
  at_ : w.heap.size < bx ∧ w.heap.size < lo ∧ hi ≤ wr.heap.size ∧ (hi ≤ bx ∨ bx < lo)
  below : Below w.heap.size w wr
theorem OwT.tg {E1 E : Nat} {w : World} {lo hi : Nat} {ao : Option Addr} {n c : Nat} {d : List (List (Int × Int))} (h : OwT E1 E w lo hi (.agg #[.slice ao n c]) d) : Tgtss w ao n d := by
  obtain ⟨a, m, k, us, e, ho⟩ := h
  simp at e
  obtain ⟨rfl, rfl, rfl⟩ := e
  exact ho.tgtss
theorem OwT.set_ {E1 E : Nat} {w : World} {lo hi : Nat} {v : Value} {d : List (List (Int × Int))} (h : OwT E1 E w lo hi v d) {p : Addr} {u : Value} (hp : p.block < lo ∨ hi ≤ p.block) : OwT E1 E (w.setCell p u) lo hi v d := by
  obtain ⟨ao, n, c, us, rfl, ho⟩ := h
  exact ⟨ao, n, c, us, rfl, ho.same (innerTs E1) fun g h1 h2 _ => Below.heap_setCell _ _ _ _ (by omega)⟩
theorem NamSt.next {w wr w2 : World} {bx lo hi n c n2 c2 : Nat} {ao a2 : Option Addr} {d d2 : List (List (Int × Int))} {k : Nat} (st : NamSt w wr bx lo hi ao n c d) (b2 : Below wr.heap.size wr w2) (o2 : OwT 143 100 w2 k w2.heap.size (.agg #[.slice a2 n2 c2]) d2) (hk : wr.heap.size ≤ k) :
    NamSt w (w2.setCell ⟨bx, 0, none⟩ (.slice a2 n2 c2)) bx k w2.heap.size a2 n2 c2 d2 := by
  obtain ⟨h1, h2, h3, h4⟩ := st.at_
  have hl := st.box.lt
  have s2 := b2.size
  refine ⟨(st.res.belowS b2).far (by simp; omega) _, by simpa using (st.box.belowS b2).set_ 0 (.slice a2 n2 c2), o2.set_ (.inl (by simp; omega)), ⟨h1, by omega, by simp [World.setCell], .inr (by omega)⟩, (below_tr b2 st.below).setCell (by simp; omega) _⟩
theorem NamSt.done {w wr : World} {bx lo hi n c : Nat} {ao : Option Addr} {d : List (List (Int × Int))} (st : NamSt w wr bx lo hi ao n c d) :
    Blk (wr.setCell ⟨w.heap.size, 0, none⟩ (.slice ao n c)) w.heap.size 29 #[.slice ao n c] ∧
    OwT 143 100 (wr.setCell ⟨w.heap.size, 0, none⟩ (.slice ao n c)) w.heap.size (wr.setCell ⟨w.heap.size, 0, none⟩ (.slice ao n c)).heap.size (.agg #[.slice ao n c]) d ∧
    Below w.heap.size w (wr.setCell ⟨w.heap.size, 0, none⟩ (.slice ao n c)) := by
  obtain ⟨h1, h2, h3, h4⟩ := st.at_
  refine ⟨by simpa using st.res.set_ 0 (.slice ao n c), (st.own.set_ (.inl (by simp; omega))).mono (by omega) (by simp [World.setCell]; omega), st.below.setCell (by simp) _⟩

set_option maxRecDepth 100000 in
set_option maxHeartbeats 3200000 in
theorem specNam_any (b : Nat) (w : World) (hb : b < 256) (h0 : 0 < (nmL b).length) : Calls Try.prog 92 #[.int .u8 b] w fun e w' => ∃ v, e = .returned v ∧ OwT 143 100 w' w.heap.size w'.heap.size v (nmF (nmL b)) ∧ Below w.heap.size w w' := by
  have hl3 := nm_len b
  have hsz := nmS_size b
  have hx := nmS_get b
  have HT := Lib.hid (fun k h1 h2 => @nm_tmp b k h1 h2)
  have HBA : Hid (∀ k, k < (nmL b).length → IsBas (nget (nmL b) k)) := Lib.hid (fun k h => nm_bas h)
  have HS : Hid (∀ k, 0 < k → k < (nmL b).length → nmF ((nmL b).take (k + 1)) = cmD (nmF ((nmL b).take k)) (basT (nget (nmL b) k))) := Lib.hid (fun k h1 h2 => nmF_succ h1 h2)
  have HF : Hid (nmF ((nmL b).take 1) = basT (nget (nmL b) 0)) := Lib.hid (by unfold nget; cases hq : nmL b with | nil => rw [hq] at h0; simp at h0 | cons x r => simp [nmF])
  go_enter Try.func92, Try.ntmps92
  go_wp2_with fail
  refine (specWord_any b _ hb).mono ?_
  rintro e w1 ⟨rfl, b1⟩
  generalize nmS b = S at *
  generalize hLb : nmL b = L at *
  have HLB := Lib.hid hLb
  clear hLb
  have hS0 : 0 < S.size := by omega
  have k1 : Blk w1 w.heap.size 29 #[.slice none 0 0] := (blk_at (w := w) rfl).belowS b1
  have B1 := below_tr b1 (below_alloc1 w _)
  have hx0 := hx 0 hS0
  clear b1
  go_wp2_with fail
  refine (specBas_any (nget L 0) _ (HBA.out 0 h0)).mono ?_
  rintro e w2 ⟨v2, rfl, o2, b2⟩
  obtain ⟨a2, n2, c2, rfl⟩ := o2.form
  have hlt1 : w.heap.size < w1.heap.size := k1.lt
  have hs12 := b2.size
  have st0 : NamSt w (w2.alloc (.cells #[.slice a2 n2 c2] 29)) w2.heap.size w1.heap.size w2.heap.size a2 n2 c2 (nmF (L.take 1)) :=
    ⟨(k1.belowS b2).alloc _, blk_at rfl, by rw [HF.out]; exact o2.below (below_alloc1 _ _), ⟨by omega, hlt1, by simp, .inl (Nat.le_refl _)⟩, (below_tr b2 B1).alloc (below_tr b2 B1).size _⟩
  clear o2 b2 B1 k1 hx0
  go_wp2_with fail
  obtain ⟨w3, hw3⟩ : ∃ w3, w3 = w2.alloc (.cells #[.slice a2 n2 c2] 29) := ⟨_, rfl⟩
  rw [← hw3] at st0 ⊢
  clear hw3
  generalize w2.heap.size = bx at *
  go_loopw [5] (fun i wr => ∃ (k lo hi : Nat) (ao : Option Addr) (n c : Nat), i = .int .i64 k ∧ 1 ≤ k ∧ k ≤ S.size ∧ NamSt w wr bx lo hi ao n c (nmF (L.take k))) (fun i _ => S.size - (intOf i).toNat)
  case atStart => exact ⟨1, _, _, _, _, _, rfl, by omega, by omega, st0⟩
  case round =>
    obtain ⟨k, lo, hi, ao, n, c, rfl, hk1, hk2, st⟩ := hrel
    clear st0
    have x0 := st.box.cell 0
    have xf := st.box.frozen 0
    simp at x0
    have ST := Lib.hid st
    clear st
    by_cases hlt : k < S.size
    · have hxk := hx k hlt
      have HN := Lib.hid (HS.out k hk1 (by omega))
      go_wp2_with fail
      go_region_law (first | (go_simp; go_at_call 162; refine (specBas_any (nget L k) _ (HBA.out k (by omega))).mono ?_; rintro e wx ⟨vx, rfl, ox, bxx⟩; obtain ⟨ax, nx, cx, rfl⟩ := ox.form; have bX : Below wr.heap.size wr wx := below_tr bxx (below_drew1 _); have xx := (ST.out.box.belowS bX).cell 0; simp at xx) | (go_simp; go_at_call 86; refine (specCmp_any _ _ _ _ _ _ _ _ _ (ST.out.own.tg.below (by first | exact bX | exact bX.drew)) ox.tg (HT.out k hk1 (by omega)) (basT_tmp (HBA.out k (by omega)))).mono ?_; rintro e wy ⟨vy, rfl, oy, byy⟩; obtain ⟨ay, ny, cy, rfl⟩ := oy.form; have bY : Below wr.heap.size wr wy := below_tr byy (by first | exact bX | exact bX.drew); have xy := (ST.out.box.belowS bY).cell 0; have fy := (ST.out.box.belowS bY).frozen 0; simp at xy))
      all_goals
        have hsx := bX.size
        have st2 := ST.out.next bY oy (by first | exact hsx | (simp; omega))
        generalize wy.setCell ⟨bx, 0, none⟩ (.slice ay ny cy) = wf at *
        rw [← HN.out] at st2
        clear x0 xf xx xy fy ox oy bxx byy bX bY hxk
        go_wp2_with fail
        go_roundw
        case rel => exact ⟨k + 1, _, _, ay, ny, cy, by go_num, by omega, by omega, st2⟩
        case measure => simp [intOf]; omega
    · obtain rfl : k = S.size := by omega
      have y1 := ST.out.res.cell 0
      have y2 := ST.out.res.frozen 0
      simp at y1
      go_wp2_with fail
      have st2 := ST.out.done
      generalize wr.setCell ⟨w.heap.size, 0, none⟩ (.slice ao n c) = wf at *
      have e0 := st2.1.cell 0
      simp at e0
      have hL : L.take S.size = L := List.take_of_length_le (by omega)
      rw [hL] at st2
      exact bodyPost_ret (v := .agg #[.slice ao n c]) (by simp [results, Try.f92, go_sem, e0]) rfl ⟨_, rfl, by rw [HLB.out]; exact st2.2.1, st2.2.2⟩
end Go.Proofs.Ytpognnifgcacnaa

/- The program's test of a template: its parts. -/
namespace Go.Proofs.Ytpognnifgcacnaa
open Go.RowKit

theorem sizeT_any (ao : Option Addr) (n c : Nat) (w : World) : Calls Try.prog 87 #[.slice ao n c] w fun e w' => e = .returned (.int .i64 n) ∧ w = w' := by
  go_enter Try.func87, Try.ntmps87
  go_wp2
  go_ret
  exact ⟨rfl, rfl⟩
end Go.Proofs.Ytpognnifgcacnaa

/- The composition of two templates, the program's. -/
namespace Go.Proofs.Ytpognnifgcacnaa
open Go.RowKit

set_option maxRecDepth 100000 in
set_option maxHeartbeats 3200000 in
theorem implCmp_any (ao bo : Option Addr) (n c m c2 : Nat) (d e : List (List (Int × Int))) (w : World) (h : Tgtss w ao n d) (h' : Tgtss w bo m e) (hT : Tmp d) (hU : Tmp e) :
    Calls Try.prog 88 #[.agg #[.slice ao n c], .agg #[.slice bo m c2]] w fun r w' => ∃ v, r = .returned v ∧ OwT 143 100 w' w.heap.size w'.heap.size v (cmD d e) ∧ Below w.heap.size w w' := by
  have hl := h.1
  have hl' := h'.1
  have n1 := hT.one
  have n2 := hT.few
  have m1 := hU.one
  have m2 := hU.few
  rw [hl] at n1 n2
  rw [hl'] at m1 m2
  obtain ⟨b, off, rfl, hrow⟩ := h.rows (by omega)
  obtain ⟨b', off', rfl, hrow'⟩ := h'.rows (by omega)
  have HL := Lib.hid hl
  have HL' := Lib.hid hl'
  have H1 := Lib.hid hrow
  have H2 := Lib.hid hrow'
  have HT := Lib.hid hT
  have HU := Lib.hid hU
  clear h h' hT hU hl hl' hrow hrow'
  go_enter Try.func88, Try.ntmps88
  go_wp2_with (go_at_call 87; refine (sizeT_any _ _ _ _).mono ?_; rintro e w' ⟨rfl, rfl⟩)
  have st0 : CmpSt w ((((w.alloc (.cells #[.slice (some ⟨b, off, none⟩) n c] 29)).alloc (.cells #[.slice (some ⟨b', off', none⟩) m c2] 29)).alloc (.cells #[.slice none 0 0] 29)).alloc (.cells #[.slice none 0 0] 29)) (.slice (some ⟨b, off, none⟩) n c) (.slice (some ⟨b', off', none⟩) m c2) none 0 0 [] [] :=
    CmpSt.start ((below_alloc3 w _ _ _).alloc (by simp; omega) _) ((((blk_at rfl).alloc _).alloc _).alloc _) (((blk_at (by simp)).alloc _).alloc _) ((blk_at (by simp)).alloc _) (blk_at (by simp)) (by simp)
  generalize (((w.alloc (.cells #[.slice (some ⟨b, off, none⟩) n c] 29)).alloc (.cells #[.slice (some ⟨b', off', none⟩) m c2] 29)).alloc (.cells #[.slice none 0 0] 29)).alloc (.cells #[.slice none 0 0] 29) = w1 at *
  go_loopw [22] (fun i wr => ∃ (j q : Nat) (ao' : Option Addr) (c' : Nat) (us : List Value), i = .int .i64 j ∧ j ≤ n ∧ CmpSt w wr (.slice (some ⟨b, off, none⟩) n c) (.slice (some ⟨b', off', none⟩) m c2) ao' q c' us (cmUp d e j)) (fun i _ => n - (intOf i).toNat)
  case atStart => exact ⟨0, 0, none, 0, [], rfl, Nat.zero_le _, st0⟩
  case round =>
    obtain ⟨j, q, ao', c', us, rfl, hj, st⟩ := hrel
    clear st0
    have x0 := st.tt.cell 0
    have x1 := st.uu.cell 0
    simp at x0 x1
    have ST := Lib.hid st
    clear st
    by_cases hlt : j < n
    · obtain ⟨a3, n3, c3, gc, gi⟩ := H1.out j hlt
      obtain rfl : n3 = 3 := by rw [← gi.1]; exact HT.out.three j (by rw [HL.out]; exact hlt)
      have gc' := (ST.out.below.cell (p := ⟨b, off + j, none⟩) (World.block_lt_of_cell? w _ gc)).trans gc
      have HGI := Lib.hid gi
      clear gc gi
      go_wp2_with fail
      go_loopw [30] (fun i wr => ∃ (k q : Nat) (ao' : Option Addr) (c' : Nat) (us : List Value), i = .int .i64 k ∧ k ≤ m ∧ CmpSt w wr (.slice (some ⟨b, off, none⟩) n c) (.slice (some ⟨b', off', none⟩) m c2) ao' q c' us (cmUp d e j ++ cmPart d e j k)) (fun i _ => m - (intOf i).toNat)
      case atStart => exact ⟨0, q, ao', c', us, rfl, Nat.zero_le _, by rw [show cmPart d e j 0 = [] from rfl, List.append_nil]; exact ST.out⟩
      case round =>
        clear x0 x1 ST gc'
        obtain ⟨k, q, ao', c', us, rfl, hk, st⟩ := hrel
        have x0 := st.tt.cell 0
        have x1 := st.uu.cell 0
        simp at x0 x1
        have ST := Lib.hid st
        clear st
        by_cases hlt2 : k < m
        · obtain ⟨w2, hw2⟩ : ∃ w2, w2 = wr := ⟨_, rfl⟩
          subst hw2
          obtain ⟨a1, n1', c1, hc, hi⟩ := H2.out k hlt2
          obtain rfl : n1' = 3 := by rw [← hi.1]; exact HU.out.three k (by rw [HL'.out]; exact hlt2)
          have hc' := (ST.out.below.cell (p := ⟨b', off' + k, none⟩) (World.block_lt_of_cell? w _ hc)).trans hc
          have HHI := Lib.hid hi
          clear hc hi
          go_wp2_with fail
          go_loopw [11, 36] (fun v i wi => ∃ (s : Nat) (a' : Option Addr) (c' : Nat), v = .slice a' s c' ∧ i = .int .i64 s ∧ s ≤ 3 ∧ Below w2.heap.size w2 wi ∧ Own2 wi w2.heap.size 143 a' s c' (cmRow d e j k s)) (fun _ i _ => 3 - (intOf i).toNat)
          case atStart => exact ⟨0, _, _, rfl, rfl, by omega, Below.refl _ _, Own2.nil_ _ _ _⟩
          case round =>
            obtain ⟨s, a', c'', rfl, rfl, hs, hb, ho⟩ := hrel
            clear x0 x1 hc'
            have x0 := (ST.out.tt.belowS hb).cell 0
            have x1 := (ST.out.uu.belowS hb).cell 0
            simp at x0 x1
            have HB := Lib.hid hb
            have HO := Lib.hid ho
            have HBW := Lib.hid (below_tr hb ST.out.below)
            clear hb ho
            by_cases hlt3 : s < 3
            · obtain ⟨b1, o1, rfl, p1, p2⟩ := (HHI.out.below HBW.out).at_ hlt3
              have hR := HU.out.rng k (by rw [HL'.out]; exact hlt2) s hlt3
              have hTP : tP e k s = kA (lget e k) s := rfl
              have hTM : tM e k s = kB (lget e k) s := rfl
              unfold RgT at hR
              rw [hTP, hTM, HL'.out] at hR
              generalize kA (lget e k) s = X at *
              generalize kB (lget e k) s = Y at *
              have HTP := Lib.hid hTP
              have HTM := Lib.hid hTM
              obtain ⟨hR1, hR2, hR3⟩ := hR
              clear hTP hTM
              by_cases hY : 0 ≤ Y
              · obtain ⟨y, rfl⟩ : ∃ y : Nat, Y = (y : Int) := ⟨Y.toNat, by omega⟩
                obtain ⟨b3, o3, rfl, q1, q2⟩ := (HGI.out.below HBW.out).at_ (k := y) (by omega)
                have hR := HT.out.rng j (by rw [HL.out]; exact hlt) y (by omega)
                have hTP2 : tP d j y = kA (lget d j) y := rfl
                have hTM2 : tM d j y = kB (lget d j) y := rfl
                unfold RgT at hR
                rw [hTP2, hTM2, HL.out] at hR
                generalize kA (lget d j) y = U at *
                generalize kB (lget d j) y = V at *
                have HTP2 := Lib.hid hTP2
                have HTM2 := Lib.hid hTM2
                obtain ⟨hR4, hR5, hR6⟩ := hR
                clear hTP2 hTM2
                have hy3 : (y : Int) < 3 := by omega
                have hbg : Below wr.heap.size wr (((wr.alloc (.cells #[.int .i64 X, .int .i64 y] 143)).alloc (.cells #[.int .i64 (U * (m : Int) + X), .int .i64 V] 143)).alloc (.cells #[.int .i64 U, .int .i64 V] 143)) := below_alloc3 wr _ _ _
                have q1' : ((wr.alloc (.cells #[.int .i64 X, .int .i64 y] 143)).alloc (.cells #[.int .i64 ((j : Int) * (m : Int) + X), .int .i64 (-1)] 143)).cell? ⟨b3, o3 + y * 2, none⟩ = some (.int .i64 U) := ((below_alloc2 wr _ _).cell (World.block_lt_of_cell? wr _ q1)).trans q1
                have q2' : ((wr.alloc (.cells #[.int .i64 X, .int .i64 y] 143)).alloc (.cells #[.int .i64 ((j : Int) * (m : Int) + X), .int .i64 (-1)] 143)).cell? ⟨b3, o3 + y * 2 + 1, none⟩ = some (.int .i64 V) := ((below_alloc2 wr _ _).cell (World.block_lt_of_cell? wr _ q2)).trans q2
                have hM2 := mul_small (x := j) (y := m) (by omega) (by omega)
                have hM1 := mul_small (x := U) (y := m) (by omega) (by omega)
                have hwr : IntKind.i64.wrap ((j : Int) * (m : Int)) = (j : Int) * (m : Int) := IntWalk.i64_in _ (by omega)
                have hwr2 : IntKind.i64.wrap ((j : Int) * (m : Int) + X) = (j : Int) * (m : Int) + X := IntWalk.i64_in _ (by omega)
                have hwr3 : IntKind.i64.wrap (U * (m : Int)) = U * (m : Int) := IntWalk.i64_in _ (by omega)
                have hwr4 : IntKind.i64.wrap (U * (m : Int) + X) = U * (m : Int) + X := IntWalk.i64_in _ (by omega)
                have HCT : Hid (cmRow d e j k (s + 1) = cmRow d e j k s ++ [(U * (m : Int) + X, V)]) := Lib.hid (by rw [cmRow_succ]; congr 2; unfold cmT; rw [HTM.out, if_pos hY, HL'.out, HTP.out, show ((y : Int)).toNat = y by omega, HTP2.out, HTM2.out])
                have hbg2 := below_tr hbg HB.out
                have hsz := hbg2.size
                have ho2 := HO.out.below hbg
                have hlen : s + 1 ≤ 4398046511104 := by omega
                have HS2 : Hid ((((wr.alloc (.cells #[.int .i64 X, .int .i64 y] 143)).alloc (.cells #[.int .i64 (U * (m : Int) + X), .int .i64 V] 143)).alloc (.cells #[.int .i64 U, .int .i64 V] 143)).heap.size = wr.heap.size + 1 + 1 + 1) := Lib.hid (by simp)
                clear hbg hM1 hM2
                go_wp2_with (at_builtin; refine wpList_ap2 et2T _ rfl _ _ rfl w2.heap.size a' s c'' (cmRow d e j k s) rfl ho2 (U * (m : Int) + X) V (by rw [HS2.out]; rfl) hlen hsz ?_; intro ao3 c3' w5 o5 g5 hat5)
                have B5 : Below w2.heap.size w2 w5 := hbg2.grown g5 hsz (fun g hg => (ho2.lt g hg).1)
                clear hbg2 ho2 g5 hat5 q1 q2 q1' q2' p1 p2
                go_wp2_with fail
                go_roundw
                case rel => exact ⟨s + 1, ao3, c3', rfl, by go_num, by omega, B5, by rw [HCT.out]; exact o5⟩
                case measure => simp [intOf]; omega
              · have hYf : decide (Y ≥ 0) = false := by simp; omega
                have hbg : Below wr.heap.size wr ((wr.alloc (.cells #[.int .i64 X, .int .i64 Y] 143)).alloc (.cells #[.int .i64 ((j : Int) * (m : Int) + X), .int .i64 (-1)] 143)) := below_alloc2 wr _ _
                have HCT : Hid (cmRow d e j k (s + 1) = cmRow d e j k s ++ [((j : Int) * (m : Int) + X, -1)]) := Lib.hid (by rw [cmRow_succ]; congr 2; unfold cmT; rw [HTM.out, if_neg hY, HL'.out, HTP.out])
                have hM1 := mul_small (x := j) (y := m) (by omega) (by omega)
                have hbg2 := below_tr hbg HB.out
                have hsz := hbg2.size
                have ho2 := HO.out.below hbg
                have hlen : s + 1 ≤ 4398046511104 := by omega
                have hwr : IntKind.i64.wrap ((j : Int) * (m : Int)) = (j : Int) * (m : Int) := IntWalk.i64_in _ (by omega)
                have hwr2 : IntKind.i64.wrap ((j : Int) * (m : Int) + X) = (j : Int) * (m : Int) + X := IntWalk.i64_in _ (by omega)
                have HS2 : Hid (((wr.alloc (.cells #[.int .i64 X, .int .i64 Y] 143)).alloc (.cells #[.int .i64 ((j : Int) * (m : Int) + X), .int .i64 (-1)] 143)).heap.size = wr.heap.size + 1 + 1) := Lib.hid (by simp)
                clear hbg hM1
                go_wp2_with (at_builtin; refine wpList_ap2 et2T _ rfl _ _ rfl w2.heap.size a' s c'' (cmRow d e j k s) rfl ho2 ((j : Int) * (m : Int) + X) (-1) (by rw [HS2.out]; rfl) hlen hsz ?_; intro ao3 c3' w5 o5 g5 hat5)
                have B5 : Below w2.heap.size w2 w5 := hbg2.grown g5 hsz (fun g hg => (ho2.lt g hg).1)
                clear hbg2 ho2 g5 hat5 p1 p2
                go_wp2_with fail
                go_roundw
                case rel => exact ⟨s + 1, ao3, c3', rfl, by go_num, by omega, B5, by rw [HCT.out]; exact o5⟩
                case measure => simp [intOf]; omega
            · obtain rfl : s = 3 := by omega
              have h3 := ST.out.box.belowS HB.out
              have z0 := h3.cell 0
              have z1 := h3.frozen 0
              simp at z0
              have hq : q = j * m + k := by have h1 := ST.out.row.len; rw [List.length_append, cmUp_len, cmPart_len, HL'.out] at h1; omega
              have hqq : q + 1 ≤ 4398046511104 := by have := mul_small (x := j) (y := m) (by omega) (by omega); have h2 : ((j * m : Nat) : Int) = (j : Int) * (m : Int) := Int.natCast_mul j m; omega
              have hwn := ST.out.size
              have hbs := HB.out.size
              have hown := ST.out.row.own.below HB.out
              have hsz : w.heap.size + 4 ≤ wr.heap.size := by omega
              have H3 := Lib.hid h3
              have HP := Lib.hid (cmPart_succ d e j k)
              clear hq h3 hbs
              go_wp2_with (at_builtin; refine wpList_ap1 etTT wr rfl _ _ rfl (w.heap.size + 4) ao' q c' us rfl hown (.slice a' 3 c'') rfl rfl hqq hsz ?_; intro ao3 c3 w5 o5 g5 hat5; have B5 : Below (w.heap.size + 4) wr w5 := (Below.refl _ _).grown g5 hsz (fun g hg => (hown.lt g hg).1); have k5 := H3.out.below B5 (by omega); have x5 : w5.cell? ⟨w.heap.size + 3, 0, none⟩ = some (.slice ao' q c') := k5.cell 0; have f5 : w5.frozen? ⟨w.heap.size + 3, 0, none⟩ = false := k5.frozen 0)
              have st2 := ST.out.push HB.out HO.out (Below.refl _ _) o5 g5 (hat5.imp id fun h => ⟨_, h, by omega⟩)
              rw [List.append_assoc, ← HP.out] at st2
              have hk1 : k + 1 ≤ m := hlt2
              clear o5 g5 hat5 B5 k5 x5 f5 hown z0 z1 x0 x1
              refine ⟨⟨k + 1, q + 1, ao3, c3, _, by go_num, hk1, st2⟩, ?_⟩
              simp [intOf]; omega
        · obtain rfl : k = m := by omega
          go_wp2_with fail
          go_roundw
          case rel => exact ⟨j + 1, q, ao', c', us, by go_num, by omega, by have := ST.out; have he : cmUp d e (j + 1) = cmUp d e j ++ cmPart d e j k := (by rw [cmUp, HL'.out]); rw [he]; exact this⟩
          case measure => simp [intOf]; omega
    · obtain rfl : j = n := by omega
      have y0 := ST.out.box.cell 0
      have y1 := ST.out.res.cell 0
      have y2 := ST.out.res.frozen 0
      simp at y0 y1
      go_wp2_with fail
      have st2 := ST.out.done
      generalize wr.setCell ⟨w.heap.size + 2, 0, none⟩ (.slice ao' q c') = wf at *
      have e0 := st2.1.cell 0
      simp at e0
      refine bodyPost_ret (v := .agg #[.slice ao' q c']) (by simp [results, Try.f88, go_sem, e0]) rfl ⟨_, rfl, ?_, st2.2.2⟩
      refine ⟨ao', q, c', us, rfl, ?_⟩
      unfold cmD
      rw [HL.out]
      exact st2.2.1.mono (by omega) (Nat.le_refl _)
end Go.Proofs.Ytpognnifgcacnaa

/- Named templates, the program's. Written by gen_nami.py. -/
namespace Go.Proofs.Ytpognnifgcacnaa
open Go.RowKit

/-- rows of three structs that lie one behind the other, and the list of them -/
theorem owT_blocks {T1 E : Nat} {w : World} {g0 n : Nat} {d : List (List (Int × Int))} (hd : d.length = n) (hn : n ≤ 1000) (h3 : ∀ j, j < n → (lget d j).length = 3)
    (hrow : ∀ j, j < n → Blk w (g0 + j) T1 (ivals (pflat (lget d j))).toArray) (hout : Blk w (g0 + n) E ((List.range n).map fun j => Value.slice (some ⟨g0 + j, 0, none⟩) 3 3).toArray) :
    OwT T1 E w g0 (g0 + n + 1) (.agg #[.slice (some ⟨g0 + n, 0, none⟩) n n]) d := by
  have hus : ∀ j u, ((List.range n).map fun j => Value.slice (some ⟨g0 + j, 0, none⟩) 3 3)[j]? = some u → j < n ∧ u = Value.slice (some ⟨g0 + j, 0, none⟩) 3 3 := fun j u hu => by
    rw [List.getElem?_map, Option.map_eq_some_iff] at hu
    obtain ⟨k, hk, rfl⟩ := hu
    have hj : j < n := by have := (List.getElem?_eq_some_iff.1 hk).1; simpa using this
    rw [List.getElem?_range hj] at hk
    obtain rfl := Option.some.inj hk
    exact ⟨hj, rfl⟩
  refine ⟨_, n, n, (List.range n).map fun j => Value.slice (some ⟨g0 + j, 0, none⟩) 3 3, rfl, { own := ⟨⟨by simp, .inr ⟨g0 + n, n, _, rfl, by omega, hout, Nat.le_refl _, by simp [maxLen]; omega, by simp, by rw [List.take_of_length_le (by simp)]⟩⟩, by omega⟩, top := fun g hg => by simp [bk] at hg; omega, len := hd, el := fun j u d' hu hd' => ?_, rng := fun j u hu g hg => ?_, out := fun j u g hu hg => ?_, apart := fun i j u u' g hij hu hu' hg => ?_ }⟩
  · obtain ⟨hj, rfl⟩ := hus j u hu
    have : d' = lget d j := (lget_get? hd').symm
    subst this
    have hl := h3 j hj
    refine ⟨_, 3, 3, rfl, ⟨⟨by simp [ivals_len, pflat_len, hl], .inr ⟨g0 + j, 3, _, rfl, Nat.zero_le _, hrow j hj, Nat.le_refl _, by simp [maxLen], by simp [ivals_len, pflat_len, hl], ?_⟩⟩, by omega⟩⟩
    rw [List.toList_toArray, List.take_of_length_le]
    simp [ivals_len, pflat_len, hl]
  · obtain ⟨hj, rfl⟩ := hus j u hu
    rw [ownBlock_slice] at hg; simp [bk] at hg; omega
  · obtain ⟨hj, rfl⟩ := hus j u hu
    rw [ownBlock_slice] at hg; simp [bk] at hg ⊢; omega
  · obtain ⟨hj, rfl⟩ := hus i u hu
    obtain ⟨hj', rfl⟩ := hus j u' hu'
    rw [ownBlock_slice] at hg ⊢; simp [bk] at hg ⊢; omega

set_option maxRecDepth 100000 in
set_option maxHeartbeats 12800000 in
theorem implBas_any (b : Nat) (w : World) (hb : IsBas b) : Calls Try.prog 94 #[.int .u8 b] w fun e w' => ∃ v, e = .returned v ∧ OwT 143 100 w' w.heap.size w'.heap.size v (basT b) ∧ Below w.heap.size w w' := by
  rcases hb with rfl | rfl | rfl | rfl
  · show Calls Try.prog 94 #[.int .u8 100] w _
    have hbw : Below w.heap.size w (((w.alloc (.cells #[.slice (some ⟨w.heap.size + 1 + 1, 0, none⟩) 1 1] 29)).alloc (.cells #[.int .i64 0, .int .i64 2, .int .i64 0, .int .i64 1, .int .i64 0, .int .i64 0] 143)).alloc (.cells #[.slice (some ⟨w.heap.size + 1, 0, none⟩) 3 3] 100)) := (((below_alloc1 w _).alloc (by simp) _).alloc (by simp; omega) _)
    have k0 : Blk (((w.alloc (.cells #[.slice (some ⟨w.heap.size + 1 + 1, 0, none⟩) 1 1] 29)).alloc (.cells #[.int .i64 0, .int .i64 2, .int .i64 0, .int .i64 1, .int .i64 0, .int .i64 0] 143)).alloc (.cells #[.slice (some ⟨w.heap.size + 1, 0, none⟩) 3 3] 100)) w.heap.size 29 #[.slice (some ⟨w.heap.size + 1 + 1, 0, none⟩) 1 1] := (((blk_at rfl).alloc _).alloc _)
    have hT : OwT 143 100 (((w.alloc (.cells #[.slice (some ⟨w.heap.size + 1 + 1, 0, none⟩) 1 1] 29)).alloc (.cells #[.int .i64 0, .int .i64 2, .int .i64 0, .int .i64 1, .int .i64 0, .int .i64 0] 143)).alloc (.cells #[.slice (some ⟨w.heap.size + 1, 0, none⟩) 3 3] 100)) (w.heap.size + 1) (w.heap.size + 1 + 1 + 1) (.agg #[.slice (some ⟨w.heap.size + 1 + 1, 0, none⟩) 1 1]) (basT 100) := by
      refine owT_blocks (by decide) (by omega) (by decide) (fun j hj => ?_) ?_
      · match j, hj with
        | 0, _ => exact ((blk_at (by simp)).alloc _)
      · exact (blk_at (by simp))
    have hT2 := Lib.hid (hT.mono (lo' := w.heap.size) (hi' := (((w.alloc (.cells #[.slice (some ⟨w.heap.size + 1 + 1, 0, none⟩) 1 1] 29)).alloc (.cells #[.int .i64 0, .int .i64 2, .int .i64 0, .int .i64 1, .int .i64 0, .int .i64 0] 143)).alloc (.cells #[.slice (some ⟨w.heap.size + 1, 0, none⟩) 3 3] 100)).heap.size) (by omega) (by simp))
    have HK := Lib.hid (And.intro hbw k0)
    clear hT hbw k0
    go_enter Try.func94, Try.ntmps94
    go_wp2_with fail
    obtain ⟨hbw, k0⟩ := HK.out
    have hT3 := hT2.out
    clear HK hT2
    generalize (((w.alloc (.cells #[.slice (some ⟨w.heap.size + 1 + 1, 0, none⟩) 1 1] 29)).alloc (.cells #[.int .i64 0, .int .i64 2, .int .i64 0, .int .i64 1, .int .i64 0, .int .i64 0] 143)).alloc (.cells #[.slice (some ⟨w.heap.size + 1, 0, none⟩) 3 3] 100)) = wf at *
    have e0 := k0.cell 0
    simp at e0
    exact bodyPost_ret (v := .agg #[.slice (some ⟨w.heap.size + 1 + 1, 0, none⟩) 1 1]) (by simp [results, Try.f94, go_sem, e0]) rfl ⟨_, rfl, hT3, hbw⟩
  · show Calls Try.prog 94 #[.int .u8 97] w _
    have hbw : Below w.heap.size w ((((w.alloc (.cells #[.slice (some ⟨w.heap.size + 1 + 1 + 1, 0, none⟩) 2 2] 29)).alloc (.cells #[.int .i64 0, .int .i64 1, .int .i64 0, .int .i64 0, .int .i64 1, .int .i64 (-1)] 143)).alloc (.cells #[.int .i64 1, .int .i64 1, .int .i64 1, .int .i64 2, .int .i64 0, .int .i64 (-1)] 143)).alloc (.cells #[.slice (some ⟨w.heap.size + 1, 0, none⟩) 3 3, .slice (some ⟨w.heap.size + 1 + 1, 0, none⟩) 3 3] 100)) := ((((below_alloc1 w _).alloc (by simp) _).alloc (by simp; omega) _).alloc (by simp; omega) _)
    have k0 : Blk ((((w.alloc (.cells #[.slice (some ⟨w.heap.size + 1 + 1 + 1, 0, none⟩) 2 2] 29)).alloc (.cells #[.int .i64 0, .int .i64 1, .int .i64 0, .int .i64 0, .int .i64 1, .int .i64 (-1)] 143)).alloc (.cells #[.int .i64 1, .int .i64 1, .int .i64 1, .int .i64 2, .int .i64 0, .int .i64 (-1)] 143)).alloc (.cells #[.slice (some ⟨w.heap.size + 1, 0, none⟩) 3 3, .slice (some ⟨w.heap.size + 1 + 1, 0, none⟩) 3 3] 100)) w.heap.size 29 #[.slice (some ⟨w.heap.size + 1 + 1 + 1, 0, none⟩) 2 2] := ((((blk_at rfl).alloc _).alloc _).alloc _)
    have hT : OwT 143 100 ((((w.alloc (.cells #[.slice (some ⟨w.heap.size + 1 + 1 + 1, 0, none⟩) 2 2] 29)).alloc (.cells #[.int .i64 0, .int .i64 1, .int .i64 0, .int .i64 0, .int .i64 1, .int .i64 (-1)] 143)).alloc (.cells #[.int .i64 1, .int .i64 1, .int .i64 1, .int .i64 2, .int .i64 0, .int .i64 (-1)] 143)).alloc (.cells #[.slice (some ⟨w.heap.size + 1, 0, none⟩) 3 3, .slice (some ⟨w.heap.size + 1 + 1, 0, none⟩) 3 3] 100)) (w.heap.size + 1) (w.heap.size + 1 + 2 + 1) (.agg #[.slice (some ⟨w.heap.size + 1 + 2, 0, none⟩) 2 2]) (basT 97) := by
      refine owT_blocks (by decide) (by omega) (by decide) (fun j hj => ?_) ?_
      · match j, hj with
        | 0, _ => exact (((blk_at (by simp)).alloc _).alloc _)
        | 1, _ => exact ((blk_at (by simp)).alloc _)
      · exact (blk_at (by simp))
    have hT2 := Lib.hid (hT.mono (lo' := w.heap.size) (hi' := ((((w.alloc (.cells #[.slice (some ⟨w.heap.size + 1 + 1 + 1, 0, none⟩) 2 2] 29)).alloc (.cells #[.int .i64 0, .int .i64 1, .int .i64 0, .int .i64 0, .int .i64 1, .int .i64 (-1)] 143)).alloc (.cells #[.int .i64 1, .int .i64 1, .int .i64 1, .int .i64 2, .int .i64 0, .int .i64 (-1)] 143)).alloc (.cells #[.slice (some ⟨w.heap.size + 1, 0, none⟩) 3 3, .slice (some ⟨w.heap.size + 1 + 1, 0, none⟩) 3 3] 100)).heap.size) (by omega) (by simp))
    have HK := Lib.hid (And.intro hbw k0)
    clear hT hbw k0
    go_enter Try.func94, Try.ntmps94
    go_wp2_with fail
    obtain ⟨hbw, k0⟩ := HK.out
    have hT3 := hT2.out
    clear HK hT2
    generalize ((((w.alloc (.cells #[.slice (some ⟨w.heap.size + 1 + 1 + 1, 0, none⟩) 2 2] 29)).alloc (.cells #[.int .i64 0, .int .i64 1, .int .i64 0, .int .i64 0, .int .i64 1, .int .i64 (-1)] 143)).alloc (.cells #[.int .i64 1, .int .i64 1, .int .i64 1, .int .i64 2, .int .i64 0, .int .i64 (-1)] 143)).alloc (.cells #[.slice (some ⟨w.heap.size + 1, 0, none⟩) 3 3, .slice (some ⟨w.heap.size + 1 + 1, 0, none⟩) 3 3] 100)) = wf at *
    have e0 := k0.cell 0
    simp at e0
    exact bodyPost_ret (v := .agg #[.slice (some ⟨w.heap.size + 1 + 1 + 1, 0, none⟩) 2 2]) (by simp [results, Try.f94, go_sem, e0]) rfl ⟨_, rfl, hT3, hbw⟩
  · show Calls Try.prog 94 #[.int .u8 116] w _
    have hbw : Below w.heap.size w (((((w.alloc (.cells #[.slice (some ⟨w.heap.size + 1 + 1 + 1 + 1, 0, none⟩) 3 3] 29)).alloc (.cells #[.int .i64 0, .int .i64 0, .int .i64 1, .int .i64 (-1), .int .i64 0, .int .i64 2] 143)).alloc (.cells #[.int .i64 1, .int .i64 1, .int .i64 0, .int .i64 (-1), .int .i64 2, .int .i64 (-1)] 143)).alloc (.cells #[.int .i64 2, .int .i64 1, .int .i64 2, .int .i64 2, .int .i64 1, .int .i64 (-1)] 143)).alloc (.cells #[.slice (some ⟨w.heap.size + 1, 0, none⟩) 3 3, .slice (some ⟨w.heap.size + 1 + 1, 0, none⟩) 3 3, .slice (some ⟨w.heap.size + 1 + 1 + 1, 0, none⟩) 3 3] 100)) := (((((below_alloc1 w _).alloc (by simp) _).alloc (by simp; omega) _).alloc (by simp; omega) _).alloc (by simp; omega) _)
    have k0 : Blk (((((w.alloc (.cells #[.slice (some ⟨w.heap.size + 1 + 1 + 1 + 1, 0, none⟩) 3 3] 29)).alloc (.cells #[.int .i64 0, .int .i64 0, .int .i64 1, .int .i64 (-1), .int .i64 0, .int .i64 2] 143)).alloc (.cells #[.int .i64 1, .int .i64 1, .int .i64 0, .int .i64 (-1), .int .i64 2, .int .i64 (-1)] 143)).alloc (.cells #[.int .i64 2, .int .i64 1, .int .i64 2, .int .i64 2, .int .i64 1, .int .i64 (-1)] 143)).alloc (.cells #[.slice (some ⟨w.heap.size + 1, 0, none⟩) 3 3, .slice (some ⟨w.heap.size + 1 + 1, 0, none⟩) 3 3, .slice (some ⟨w.heap.size + 1 + 1 + 1, 0, none⟩) 3 3] 100)) w.heap.size 29 #[.slice (some ⟨w.heap.size + 1 + 1 + 1 + 1, 0, none⟩) 3 3] := (((((blk_at rfl).alloc _).alloc _).alloc _).alloc _)
    have hT : OwT 143 100 (((((w.alloc (.cells #[.slice (some ⟨w.heap.size + 1 + 1 + 1 + 1, 0, none⟩) 3 3] 29)).alloc (.cells #[.int .i64 0, .int .i64 0, .int .i64 1, .int .i64 (-1), .int .i64 0, .int .i64 2] 143)).alloc (.cells #[.int .i64 1, .int .i64 1, .int .i64 0, .int .i64 (-1), .int .i64 2, .int .i64 (-1)] 143)).alloc (.cells #[.int .i64 2, .int .i64 1, .int .i64 2, .int .i64 2, .int .i64 1, .int .i64 (-1)] 143)).alloc (.cells #[.slice (some ⟨w.heap.size + 1, 0, none⟩) 3 3, .slice (some ⟨w.heap.size + 1 + 1, 0, none⟩) 3 3, .slice (some ⟨w.heap.size + 1 + 1 + 1, 0, none⟩) 3 3] 100)) (w.heap.size + 1) (w.heap.size + 1 + 3 + 1) (.agg #[.slice (some ⟨w.heap.size + 1 + 3, 0, none⟩) 3 3]) (basT 116) := by
      refine owT_blocks (by decide) (by omega) (by decide) (fun j hj => ?_) ?_
      · match j, hj with
        | 0, _ => exact ((((blk_at (by simp)).alloc _).alloc _).alloc _)
        | 1, _ => exact (((blk_at (by simp)).alloc _).alloc _)
        | 2, _ => exact ((blk_at (by simp)).alloc _)
      · exact (blk_at (by simp))
    have hT2 := Lib.hid (hT.mono (lo' := w.heap.size) (hi' := (((((w.alloc (.cells #[.slice (some ⟨w.heap.size + 1 + 1 + 1 + 1, 0, none⟩) 3 3] 29)).alloc (.cells #[.int .i64 0, .int .i64 0, .int .i64 1, .int .i64 (-1), .int .i64 0, .int .i64 2] 143)).alloc (.cells #[.int .i64 1, .int .i64 1, .int .i64 0, .int .i64 (-1), .int .i64 2, .int .i64 (-1)] 143)).alloc (.cells #[.int .i64 2, .int .i64 1, .int .i64 2, .int .i64 2, .int .i64 1, .int .i64 (-1)] 143)).alloc (.cells #[.slice (some ⟨w.heap.size + 1, 0, none⟩) 3 3, .slice (some ⟨w.heap.size + 1 + 1, 0, none⟩) 3 3, .slice (some ⟨w.heap.size + 1 + 1 + 1, 0, none⟩) 3 3] 100)).heap.size) (by omega) (by simp))
    have HK := Lib.hid (And.intro hbw k0)
    clear hT hbw k0
    go_enter Try.func94, Try.ntmps94
    go_wp2_with fail
    obtain ⟨hbw, k0⟩ := HK.out
    have hT3 := hT2.out
    clear HK hT2
    generalize (((((w.alloc (.cells #[.slice (some ⟨w.heap.size + 1 + 1 + 1 + 1, 0, none⟩) 3 3] 29)).alloc (.cells #[.int .i64 0, .int .i64 0, .int .i64 1, .int .i64 (-1), .int .i64 0, .int .i64 2] 143)).alloc (.cells #[.int .i64 1, .int .i64 1, .int .i64 0, .int .i64 (-1), .int .i64 2, .int .i64 (-1)] 143)).alloc (.cells #[.int .i64 2, .int .i64 1, .int .i64 2, .int .i64 2, .int .i64 1, .int .i64 (-1)] 143)).alloc (.cells #[.slice (some ⟨w.heap.size + 1, 0, none⟩) 3 3, .slice (some ⟨w.heap.size + 1 + 1, 0, none⟩) 3 3, .slice (some ⟨w.heap.size + 1 + 1 + 1, 0, none⟩) 3 3] 100)) = wf at *
    have e0 := k0.cell 0
    simp at e0
    exact bodyPost_ret (v := .agg #[.slice (some ⟨w.heap.size + 1 + 1 + 1 + 1, 0, none⟩) 3 3]) (by simp [results, Try.f94, go_sem, e0]) rfl ⟨_, rfl, hT3, hbw⟩
  · show Calls Try.prog 94 #[.int .u8 99] w _
    have hbw : Below w.heap.size w ((((((w.alloc (.cells #[.slice (some ⟨w.heap.size + 1 + 1 + 1 + 1 + 1, 0, none⟩) 4 4] 29)).alloc (.cells #[.int .i64 1, .int .i64 (-1), .int .i64 0, .int .i64 2, .int .i64 0, .int .i64 1] 143)).alloc (.cells #[.int .i64 0, .int .i64 (-1), .int .i64 2, .int .i64 (-1), .int .i64 1, .int .i64 1] 143)).alloc (.cells #[.int .i64 2, .int .i64 0, .int .i64 1, .int .i64 (-1), .int .i64 3, .int .i64 (-1)] 143)).alloc (.cells #[.int .i64 3, .int .i64 0, .int .i64 3, .int .i64 1, .int .i64 2, .int .i64 (-1)] 143)).alloc (.cells #[.slice (some ⟨w.heap.size + 1, 0, none⟩) 3 3, .slice (some ⟨w.heap.size + 1 + 1, 0, none⟩) 3 3, .slice (some ⟨w.heap.size + 1 + 1 + 1, 0, none⟩) 3 3, .slice (some ⟨w.heap.size + 1 + 1 + 1 + 1, 0, none⟩) 3 3] 100)) := ((((((below_alloc1 w _).alloc (by simp) _).alloc (by simp; omega) _).alloc (by simp; omega) _).alloc (by simp; omega) _).alloc (by simp; omega) _)
    have k0 : Blk ((((((w.alloc (.cells #[.slice (some ⟨w.heap.size + 1 + 1 + 1 + 1 + 1, 0, none⟩) 4 4] 29)).alloc (.cells #[.int .i64 1, .int .i64 (-1), .int .i64 0, .int .i64 2, .int .i64 0, .int .i64 1] 143)).alloc (.cells #[.int .i64 0, .int .i64 (-1), .int .i64 2, .int .i64 (-1), .int .i64 1, .int .i64 1] 143)).alloc (.cells #[.int .i64 2, .int .i64 0, .int .i64 1, .int .i64 (-1), .int .i64 3, .int .i64 (-1)] 143)).alloc (.cells #[.int .i64 3, .int .i64 0, .int .i64 3, .int .i64 1, .int .i64 2, .int .i64 (-1)] 143)).alloc (.cells #[.slice (some ⟨w.heap.size + 1, 0, none⟩) 3 3, .slice (some ⟨w.heap.size + 1 + 1, 0, none⟩) 3 3, .slice (some ⟨w.heap.size + 1 + 1 + 1, 0, none⟩) 3 3, .slice (some ⟨w.heap.size + 1 + 1 + 1 + 1, 0, none⟩) 3 3] 100)) w.heap.size 29 #[.slice (some ⟨w.heap.size + 1 + 1 + 1 + 1 + 1, 0, none⟩) 4 4] := ((((((blk_at rfl).alloc _).alloc _).alloc _).alloc _).alloc _)
    have hT : OwT 143 100 ((((((w.alloc (.cells #[.slice (some ⟨w.heap.size + 1 + 1 + 1 + 1 + 1, 0, none⟩) 4 4] 29)).alloc (.cells #[.int .i64 1, .int .i64 (-1), .int .i64 0, .int .i64 2, .int .i64 0, .int .i64 1] 143)).alloc (.cells #[.int .i64 0, .int .i64 (-1), .int .i64 2, .int .i64 (-1), .int .i64 1, .int .i64 1] 143)).alloc (.cells #[.int .i64 2, .int .i64 0, .int .i64 1, .int .i64 (-1), .int .i64 3, .int .i64 (-1)] 143)).alloc (.cells #[.int .i64 3, .int .i64 0, .int .i64 3, .int .i64 1, .int .i64 2, .int .i64 (-1)] 143)).alloc (.cells #[.slice (some ⟨w.heap.size + 1, 0, none⟩) 3 3, .slice (some ⟨w.heap.size + 1 + 1, 0, none⟩) 3 3, .slice (some ⟨w.heap.size + 1 + 1 + 1, 0, none⟩) 3 3, .slice (some ⟨w.heap.size + 1 + 1 + 1 + 1, 0, none⟩) 3 3] 100)) (w.heap.size + 1) (w.heap.size + 1 + 4 + 1) (.agg #[.slice (some ⟨w.heap.size + 1 + 4, 0, none⟩) 4 4]) (basT 99) := by
      refine owT_blocks (by decide) (by omega) (by decide) (fun j hj => ?_) ?_
      · match j, hj with
        | 0, _ => exact (((((blk_at (by simp)).alloc _).alloc _).alloc _).alloc _)
        | 1, _ => exact ((((blk_at (by simp)).alloc _).alloc _).alloc _)
        | 2, _ => exact (((blk_at (by simp)).alloc _).alloc _)
        | 3, _ => exact ((blk_at (by simp)).alloc _)
      · exact (blk_at (by simp))
    have hT2 := Lib.hid (hT.mono (lo' := w.heap.size) (hi' := ((((((w.alloc (.cells #[.slice (some ⟨w.heap.size + 1 + 1 + 1 + 1 + 1, 0, none⟩) 4 4] 29)).alloc (.cells #[.int .i64 1, .int .i64 (-1), .int .i64 0, .int .i64 2, .int .i64 0, .int .i64 1] 143)).alloc (.cells #[.int .i64 0, .int .i64 (-1), .int .i64 2, .int .i64 (-1), .int .i64 1, .int .i64 1] 143)).alloc (.cells #[.int .i64 2, .int .i64 0, .int .i64 1, .int .i64 (-1), .int .i64 3, .int .i64 (-1)] 143)).alloc (.cells #[.int .i64 3, .int .i64 0, .int .i64 3, .int .i64 1, .int .i64 2, .int .i64 (-1)] 143)).alloc (.cells #[.slice (some ⟨w.heap.size + 1, 0, none⟩) 3 3, .slice (some ⟨w.heap.size + 1 + 1, 0, none⟩) 3 3, .slice (some ⟨w.heap.size + 1 + 1 + 1, 0, none⟩) 3 3, .slice (some ⟨w.heap.size + 1 + 1 + 1 + 1, 0, none⟩) 3 3] 100)).heap.size) (by omega) (by simp))
    have HK := Lib.hid (And.intro hbw k0)
    clear hT hbw k0
    go_enter Try.func94, Try.ntmps94
    go_wp2_with fail
    obtain ⟨hbw, k0⟩ := HK.out
    have hT3 := hT2.out
    clear HK hT2
    generalize ((((((w.alloc (.cells #[.slice (some ⟨w.heap.size + 1 + 1 + 1 + 1 + 1, 0, none⟩) 4 4] 29)).alloc (.cells #[.int .i64 1, .int .i64 (-1), .int .i64 0, .int .i64 2, .int .i64 0, .int .i64 1] 143)).alloc (.cells #[.int .i64 0, .int .i64 (-1), .int .i64 2, .int .i64 (-1), .int .i64 1, .int .i64 1] 143)).alloc (.cells #[.int .i64 2, .int .i64 0, .int .i64 1, .int .i64 (-1), .int .i64 3, .int .i64 (-1)] 143)).alloc (.cells #[.int .i64 3, .int .i64 0, .int .i64 3, .int .i64 1, .int .i64 2, .int .i64 (-1)] 143)).alloc (.cells #[.slice (some ⟨w.heap.size + 1, 0, none⟩) 3 3, .slice (some ⟨w.heap.size + 1 + 1, 0, none⟩) 3 3, .slice (some ⟨w.heap.size + 1 + 1 + 1, 0, none⟩) 3 3, .slice (some ⟨w.heap.size + 1 + 1 + 1 + 1, 0, none⟩) 3 3] 100)) = wf at *
    have e0 := k0.cell 0
    simp at e0
    exact bodyPost_ret (v := .agg #[.slice (some ⟨w.heap.size + 1 + 1 + 1 + 1 + 1, 0, none⟩) 4 4]) (by simp [results, Try.f94, go_sem, e0]) rfl ⟨_, rfl, hT3, hbw⟩

set_option maxRecDepth 100000 in
set_option maxHeartbeats 3200000 in
theorem implNamL_any (b : Nat) (w : World) (hb : b < 256) (h0 : 0 < (nmL b).length) (hnb : ¬ IsBas b) : Calls Try.prog 94 #[.int .u8 b] w fun e w' => ∃ v, e = .returned v ∧ OwT 143 100 w' w.heap.size w'.heap.size v (nmF (nmL b)) ∧ Below w.heap.size w w' := by
  have k1 : ((b : Int) == 100) = false := by simp; intro e; exact hnb (.inl (by omega))
  have k2 : ((b : Int) == 97) = false := by simp; intro e; exact hnb (.inr (.inl (by omega)))
  have k3 : ((b : Int) == 116) = false := by simp; intro e; exact hnb (.inr (.inr (.inl (by omega))))
  have k4 : ((b : Int) == 99) = false := by simp; intro e; exact hnb (.inr (.inr (.inr (by omega))))
  clear hnb
  have hl3 := nm_len b
  have hsz := nmS_size b
  have hx := nmS_get b
  have HT := Lib.hid (fun k h1 h2 => @nm_tmp b k h1 h2)
  have HBA : Hid (∀ k, k < (nmL b).length → IsBas (nget (nmL b) k)) := Lib.hid (fun k h => nm_bas h)
  have HS : Hid (∀ k, 0 < k → k < (nmL b).length → nmF ((nmL b).take (k + 1)) = cmD (nmF ((nmL b).take k)) (basT (nget (nmL b) k))) := Lib.hid (fun k h1 h2 => nmF_succ h1 h2)
  have HF : Hid (nmF ((nmL b).take 1) = basT (nget (nmL b) 0)) := Lib.hid (by unfold nget; cases hq : nmL b with | nil => rw [hq] at h0; simp at h0 | cons x r => simp [nmF])
  go_enter Try.func94, Try.ntmps94
  go_wp2_with fail
  refine (implWord_any b _ hb).mono ?_
  rintro e w1 ⟨rfl, b1⟩
  generalize nmS b = S at *
  generalize hLb : nmL b = L at *
  have HLB := Lib.hid hLb
  clear hLb
  have hS0 : 0 < S.size := by omega
  clear k1 k2 k3 k4
  have k1 : Blk w1 w.heap.size 29 #[.slice none 0 0] := (blk_at (w := w) rfl).belowS b1
  have B1 := below_tr b1 (below_alloc1 w _)
  have hx0 := hx 0 hS0
  clear b1
  go_wp2_with fail
  refine (implBas_any (nget L 0) _ (HBA.out 0 h0)).mono ?_
  rintro e w2 ⟨v2, rfl, o2, b2⟩
  obtain ⟨a2, n2, c2, rfl⟩ := o2.form
  have hlt1 : w.heap.size < w1.heap.size := k1.lt
  have hs12 := b2.size
  have st0 : NamSt w (w2.alloc (.cells #[.slice a2 n2 c2] 29)) w2.heap.size w1.heap.size w2.heap.size a2 n2 c2 (nmF (L.take 1)) :=
    ⟨(k1.belowS b2).alloc _, blk_at rfl, by rw [HF.out]; exact o2.below (below_alloc1 _ _), ⟨by omega, hlt1, by simp, .inl (Nat.le_refl _)⟩, (below_tr b2 B1).alloc (below_tr b2 B1).size _⟩
  clear o2 b2 B1 k1 hx0
  go_wp2_with fail
  obtain ⟨w3, hw3⟩ : ∃ w3, w3 = w2.alloc (.cells #[.slice a2 n2 c2] 29) := ⟨_, rfl⟩
  rw [← hw3] at st0 ⊢
  clear hw3
  generalize w2.heap.size = bx at *
  go_loopw [5] (fun i wr => ∃ (k lo hi : Nat) (ao : Option Addr) (n c : Nat), i = .int .i64 k ∧ 1 ≤ k ∧ k ≤ S.size ∧ NamSt w wr bx lo hi ao n c (nmF (L.take k))) (fun i _ => S.size - (intOf i).toNat)
  case atStart => exact ⟨1, _, _, _, _, _, rfl, by omega, by omega, st0⟩
  case round =>
    obtain ⟨k, lo, hi, ao, n, c, rfl, hk1, hk2, st⟩ := hrel
    clear st0
    have x0 := st.box.cell 0
    have xf := st.box.frozen 0
    simp at x0
    have ST := Lib.hid st
    clear st
    by_cases hlt : k < S.size
    · have hxk := hx k hlt
      have HN := Lib.hid (HS.out k hk1 (by omega))
      go_wp2_with fail
      go_region_law (first | (go_simp; go_at_call 94; refine (implBas_any (nget L k) _ (HBA.out k (by omega))).mono ?_; rintro e wx ⟨vx, rfl, ox, bxx⟩; obtain ⟨ax, nx, cx, rfl⟩ := ox.form; have bX : Below wr.heap.size wr wx := below_tr bxx (below_drew1 _); have xx := (ST.out.box.belowS bX).cell 0; simp at xx) | (go_simp; go_at_call 88; refine (implCmp_any _ _ _ _ _ _ _ _ _ (ST.out.own.tg.below (by first | exact bX | exact bX.drew)) ox.tg (HT.out k hk1 (by omega)) (basT_tmp (HBA.out k (by omega)))).mono ?_; rintro e wy ⟨vy, rfl, oy, byy⟩; obtain ⟨ay, ny, cy, rfl⟩ := oy.form; have bY : Below wr.heap.size wr wy := below_tr byy (by first | exact bX | exact bX.drew); have xy := (ST.out.box.belowS bY).cell 0; have fy := (ST.out.box.belowS bY).frozen 0; simp at xy))
      all_goals
        have hsx := bX.size
        have st2 := ST.out.next bY oy (by first | exact hsx | (simp; omega))
        generalize wy.setCell ⟨bx, 0, none⟩ (.slice ay ny cy) = wf at *
        rw [← HN.out] at st2
        clear x0 xf xx xy fy ox oy bxx byy bX bY hxk
        go_wp2_with fail
        go_roundw
        case rel => exact ⟨k + 1, _, _, ay, ny, cy, by go_num, by omega, by omega, st2⟩
        case measure => simp [intOf]; omega
    · obtain rfl : k = S.size := by omega
      have y1 := ST.out.res.cell 0
      have y2 := ST.out.res.frozen 0
      simp at y1
      go_wp2_with fail
      have st2 := ST.out.done
      generalize wr.setCell ⟨w.heap.size, 0, none⟩ (.slice ao n c) = wf at *
      have e0 := st2.1.cell 0
      simp at e0
      have hL : L.take S.size = L := List.take_of_length_le (by omega)
      rw [hL] at st2
      exact bodyPost_ret (v := .agg #[.slice ao n c]) (by simp [results, Try.f94, go_sem, e0]) rfl ⟨_, rfl, by rw [HLB.out]; exact st2.2.1, st2.2.2⟩

theorem implNam_any (b : Nat) (w : World) (hb : b < 256) (h0 : 0 < (nmL b).length) : Calls Try.prog 94 #[.int .u8 b] w fun e w' => ∃ v, e = .returned v ∧ OwT 143 100 w' w.heap.size w'.heap.size v (nmF (nmL b)) ∧ Below w.heap.size w w' := by
  by_cases h : IsBas b
  · have e : nmF (nmL b) = basT b := by rcases h with rfl | rfl | rfl | rfl <;> rfl
    rw [e]
    exact implBas_any b w h
  · exact implNamL_any b w hb h0 h
end Go.Proofs.Ytpognnifgcacnaa

/- NamedTemplate, both sides. -/
namespace Go.Proofs.Ytpognnifgcacnaa
open Go.RowKit

/-- the letter of a text of one byte -/
def nmByte (s : ByteArray) : Nat := if h : 0 < s.size then (s[0]'h).toNat else 0
/-- the text is a name -/
def nmOk (s : ByteArray) : Bool := decide (s.size = 1) && decide (0 < (nmL (nmByte s)).length)
def nmC (s : ByteArray) : Int := if nmOk s = true then 0 else 4
def nmR (s : ByteArray) : List (List (Int × Int)) := if nmOk s = true then nmF (nmL (nmByte s)) else []
theorem nmByte_lt (s : ByteArray) : nmByte s < 256 := by unfold nmByte; split; exact UInt8.toNat_lt _; omega
theorem nmR_small (s : ByteArray) : lenTT (nmR s) ≤ 72 := by
  unfold nmR
  split
  · have := nm_fsmall (nmByte s); unfold lenTT; omega
  · simp [lenTT, lenTT0]
theorem nmS_empty (b : Nat) : ((nmS b).toList == ([] : List UInt8)) = decide ((nmL b).length = 0) := by
  rcases nm_cases b with h | h
  · rcases h with rfl | rfl | rfl | rfl | rfl | rfl | rfl | rfl | rfl | rfl | rfl | rfl <;> decide +kernel
  · unfold nmS; rw [nmL_none h]; decide +kernel

set_option maxRecDepth 100000 in
set_option maxHeartbeats 3200000 in
theorem api_specNam (s : ByteArray) (w : World) : Calls Try.prog 24 #[.string s] w fun e w' => ∃ v, e = .returned (.tuple #[v, .int .i64 (nmC s)]) ∧ OwT 143 100 w' w.heap.size w'.heap.size v (nmR s) ∧ Below w.heap.size w w' := by
  have k0 : Blk (w.alloc (.cells #[.slice none 0 0] 29)) w.heap.size 29 #[.slice none 0 0] := blk_at rfl
  have hb0 := below_alloc1 w (.cells #[.slice none 0 0] 29)
  by_cases h1 : s.size = 1
  · have hp : 0 < s.size := by omega
    have hB : (s[0]'hp).toNat = nmByte s := by unfold nmByte; rw [dif_pos hp]
    have hn1 : ((s.size : Int) != 1) = false := by simp; omega
    have hlt := nmByte_lt s
    have he := nmS_empty (nmByte s)
    have hd : nmOk s = decide (0 < (nmL (nmByte s)).length) := by unfold nmOk; rw [decide_eq_true h1, Bool.true_and]
    have HD := Lib.hid hd
    have HNB : Hid (nmR s = if nmOk s = true then nmF (nmL (nmByte s)) else []) := Lib.hid rfl
    clear hd
    generalize nmByte s = b at *
    by_cases h0 : 0 < (nmL b).length
    · have hok : nmOk s = true := by rw [HD.out]; exact decide_eq_true h0
      have HC : Hid (nmC s = 0 ∧ nmR s = nmF (nmL b)) := Lib.hid ⟨by unfold nmC; rw [if_pos hok], by rw [HNB.out, if_pos hok]⟩
      have hz : ((nmS b).toList == ([] : List UInt8)) = false := by rw [he]; exact decide_eq_false (by omega)
      clear he hok
      go_enter Try.func24, Try.ntmps24
      go_wp2_with fail
      refine (specWord_any b _ hlt).mono ?_
      rintro e w1 ⟨rfl, b1⟩
      have K1 := Lib.hid (k0.belowS b1)
      have B1 := Lib.hid (below_tr b1 hb0)
      clear b1
      go_wp2_with fail
      refine (specNam_any b _ hlt h0).mono ?_
      rintro e w2 ⟨v, rfl, ⟨a2, n2, c2, us, rfl, o2⟩, b2⟩
      have k2 := K1.out.belowS b2
      have x2 := k2.cell 0
      have f2 := k2.frozen 0
      have B2 := below_tr b2 B1.out
      have hsz := K1.out.lt
      have hb2 := b2.size
      simp at x2
      clear b2
      go_wp2_with fail
      have kf := k2.set_ 0 (.slice a2 n2 c2)
      have Bf := B2.setCell (p := ⟨w.heap.size, 0, none⟩) (by simp) (.slice a2 n2 c2)
      have hh : (w2.setCell ⟨w.heap.size, 0, none⟩ (.slice a2 n2 c2)).heap.size = w2.heap.size := by simp [World.setCell]
      have of : OwR (OwTs 143) (w2.setCell ⟨w.heap.size, 0, none⟩ (.slice a2 n2 c2)) w1.heap.size (w2.setCell ⟨w.heap.size, 0, none⟩ (.slice a2 n2 c2)).heap.size 100 a2 n2 c2 us (nmF (nmL b)) := by
        rw [hh]
        exact o2.same (innerTs _) fun g h1 _ _ => Below.heap_setCell _ _ _ _ (by simp; omega)
      clear hh o2
      generalize w2.setCell ⟨w.heap.size, 0, none⟩ (.slice a2 n2 c2) = wf at *
      simp at kf
      have e0 := kf.cell 0
      simp at e0
      refine bodyPost_ret (v := .tuple #[.agg #[.slice a2 n2 c2], .int .i64 0]) (by simp [results, Try.f24, go_sem, e0]) rfl ⟨_, by rw [HC.out.1], ?_, Bf⟩
      rw [HC.out.2]
      exact ⟨a2, n2, c2, us, rfl, of.mono (by omega) (Nat.le_refl _)⟩
    · have hok : nmOk s = false := by rw [HD.out]; exact decide_eq_false h0
      have HC : Hid (nmC s = 4 ∧ nmR s = []) := Lib.hid ⟨by unfold nmC; rw [hok]; rfl, by rw [HNB.out, hok]; rfl⟩
      have hz : ((nmS b).toList == ([] : List UInt8)) = true := by rw [he]; exact decide_eq_true (by omega)
      clear he hok
      go_enter Try.func24, Try.ntmps24
      go_wp2_with fail
      refine (specWord_any b _ hlt).mono ?_
      rintro e w1 ⟨rfl, b1⟩
      have k2 := k0.belowS b1
      have x2 := k2.cell 0
      have f2 := k2.frozen 0
      have B2 := below_tr b1 hb0
      simp at x2
      clear b1
      go_wp2_with fail
      have kf := k2.set_ 0 (.slice none 0 0)
      have Bf := B2.setCell (p := ⟨w.heap.size, 0, none⟩) (by simp) (.slice none 0 0)
      generalize w1.setCell ⟨w.heap.size, 0, none⟩ (.slice none 0 0) = wf at *
      simp at kf
      have e0 := kf.cell 0
      simp at e0
      refine bodyPost_ret (v := .tuple #[.agg #[.slice none 0 0], .int .i64 4]) (by simp [results, Try.f24, go_sem, e0]) rfl ⟨_, by rw [HC.out.1], ?_, Bf⟩
      rw [HC.out.2]
      exact ⟨none, 0, 0, [], rfl, OwR.empty_ (Own.nil_ _ _ _) (fun g hg => by cases hg)⟩
  · have hn1 : ((s.size : Int) != 1) = true := by simp; omega
    have hok : nmOk s = false := by unfold nmOk; rw [decide_eq_false h1, Bool.false_and]
    have HC : Hid (nmC s = 4 ∧ nmR s = []) := Lib.hid ⟨by unfold nmC; rw [hok]; rfl, by unfold nmR; rw [hok]; rfl⟩
    clear hok
    go_enter Try.func24, Try.ntmps24
    go_wp2_with fail
    refine bodyPost_ret (v := .tuple #[.agg #[.slice none 0 0], .int .i64 4]) (by simp [results, Try.f24, go_sem]) rfl ⟨_, by rw [HC.out.1], ?_, hb0⟩
    rw [HC.out.2]
    exact ⟨none, 0, 0, [], rfl, OwR.empty_ (Own.nil_ _ _ _) (fun g hg => by cases hg)⟩

set_option maxRecDepth 100000 in
set_option maxHeartbeats 3200000 in
theorem api_implNam (s : ByteArray) (w : World) : Calls Try.prog 25 #[.string s] w fun e w' => ∃ v, e = .returned (.tuple #[v, .int .i64 (nmC s)]) ∧ OwT 143 100 w' w.heap.size w'.heap.size v (nmR s) ∧ Below w.heap.size w w' := by
  have k0 : Blk (w.alloc (.cells #[.slice none 0 0] 29)) w.heap.size 29 #[.slice none 0 0] := blk_at rfl
  have hb0 := below_alloc1 w (.cells #[.slice none 0 0] 29)
  by_cases h1 : s.size = 1
  · have hp : 0 < s.size := by omega
    have hB : (s[0]'hp).toNat = nmByte s := by unfold nmByte; rw [dif_pos hp]
    have hn1 : ((s.size : Int) != 1) = false := by simp; omega
    have hlt := nmByte_lt s
    have he := nmS_empty (nmByte s)
    have hd : nmOk s = decide (0 < (nmL (nmByte s)).length) := by unfold nmOk; rw [decide_eq_true h1, Bool.true_and]
    have HD := Lib.hid hd
    have HNB : Hid (nmR s = if nmOk s = true then nmF (nmL (nmByte s)) else []) := Lib.hid rfl
    clear hd
    generalize nmByte s = b at *
    by_cases h0 : 0 < (nmL b).length
    · have hok : nmOk s = true := by rw [HD.out]; exact decide_eq_true h0
      have HC : Hid (nmC s = 0 ∧ nmR s = nmF (nmL b)) := Lib.hid ⟨by unfold nmC; rw [if_pos hok], by rw [HNB.out, if_pos hok]⟩
      have hz : ((nmS b).toList == ([] : List UInt8)) = false := by rw [he]; exact decide_eq_false (by omega)
      clear he hok
      go_enter Try.func25, Try.ntmps25
      go_wp2_with fail
      refine (implWord_any b _ hlt).mono ?_
      rintro e w1 ⟨rfl, b1⟩
      have K1 := Lib.hid (k0.belowS b1)
      have B1 := Lib.hid (below_tr b1 hb0)
      clear b1
      go_wp2_with fail
      refine (implNam_any b _ hlt h0).mono ?_
      rintro e w2 ⟨v, rfl, ⟨a2, n2, c2, us, rfl, o2⟩, b2⟩
      have k2 := K1.out.belowS b2
      have x2 := k2.cell 0
      have f2 := k2.frozen 0
      have B2 := below_tr b2 B1.out
      have hsz := K1.out.lt
      have hb2 := b2.size
      simp at x2
      clear b2
      go_wp2_with fail
      have kf := k2.set_ 0 (.slice a2 n2 c2)
      have Bf := B2.setCell (p := ⟨w.heap.size, 0, none⟩) (by simp) (.slice a2 n2 c2)
      have hh : (w2.setCell ⟨w.heap.size, 0, none⟩ (.slice a2 n2 c2)).heap.size = w2.heap.size := by simp [World.setCell]
      have of : OwR (OwTs 143) (w2.setCell ⟨w.heap.size, 0, none⟩ (.slice a2 n2 c2)) w1.heap.size (w2.setCell ⟨w.heap.size, 0, none⟩ (.slice a2 n2 c2)).heap.size 100 a2 n2 c2 us (nmF (nmL b)) := by
        rw [hh]
        exact o2.same (innerTs _) fun g h1 _ _ => Below.heap_setCell _ _ _ _ (by simp; omega)
      clear hh o2
      generalize w2.setCell ⟨w.heap.size, 0, none⟩ (.slice a2 n2 c2) = wf at *
      simp at kf
      have e0 := kf.cell 0
      simp at e0
      refine bodyPost_ret (v := .tuple #[.agg #[.slice a2 n2 c2], .int .i64 0]) (by simp [results, Try.f25, go_sem, e0]) rfl ⟨_, by rw [HC.out.1], ?_, Bf⟩
      rw [HC.out.2]
      exact ⟨a2, n2, c2, us, rfl, of.mono (by omega) (Nat.le_refl _)⟩
    · have hok : nmOk s = false := by rw [HD.out]; exact decide_eq_false h0
      have HC : Hid (nmC s = 4 ∧ nmR s = []) := Lib.hid ⟨by unfold nmC; rw [hok]; rfl, by rw [HNB.out, hok]; rfl⟩
      have hz : ((nmS b).toList == ([] : List UInt8)) = true := by rw [he]; exact decide_eq_true (by omega)
      clear he hok
      go_enter Try.func25, Try.ntmps25
      go_wp2_with fail
      refine (implWord_any b _ hlt).mono ?_
      rintro e w1 ⟨rfl, b1⟩
      have k2 := k0.belowS b1
      have x2 := k2.cell 0
      have f2 := k2.frozen 0
      have B2 := below_tr b1 hb0
      simp at x2
      clear b1
      go_wp2_with fail
      have kf := k2.set_ 0 (.slice none 0 0)
      have Bf := B2.setCell (p := ⟨w.heap.size, 0, none⟩) (by simp) (.slice none 0 0)
      generalize w1.setCell ⟨w.heap.size, 0, none⟩ (.slice none 0 0) = wf at *
      simp at kf
      have e0 := kf.cell 0
      simp at e0
      refine bodyPost_ret (v := .tuple #[.agg #[.slice none 0 0], .int .i64 4]) (by simp [results, Try.f25, go_sem, e0]) rfl ⟨_, by rw [HC.out.1], ?_, Bf⟩
      rw [HC.out.2]
      exact ⟨none, 0, 0, [], rfl, OwR.empty_ (Own.nil_ _ _ _) (fun g hg => by cases hg)⟩
  · have hn1 : ((s.size : Int) != 1) = true := by simp; omega
    have hok : nmOk s = false := by unfold nmOk; rw [decide_eq_false h1, Bool.false_and]
    have HC : Hid (nmC s = 4 ∧ nmR s = []) := Lib.hid ⟨by unfold nmC; rw [hok]; rfl, by unfold nmR; rw [hok]; rfl⟩
    clear hok
    go_enter Try.func25, Try.ntmps25
    go_wp2_with fail
    refine bodyPost_ret (v := .tuple #[.agg #[.slice none 0 0], .int .i64 4]) (by simp [results, Try.f25, go_sem]) rfl ⟨_, by rw [HC.out.1], ?_, hb0⟩
    rw [HC.out.2]
    exact ⟨none, 0, 0, [], rfl, OwR.empty_ (Own.nil_ _ _ _) (fun g hg => by cases hg)⟩
end Go.Proofs.Ytpognnifgcacnaa

/- The walk of FnExactNamedTemplate: true, whatever the arguments. Written by genwalk.py. -/
namespace Go.Proofs.Ytpognnifgcacnaa
open Go.RowKit

set_option maxHeartbeats 3200000 in
theorem walkNamedTemplate (s : ByteArray) (w : World)  :
    Calls Try.prog 5 #[.string s] w fun e w' => e = .returned (.bool true) ∧ Below w.heap.size w w' := by
  have hsz := nmR_small s
  have B0 : Below w.heap.size w w := Below.refl _ _
  by_cases hs0 : s.size ≤ 1048576
  · have g0 : decide ((1048576 : Int) < s.size) = false := by simp; omega
    go_enter Try.func5, Try.ntmps5
    go_wp2_with fail
    refine (api_specNam s _  ).mono ?_
    rintro e w1 ⟨u1_0, rfl, o1_0, b1⟩
    obtain ⟨au1_0, nu1_0, cu1_0, rfl⟩ := o1_0.form
    have s1 := b1.size
    have B1 : Below w.heap.size w w1 := B0.trans (b1.mono B0.size)
    go_wp2_with fail
    have bx2 := below_alloc1 w1 (.cells #[.slice au1_0 nu1_0 cu1_0] 29)
    have kbw0_2 : Blk (w1.alloc (.cells #[.slice au1_0 nu1_0 cu1_0] 29)) w1.heap.size 29 #[.slice au1_0 nu1_0 cu1_0] := blk_at rfl
    generalize w1.alloc (.cells #[.slice au1_0 nu1_0 cu1_0] 29) = w2 at *
    have s2 := bx2.size
    have B2 : Below w.heap.size w w2 := B1.trans (bx2.mono B1.size)
    have xkbw0_2_0 : w2.cell? ⟨w1.heap.size, 0, none⟩ = some (.slice au1_0 nu1_0 cu1_0) := kbw0_2.cell 0
    have lkbw0_2 : w1.heap.size < w2.heap.size := kbw0_2.lt
    refine (api_implNam s _  ).mono ?_
    rintro e w3 ⟨u3_0, rfl, o3_0, b3⟩
    obtain ⟨au3_0, nu3_0, cu3_0, rfl⟩ := o3_0.form
    have s3 := b3.size
    have B3 : Below w.heap.size w w3 := B2.trans (b3.mono B2.size)
    have kbw0_3 : Blk w3 (w1.heap.size) 29 #[.slice au1_0 nu1_0 cu1_0] := (kbw0_2.belowS b3)
    have xkbw0_3_0 : w3.cell? ⟨w1.heap.size, 0, none⟩ = some (.slice au1_0 nu1_0 cu1_0) := kbw0_3.cell 0
    have lkbw0_3 : w1.heap.size < w3.heap.size := kbw0_3.lt
    clear xkbw0_2_0
    go_wp2_with fail
    have bx4 := below_alloc1 w3 (.cells #[.slice au3_0 nu3_0 cu3_0] 29)
    have kbg0_4 : Blk (w3.alloc (.cells #[.slice au3_0 nu3_0 cu3_0] 29)) w3.heap.size 29 #[.slice au3_0 nu3_0 cu3_0] := blk_at rfl
    generalize w3.alloc (.cells #[.slice au3_0 nu3_0 cu3_0] 29) = w4 at *
    have s4 := bx4.size
    have B4 : Below w.heap.size w w4 := B3.trans (bx4.mono B3.size)
    have kbw0_4 : Blk w4 (w1.heap.size) 29 #[.slice au1_0 nu1_0 cu1_0] := (kbw0_3.belowS bx4)
    have xkbw0_4_0 : w4.cell? ⟨w1.heap.size, 0, none⟩ = some (.slice au1_0 nu1_0 cu1_0) := kbw0_4.cell 0
    have lkbw0_4 : w1.heap.size < w4.heap.size := kbw0_4.lt
    have xkbg0_4_0 : w4.cell? ⟨w3.heap.size, 0, none⟩ = some (.slice au3_0 nu3_0 cu3_0) := kbg0_4.cell 0
    have lkbg0_4 : w3.heap.size < w4.heap.size := kbg0_4.lt
    clear xkbw0_3_0
    refine (law_eqT _ (o3_0.below bx4).rd (((o1_0.below bx2).below b3).below bx4).rd).mono ?_
    rintro e w5 ⟨rfl, b5⟩
    have s5 := b5.size
    have B5 : Below w.heap.size w w5 := B4.trans (b5.mono B4.size)
    have kbw0_5 : Blk w5 (w1.heap.size) 29 #[.slice au1_0 nu1_0 cu1_0] := (kbw0_4.belowS b5)
    have xkbw0_5_0 : w5.cell? ⟨w1.heap.size, 0, none⟩ = some (.slice au1_0 nu1_0 cu1_0) := kbw0_5.cell 0
    have lkbw0_5 : w1.heap.size < w5.heap.size := kbw0_5.lt
    have kbg0_5 : Blk w5 (w3.heap.size) 29 #[.slice au3_0 nu3_0 cu3_0] := (kbg0_4.belowS b5)
    have xkbg0_5_0 : w5.cell? ⟨w3.heap.size, 0, none⟩ = some (.slice au3_0 nu3_0 cu3_0) := kbg0_5.cell 0
    have lkbg0_5 : w3.heap.size < w5.heap.size := kbg0_5.lt
    clear xkbw0_4_0 xkbg0_4_0
    go_wp2_with fail
    refine (law_markT (1) _ ((o3_0.below bx4).below b5) (by omega) (by omega)).mono ?_
    rintro e w6 ⟨rfl, o6, q6⟩
    have s6 := q6.size
    have B6 : Below w.heap.size w w6 := B5.trans (q6.below (by omega) B5.size)
    have kbw0_6 : Blk w6 (w1.heap.size) 29 #[.slice au1_0 nu1_0 cu1_0] := (kbw0_5.only q6 (by omega))
    have xkbw0_6_0 : w6.cell? ⟨w1.heap.size, 0, none⟩ = some (.slice au1_0 nu1_0 cu1_0) := kbw0_6.cell 0
    have lkbw0_6 : w1.heap.size < w6.heap.size := kbw0_6.lt
    have kbg0_6 : Blk w6 (w3.heap.size) 29 #[.slice au3_0 nu3_0 cu3_0] := (kbg0_5.only q6 (by omega))
    have xkbg0_6_0 : w6.cell? ⟨w3.heap.size, 0, none⟩ = some (.slice au3_0 nu3_0 cu3_0) := kbg0_6.cell 0
    have lkbg0_6 : w3.heap.size < w6.heap.size := kbg0_6.lt
    clear xkbw0_5_0 xkbg0_5_0
    go_wp2_with fail
    refine (law_heldT (1) _ o6.rd (by omega) (by omega)).mono ?_
    rintro e w7 ⟨rfl, b7⟩
    have s7 := b7.size
    have B7 : Below w.heap.size w w7 := B6.trans (b7.mono B6.size)
    have kbw0_7 : Blk w7 (w1.heap.size) 29 #[.slice au1_0 nu1_0 cu1_0] := (kbw0_6.belowS b7)
    have xkbw0_7_0 : w7.cell? ⟨w1.heap.size, 0, none⟩ = some (.slice au1_0 nu1_0 cu1_0) := kbw0_7.cell 0
    have lkbw0_7 : w1.heap.size < w7.heap.size := kbw0_7.lt
    have kbg0_7 : Blk w7 (w3.heap.size) 29 #[.slice au3_0 nu3_0 cu3_0] := (kbg0_6.belowS b7)
    have xkbg0_7_0 : w7.cell? ⟨w3.heap.size, 0, none⟩ = some (.slice au3_0 nu3_0 cu3_0) := kbg0_7.cell 0
    have lkbg0_7 : w3.heap.size < w7.heap.size := kbg0_7.lt
    clear xkbw0_6_0 xkbg0_6_0
    go_wp2_with fail
    refine (api_implNam s _  ).mono ?_
    rintro e w8 ⟨u8_0, rfl, o8_0, b8⟩
    obtain ⟨au8_0, nu8_0, cu8_0, rfl⟩ := o8_0.form
    have s8 := b8.size
    have B8 : Below w.heap.size w w8 := B7.trans (b8.mono B7.size)
    have kbw0_8 : Blk w8 (w1.heap.size) 29 #[.slice au1_0 nu1_0 cu1_0] := (kbw0_7.belowS b8)
    have xkbw0_8_0 : w8.cell? ⟨w1.heap.size, 0, none⟩ = some (.slice au1_0 nu1_0 cu1_0) := kbw0_8.cell 0
    have lkbw0_8 : w1.heap.size < w8.heap.size := kbw0_8.lt
    have kbg0_8 : Blk w8 (w3.heap.size) 29 #[.slice au3_0 nu3_0 cu3_0] := (kbg0_7.belowS b8)
    have xkbg0_8_0 : w8.cell? ⟨w3.heap.size, 0, none⟩ = some (.slice au3_0 nu3_0 cu3_0) := kbg0_8.cell 0
    have lkbg0_8 : w3.heap.size < w8.heap.size := kbg0_8.lt
    clear xkbw0_7_0 xkbg0_7_0
    go_wp2_with fail
    have bx9 := below_alloc1 w8 (.cells #[.slice au8_0 nu8_0 cu8_0] 29)
    have kbh0_9 : Blk (w8.alloc (.cells #[.slice au8_0 nu8_0 cu8_0] 29)) w8.heap.size 29 #[.slice au8_0 nu8_0 cu8_0] := blk_at rfl
    generalize w8.alloc (.cells #[.slice au8_0 nu8_0 cu8_0] 29) = w9 at *
    have s9 := bx9.size
    have B9 : Below w.heap.size w w9 := B8.trans (bx9.mono B8.size)
    have kbw0_9 : Blk w9 (w1.heap.size) 29 #[.slice au1_0 nu1_0 cu1_0] := (kbw0_8.belowS bx9)
    have xkbw0_9_0 : w9.cell? ⟨w1.heap.size, 0, none⟩ = some (.slice au1_0 nu1_0 cu1_0) := kbw0_9.cell 0
    have lkbw0_9 : w1.heap.size < w9.heap.size := kbw0_9.lt
    have kbg0_9 : Blk w9 (w3.heap.size) 29 #[.slice au3_0 nu3_0 cu3_0] := (kbg0_8.belowS bx9)
    have xkbg0_9_0 : w9.cell? ⟨w3.heap.size, 0, none⟩ = some (.slice au3_0 nu3_0 cu3_0) := kbg0_9.cell 0
    have lkbg0_9 : w3.heap.size < w9.heap.size := kbg0_9.lt
    have xkbh0_9_0 : w9.cell? ⟨w8.heap.size, 0, none⟩ = some (.slice au8_0 nu8_0 cu8_0) := kbh0_9.cell 0
    have lkbh0_9 : w8.heap.size < w9.heap.size := kbh0_9.lt
    clear xkbw0_8_0 xkbg0_8_0
    refine (law_eqT _ (o8_0.below bx9).rd ((((((((o1_0.below bx2).below b3).below bx4).below b5).only q6 (by omega)).below b7).below b8).below bx9).rd).mono ?_
    rintro e w10 ⟨rfl, b10⟩
    have s10 := b10.size
    have B10 : Below w.heap.size w w10 := B9.trans (b10.mono B9.size)
    have kbw0_10 : Blk w10 (w1.heap.size) 29 #[.slice au1_0 nu1_0 cu1_0] := (kbw0_9.belowS b10)
    have xkbw0_10_0 : w10.cell? ⟨w1.heap.size, 0, none⟩ = some (.slice au1_0 nu1_0 cu1_0) := kbw0_10.cell 0
    have lkbw0_10 : w1.heap.size < w10.heap.size := kbw0_10.lt
    have kbg0_10 : Blk w10 (w3.heap.size) 29 #[.slice au3_0 nu3_0 cu3_0] := (kbg0_9.belowS b10)
    have xkbg0_10_0 : w10.cell? ⟨w3.heap.size, 0, none⟩ = some (.slice au3_0 nu3_0 cu3_0) := kbg0_10.cell 0
    have lkbg0_10 : w3.heap.size < w10.heap.size := kbg0_10.lt
    have kbh0_10 : Blk w10 (w8.heap.size) 29 #[.slice au8_0 nu8_0 cu8_0] := (kbh0_9.belowS b10)
    have xkbh0_10_0 : w10.cell? ⟨w8.heap.size, 0, none⟩ = some (.slice au8_0 nu8_0 cu8_0) := kbh0_10.cell 0
    have lkbh0_10 : w8.heap.size < w10.heap.size := kbh0_10.lt
    clear xkbw0_9_0 xkbg0_9_0 xkbh0_9_0
    go_wp2_with fail
    refine (law_heldT (1) _ ((((o6.below b7).below b8).below bx9).below b10).rd (by omega) (by omega)).mono ?_
    rintro e w11 ⟨rfl, b11⟩
    have s11 := b11.size
    have B11 : Below w.heap.size w w11 := B10.trans (b11.mono B10.size)
    have kbw0_11 : Blk w11 (w1.heap.size) 29 #[.slice au1_0 nu1_0 cu1_0] := (kbw0_10.belowS b11)
    have xkbw0_11_0 : w11.cell? ⟨w1.heap.size, 0, none⟩ = some (.slice au1_0 nu1_0 cu1_0) := kbw0_11.cell 0
    have lkbw0_11 : w1.heap.size < w11.heap.size := kbw0_11.lt
    have kbg0_11 : Blk w11 (w3.heap.size) 29 #[.slice au3_0 nu3_0 cu3_0] := (kbg0_10.belowS b11)
    have xkbg0_11_0 : w11.cell? ⟨w3.heap.size, 0, none⟩ = some (.slice au3_0 nu3_0 cu3_0) := kbg0_11.cell 0
    have lkbg0_11 : w3.heap.size < w11.heap.size := kbg0_11.lt
    have kbh0_11 : Blk w11 (w8.heap.size) 29 #[.slice au8_0 nu8_0 cu8_0] := (kbh0_10.belowS b11)
    have xkbh0_11_0 : w11.cell? ⟨w8.heap.size, 0, none⟩ = some (.slice au8_0 nu8_0 cu8_0) := kbh0_11.cell 0
    have lkbh0_11 : w8.heap.size < w11.heap.size := kbh0_11.lt
    clear xkbw0_10_0 xkbg0_10_0 xkbh0_10_0
    go_wp2
    go_ret
    exact ⟨rfl, B11⟩
  · have g0 : decide ((1048576 : Int) < s.size) = true := by simp; omega
    go_enter Try.func5, Try.ntmps5
    go_wp2
    go_ret
    exact ⟨rfl, B0⟩
end Go.Proofs.Ytpognnifgcacnaa
