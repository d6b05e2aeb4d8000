/- The laws' marks on presentations. -/
import Derived.Test.YtdkmihnpobobiaaLawP
namespace Go.Proofs.Ytdkmihnpobobiaa
open Go.RowKit

/-- a presentation whose relators' cells have been marked -/
def marksP (k : Int) (d : PresD) : PresD := (d.1, marksSS k d.2)

set_option maxHeartbeats 400000 in
theorem law_markP {v : Value} {d : PresD} {lo hi : Nat} (k0 : Int) (w : World) (h : OwP 2 22 w lo hi v d) (hk0 : 0 ≤ k0) (hk1 : k0 + lenSS d.2 ≤ 1125899906842624) :
    Calls Try.prog 20 #[v, .int .i64 k0] w fun e w' => e = .returned (.int .i64 (k0 + lenSS d.2)) ∧ OwP 2 22 w' lo hi v (marksP k0 d) ∧ Only lo hi w w' := by
  obtain ⟨ao, n, c, us, rfl, ho⟩ := h
  go_enter Try.func20, Try.ntmps20
  go_wp2_with fail
  have hb := below_alloc1 w (.cells #[.int .i64 d.1, .slice ao n c] 25)
  refine (law_markSS k0 _ ⟨ao, n, c, us, rfl, ho.below (innerS _) hb⟩ hk0 hk1).mono ?_
  rintro e w1 ⟨rfl, ⟨a2, n2, c2, us2, e2, o2⟩, q1⟩
  injection e2 with e3 e4 e5
  subst e3 e4 e5
  go_wp2
  go_ret
  refine ⟨rfl, ⟨_, _, _, us2, rfl, o2⟩, ⟨q1.os.trans hb.os, q1.tape.trans hb.tape, q1.output.trans hb.output, Nat.le_trans hb.size q1.size, fun g hg hd => (q1.block g (Nat.lt_of_lt_of_le hg hb.size) hd).trans (hb.block g hg)⟩⟩

set_option maxHeartbeats 400000 in
theorem law_heldP {v : Value} {d : PresD} (k0 : Int) (w : World) (h : RdP w v (marksP k0 d)) (hk0 : 0 ≤ k0) (hk1 : k0 + lenSS d.2 ≤ 1125899906842624) :
    Calls Try.prog 21 #[v, .int .i64 k0] w fun e w' => e = .returned (.int .i64 (k0 + lenSS d.2)) ∧ Below w.heap.size w w' := by
  obtain ⟨ao, n, c, rfl, hi⟩ := h
  go_enter Try.func21, Try.ntmps21
  go_wp2_with fail
  have hb := below_alloc1 w (.cells #[.int .i64 d.1, .slice ao n c] 25)
  refine (law_heldSS k0 _ ⟨_, _, _, rfl, Intss.below hi hb⟩ hk0 hk1).mono ?_
  rintro e w1 ⟨rfl, b1⟩
  have h2 : 0 ≤ k0 + (lenSS d.2 : Int) := by omega
  go_wp2
  go_ret
  exact ⟨rfl, hb.trans (b1.mono hb.size)⟩
end Go.Proofs.Ytdkmihnpobobiaa
