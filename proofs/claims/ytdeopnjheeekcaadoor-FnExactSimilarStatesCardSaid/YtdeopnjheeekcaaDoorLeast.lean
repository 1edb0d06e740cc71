/- spec.l2Least, walked. -/
import Derived.Test.YtdeopnjheeekcaaDoorMem
namespace Go.Proofs.YtdeopnjheeekcaaDoor
open Go Go.RowKit
set_option maxHeartbeats 1000000

theorem spec_l2Least (a k : Nat) (hs : Sm a) (hk : k < 32) (hb : a.testBit k = true) (hl : ∀ i, i < k → a.testBit i = false) (w : World) :
    Calls Tryd.prog 46 #[.int .i64 a] w fun e w' => e = .returned (.int .i64 k) ∧ w = w' := by
  have Hb := hide hb
  have Hl := hide hl
  clear hb hl
  go_enter Tryd.func46, Tryd.ntmps46
  go_wp2
  go_loopw [3] (fun v wr => ∃ x : Nat, x ≤ k ∧ v = .int .i64 x ∧ w = wr) (fun v _ => k - (intOf v).toNat)
  case atStart => exact ⟨0, Nat.zero_le _, rfl, rfl⟩
  case round =>
    obtain ⟨x, hx, rfl, rfl⟩ := hrel
    by_cases hlt : x < k
    · have hf := hide (Hl.out x hlt)
      go_wp2_with (go_at_call 24; refine (spec_l1Has a x hs _ (by omega)).mono ?_; rw [hf.out]; rintro e w' ⟨rfl, rfl⟩)
      go_roundw
      case rel => exact ⟨x + 1, by omega, by go_num, by first | trivial | rfl⟩
      case measure => simp [intOf]; omega
    · obtain rfl : k = x := by omega
      go_wp2_with (go_at_call 24; refine (spec_l1Has a k hs _ (by omega)).mono ?_; rw [Hb.out]; rintro e w' ⟨rfl, rfl⟩)
      go_ret
      exact ⟨rfl, rfl⟩
end Go.Proofs.YtdeopnjheeekcaaDoor
