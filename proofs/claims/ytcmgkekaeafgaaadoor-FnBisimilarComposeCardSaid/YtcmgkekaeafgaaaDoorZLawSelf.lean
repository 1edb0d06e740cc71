/- The law FnSimilarSelf, walked: it answers true, and leaves all old memory as it was. -/
import Derived.Test.YtcmgkekaeafgaaaDoorG12
import Derived.Test.YtcmgkekaeafgaaaDoorG09
namespace Go.Proofs.YtcmgkekaeafgaaaDoor
open Go Go.RowKit
set_option maxHeartbeats 2000000

theorem sameB_self {s : Sys} (h : sysValid s = true) : sameB s s = true := by simp [sameB, h]
theorem simR_gfp {s t : Sys} {p q : Nat} (h : sameB s t = true) (hp : s.st = p) (hq : t.st = q) : Gfp false s.edges t.edges p q (simR s t) := by
  have := gfp_spec false s t
  rw [hp, hq] at this
  unfold simR
  rw [if_pos h]
  exact this
theorem get_some {R : List Nat} {p i : Nat} (h : R.length = p) (hi : i < p) : ∃ r, R[i]? = some r := ⟨_, List.getElem?_eq_getElem (by omega)⟩
end Go.Proofs.YtcmgkekaeafgaaaDoor
