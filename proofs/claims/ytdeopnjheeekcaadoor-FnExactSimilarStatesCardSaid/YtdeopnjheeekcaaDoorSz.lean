/- Contracts of the laws' own size counts. -/
import Derived.Test.YtdeopnjheeekcaaDoorLeaf
namespace Go.Proofs.YtdeopnjheeekcaaDoor
open Go Go.RowKit
set_option maxHeartbeats 400000

/-- What is left of a count, or -1. -/
def leftOf (left : Int) (n : Nat) : Int := if left - n < 0 then -1 else left - n
theorem leftOf_le (left : Int) (n : Nat) (h : left ≤ 1048576) : leftOf left n ≤ 1048576 := by unfold leftOf; split <;> omega
theorem leftOf_ge (left : Int) (n : Nat) : -1 ≤ leftOf left n := by unfold leftOf; split <;> omega

theorem leftOf_two {left : Int} {m : Nat} (n : Nat) (h : 0 ≤ leftOf left m) : leftOf left (m + n) = if leftOf left m - n < 0 then -1 else leftOf left m - n := by
  unfold leftOf at *
  split at h
  · omega
  · rename_i h'; rw [if_neg h']; split <;> split <;> omega
theorem leftOf_neg {left : Int} {m : Nat} (n : Nat) (h : leftOf left m < 0) : leftOf left (m + n) = -1 := by
  unfold leftOf at *
  split at h
  · split <;> omega
  · omega

/-- All elements of a list of lists. -/
def tot (ls : List (List Int)) : Nat := (ls.map List.length).sum
theorem tot_take_succ {ls : List (List Int)} {k : Nat} {l : List Int} (h : ls[k]? = some l) : tot (ls.take (k + 1)) = tot (ls.take k) + l.length := by
  rw [List.take_add_one, h]
  simp [tot]
theorem tot_append (a b : List (List Int)) : tot (a ++ b) = tot a + tot b := by simp [tot]
theorem tot_take_le (ls : List (List Int)) (k : Nat) : tot (ls.take k) ≤ tot ls := by
  have h := tot_append (ls.take k) (ls.drop k)
  rw [List.take_append_drop] at h
  omega

end Go.Proofs.YtdeopnjheeekcaaDoor
