/- Contracts of the laws' own size counts. -/
import Derived.Test.YtekobefenngedaaLeaf
namespace Go.Proofs.Ytekobefenngedaa
open Go Go.RowKit
set_option maxHeartbeats 400000

/-- What is left of a count, or -1. -/
def leftOf (left : Int) (n : Nat) : Int := if left - n < 0 then -1 else left - n
theorem leftOf_le (left : Int) (n : Nat) (h : left ≤ 1048576) : leftOf left n ≤ 1048576 := by unfold leftOf; split <;> omega
theorem leftOf_ge (left : Int) (n : Nat) : -1 ≤ leftOf left n := by unfold leftOf; split <;> omega

theorem leftOf_two {left : Int} {m : Nat} (n : Nat) (h : 0 ≤ leftOf left m) : leftOf left (m + n) = if leftOf left m - n < 0 then -1 else leftOf left m - n := by
  unfold leftOf at *
  split at h
  · omega
  · rename_i h'; rw [if_neg h']; split <;> split <;> omega
theorem leftOf_neg {left : Int} {m : Nat} (n : Nat) (h : leftOf left m < 0) : leftOf left (m + n) = -1 := by
  unfold leftOf at *
  split at h
  · split <;> omega
  · omega

theorem szIntS_any (A : Option Addr) (n c : Nat) (left : Int) (w : World) (hn : n ≤ 9223372036854775807) (h0 : 0 ≤ left) (h1 : left ≤ 1048576) :
    Calls Try.prog 39 #[.slice A n c, .int .i64 left] w fun e w' => e = .returned (.int .i64 (leftOf left n)) ∧ w = w' := by
  by_cases h : left - n < 0
  · go_enter Try.func39, Try.ntmps39
    go_wp2
    go_ret
    exact ⟨ret_int (by unfold leftOf; split <;> omega), rfl⟩
  · go_enter Try.func39, Try.ntmps39
    go_wp2
    go_ret
    exact ⟨ret_int (by unfold leftOf; split <;> omega), rfl⟩

theorem szBoolS_any (A : Option Addr) (n c : Nat) (left : Int) (w : World) (hn : n ≤ 9223372036854775807) (h0 : 0 ≤ left) (h1 : left ≤ 1048576) :
    Calls Try.prog 23 #[.slice A n c, .int .i64 left] w fun e w' => e = .returned (.int .i64 (leftOf left n)) ∧ w = w' := by
  by_cases h : left - n < 0
  · go_enter Try.func23, Try.ntmps23
    go_wp2
    go_ret
    exact ⟨ret_int (by unfold leftOf; split <;> omega), rfl⟩
  · go_enter Try.func23, Try.ntmps23
    go_wp2
    go_ret
    exact ⟨ret_int (by unfold leftOf; split <;> omega), rfl⟩

/-- All elements of a list of lists. -/
def tot (ls : List (List Int)) : Nat := (ls.map List.length).sum
theorem tot_take_succ {ls : List (List Int)} {k : Nat} {l : List Int} (h : ls[k]? = some l) : tot (ls.take (k + 1)) = tot (ls.take k) + l.length := by
  rw [List.take_add_one, h]
  simp [tot]
theorem tot_append (a b : List (List Int)) : tot (a ++ b) = tot a + tot b := by simp [tot]
theorem tot_take_le (ls : List (List Int)) (k : Nat) : tot (ls.take k) ≤ tot ls := by
  have h := tot_append (ls.take k) (ls.drop k)
  rw [List.take_append_drop] at h
  omega

theorem szIntSS_any (lo hi : Nat) (A : Option Addr) (n c : Nat) (ls : List (List Int)) (left : Int) (w : World) (h : ReadsLL w lo hi A n ls) (h0 : 0 ≤ left) (h1 : left ≤ 1048576) :
    Calls Try.prog 22 #[.slice A n c, .int .i64 left] w fun e w' => e = .returned (.int .i64 (leftOf left (ls.length + tot ls))) ∧ w = w' := by
  have hn := h.len
  have hL : n ≤ ls.length ∧ ls.length ≤ n := by have := h.1; omega
  by_cases hneg : left - n < 0
  · go_enter Try.func22, Try.ntmps22
    go_wp2
    go_ret
    exact ⟨ret_int (by unfold leftOf; split <;> omega), rfl⟩
  · go_enter Try.func22, Try.ntmps22
    go_wp2
    go_loop [1, 5] (fun v i => ∃ k : Nat, k ≤ n ∧ i = .int .i64 k ∧ ∃ m : Int, v = .int .i64 m ∧ Hid (m = left - n - tot (ls.take k)) ∧ 0 ≤ m ∧ m ≤ 1048576)
      (fun _ i => n - (intOf i).toNat)
    case atStart => exact ⟨0, Nat.zero_le _, rfl, _, rfl, by simp [tot, Hid], by omega, by omega⟩
    case round =>
      obtain ⟨k, hk, rfl, m, rfl, hm, hm0, hm1⟩ := hrel
      by_cases hlt : k < n
      · obtain ⟨ad, Ak, ck, l, rfl, hlo, hhi, hl, hcell, hrk⟩ := h.row hlt
        have hlen := hrk.len
        have hg := leftOf_ge m l.length
        have ht := hide (tot_take_succ hl.out)
        have hle := tot_take_le ls (k + 1)
        by_cases hs : leftOf m l.length < 0
        · go_wp2_with (go_at_call 39; refine (szIntS_any _ _ _ _ _ hlen hm0 hm1).mono ?_; rintro e w' ⟨rfl, rfl⟩)
          go_ret
          have hm' := hm.out
          have ht' := ht.out
          exact ⟨ret_int (by unfold leftOf at hs ⊢; (repeat split) <;> (split at hs) <;> omega), rfl⟩
        · go_wp2_with (go_at_call 39; refine (szIntS_any _ _ _ _ _ hlen hm0 hm1).mono ?_; rintro e w' ⟨rfl, rfl⟩)
          go_round
          case rel => exact ⟨k + 1, by omega, by go_num, _, rfl, by have hm' := hm.out; have ht' := ht.out; unfold Hid; unfold leftOf at hs ⊢; split at hs <;> split <;> omega, by omega, leftOf_le _ _ hm1⟩
          case measure => simp [intOf]; omega
      · obtain rfl : k = n := by omega
        go_wp2
        go_ret
        have hm' := hm.out
        rw [List.take_of_length_le (by omega)] at hm'
        exact ⟨ret_int (by unfold leftOf; split <;> omega), rfl⟩
end Go.Proofs.Ytekobefenngedaa
