/- Contracts of the leaves: letters, alphabets, words. -/
import Derived.Test.YtdeopnjheeekcaaDoorRows
import Derived.Test.YtdeopnjheeekcaaDoorBits
namespace Go.Proofs.YtdeopnjheeekcaaDoor
open Go Go.RowKit
set_option maxHeartbeats 400000

theorem impl_isAlphabet (a : Int) (w : World) :
    Calls Tryd.prog 47 #[.int .i64 a] w fun e w' => e = .returned (.bool (decide (0 ≤ a ∧ a ≤ 63))) ∧ w = w' := by
  by_cases h0 : 0 ≤ a
  · go_enter Tryd.func47, Tryd.ntmps47
    go_wp2
    go_ret
    exact ⟨by simp [h0], rfl⟩
  · go_enter Tryd.func47, Tryd.ntmps47
    go_wp2
    go_ret
    exact ⟨by simp; omega, rfl⟩

theorem spec_l1Alphabet (a : Int) (w : World) :
    Calls Tryd.prog 43 #[.int .i64 a] w fun e w' => e = .returned (.bool (decide (0 ≤ a ∧ a ≤ 63))) ∧ w = w' := by
  by_cases h0 : 0 ≤ a
  · go_enter Tryd.func43, Tryd.ntmps43
    go_wp2
    go_ret
    exact ⟨by simp [h0], rfl⟩
  · go_enter Tryd.func43, Tryd.ntmps43
    go_wp2
    go_ret
    exact ⟨by simp; omega, rfl⟩

theorem byte_lt (s : ByteArray) (i : Nat) (h : i < s.size) : (s[i].toNat : Int) < 256 := by
  have := s[i].toNat_lt
  omega

/-- The number of the letter at a position, or -1. -/
def ltr (b : Int) : Int := if b - 97 < 0 ∨ 6 ≤ b - 97 then -1 else b - 97
theorem ret_bool {a b : Bool} (h : a = b) : Ending.returned (.bool a) = .returned (.bool b) := by rw [h]
theorem ret_int {k : IntKind} {a b : Int} (h : a = b) : Ending.returned (.int k a) = .returned (.int k b) := by rw [h]

theorem spec_l1Has (s n : Nat) (hs : Sm s) (w : World) (hn : n < 9223372036854775808) :
    Calls Tryd.prog 24 #[.int .i64 s, .int .i64 n] w fun e w' => e = .returned (.bool (s.testBit n)) ∧ w = w' := by
  have hu : IntKind.u64.wrap (n : Int) = n := by rw [IntKind.wrap_u64]; omega
  have hb := shr_and_one hs n
  have Hb := hide hb
  clear hb
  go_enter Tryd.func24, Tryd.ntmps24
  go_wp2
  go_ret
  exact ⟨by simp [Hb.out], rfl⟩

theorem impl_has (s : Nat) (n : Int) (hs : Sm s) (w : World) :
    Calls Tryd.prog 28 #[.int .i64 s, .int .i64 n] w fun e w' => e = .returned (.bool (hasB s n)) ∧ w = w' := by
  have hb := shr_and_one hs n.toNat
  have Hb := hide hb
  clear hb
  by_cases h0 : 0 ≤ n
  · go_enter Tryd.func28, Tryd.ntmps28
    go_wp2
    go_ret
    exact ⟨by simp [Hb.out, hasB, h0], rfl⟩
  · go_enter Tryd.func28, Tryd.ntmps28
    go_wp2
    go_ret
    exact ⟨by simp [hasB]; omega, rfl⟩

theorem info_int : (Tryd.prog.info? 3).map (fun i => (i.zero, i.size, i.bytes)) = some (some (.int .i64 0), 1, 8) := by kernel_rfl

/-- A slice of numbers in new memory. -/
def RetNats (w : World) (xs : List Nat) (e : Ending) (w' : World) : Prop :=
  ∃ A c, e = .returned (.slice A xs.length c) ∧ w'.ownsRow w.heap.size 3 1 (.slice A xs.length c) xs.length (nats xs) ∧ Ext w w'

end Go.Proofs.YtdeopnjheeekcaaDoor
