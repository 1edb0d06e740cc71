/- Contracts of the leaves: letters, alphabets, words. -/
import Derived.Test.YtekobefenngedaaRows
import Derived.Test.YtekobefenngedaaBits
namespace Go.Proofs.Ytekobefenngedaa
open Go Go.RowKit
set_option maxHeartbeats 400000

theorem impl_isAlphabet (a : Int) (w : World) :
    Calls Try.prog 45 #[.int .i64 a] w fun e w' => e = .returned (.bool (decide (0 ≤ a ∧ a ≤ 63))) ∧ w = w' := by
  by_cases h0 : 0 ≤ a
  · go_enter Try.func45, Try.ntmps45
    go_wp2
    go_ret
    exact ⟨by simp [h0], rfl⟩
  · go_enter Try.func45, Try.ntmps45
    go_wp2
    go_ret
    exact ⟨by simp; omega, rfl⟩

theorem spec_l1Alphabet (a : Int) (w : World) :
    Calls Try.prog 40 #[.int .i64 a] w fun e w' => e = .returned (.bool (decide (0 ≤ a ∧ a ≤ 63))) ∧ w = w' := by
  by_cases h0 : 0 ≤ a
  · go_enter Try.func40, Try.ntmps40
    go_wp2
    go_ret
    exact ⟨by simp [h0], rfl⟩
  · go_enter Try.func40, Try.ntmps40
    go_wp2
    go_ret
    exact ⟨by simp; omega, rfl⟩

theorem byte_lt (s : ByteArray) (i : Nat) (h : i < s.size) : (s[i].toNat : Int) < 256 := by
  have := s[i].toNat_lt
  omega

/-- The number of the letter at a position, or -1. -/
def ltr (b : Int) : Int := if b - 97 < 0 ∨ 6 ≤ b - 97 then -1 else b - 97
theorem ret_bool {a b : Bool} (h : a = b) : Ending.returned (.bool a) = .returned (.bool b) := by rw [h]
theorem ret_int {k : IntKind} {a b : Int} (h : a = b) : Ending.returned (.int k a) = .returned (.int k b) := by rw [h]

theorem impl_letterAt (s : ByteArray) (i : Nat) (hi : i < s.size) (w : World) :
    Calls Try.prog 53 #[.string s, .int .i64 i] w fun e w' => e = .returned (.int .i64 (ltr s[i].toNat)) ∧ w = w' := by
  have hb := byte_lt s i hi
  by_cases h0 : (s[i].toNat : Int) - 97 < 0
  · go_enter Try.func53, Try.ntmps53
    go_wp2
    go_ret
    exact ⟨ret_int (by rw [ltr, if_pos (Or.inl h0)]), rfl⟩
  · by_cases h1 : 6 ≤ (s[i].toNat : Int) - 97
    · go_enter Try.func53, Try.ntmps53
      go_wp2
      go_ret
      exact ⟨ret_int (by rw [ltr, if_pos (Or.inr h1)]), rfl⟩
    · go_enter Try.func53, Try.ntmps53
      go_wp2
      go_ret
      exact ⟨ret_int (by rw [ltr, if_neg (by omega)]), rfl⟩

theorem spec_l1At (s : ByteArray) (i : Nat) (hi : i < s.size) (w : World) :
    Calls Try.prog 43 #[.string s, .int .i64 i] w fun e w' => e = .returned (.int .i64 (s[i].toNat - 97)) ∧ w = w' := by
  have hb := byte_lt s i hi
  go_enter Try.func43, Try.ntmps43
  go_wp2
  go_ret
  exact ⟨rfl, rfl⟩


theorem spec_l1Has (s n : Nat) (hs : Sm s) (w : World) (hn : n < 9223372036854775808) :
    Calls Try.prog 51 #[.int .i64 s, .int .i64 n] w fun e w' => e = .returned (.bool (s.testBit n)) ∧ w = w' := by
  have hu : IntKind.u64.wrap (n : Int) = n := by rw [IntKind.wrap_u64]; omega
  have hb := shr_and_one hs n
  have Hb := hide hb
  clear hb
  go_enter Try.func51, Try.ntmps51
  go_wp2
  go_ret
  exact ⟨by simp [Hb.out], rfl⟩

theorem impl_has (s : Nat) (n : Int) (hs : Sm s) (w : World) :
    Calls Try.prog 52 #[.int .i64 s, .int .i64 n] w fun e w' => e = .returned (.bool (hasB s n)) ∧ w = w' := by
  have hb := shr_and_one hs n.toNat
  have Hb := hide hb
  clear hb
  by_cases h0 : 0 ≤ n
  · go_enter Try.func52, Try.ntmps52
    go_wp2
    go_ret
    exact ⟨by simp [Hb.out, hasB, h0], rfl⟩
  · go_enter Try.func52, Try.ntmps52
    go_wp2
    go_ret
    exact ⟨by simp [hasB]; omega, rfl⟩

theorem info_int : (Try.prog.info? 3).map (fun i => (i.zero, i.size, i.bytes)) = some (some (.int .i64 0), 1, 8) := by kernel_rfl

/-- A slice of numbers in new memory. -/
def RetNats (w : World) (xs : List Nat) (e : Ending) (w' : World) : Prop :=
  ∃ A c, e = .returned (.slice A xs.length c) ∧ w'.ownsRow w.heap.size 3 1 (.slice A xs.length c) xs.length (nats xs) ∧ Ext w w'

theorem impl_lettersOf (a : Nat) (hs : Sm a) (w : World) :
    Calls Try.prog 46 #[.int .i64 a] w (RetNats w (letters a 6)) := by
  go_enter Try.func46, Try.ntmps46
  go_wp2
  go_loopw [3, 5] (fun v i wr => ∃ k : Nat, k ≤ 6 ∧ i = .int .i64 k ∧ wr.ownsRow w.heap.size 3 1 v (letters a k).length (nats (letters a k)) ∧ Ext w wr)
    (fun _ i _ => 6 - (intOf i).toNat)
  case atStart => exact ⟨0, Nat.zero_le _, rfl, World.ownsRow_nil _ _ _ _, Ext.refl _⟩
  case round =>
    obtain ⟨k, hk, rfl, hown, hext⟩ := hrel
    have hl := letters_length a k
    by_cases hlt : k < 6
    · cases hb : a.testBit k
      all_goals
        have Hb : hasB a k = a.testBit k := by simp [hasB]
        rw [hb] at Hb
        have hls := letters_succ a k
        rw [hb] at hls
        have Hls := hide hls
        clear hls hb
        go_wp2_with (first
          | (go_at_call 52; refine (impl_has a k hs _).mono ?_; rintro e w' ⟨rfl, rfl⟩)
          | (at_builtin; refine wpList_push w wr rfl (.tmp 11) (.tmp 13) _ rfl 3 _ 1 8 Try.underlying50 info_int rfl (by decide) u3 _ _ _ _ rfl rfl hext hown rfl (cells_int _) (by unfold maxLen; omega) (by omega) ?_; intro v' w1 hext1 hown1 hg1 hat1))
        go_roundw
        case rel => exact ⟨k + 1, by omega, by go_num, by rw [Hls.out]; first | simpa [nats] using hown1 | simpa using hown, by assumption⟩
        case measure => simp [intOf]; omega
    · obtain rfl : k = 6 := by omega
      obtain ⟨A, c, rfl⟩ := own_form hown
      go_wp2
      go_ret
      exact ⟨_, _, rfl, hown, hext⟩
end Go.Proofs.Ytekobefenngedaa
