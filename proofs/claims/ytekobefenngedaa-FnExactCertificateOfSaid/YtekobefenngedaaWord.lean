/- Contracts of the leaves on words. -/
import Derived.Test.YtekobefenngedaaLeaf
namespace Go.Proofs.Ytekobefenngedaa
open Go Go.RowKit
set_option maxHeartbeats 400000

theorem spec_l1Letters (a : Nat) (hs : Sm a) (w : World) :
    Calls Try.prog 42 #[.int .i64 a] w (RetNats w (letters a 6)) := by
  go_enter Try.func42, Try.ntmps42
  go_wp2
  go_loopw [3, 4] (fun v i wr => ∃ k : Nat, k ≤ 6 ∧ i = .int .i64 k ∧ wr.ownsRow w.heap.size 3 1 v (letters a k).length (nats (letters a k)) ∧ Ext w wr)
    (fun _ i _ => 6 - (intOf i).toNat)
  case atStart => exact ⟨0, Nat.zero_le _, rfl, World.ownsRow_lit w #[] 0 (Nat.le_refl _) (by unfold maxLen; omega) rfl, (Ext.refl _).alloc _⟩
  case round =>
    obtain ⟨k, hk, rfl, hown, hext⟩ := hrel
    have hl := letters_length a k
    by_cases hlt : k < 6
    · cases hb : a.testBit k
      all_goals
        have Hb := hide hb
        have hls := letters_succ a k
        rw [hb] at hls
        have Hls := hide hls
        clear hls hb
        go_wp2_with (first
          | (go_at_call 51; refine (spec_l1Has a k hs _ (by omega)).mono ?_; rw [Hb.out]; rintro e w' ⟨rfl, rfl⟩)
          | (at_builtin; refine wpList_push w wr rfl _ _ _ rfl 3 _ 1 8 Try.underlying50 info_int rfl (by decide) u3 _ _ _ _ rfl rfl hext hown rfl (cells_int _) (by unfold maxLen; omega) (by omega) ?_; intro v' w1 hext1 hown1 hg1 hat1))
        go_roundw
        case rel => exact ⟨k + 1, by omega, by go_num, by rw [Hls.out]; first | simpa [nats] using hown1 | simpa using hown, by assumption⟩
        case measure => simp [intOf]; omega
    · obtain rfl : k = 6 := by omega
      obtain ⟨A, c, rfl⟩ := own_form hown
      go_wp2
      go_ret
      exact ⟨_, _, rfl, hown, hext⟩

/-- A byte is a letter. -/
def letterB (b : UInt8) : Bool := decide (97 ≤ (b.toNat : Int) ∧ (b.toNat : Int) ≤ 102)
/-- A string is a word. -/
def wordB (s : ByteArray) : Bool := decide (s.size ≤ 50000) && s.data.toList.all letterB
theorem byte_get (s : ByteArray) (i : Nat) (h : i < s.size) : s.data.toList[i]? = some s[i] := by
  rw [List.getElem?_eq_getElem (by simpa using h)]; rfl

theorem spec_WordValid (s : ByteArray) (w : World) (hs : s.size ≤ 9223372036854775807) :
    Calls Try.prog 26 #[.string s] w fun e w' => e = .returned (.bool (wordB s)) ∧ w = w' := by
  by_cases h : 50000 < s.size
  · go_enter Try.func26, Try.ntmps26
    go_wp2
    go_ret
    exact ⟨by simp [wordB, show ¬ s.size ≤ 50000 by omega], rfl⟩
  · go_enter Try.func26, Try.ntmps26
    go_wp2
    go_loop [3] (fun i => ∃ k : Nat, k ≤ s.size ∧ i = .int .i64 k ∧ Hid ((s.data.toList.take k).all letterB = true)) (fun i => s.size - (intOf i).toNat)
    case atStart => exact ⟨0, Nat.zero_le _, rfl, rfl⟩
    case round =>
      obtain ⟨k, hk, rfl, hall⟩ := hrel
      by_cases hlt : k < s.size
      · have hg := hide (byte_get s k hlt)
        obtain ⟨x, hx, hx0, hx1⟩ : ∃ x : Int, Hid ((s[k].toNat : Int) - 97 = x) ∧ -97 ≤ x ∧ x ≤ 158 := ⟨(s[k].toNat : Int) - 97, hide rfl, by omega, by have := byte_lt s k hlt; omega⟩
        by_cases h0 : x < 0
        · go_wp2_with (go_at_call 43; refine (spec_l1At s k hlt _).mono ?_; rw [hx.out]; rintro e w' ⟨rfl, rfl⟩)
          go_ret
          exact ⟨ret_bool (by rw [wordB, all_stop hg.out (by have := hx.out; simp [letterB]; omega), Bool.and_false]), rfl⟩
        · by_cases h1 : 6 ≤ x
          · go_wp2_with (go_at_call 43; refine (spec_l1At s k hlt _).mono ?_; rw [hx.out]; rintro e w' ⟨rfl, rfl⟩)
            go_ret
            exact ⟨ret_bool (by rw [wordB, all_stop hg.out (by have := hx.out; simp [letterB]; omega), Bool.and_false]), rfl⟩
          · go_wp2_with (go_at_call 43; refine (spec_l1At s k hlt _).mono ?_; rw [hx.out]; rintro e w' ⟨rfl, rfl⟩)
            go_round
            case rel => exact ⟨k + 1, by omega, by go_num, all_step hg.out hall.out (by have := hx.out; simp [letterB]; omega)⟩
            case measure => simp [intOf]; omega
      · obtain rfl : k = s.size := by omega
        go_wp2
        go_ret
        exact ⟨ret_bool (by rw [wordB, all_end (by simp) hall.out]; simp; omega), rfl⟩

/-- Each letter of a string is in an alphabet. -/
def overB (s : ByteArray) (a : Nat) : Bool := s.data.toList.all fun b => hasB a (ltr b.toNat)
theorem over_all {a : Nat} (h : a = 63) (b : UInt8) : hasB a (ltr b.toNat) = letterB b := by
  subst h
  have : b.toNat < 256 := b.toNat_lt
  unfold hasB ltr letterB
  by_cases h1 : (b.toNat : Int) - 97 < 0
  · rw [if_pos (.inl h1)]; simp; omega
  · by_cases h2 : 6 ≤ (b.toNat : Int) - 97
    · rw [if_pos (.inr h2)]; simp; omega
    · rw [if_neg (by omega)]
      have h3 : b.toNat = 97 ∨ b.toNat = 98 ∨ b.toNat = 99 ∨ b.toNat = 100 ∨ b.toNat = 101 ∨ b.toNat = 102 := by omega
      rcases h3 with h | h | h | h | h | h <;> rw [h] <;> decide
theorem overB_63 (s : ByteArray) : overB s 63 = s.data.toList.all letterB := by
  unfold overB
  congr 1
  funext b
  exact over_all rfl b

theorem impl_WordWithin (s : ByteArray) (a : Nat) (w : World) (hs : s.size ≤ 9223372036854775807) (ha : a ≤ 63) :
    Calls Try.prog 47 #[.string s, .int .i64 a] w fun e w' => e = .returned (.bool (decide (s.size ≤ 50000) && overB s a)) ∧ w = w' := by
  have hsm : Sm a := by unfold Sm; omega
  have hal : (decide ((0 : Int) ≤ a ∧ (a : Int) ≤ 63)) = true := by simp; omega
  have Hal := hide hal
  clear hal
  by_cases h : 50000 < s.size
  · go_enter Try.func47, Try.ntmps47
    go_wp2_with (go_at_call 45; refine (impl_isAlphabet _ _).mono ?_; rw [Hal.out]; rintro e w' ⟨rfl, rfl⟩)
    go_ret
    exact ⟨by simp [show ¬ s.size ≤ 50000 by omega], rfl⟩
  · go_enter Try.func47, Try.ntmps47
    go_wp2_with (go_at_call 45; refine (impl_isAlphabet _ _).mono ?_; rw [Hal.out]; rintro e w' ⟨rfl, rfl⟩)
    go_loop [16] (fun i => ∃ k : Nat, k ≤ s.size ∧ i = .int .i64 k ∧ Hid ((s.data.toList.take k).all (fun b => hasB a (ltr b.toNat)) = true)) (fun i => s.size - (intOf i).toNat)
    case atStart => exact ⟨0, Nat.zero_le _, rfl, rfl⟩
    case round =>
      obtain ⟨k, hk, rfl, hall⟩ := hrel
      by_cases hlt : k < s.size
      · have hg := hide (byte_get s k hlt)
        cases hb : hasB a (ltr (s[k].toNat : Int))
        · have Hb := hide hb
          clear hb
          go_wp2_with (first | (go_at_call 53; refine (impl_letterAt s k hlt _).mono ?_; rintro e w' ⟨rfl, rfl⟩) | (go_at_call 52; refine (impl_has _ _ hsm _).mono ?_; rw [Hb.out]; rintro e w' ⟨rfl, rfl⟩))
          go_ret
          exact ⟨ret_bool (by rw [overB, all_stop hg.out Hb.out, Bool.and_false]), rfl⟩
        · have Hb := hide hb
          clear hb
          go_wp2_with (first | (go_at_call 53; refine (impl_letterAt s k hlt _).mono ?_; rintro e w' ⟨rfl, rfl⟩) | (go_at_call 52; refine (impl_has _ _ hsm _).mono ?_; rw [Hb.out]; rintro e w' ⟨rfl, rfl⟩))
          go_round
          case rel => exact ⟨k + 1, by omega, by go_num, all_step hg.out hall.out Hb.out⟩
          case measure => simp [intOf]; omega
      · obtain rfl : k = s.size := by omega
        go_wp2
        go_ret
        exact ⟨ret_bool (by rw [overB, all_end (by simp) hall.out]; simp; omega), rfl⟩

theorem impl_WordValid (s : ByteArray) (w : World) (hs : s.size ≤ 9223372036854775807) :
    Calls Try.prog 32 #[.string s] w fun e w' => e = .returned (.bool (wordB s)) ∧ w = w' := by
  have hov := overB_63 s
  have Hov := hide hov
  clear hov
  go_enter Try.func32, Try.ntmps32
  go_wp2_with (go_at_call 47; refine (impl_WordWithin s 63 _ hs (by omega)).mono ?_; rintro e w' ⟨rfl, rfl⟩)
  go_ret
  exact ⟨ret_bool (by rw [Hov.out]; rfl), rfl⟩
end Go.Proofs.Ytekobefenngedaa
