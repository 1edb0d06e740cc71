/- The members of a set, walked. -/
import Derived.Test.YtdeopnjheeekcaaDoorTz
namespace Go.Proofs.YtdeopnjheeekcaaDoor
open Go Go.RowKit
set_option maxHeartbeats 1000000

theorem and_pred (k m : Nat) : (2 ^ k * (2 * m + 1)) &&& (2 ^ k * (2 * m + 1) - 1) = 2 ^ k * (2 * m) := by
  have hp := Nat.two_pow_pos k
  have e : 2 ^ k * (2 * m + 1) - 1 = 2 ^ k * (2 * m) + (2 ^ k - 1) := by rw [Nat.mul_add, Nat.mul_one]; omega
  rw [e]
  apply Nat.eq_of_testBit_eq
  intro i
  have e0 : ∀ q, (2 ^ k * q).testBit i = if i < k then false else q.testBit (i - k) := fun q => by
    have := Nat.testBit_two_pow_mul_add q (b := 0) (i := k) hp i
    rw [Nat.add_zero] at this
    rw [this, Nat.zero_testBit]
  rw [Nat.testBit_and, e0, Nat.testBit_two_pow_mul_add _ (by omega), e0]
  by_cases hi : i < k
  · simp [hi]
  · simp only [hi, if_false]
    cases hd : i - k with
    | zero => simp [Nat.testBit_zero]
    | succ d => rw [Nat.testBit_succ, Nat.testBit_succ, show (2 * m + 1) / 2 = m by omega, show (2 * m) / 2 = m by omega]; simp
/-- The lowest number of a set: what lies below is not in it; taken away, the rest stays. -/
theorem lowest {x : Nat} (h0 : x ≠ 0) (hs : Sm x) : ∃ k, Lib.ctz 64 x = k ∧ k < 32 ∧ x.testBit k = true ∧ (∀ i, i < k → x.testBit i = false) ∧ x &&& (x - 1) = x - 2 ^ k ∧ 2 ^ k ≤ x := by
  have hx := hs.lt
  obtain ⟨m, hm, hk⟩ := Lib.ctzFrom_spec 64 x (by omega) (by omega)
  have e : Lib.ctz 64 x = Lib.ctzFrom 64 x := by simp [Lib.ctz, h0]
  generalize Lib.ctzFrom 64 x = k at *
  have hp := Nat.two_pow_pos k
  have hle : 2 ^ k ≤ x := by rw [hm]; exact Nat.le_mul_of_pos_right _ (by omega)
  have e0 : ∀ q i, (2 ^ k * q).testBit i = if i < k then false else q.testBit (i - k) := fun q i => by
    have := Nat.testBit_two_pow_mul_add q (b := 0) (i := k) hp i
    rw [Nat.add_zero] at this
    rw [this, Nat.zero_testBit]
  refine ⟨k, e, ?_, ?_, fun i hi => ?_, ?_, hle⟩
  · apply Nat.lt_of_not_le
    intro h32
    have := Nat.pow_le_pow_right (n := 2) (by omega) h32
    omega
  · rw [hm, e0]; simp
  · rw [hm, e0]; simp [hi]
  · rw [hm, and_pred, Nat.mul_add, Nat.mul_one, Nat.add_sub_cancel]
theorem testBit_sub_low {x j : Nat} (h : x.testBit j = true) (hl : ∀ i, i < j → x.testBit i = false) (k : Nat) : (x - 2 ^ j).testBit k = (x.testBit k && !decide (k = j)) := by
  have hodd : x / 2 ^ j % 2 = 1 := by
    have := h
    rw [Nat.testBit_eq_decide_div_mod_eq] at this
    simpa using this
  have hp := Nat.two_pow_pos j
  have hr : x % 2 ^ j = 0 := by
    apply Nat.eq_of_testBit_eq
    intro i
    rw [Nat.testBit_mod_two_pow, Nat.zero_testBit]
    by_cases hi : i < j
    · simp [hi, hl i hi]
    · simp [hi]
  have hdm := Nat.div_add_mod x (2 ^ j)
  rw [hr, Nat.add_zero] at hdm
  generalize x / 2 ^ j = q at *
  have e0 : ∀ q i, (2 ^ j * q).testBit i = if i < j then false else q.testBit (i - j) := fun q i => by
    have := Nat.testBit_two_pow_mul_add q (b := 0) (i := j) hp i
    rw [Nat.add_zero] at this
    rw [this, Nat.zero_testBit]
  have e : x - 2 ^ j = 2 ^ j * (q - 1) := by rw [← hdm, Nat.mul_sub, Nat.mul_one]
  rw [e, ← hdm, e0, e0]
  by_cases hk : k < j
  · simp [hk]
  · simp only [hk, if_false]
    obtain ⟨d, rfl⟩ : ∃ d, k = j + d := ⟨k - j, by omega⟩
    rw [Nat.add_sub_cancel_left]
    cases d with
    | zero => simp [Nat.testBit_zero]; omega
    | succ d =>
      rw [Nat.testBit_succ, Nat.testBit_succ, show (q - 1) / 2 = q / 2 by omega]
      simp
theorem letters_low {x k : Nat} (h : x.testBit k = true) (hl : ∀ i, i < k → x.testBit i = false) : ∀ n, (n ≤ k → letters x n = [] ∧ letters (x - 2 ^ k) n = []) ∧ (k < n → letters x n = k :: letters (x - 2 ^ k) n)
  | 0 => ⟨fun _ => ⟨rfl, rfl⟩, fun h => by omega⟩
  | n + 1 => by
    have ih := letters_low h hl n
    have hb := testBit_sub_low h hl n
    rw [letters_succ, letters_succ, hb]
    refine ⟨fun hn => ?_, fun hn => ?_⟩
    · obtain ⟨e1, e2⟩ := ih.1 (by omega)
      rw [e1, e2, hl n (by omega)]
      simp
    · rcases Nat.lt_or_ge k n with h1 | h1
      · rw [ih.2 h1]
        have : n ≠ k := by omega
        simp [this]
      · obtain ⟨e1, e2⟩ := ih.1 h1
        obtain rfl : n = k := by omega
        rw [e1, e2, h]
        simp
theorem letters_step {x : Nat} (h0 : x ≠ 0) (hs : Sm x) : letters x 32 = Lib.ctz 64 x :: letters (x &&& (x - 1)) 32 ∧ x &&& (x - 1) < x ∧ Lib.ctz 64 x < 32 := by
  obtain ⟨k, e, hk, hb, hl, ha, hle⟩ := lowest h0 hs
  have hp := Nat.two_pow_pos k
  rw [e, ha]
  exact ⟨(letters_low hb hl 32).2 hk, by omega, hk⟩

theorem impl_members (a : Nat) (hs : Sm a) (w : World) (hT : Tab w) :
    Calls Tryd.prog 35 #[.int .i64 a] w (RetNats w (letters a 32)) := by
  have hlen := letters_length a 32
  go_enter Tryd.func35, Tryd.ntmps35
  go_wp2
  go_loopw [0, 3, 4] (fun s v _ wr => ∃ x : Nat, s = .int .i64 x ∧ Sm x ∧ ∃ o : List Nat, Hid (letters a 32 = o ++ letters x 32) ∧ wr.ownsRow w.heap.size 3 1 v o.length (nats o) ∧ Ext w wr)
    (fun s _ _ _ => (intOf s).toNat)
  case atStart => exact ⟨a, rfl, hs, [], rfl, World.ownsRow_nil _ _ _ _, Ext.refl _⟩
  case round =>
    obtain ⟨x, rfl, hx, o, ho, hown, hext⟩ := hrel
    have hx' := hx.lt
    have hol : o.length + (letters x 32).length ≤ 32 := by have := ho.out; rw [this, List.length_append] at hlen; exact hlen
    by_cases h0 : x = 0
    · subst h0
      obtain ⟨A, c, rfl⟩ := own_form hown
      go_wp2
      go_ret
      have hl0 := ho.out
      rw [show letters 0 32 = [] by decide, List.append_nil] at hl0
      exact ⟨A, c, by rw [hl0]; rfl, by rw [hl0]; exact hown, hext⟩
    · obtain ⟨hl, hlt, hc⟩ := letters_step h0 hx
      have Hl := hide hl
      have hne : ((x : Int) != 0) = true := by simp; omega
      have hT' := hT.ext hext
      have hb := hide (bits_and (a := x) (b := x - 1) hx (by unfold Sm; omega))
      have hol' : o.length < 32 := by rw [hl] at hol; simp at hol; omega
      clear hl hlen hol
      have hi := hide (show ((x : Int) - 1) = ((x - 1 : Nat) : Int) by omega)
      go_wp2_with (first
        | (go_at_call 50; refine (tz x (by omega) h0 _ hT').mono ?_; rintro e w' ⟨rfl, rfl⟩)
        | (at_builtin; refine wpList_push w wr rfl (.tmp 10) (.tmp 14) _ rfl 3 _ 1 8 Tryd.underlying32 info_int rfl (by decide) u3 _ _ _ _ rfl rfl hext hown rfl (cells_int _) (by unfold maxLen; omega) (by omega) ?_; intro v' w1 hext1 hown1 hg1 hat1))
      go_roundw
      case rel => exact ⟨x &&& (x - 1), by rw [hi.out, hb.out], Nat.lt_of_le_of_lt Nat.and_le_left hx, o ++ [Lib.ctz 64 x], by have := ho.out; unfold Hid; rw [this, Hl.out]; simp, by simpa [nats] using hown1, by assumption⟩
      case measure =>
        have := hb.out
        rw [← hi.out] at this
        simp [intOf]
        omega
end Go.Proofs.YtdeopnjheeekcaaDoor
