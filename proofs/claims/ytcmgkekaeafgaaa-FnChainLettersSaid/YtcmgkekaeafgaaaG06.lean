/- impl.(*moves).step, walked; what a set of states goes to. -/
import Derived.Test.YtcmgkekaeafgaaaG03
namespace Go.Proofs.Ytcmgkekaeafgaaa
open Go Go.RowKit
set_option maxHeartbeats 2000000

theorem stepB_low {es : List Edg} {k0 x j : Nat} (hf : Few k0 es) (hb : x.testBit j = true) (hl : ∀ i, i < j → x.testBit i = false) (l : Int) : stepB es x l = succ es j l ||| stepB es (x - 2 ^ j) l := by
  apply Nat.eq_of_testBit_eq
  intro k
  rw [Nat.testBit_or, Bool.eq_iff_iff, Bool.or_eq_true, stepB_bit, stepB_bit, succ_bit]
  constructor
  · rintro ⟨e, he, ⟨h1, h2⟩, h3⟩
    have := hf e he
    by_cases e1 : e.fr.toNat = j
    · exact Or.inl ⟨e, he, ⟨by omega, h1⟩, h3⟩
    · refine Or.inr ⟨e, he, ⟨h1, ?_⟩, h3⟩
      rw [testBit_sub_low hb hl, h2]
      simp [e1]
  · rintro (⟨e, he, ⟨h1, h2⟩, h3⟩ | ⟨e, he, ⟨h1, h2⟩, h3⟩)
    · exact ⟨e, he, ⟨h2, by rw [h1]; exact hb⟩, h3⟩
    · rw [testBit_sub_low hb hl] at h2
      simp only [Bool.and_eq_true] at h2
      exact ⟨e, he, ⟨h1, h2.1⟩, h3⟩
theorem stepB_zero (es : List Edg) (l : Int) : stepB es 0 l = 0 := by
  apply Nat.eq_of_testBit_eq
  intro k
  rw [Nat.zero_testBit, Bool.eq_false_iff]
  intro h
  obtain ⟨e, _, ⟨_, h2⟩, _⟩ := (stepB_bit es 0 l k).1 h
  simp at h2
theorem stepB_sm {es : List Edg} {k0 : Nat} (hf : Few k0 es) (h : k0 ≤ 16) (x : Nat) (l : Int) : Sm (stepB es x l) :=
  Nat.lt_of_lt_of_le (stepB_lt hf x l) (by rw [show (4294967296 : Nat) = 2 ^ 32 from rfl]; exact Nat.pow_le_pow_right (by omega) (by omega))
end Go.Proofs.Ytcmgkekaeafgaaa
