/- Contracts of the leaves on words. -/
import Derived.Test.YtdeopnjheeekcaaDoorLeaf
namespace Go.Proofs.YtdeopnjheeekcaaDoor
open Go Go.RowKit
set_option maxHeartbeats 400000

/-- A byte is a letter. -/
def letterB (b : UInt8) : Bool := decide (97 ≤ (b.toNat : Int) ∧ (b.toNat : Int) ≤ 102)
/-- A string is a word. -/
def wordB (s : ByteArray) : Bool := decide (s.size ≤ 50000) && s.data.toList.all letterB
theorem byte_get (s : ByteArray) (i : Nat) (h : i < s.size) : s.data.toList[i]? = some s[i] := by
  rw [List.getElem?_eq_getElem (by simpa using h)]; rfl

/-- Each letter of a string is in an alphabet. -/
def overB (s : ByteArray) (a : Nat) : Bool := s.data.toList.all fun b => hasB a (ltr b.toNat)
theorem over_all {a : Nat} (h : a = 63) (b : UInt8) : hasB a (ltr b.toNat) = letterB b := by
  subst h
  have : b.toNat < 256 := b.toNat_lt
  unfold hasB ltr letterB
  by_cases h1 : (b.toNat : Int) - 97 < 0
  · rw [if_pos (.inl h1)]; simp; omega
  · by_cases h2 : 6 ≤ (b.toNat : Int) - 97
    · rw [if_pos (.inr h2)]; simp; omega
    · rw [if_neg (by omega)]
      have h3 : b.toNat = 97 ∨ b.toNat = 98 ∨ b.toNat = 99 ∨ b.toNat = 100 ∨ b.toNat = 101 ∨ b.toNat = 102 := by omega
      rcases h3 with h | h | h | h | h | h <;> rw [h] <;> decide
theorem overB_63 (s : ByteArray) : overB s 63 = s.data.toList.all letterB := by
  unfold overB
  congr 1
  funext b
  exact over_all rfl b

end Go.Proofs.YtdeopnjheeekcaaDoor
