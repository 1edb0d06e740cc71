/- Plain lemmas on sets of small numbers as bits. They hold without conditions. -/
import Derived.Test.YtekobefenngedaaBase
namespace Go.Proofs.Ytekobefenngedaa
open Go Go.RowKit

/-- A set of small numbers: 32 bits at most. -/
def Sm (n : Nat) : Prop := n < 4294967296
theorem Sm.lt {n : Nat} (h : Sm n) : n < 4294967296 := h
theorem Sm.of_lt {n : Nat} (h : n < 4294967296) : Sm n := h
theorem Sm.or {a b : Nat} (ha : Sm a) (hb : Sm b) : Sm (a ||| b) := Nat.or_lt_two_pow (n := 32) ha hb
theorem Sm.and_left {a : Nat} (b : Nat) (ha : Sm a) : Sm (a &&& b) := Nat.lt_of_le_of_lt Nat.and_le_left ha
theorem Sm.and_right {b : Nat} (a : Nat) (hb : Sm b) : Sm (a &&& b) := Nat.lt_of_le_of_lt Nat.and_le_right hb
theorem Sm.bit {n : Nat} (h : n < 32) : Sm (2 ^ n) := Nat.pow_lt_pow_right (by omega) h

theorem i64_toNat (a : Nat) (ha : a < 9223372036854775808) : (BitVec.ofInt 64 (a : Int)).toNat = a := by
  rw [BitVec.ofInt_natCast, BitVec.toNat_ofNat]; exact Nat.mod_eq_of_lt (by omega)
theorem bits_and {a b : Nat} (ha : Sm a) (hb : Sm b) : bits .and .i64 (a : Int) (b : Int) = ((a &&& b : Nat) : Int) := by
  have hx := (Sm.and_left b ha).lt
  have := ha.lt; have := hb.lt
  show IntKind.i64.wrap ((BitVec.ofInt 64 (a : Int) &&& BitVec.ofInt 64 (b : Int)).toNat : Int) = _
  rw [BitVec.toNat_and, i64_toNat a (by omega), i64_toNat b (by omega), IntKind.wrap_i64]
  omega
theorem bits_or {a b : Nat} (ha : Sm a) (hb : Sm b) : bits .or .i64 (a : Int) (b : Int) = ((a ||| b : Nat) : Int) := by
  have hx := (Sm.or ha hb).lt
  have := ha.lt; have := hb.lt
  show IntKind.i64.wrap ((BitVec.ofInt 64 (a : Int) ||| BitVec.ofInt 64 (b : Int)).toNat : Int) = _
  rw [BitVec.toNat_or, i64_toNat a (by omega), i64_toNat b (by omega), IntKind.wrap_i64]
  omega
theorem and_one {x : Nat} (hx : Sm x) : bits .and .i64 (x : Int) 1 = ((x % 2 : Nat) : Int) := by
  have := bits_and hx (b := 1) (by unfold Sm; omega)
  rw [nat_mask1] at this
  exact this
theorem div_pow (x n : Nat) : (x : Int) / 2 ^ n = ((x / 2 ^ n : Nat) : Int) := by simp
theorem testBit_small {x n : Nat} (hx : Sm x) (hn : 32 ≤ n) : x.testBit n = false :=
  Nat.testBit_lt_two_pow (Nat.lt_of_lt_of_le hx.lt (by rw [show (4294967296 : Nat) = 2 ^ 32 from rfl]; exact Nat.pow_le_pow_right (by omega) hn))
theorem shr_and_one {x : Nat} (hx : Sm x) (n : Nat) : (bits .and .i64 ((x : Int) / 2 ^ min n 64) 1 == 1) = x.testBit n := by
  rw [div_pow, and_one (Nat.lt_of_le_of_lt (Nat.div_le_self _ _) hx)]
  by_cases hn : n ≤ 64
  · rw [Nat.min_eq_left hn, Nat.testBit_eq_decide_div_mod_eq]
    rw [Bool.eq_iff_iff]
    simp only [beq_iff_eq, decide_eq_true_eq]
    omega
  · rw [Nat.min_eq_right (by omega), testBit_small hx (by omega)]
    have : x / 2 ^ 64 = 0 := Nat.div_eq_of_lt (Nat.lt_trans hx.lt (by decide))
    rw [this]; decide

/-- 'has': a number that is not negative, and in the set. -/
def hasB (s : Nat) (n : Int) : Bool := decide (0 ≤ n) && s.testBit n.toNat

/-- The numbers of a set below 6, ascending. -/
def letters (a k : Nat) : List Nat := (List.range k).filter fun l => a.testBit l
theorem letters_zero (a : Nat) : letters a 0 = [] := rfl
theorem letters_succ (a k : Nat) : letters a (k + 1) = letters a k ++ if a.testBit k then [k] else [] := by
  unfold letters
  rw [List.range_succ, List.filter_append]
  cases h : a.testBit k <;> simp [h]
theorem letters_length (a k : Nat) : (letters a k).length ≤ k := by
  unfold letters
  have := List.length_filter_le (fun l => a.testBit l) (List.range k)
  simpa using this
/-- The cells of a list of natural numbers. -/
def nats (l : List Nat) : List Value := l.map fun n : Nat => Value.int .i64 (n : Int)
theorem nats_length (l : List Nat) : (nats l).length = l.length := by simp [nats]
theorem nats_append (l m : List Nat) : nats (l ++ m) = nats l ++ nats m := by simp [nats]
end Go.Proofs.Ytekobefenngedaa
