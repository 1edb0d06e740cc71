/- Plain: the greatest relation in which the edges of two systems answer each other, as a list of sets. No program in sight. -/
import Derived.Test.YtdeopnjheeekcaaDoorBits
import Derived.Test.YtdeopnjheeekcaaDoorSys
namespace Go.Proofs.YtdeopnjheeekcaaDoor
open Go Go.RowKit

/-- There is an edge from i over l to k. -/
def E (es : List Edg) (i l k : Nat) : Prop := ∃ e ∈ es, e.fr = i ∧ e.le = l ∧ e.to = k
/-- The edges from i are answered by those from j, into X; the other way round too, if both. -/
def Ok (both : Bool) (es es' : List Edg) (X : Nat → Nat → Prop) (i j : Nat) : Prop :=
  (∀ l k, E es i l k → ∃ k', E es' j l k' ∧ X k k') ∧ (both = true → ∀ l k', E es' j l k' → ∃ k, E es i l k ∧ X k k')
theorem Ok.mono {both : Bool} {es es' : List Edg} {X Y : Nat → Nat → Prop} {i j : Nat} (h : Ok both es es' X i j) (hXY : ∀ i j, X i j → Y i j) : Ok both es es' Y i j := by
  refine ⟨fun l k hk => ?_, fun hb l k hk => ?_⟩
  · obtain ⟨k', h1, h2⟩ := h.1 l k hk
    exact ⟨k', h1, hXY _ _ h2⟩
  · obtain ⟨k', h1, h2⟩ := h.2 hb l k hk
    exact ⟨k', h1, hXY _ _ h2⟩
/-- A list of sets, as a relation. -/
def rel (R : List Nat) (i j : Nat) : Prop := i < R.length ∧ (R.getD i 0).testBit j = true
/-- A relation between the m and the n states in which the edges answer each other. -/
def Post (both : Bool) (es es' : List Edg) (m n : Nat) (X : Nat → Nat → Prop) : Prop := ∀ i j, X i j → i < m ∧ j < n ∧ Ok both es es' X i j
/-- The sets hold the greatest relation, and are small. -/
structure Inv (both : Bool) (es es' : List Edg) (m n : Nat) (R : List Nat) : Prop where
  len : R.length = m
  small : ∀ r ∈ R, r < 2 ^ n
  great : ∀ X, Post both es es' m n X → ∀ i j, X i j → rel R i j
structure Gfp (both : Bool) (es es' : List Edg) (m n : Nat) (R : List Nat) : Prop extends Inv both es es' m n R where
  post : ∀ i j, rel R i j → Ok both es es' (rel R) i j

theorem rel_lt {both : Bool} {es es' : List Edg} {m n : Nat} {R : List Nat} (h : Inv both es es' m n R) {i j : Nat} (hr : rel R i j) : i < m ∧ j < n := by
  refine ⟨by have := h.len; have := hr.1; omega, ?_⟩
  rcases Nat.lt_or_ge j n with h1 | h1
  · exact h1
  · have hi := hr.1
    have hm := h.small _ (List.getElem_mem hi)
    have := Nat.testBit_lt_two_pow (Nat.lt_of_lt_of_le hm (Nat.pow_le_pow_right (by omega) h1))
    have h2 := hr.2
    rw [List.getD_eq_getElem?_getD, List.getElem?_eq_getElem hi] at h2
    simp [this] at h2

theorem Gfp.unique {both : Bool} {es es' : List Edg} {m n : Nat} {R S : List Nat} (h : Gfp both es es' m n R) (h' : Gfp both es es' m n S) : R = S := by
  have p : Post both es es' m n (rel R) := fun i j hr => ⟨(rel_lt h.toInv hr).1, (rel_lt h.toInv hr).2, h.post i j hr⟩
  have p' : Post both es es' m n (rel S) := fun i j hr => ⟨(rel_lt h'.toInv hr).1, (rel_lt h'.toInv hr).2, h'.post i j hr⟩
  have e : ∀ i j, rel R i j ↔ rel S i j := fun i j => ⟨fun x => h'.great _ p i j x, fun x => h.great _ p' i j x⟩
  apply List.ext_getElem (by rw [h.len, h'.len])
  intro i h1 h2
  apply Nat.eq_of_testBit_eq
  intro j
  have := e i j
  simp only [rel, h1, h2, true_and, List.getD_eq_getElem?_getD, List.getElem?_eq_getElem, Option.getD_some] at this
  exact Bool.eq_iff_iff.2 this

theorem Inv.start (both : Bool) (es es' : List Edg) (m n : Nat) : Inv both es es' m n (List.replicate m (2 ^ n - 1)) where
  len := by simp
  small r hr := by
    have := Nat.two_pow_pos n
    rw [List.eq_of_mem_replicate hr]; omega
  great X hX i j hx := by
    obtain ⟨h1, h2, _⟩ := hX i j hx
    refine ⟨by simpa using h1, ?_⟩
    rw [List.getD_eq_getElem?_getD, List.getElem?_replicate, if_pos h1, Option.getD_some, Nat.testBit_two_pow_sub_one]
    simpa using h2

/-- A set without one number. -/
theorem sub_part (p q r : Nat) (h : 1 ≤ q) : p * q + r - p = p * (q - 1) + r := by
  obtain ⟨d, rfl⟩ : ∃ d, q = d + 1 := ⟨q - 1, by omega⟩
  rw [Nat.mul_add, Nat.mul_one, Nat.add_sub_cancel]
  omega
theorem testBit_part {q r j : Nat} (hq : q % 2 = 1) (hr : r < 2 ^ j) (k : Nat) : (2 ^ j * (q - 1) + r).testBit k = ((2 ^ j * q + r).testBit k && !decide (k = j)) := by
  rw [Nat.testBit_two_pow_mul_add _ hr, Nat.testBit_two_pow_mul_add _ hr]
  by_cases hk : k < j
  · rw [if_pos hk, if_pos hk]
    have : k ≠ j := by omega
    simp [this]
  · rw [if_neg hk, if_neg hk]
    obtain ⟨d, rfl⟩ : ∃ d, k = j + d := ⟨k - j, by omega⟩
    rw [Nat.add_sub_cancel_left]
    cases d with
    | zero => simp [Nat.testBit_zero]; omega
    | succ d =>
      rw [Nat.testBit_succ, Nat.testBit_succ, show (q - 1) / 2 = q / 2 by omega]
      simp
theorem testBit_sub_pow {x j : Nat} (h : x.testBit j = true) (k : Nat) : (x - 2 ^ j).testBit k = (x.testBit k && !decide (k = j)) := by
  have hodd : x / 2 ^ j % 2 = 1 := by
    have := h
    rw [Nat.testBit_eq_decide_div_mod_eq] at this
    simpa using this
  have hdm := Nat.div_add_mod x (2 ^ j)
  have hlt := Nat.mod_lt x (Nat.two_pow_pos j)
  have hq : 1 ≤ x / 2 ^ j := by generalize x / 2 ^ j = q at hodd; omega
  have := testBit_part hodd hlt k
  rw [← sub_part _ _ _ hq, hdm] at this
  exact this

theorem rel_set {R : List Nat} {i j : Nat} (h : rel R i j) (a b : Nat) : rel (R.set i (R.getD i 0 - 2 ^ j)) a b ↔ rel R a b ∧ ¬ (a = i ∧ b = j) := by
  unfold rel
  have h1 := h.1
  have h2 := h.2
  simp only [List.length_set, List.getD_eq_getElem?_getD] at h2 ⊢
  by_cases ha : a = i
  · subst ha
    rw [List.getElem?_set_self h1, Option.getD_some, testBit_sub_pow h2]
    by_cases hb : b = j
    · simp [hb]
    · simp [hb]
  · rw [List.getElem?_set_ne (by omega)]
    simp [ha]

theorem Inv.drop {both : Bool} {es es' : List Edg} {m n : Nat} {R : List Nat} {i j : Nat} (h : Inv both es es' m n R) (hr : rel R i j) (hn : ¬ Ok both es es' (rel R) i j) : Inv both es es' m n (R.set i (R.getD i 0 - 2 ^ j)) where
  len := by rw [List.length_set, h.len]
  small r hm := by
    rcases List.mem_or_eq_of_mem_set hm with h1 | h1
    · exact h.small r h1
    · have hi := hr.1
      have := h.small _ (List.getElem_mem hi)
      rw [h1, List.getD_eq_getElem?_getD, List.getElem?_eq_getElem hi, Option.getD_some]
      exact Nat.lt_of_le_of_lt (Nat.sub_le _ _) this
  great X hX a b hx := by
    rw [rel_set hr]
    refine ⟨h.great X hX a b hx, ?_⟩
    rintro ⟨rfl, rfl⟩
    exact hn ((hX _ _ hx).2.2.mono (h.great X hX))
theorem sum_drop {R : List Nat} {i j : Nat} (hr : rel R i j) : (R.set i (R.getD i 0 - 2 ^ j)).sum + 2 ^ j = R.sum := by
  obtain ⟨hi, hb⟩ := hr
  have hle := Nat.ge_two_pow_of_testBit hb
  induction R generalizing i with
  | nil => simp at hi
  | cons x r ih =>
    cases i with
    | zero => simp at hle ⊢; omega
    | succ i =>
      simp only [List.getD_cons_succ] at hb hle ⊢
      have := ih (by simpa using hi) hb hle
      simp only [List.set_cons_succ, List.sum_cons]
      omega
theorem sum_drop_lt {R : List Nat} {i j : Nat} (hr : rel R i j) : (R.set i (R.getD i 0 - 2 ^ j)).sum < R.sum := by
  have := sum_drop hr
  have := Nat.two_pow_pos j
  omega

/-- The set of the states that a letter leads to. -/
def succ (es : List Edg) (i l : Int) : Nat := es.foldl (fun m e => if e.fr = i ∧ e.le = l then m ||| 2 ^ e.to.toNat else m) 0
theorem succ_snoc (es : List Edg) (e : Edg) (i l : Int) : succ (es ++ [e]) i l = if e.fr = i ∧ e.le = l then succ es i l ||| 2 ^ e.to.toNat else succ es i l := by
  simp [succ]
end Go.Proofs.YtdeopnjheeekcaaDoor
