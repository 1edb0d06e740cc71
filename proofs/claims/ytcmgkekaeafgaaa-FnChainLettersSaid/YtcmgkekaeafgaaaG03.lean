/- Plain: the greatest relation in which the edges of two systems answer each other, as a list of sets. No program in sight. | math/bits.TrailingZeros, as this program has it; the members of a set. | The members of a set, walked. | Plain: the sets of the states that letters lead to, and what makes edges answer each other, in bits. | impl.answers, walked. | spec.l1Bit, spec.l2Step, walked. | Validity of systems: what it calls. | Validity of systems. -/
import Derived.Test.YtcmgkekaeafgaaaG01
import Derived.Test.YtcmgkekaeafgaaaG02
import Derived.Lib.TrailingZeros
import Derived.Shelf.Spec.TrailingZeros
namespace Go.Proofs.Ytcmgkekaeafgaaa
open Go Go.RowKit

/-- There is an edge from i over l to k. -/
def E (es : List Edg) (i l k : Nat) : Prop := ∃ e ∈ es, e.fr = i ∧ e.le = l ∧ e.to = k
/-- The edges from i are answered by those from j, into X; the other way round too, if both. -/
def Ok (both : Bool) (es es' : List Edg) (X : Nat → Nat → Prop) (i j : Nat) : Prop :=
  (∀ l k, E es i l k → ∃ k', E es' j l k' ∧ X k k') ∧ (both = true → ∀ l k', E es' j l k' → ∃ k, E es i l k ∧ X k k')
theorem Ok.mono {both : Bool} {es es' : List Edg} {X Y : Nat → Nat → Prop} {i j : Nat} (h : Ok both es es' X i j) (hXY : ∀ i j, X i j → Y i j) : Ok both es es' Y i j := by
  refine ⟨fun l k hk => ?_, fun hb l k hk => ?_⟩
  · obtain ⟨k', h1, h2⟩ := h.1 l k hk
    exact ⟨k', h1, hXY _ _ h2⟩
  · obtain ⟨k', h1, h2⟩ := h.2 hb l k hk
    exact ⟨k', h1, hXY _ _ h2⟩
/-- A list of sets, as a relation. -/
def rel (R : List Nat) (i j : Nat) : Prop := i < R.length ∧ (R.getD i 0).testBit j = true
/-- A relation between the m and the n states in which the edges answer each other. -/
def Post (both : Bool) (es es' : List Edg) (m n : Nat) (X : Nat → Nat → Prop) : Prop := ∀ i j, X i j → i < m ∧ j < n ∧ Ok both es es' X i j
/-- The sets hold the greatest relation, and are small. -/
structure Inv (both : Bool) (es es' : List Edg) (m n : Nat) (R : List Nat) : Prop where
  len : R.length = m
  small : ∀ r ∈ R, r < 2 ^ n
  great : ∀ X, Post both es es' m n X → ∀ i j, X i j → rel R i j
structure Gfp (both : Bool) (es es' : List Edg) (m n : Nat) (R : List Nat) : Prop extends Inv both es es' m n R where
  post : ∀ i j, rel R i j → Ok both es es' (rel R) i j

theorem rel_lt {both : Bool} {es es' : List Edg} {m n : Nat} {R : List Nat} (h : Inv both es es' m n R) {i j : Nat} (hr : rel R i j) : i < m ∧ j < n := by
  refine ⟨by have := h.len; have := hr.1; omega, ?_⟩
  rcases Nat.lt_or_ge j n with h1 | h1
  · exact h1
  · have hi := hr.1
    have hm := h.small _ (List.getElem_mem hi)
    have := Nat.testBit_lt_two_pow (Nat.lt_of_lt_of_le hm (Nat.pow_le_pow_right (by omega) h1))
    have h2 := hr.2
    rw [List.getD_eq_getElem?_getD, List.getElem?_eq_getElem hi] at h2
    simp [this] at h2

theorem Gfp.unique {both : Bool} {es es' : List Edg} {m n : Nat} {R S : List Nat} (h : Gfp both es es' m n R) (h' : Gfp both es es' m n S) : R = S := by
  have p : Post both es es' m n (rel R) := fun i j hr => ⟨(rel_lt h.toInv hr).1, (rel_lt h.toInv hr).2, h.post i j hr⟩
  have p' : Post both es es' m n (rel S) := fun i j hr => ⟨(rel_lt h'.toInv hr).1, (rel_lt h'.toInv hr).2, h'.post i j hr⟩
  have e : ∀ i j, rel R i j ↔ rel S i j := fun i j => ⟨fun x => h'.great _ p i j x, fun x => h.great _ p' i j x⟩
  apply List.ext_getElem (by rw [h.len, h'.len])
  intro i h1 h2
  apply Nat.eq_of_testBit_eq
  intro j
  have := e i j
  simp only [rel, h1, h2, true_and, List.getD_eq_getElem?_getD, List.getElem?_eq_getElem, Option.getD_some] at this
  exact Bool.eq_iff_iff.2 this

theorem Inv.start (both : Bool) (es es' : List Edg) (m n : Nat) : Inv both es es' m n (List.replicate m (2 ^ n - 1)) where
  len := by simp
  small r hr := by
    have := Nat.two_pow_pos n
    rw [List.eq_of_mem_replicate hr]; omega
  great X hX i j hx := by
    obtain ⟨h1, h2, _⟩ := hX i j hx
    refine ⟨by simpa using h1, ?_⟩
    rw [List.getD_eq_getElem?_getD, List.getElem?_replicate, if_pos h1, Option.getD_some, Nat.testBit_two_pow_sub_one]
    simpa using h2

/-- A set without one number. -/
theorem sub_part (p q r : Nat) (h : 1 ≤ q) : p * q + r - p = p * (q - 1) + r := by
  obtain ⟨d, rfl⟩ : ∃ d, q = d + 1 := ⟨q - 1, by omega⟩
  rw [Nat.mul_add, Nat.mul_one, Nat.add_sub_cancel]
  omega
theorem testBit_part {q r j : Nat} (hq : q % 2 = 1) (hr : r < 2 ^ j) (k : Nat) : (2 ^ j * (q - 1) + r).testBit k = ((2 ^ j * q + r).testBit k && !decide (k = j)) := by
  rw [Nat.testBit_two_pow_mul_add _ hr, Nat.testBit_two_pow_mul_add _ hr]
  by_cases hk : k < j
  · rw [if_pos hk, if_pos hk]
    have : k ≠ j := by omega
    simp [this]
  · rw [if_neg hk, if_neg hk]
    obtain ⟨d, rfl⟩ : ∃ d, k = j + d := ⟨k - j, by omega⟩
    rw [Nat.add_sub_cancel_left]
    cases d with
    | zero => simp [Nat.testBit_zero]; omega
    | succ d =>
      rw [Nat.testBit_succ, Nat.testBit_succ, show (q - 1) / 2 = q / 2 by omega]
      simp
theorem testBit_sub_pow {x j : Nat} (h : x.testBit j = true) (k : Nat) : (x - 2 ^ j).testBit k = (x.testBit k && !decide (k = j)) := by
  have hodd : x / 2 ^ j % 2 = 1 := by
    have := h
    rw [Nat.testBit_eq_decide_div_mod_eq] at this
    simpa using this
  have hdm := Nat.div_add_mod x (2 ^ j)
  have hlt := Nat.mod_lt x (Nat.two_pow_pos j)
  have hq : 1 ≤ x / 2 ^ j := by generalize x / 2 ^ j = q at hodd; omega
  have := testBit_part hodd hlt k
  rw [← sub_part _ _ _ hq, hdm] at this
  exact this

theorem rel_set {R : List Nat} {i j : Nat} (h : rel R i j) (a b : Nat) : rel (R.set i (R.getD i 0 - 2 ^ j)) a b ↔ rel R a b ∧ ¬ (a = i ∧ b = j) := by
  unfold rel
  have h1 := h.1
  have h2 := h.2
  simp only [List.length_set, List.getD_eq_getElem?_getD] at h2 ⊢
  by_cases ha : a = i
  · subst ha
    rw [List.getElem?_set_self h1, Option.getD_some, testBit_sub_pow h2]
    by_cases hb : b = j
    · simp [hb]
    · simp [hb]
  · rw [List.getElem?_set_ne (by omega)]
    simp [ha]

theorem Inv.drop {both : Bool} {es es' : List Edg} {m n : Nat} {R : List Nat} {i j : Nat} (h : Inv both es es' m n R) (hr : rel R i j) (hn : ¬ Ok both es es' (rel R) i j) : Inv both es es' m n (R.set i (R.getD i 0 - 2 ^ j)) where
  len := by rw [List.length_set, h.len]
  small r hm := by
    rcases List.mem_or_eq_of_mem_set hm with h1 | h1
    · exact h.small r h1
    · have hi := hr.1
      have := h.small _ (List.getElem_mem hi)
      rw [h1, List.getD_eq_getElem?_getD, List.getElem?_eq_getElem hi, Option.getD_some]
      exact Nat.lt_of_le_of_lt (Nat.sub_le _ _) this
  great X hX a b hx := by
    rw [rel_set hr]
    refine ⟨h.great X hX a b hx, ?_⟩
    rintro ⟨rfl, rfl⟩
    exact hn ((hX _ _ hx).2.2.mono (h.great X hX))
theorem sum_drop {R : List Nat} {i j : Nat} (hr : rel R i j) : (R.set i (R.getD i 0 - 2 ^ j)).sum + 2 ^ j = R.sum := by
  obtain ⟨hi, hb⟩ := hr
  have hle := Nat.ge_two_pow_of_testBit hb
  induction R generalizing i with
  | nil => simp at hi
  | cons x r ih =>
    cases i with
    | zero => simp at hle ⊢; omega
    | succ i =>
      simp only [List.getD_cons_succ] at hb hle ⊢
      have := ih (by simpa using hi) hb hle
      simp only [List.set_cons_succ, List.sum_cons]
      omega
theorem sum_drop_lt {R : List Nat} {i j : Nat} (hr : rel R i j) : (R.set i (R.getD i 0 - 2 ^ j)).sum < R.sum := by
  have := sum_drop hr
  have := Nat.two_pow_pos j
  omega

/-- The set of the states that a letter leads to. -/
def succ (es : List Edg) (i l : Int) : Nat := es.foldl (fun m e => if e.fr = i ∧ e.le = l then m ||| 2 ^ e.to.toNat else m) 0
theorem succ_snoc (es : List Edg) (e : Edg) (i l : Int) : succ (es ++ [e]) i l = if e.fr = i ∧ e.le = l then succ es i l ||| 2 ^ e.to.toNat else succ es i l := by
  simp [succ]
end Go.Proofs.Ytcmgkekaeafgaaa

namespace Go.Proofs.Ytcmgkekaeafgaaa
open Go Go.RowKit
set_option maxHeartbeats 1000000

end Go.Proofs.Ytcmgkekaeafgaaa

namespace Go.Proofs.Ytcmgkekaeafgaaa
open Go Go.RowKit
set_option maxHeartbeats 1000000

theorem and_pred (k m : Nat) : (2 ^ k * (2 * m + 1)) &&& (2 ^ k * (2 * m + 1) - 1) = 2 ^ k * (2 * m) := by
  have hp := Nat.two_pow_pos k
  have e : 2 ^ k * (2 * m + 1) - 1 = 2 ^ k * (2 * m) + (2 ^ k - 1) := by rw [Nat.mul_add, Nat.mul_one]; omega
  rw [e]
  apply Nat.eq_of_testBit_eq
  intro i
  have e0 : ∀ q, (2 ^ k * q).testBit i = if i < k then false else q.testBit (i - k) := fun q => by
    have := Nat.testBit_two_pow_mul_add q (b := 0) (i := k) hp i
    rw [Nat.add_zero] at this
    rw [this, Nat.zero_testBit]
  rw [Nat.testBit_and, e0, Nat.testBit_two_pow_mul_add _ (by omega), e0]
  by_cases hi : i < k
  · simp [hi]
  · simp only [hi, if_false]
    cases hd : i - k with
    | zero => simp [Nat.testBit_zero]
    | succ d => rw [Nat.testBit_succ, Nat.testBit_succ, show (2 * m + 1) / 2 = m by omega, show (2 * m) / 2 = m by omega]; simp
/-- The lowest number of a set: what lies below is not in it; taken away, the rest stays. -/
theorem lowest {x : Nat} (h0 : x ≠ 0) (hs : Sm x) : ∃ k, Lib.ctz 64 x = k ∧ k < 32 ∧ x.testBit k = true ∧ (∀ i, i < k → x.testBit i = false) ∧ x &&& (x - 1) = x - 2 ^ k ∧ 2 ^ k ≤ x := by
  have hx := hs.lt
  obtain ⟨m, hm, hk⟩ := Lib.ctzFrom_spec 64 x (by omega) (by omega)
  have e : Lib.ctz 64 x = Lib.ctzFrom 64 x := by simp [Lib.ctz, h0]
  generalize Lib.ctzFrom 64 x = k at *
  have hp := Nat.two_pow_pos k
  have hle : 2 ^ k ≤ x := by rw [hm]; exact Nat.le_mul_of_pos_right _ (by omega)
  have e0 : ∀ q i, (2 ^ k * q).testBit i = if i < k then false else q.testBit (i - k) := fun q i => by
    have := Nat.testBit_two_pow_mul_add q (b := 0) (i := k) hp i
    rw [Nat.add_zero] at this
    rw [this, Nat.zero_testBit]
  refine ⟨k, e, ?_, ?_, fun i hi => ?_, ?_, hle⟩
  · apply Nat.lt_of_not_le
    intro h32
    have := Nat.pow_le_pow_right (n := 2) (by omega) h32
    omega
  · rw [hm, e0]; simp
  · rw [hm, e0]; simp [hi]
  · rw [hm, and_pred, Nat.mul_add, Nat.mul_one, Nat.add_sub_cancel]
theorem testBit_sub_low {x j : Nat} (h : x.testBit j = true) (hl : ∀ i, i < j → x.testBit i = false) (k : Nat) : (x - 2 ^ j).testBit k = (x.testBit k && !decide (k = j)) := by
  have hodd : x / 2 ^ j % 2 = 1 := by
    have := h
    rw [Nat.testBit_eq_decide_div_mod_eq] at this
    simpa using this
  have hp := Nat.two_pow_pos j
  have hr : x % 2 ^ j = 0 := by
    apply Nat.eq_of_testBit_eq
    intro i
    rw [Nat.testBit_mod_two_pow, Nat.zero_testBit]
    by_cases hi : i < j
    · simp [hi, hl i hi]
    · simp [hi]
  have hdm := Nat.div_add_mod x (2 ^ j)
  rw [hr, Nat.add_zero] at hdm
  generalize x / 2 ^ j = q at *
  have e0 : ∀ q i, (2 ^ j * q).testBit i = if i < j then false else q.testBit (i - j) := fun q i => by
    have := Nat.testBit_two_pow_mul_add q (b := 0) (i := j) hp i
    rw [Nat.add_zero] at this
    rw [this, Nat.zero_testBit]
  have e : x - 2 ^ j = 2 ^ j * (q - 1) := by rw [← hdm, Nat.mul_sub, Nat.mul_one]
  rw [e, ← hdm, e0, e0]
  by_cases hk : k < j
  · simp [hk]
  · simp only [hk, if_false]
    obtain ⟨d, rfl⟩ : ∃ d, k = j + d := ⟨k - j, by omega⟩
    rw [Nat.add_sub_cancel_left]
    cases d with
    | zero => simp [Nat.testBit_zero]; omega
    | succ d =>
      rw [Nat.testBit_succ, Nat.testBit_succ, show (q - 1) / 2 = q / 2 by omega]
      simp
theorem letters_low {x k : Nat} (h : x.testBit k = true) (hl : ∀ i, i < k → x.testBit i = false) : ∀ n, (n ≤ k → letters x n = [] ∧ letters (x - 2 ^ k) n = []) ∧ (k < n → letters x n = k :: letters (x - 2 ^ k) n)
  | 0 => ⟨fun _ => ⟨rfl, rfl⟩, fun h => by omega⟩
  | n + 1 => by
    have ih := letters_low h hl n
    have hb := testBit_sub_low h hl n
    rw [letters_succ, letters_succ, hb]
    refine ⟨fun hn => ?_, fun hn => ?_⟩
    · obtain ⟨e1, e2⟩ := ih.1 (by omega)
      rw [e1, e2, hl n (by omega)]
      simp
    · rcases Nat.lt_or_ge k n with h1 | h1
      · rw [ih.2 h1]
        have : n ≠ k := by omega
        simp [this]
      · obtain ⟨e1, e2⟩ := ih.1 h1
        obtain rfl : n = k := by omega
        rw [e1, e2, h]
        simp
theorem letters_step {x : Nat} (h0 : x ≠ 0) (hs : Sm x) : letters x 32 = Lib.ctz 64 x :: letters (x &&& (x - 1)) 32 ∧ x &&& (x - 1) < x ∧ Lib.ctz 64 x < 32 := by
  obtain ⟨k, e, hk, hb, hl, ha, hle⟩ := lowest h0 hs
  have hp := Nat.two_pow_pos k
  rw [e, ha]
  exact ⟨(letters_low hb hl 32).2 hk, by omega, hk⟩

end Go.Proofs.Ytcmgkekaeafgaaa

namespace Go.Proofs.Ytcmgkekaeafgaaa
open Go Go.RowKit

theorem foldl_bit (es : List Edg) (p : Edg → Prop) [DecidablePred p] (m k : Nat) : (es.foldl (fun m e => if p e then m ||| 2 ^ e.to.toNat else m) m).testBit k = true ↔ m.testBit k = true ∨ ∃ e ∈ es, p e ∧ e.to.toNat = k := by
  induction es generalizing m with
  | nil => simp
  | cons e r ih =>
    rw [List.foldl_cons, ih]
    by_cases hp : p e
    · rw [if_pos hp, Nat.testBit_or, Nat.testBit_two_pow]
      simp only [Bool.or_eq_true, decide_eq_true_eq, List.mem_cons]
      constructor
      · rintro ((h | h) | ⟨e', h1, h2⟩)
        · exact Or.inl h
        · exact Or.inr ⟨e, Or.inl rfl, hp, h⟩
        · exact Or.inr ⟨e', Or.inr h1, h2⟩
      · rintro (h | ⟨e', h1 | h1, h2⟩)
        · exact Or.inl (Or.inl h)
        · subst h1; exact Or.inl (Or.inr h2.2)
        · exact Or.inr ⟨e', h1, h2⟩
    · rw [if_neg hp]
      constructor
      · rintro (h | ⟨e', h1, h2⟩)
        · exact Or.inl h
        · exact Or.inr ⟨e', List.mem_cons_of_mem _ h1, h2⟩
      · rintro (h | ⟨e', h1, h2⟩)
        · exact Or.inl h
        · rcases List.mem_cons.1 h1 with h1 | h1
          · subst h1; exact absurd h2.1 hp
          · exact Or.inr ⟨e', h1, h2⟩
theorem succ_bit (es : List Edg) (i l : Int) (k : Nat) : (succ es i l).testBit k = true ↔ ∃ e ∈ es, (e.fr = i ∧ e.le = l) ∧ e.to.toNat = k := by
  have := foldl_bit es (fun e => e.fr = i ∧ e.le = l) 0 k
  simpa [succ] using this
/-- Edges between few states. -/
def Few (n : Nat) (es : List Edg) : Prop := ∀ e ∈ es, (0 ≤ e.fr ∧ e.fr < n) ∧ (0 ≤ e.le ∧ e.le < 6) ∧ (0 ≤ e.to ∧ e.to < n)
theorem E_iff {n : Nat} {es : List Edg} (h : Few n es) (i l k : Nat) : E es i l k ↔ (succ es i l).testBit k = true := by
  rw [succ_bit]
  constructor
  · rintro ⟨e, he, h1, h2, h3⟩
    exact ⟨e, he, ⟨h1, h2⟩, by omega⟩
  · rintro ⟨e, he, ⟨h1, h2⟩, h3⟩
    have := h e he
    exact ⟨e, he, h1, h2, by omega⟩
theorem succ_lt {n : Nat} {es : List Edg} (h : Few n es) (i l : Int) : succ es i l < 2 ^ n := by
  apply Nat.lt_pow_two_of_testBit
  intro k hk
  rw [Bool.eq_false_iff]
  intro hb
  obtain ⟨e, he, _, h3⟩ := (succ_bit es i l k).1 hb
  have := h e he
  omega
theorem succ_sm {n : Nat} {es : List Edg} (h : Few n es) (hn : n ≤ 16) (i l : Int) : Sm (succ es i l) :=
  Nat.lt_of_lt_of_le (succ_lt h i l) (by rw [show (4294967296 : Nat) = 2 ^ 32 from rfl]; exact Nat.pow_le_pow_right (by omega) (by omega))

/-- The numbers of one set and not of another. -/
def diff (a b : Nat) : Nat := a ^^^ (a &&& b)
theorem diff_bit (a b k : Nat) : (diff a b).testBit k = (a.testBit k && !b.testBit k) := by
  unfold diff
  rw [Nat.testBit_xor, Nat.testBit_and]
  cases a.testBit k <;> cases b.testBit k <;> rfl
theorem diff_le (a b : Nat) : diff a b ≤ a := by
  apply Nat.le_of_testBit
  intro k hk
  rw [diff_bit] at hk
  simp at hk
  exact hk.1
theorem ne_zero_bit {a : Nat} : a ≠ 0 ↔ ∃ k, a.testBit k = true := by
  constructor
  · intro h
    exact Nat.exists_testBit_of_ne_zero h
  · rintro ⟨k, hk⟩ rfl
    simp at hk
/-- All sets of these states together. -/
def orAll (R : List Nat) (ks : List Nat) : Nat := ks.foldl (fun m k => m ||| R.getD k 0) 0
theorem orAll_snoc (R ks : List Nat) (k : Nat) : orAll R (ks ++ [k]) = orAll R ks ||| R.getD k 0 := by simp [orAll]
theorem orAll_bit (R ks : List Nat) (j : Nat) : (orAll R ks).testBit j = true ↔ ∃ k ∈ ks, (R.getD k 0).testBit j = true := by
  have : ∀ m, (ks.foldl (fun m k => m ||| R.getD k 0) m).testBit j = true ↔ m.testBit j = true ∨ ∃ k ∈ ks, (R.getD k 0).testBit j = true := by
    induction ks with
    | nil => simp
    | cons x r ih =>
      intro m
      rw [List.foldl_cons, ih, Nat.testBit_or]
      simp only [Bool.or_eq_true, List.mem_cons, exists_eq_or_imp]
      exact or_assoc
  simpa [orAll] using this 0
theorem mem_letters {a n k : Nat} : k ∈ letters a n ↔ k < n ∧ a.testBit k = true := by simp [letters]
/-- One letter: the edges from i are answered by those from j. -/
def ansL (both : Bool) (es es' : List Edg) (R : List Nat) (i j l : Nat) : Bool :=
  (letters (succ es i l) 32).all (fun k => !(R.getD k 0 &&& succ es' j l == 0)) && !(both && diff (succ es' j l) (orAll R (letters (succ es i l) 32)) != 0)
def ansB (both : Bool) (es es' : List Edg) (R : List Nat) (i j : Nat) : Bool := (List.range 6).all (ansL both es es' R i j)

theorem rel_getD {R : List Nat} {k j : Nat} (h : (R.getD k 0).testBit j = true) : rel R k j := by
  refine ⟨?_, h⟩
  rcases Nat.lt_or_ge k R.length with h1 | h1
  · exact h1
  · rw [List.getD_eq_getElem?_getD, List.getElem?_eq_none h1] at h
    simp at h
theorem ansB_iff {both : Bool} {m n : Nat} {es es' : List Edg} {R : List Nat} {i j : Nat} (h : Few m es) (h' : Few n es') (hm : m ≤ 16) : ansB both es es' R i j = true ↔ Ok both es es' (rel R) i j := by
  unfold ansB ansL
  simp only [List.all_eq_true, List.mem_range, Bool.and_eq_true, Bool.not_eq_true', mem_letters]
  have hk32 : ∀ {l k : Nat}, (succ es i l).testBit k = true → k < 32 := fun {l k} hk => by
    obtain ⟨e, he, _, h3⟩ := (succ_bit es i l k).1 hk
    have := h e he
    omega
  have hl6 : ∀ {i l k : Nat}, E es i l k → l < 6 := fun {i l k} hk => by
    obtain ⟨e, he, _, h3, _⟩ := hk
    have := h e he
    omega
  have hl6' : ∀ {i l k : Nat}, E es' i l k → l < 6 := fun {i l k} hk => by
    obtain ⟨e, he, _, h3, _⟩ := hk
    have := h' e he
    omega
  constructor
  · intro hA
    refine ⟨fun l k hk => ?_, fun hb l k' hk' => ?_⟩
    · have hk1 := (E_iff h i l k).1 hk
      have h1 := (hA l (hl6 hk)).1 k ⟨hk32 hk1, hk1⟩
      have h2 : R.getD k 0 &&& succ es' j l ≠ 0 := by simpa using h1
      obtain ⟨k', hk'⟩ := ne_zero_bit.1 h2
      rw [Nat.testBit_and, Bool.and_eq_true] at hk'
      exact ⟨k', (E_iff h' j l k').2 hk'.2, rel_getD hk'.1⟩
    · have h1 := (hA l (hl6' hk')).2
      rw [hb, Bool.true_and] at h1
      have h2 : diff (succ es' j l) (orAll R (letters (succ es i l) 32)) = 0 := by simpa using h1
      have h3 := diff_bit (succ es' j l) (orAll R (letters (succ es i l) 32)) k'
      rw [h2, (E_iff h' j l k').1 hk'] at h3
      simp at h3
      obtain ⟨k, hk, hr⟩ := (orAll_bit _ _ _).1 h3
      exact ⟨k, (E_iff h i l k).2 (mem_letters.1 hk).2, rel_getD hr⟩
  · rintro ⟨h1, h2⟩ l hl
    refine ⟨fun k hk => ?_, ?_⟩
    · obtain ⟨k', hk', hr⟩ := h1 l k ((E_iff h i l k).2 hk.2)
      have : R.getD k 0 &&& succ es' j l ≠ 0 := ne_zero_bit.2 ⟨k', by rw [Nat.testBit_and, hr.2, (E_iff h' j l k').1 hk']; rfl⟩
      simpa using this
    · cases hb : both
      · rfl
      · rw [Bool.true_and]
        have : diff (succ es' j l) (orAll R (letters (succ es i l) 32)) = 0 := by
          apply Classical.byContradiction
          intro hne
          obtain ⟨k', hk'⟩ := ne_zero_bit.1 hne
          rw [diff_bit, Bool.and_eq_true] at hk'
          obtain ⟨k, hk, hr⟩ := h2 hb l k' ((E_iff h' j l k').2 hk'.1)
          have hk1 := (E_iff h i l k).1 hk
          have := (orAll_bit R (letters (succ es i l) 32) k').2 ⟨k, mem_letters.2 ⟨hk32 hk1, hk1⟩, hr.2⟩
          rw [this] at hk'
          simp at hk'
        rw [this]; rfl
end Go.Proofs.Ytcmgkekaeafgaaa

namespace Go.Proofs.Ytcmgkekaeafgaaa
open Go Go.RowKit
set_option maxHeartbeats 2000000

theorem Reads.nat {w : World} {lo hi n k : Nat} {A : Option Addr} {l : List Nat} (h : Reads w lo hi 1 A n (nats l)) (hk : k < n) : ∃ ad x, A = some ad ∧ lo ≤ ad.block ∧ ad.block < hi ∧ Hid (l[k]? = some x) ∧ w.cell? (ad.add k) = some (.int .i64 (x : Nat)) := by
  have e : nats l = ints (l.map fun n : Nat => (n : Int)) := by simp [nats, ints]
  rw [e] at h
  obtain ⟨ad, x, ha, hl, hh, hx, hc⟩ := h.int hk
  have hx' := hx.out
  rw [List.getElem?_map] at hx'
  cases hq : l[k]? with
  | none => rw [hq] at hx'; simp at hx'
  | some q =>
    rw [hq] at hx'
    simp at hx'
    exact ⟨ad, q, ha, hl, hh, rfl, by rw [hc, hx']⟩

/-- The block b holds the moves of these edges. -/
def MovAt (w : World) (b : Nat) (es : List Edg) : Prop := ∀ i l : Nat, i < 16 → l < 6 → w.cell? ⟨b, i * 6 + l, none⟩ = some (.int .i64 (succ es i l : Nat))
theorem MovAt.ext {w w' : World} {b : Nat} {es : List Edg} (h : MovAt w b es) (hb : Ext w w') : MovAt w' b es := fun i l hi hl => hb.cell_some (h i l hi hl)

theorem bits_andNot {a b : Nat} (ha : Sm a) (hb : Sm b) : bits .andNot .i64 (a : Int) (b : Int) = (diff a b : Nat) := by
  have h1 := ha.lt; have h2 := hb.lt
  have hd := diff_le a b
  show IntKind.i64.wrap ((BitVec.ofInt 64 (a : Int) &&& ~~~ BitVec.ofInt 64 (b : Int)).toNat : Int) = _
  have e : (BitVec.ofInt 64 (a : Int) &&& ~~~ BitVec.ofInt 64 (b : Int)).toNat = diff a b := by
    apply Nat.eq_of_testBit_eq
    intro k
    rw [diff_bit, BitVec.toNat_and, Nat.testBit_and, i64_toNat a (by omega), BitVec.testBit_toNat, BitVec.getLsbD_not, ← BitVec.testBit_toNat, i64_toNat b (by omega)]
    by_cases hk : k < 64
    · simp [hk]
    · simp only [hk, decide_false, Bool.false_and, Bool.and_false]
      rw [testBit_small ha (by omega)]; rfl
  rw [e, IntKind.wrap_i64]
  omega

end Go.Proofs.Ytcmgkekaeafgaaa

namespace Go.Proofs.Ytcmgkekaeafgaaa
open Go Go.RowKit
set_option maxHeartbeats 1000000

theorem wrap_pow2 {t : Nat} (ht : t < 32) : wrap64 ((2 : Int) ^ t) = ((2 ^ t : Nat) : Int) := by
  have hp := (Sm.bit ht).lt
  have e : (2 : Int) ^ t = ((2 ^ t : Nat) : Int) := by simp
  rw [e]
  generalize (2 : Nat) ^ t = p at *
  unfold wrap64
  omega
/-- The set that a letter leads to from a set. -/
def stepB (es : List Edg) (set : Nat) (l : Int) : Nat := es.foldl (fun m e => if e.le = l ∧ set.testBit e.fr.toNat = true then m ||| 2 ^ e.to.toNat else m) 0
theorem stepB_snoc (es : List Edg) (e : Edg) (set : Nat) (l : Int) : stepB (es ++ [e]) set l = if e.le = l ∧ set.testBit e.fr.toNat = true then stepB es set l ||| 2 ^ e.to.toNat else stepB es set l := by simp [stepB]
theorem stepB_bit (es : List Edg) (set : Nat) (l : Int) (k : Nat) : (stepB es set l).testBit k = true ↔ ∃ e ∈ es, (e.le = l ∧ set.testBit e.fr.toNat = true) ∧ e.to.toNat = k := by
  have := foldl_bit es (fun e => e.le = l ∧ set.testBit e.fr.toNat = true) 0 k
  simpa [stepB] using this
theorem stepB_lt {n : Nat} {es : List Edg} (h : Few n es) (set : Nat) (l : Int) : stepB es set l < 2 ^ n := by
  apply Nat.lt_pow_two_of_testBit
  intro k hk
  rw [Bool.eq_false_iff]
  intro hb
  obtain ⟨e, he, _, h3⟩ := (stepB_bit es set l k).1 hb
  have := h e he
  omega
theorem stepB_one {n : Nat} {es : List Edg} (h : Few n es) (j : Nat) (l : Int) : stepB es (2 ^ j) l = succ es j l := by
  apply Nat.eq_of_testBit_eq
  intro k
  rw [Bool.eq_iff_iff, stepB_bit, succ_bit]
  constructor
  · rintro ⟨e, he, ⟨h1, h2⟩, h3⟩
    have := h e he
    rw [Nat.testBit_two_pow, decide_eq_true_eq] at h2
    exact ⟨e, he, ⟨by omega, h1⟩, h3⟩
  · rintro ⟨e, he, ⟨h1, h2⟩, h3⟩
    exact ⟨e, he, ⟨h2, by rw [Nat.testBit_two_pow, decide_eq_true_eq]; omega⟩, h3⟩

end Go.Proofs.Ytcmgkekaeafgaaa

namespace Go.Proofs.Ytcmgkekaeafgaaa
open Go Go.RowKit
set_option maxHeartbeats 400000

def cmpI (x y : Int) : Int := if x < y then -1 else if y < x then 1 else 0
theorem cmp_isNaN (x : Int) (w : World) : Calls Try.prog 62 #[.int .i64 x] w fun e w' => e = .returned (.bool false) ∧ w = w' := by
  have h : (x != x) = false := by simp
  go_enter Try.func62, Try.ntmps62
  go_wp2
  go_ret
  exact ⟨ret_bool (by simp), rfl⟩
theorem cmp_Compare (x y : Int) (w : World) : Calls Try.prog 54 #[.int .i64 x, .int .i64 y] w fun e w' => e = .returned (.int .i64 (cmpI x y)) ∧ w = w' := by
  by_cases h : x < y
  · go_enter Try.func54, Try.ntmps54
    go_wp2_with (go_at_call 62; refine (cmp_isNaN _ _).mono ?_; rintro e w' ⟨rfl, rfl⟩)
    go_ret
    exact ⟨ret_int (by unfold cmpI; split <;> omega), rfl⟩
  · by_cases h' : y < x
    all_goals
      go_enter Try.func54, Try.ntmps54
      go_wp2_with (go_at_call 62; refine (cmp_isNaN _ _).mono ?_; rintro e w' ⟨rfl, rfl⟩)
      go_ret
      exact ⟨ret_int (by unfold cmpI; (repeat' split) <;> omega), rfl⟩

/-- The first number that is not 0. -/
def orI : List Int → Int
  | [] => 0
  | x :: r => if x = 0 then orI r else x
theorem orI_stop {l : List Int} {k : Nat} {x : Int} (h : l[k]? = some x) (hk : ∀ y ∈ l.take k, y = 0) (hx : x ≠ 0) : orI l = x := by
  induction l generalizing k with
  | nil => simp at h
  | cons a r ih =>
    cases k with
    | zero => simp at h; subst h; rw [orI, if_neg hx]
    | succ k =>
      have ha : a = 0 := hk a (by simp)
      rw [orI, if_pos ha]
      exact ih (by simpa using h) (fun y hy => hk y (by simp [hy]))
theorem orI_end {l : List Int} (hk : ∀ y ∈ l, y = 0) : orI l = 0 := by
  induction l with
  | nil => rfl
  | cons a r ih => rw [orI, if_pos (hk a (by simp)), ih fun y hy => hk y (by simp [hy])]

theorem cmp_Or {lo hi : Nat} {A : Option Addr} {n c : Nat} {l : List Int} {w : World} (h : Reads w lo hi 1 A n (ints l)) :
    Calls Try.prog 53 #[.slice A n c] w fun e w' => e = .returned (.int .i64 (orI l)) ∧ w = w' := by
  have hn := h.len
  have Hl := hide (show l.length = n by have := h.length; rw [ints_length] at this; omega)
  go_enter Try.func53, Try.ntmps53
  go_wp2
  go_loop [8] (fun i => ∃ k : Nat, k ≤ n ∧ i = .int .i64 k ∧ Hid (∀ y ∈ l.take k, y = 0)) (fun i => n - (intOf i).toNat)
  case atStart => exact ⟨0, Nat.zero_le _, rfl, hide (by simp)⟩
  case round =>
    obtain ⟨k, hk, rfl, hz⟩ := hrel
    by_cases hlt : k < n
    · obtain ⟨ad, x, rfl, _, _, hx, hc⟩ := h.int hlt
      by_cases h0 : x = 0
      · have hb : ((x : Int) != 0) = false := by simp [h0]
        have H0 := hide h0
        clear h0
        go_wp2
        go_round
        case rel => exact ⟨k + 1, by omega, by go_num, hide (by rw [List.take_add_one, hx.out]; intro y hy; simp at hy; rcases hy with hy | hy; exact hz.out y hy; rw [hy, H0.out])⟩
        case measure => simp [intOf]; omega
      · have hb : ((x : Int) != 0) = true := by simp [h0]
        go_wp2
        go_ret
        exact ⟨ret_int (orI_stop hx.out hz.out h0).symm, rfl⟩
    · obtain rfl : k = n := by omega
      go_wp2
      go_ret
      have := hz.out
      rw [List.take_of_length_le (by have := Hl.out; omega)] at this
      exact ⟨ret_int (orI_end this).symm, rfl⟩

/-- The order of edges, as a number. -/
def cmpE (a b : Edg) : Int := orI [cmpI a.fr b.fr, cmpI a.le b.le, cmpI a.to b.to]
/-- The order of edges. -/
def ltE (a b : Edg) : Bool := if a.fr = b.fr then if a.le = b.le then decide (a.to < b.to) else decide (a.le < b.le) else decide (a.fr < b.fr)
theorem cmpE_lt (a b : Edg) : cmpE a b < 0 ↔ ltE a b = true := by
  have hc : ∀ x y : Int, (cmpI x y = 0 ↔ x = y) ∧ (cmpI x y < 0 ↔ x < y) := fun x y => by unfold cmpI; constructor <;> (repeat' split) <;> omega
  have h1 := hc a.fr b.fr
  have h2 := hc a.le b.le
  have h3 := hc a.to b.to
  have hv : cmpE a b = if cmpI a.fr b.fr = 0 then if cmpI a.le b.le = 0 then if cmpI a.to b.to = 0 then 0 else cmpI a.to b.to else cmpI a.le b.le else cmpI a.fr b.fr := rfl
  rw [hv, ltE]
  by_cases e1 : a.fr = b.fr
  · rw [if_pos (h1.1.2 e1), if_pos e1]
    by_cases e2 : a.le = b.le
    · rw [if_pos (h2.1.2 e2), if_pos e2]
      by_cases e3 : cmpI a.to b.to = 0
      · rw [if_pos e3]; have := h3.1.1 e3; simp; omega
      · rw [if_neg e3, h3.2]; simp
    · rw [if_neg (fun h => e2 (h2.1.1 h)), if_neg e2, h2.2]; simp
  · rw [if_neg (fun h => e1 (h1.1.1 h)), if_neg e1, h1.2]; simp

/-- A slice that a literal has just laid. -/
theorem reads_lit {w w' : World} {cs : Array Value} {t : TypeId} (n : Nat) (l : List Int) (hc : cs.toList = ints l) (hl : l.length = n) (hn : n ≤ 1000) (h : Ext (w.alloc (.cells cs t)) w') : Reads w' 0 w'.heap.size 1 (some ⟨w.heap.size, 0, none⟩) n (ints l) := by
  have hb := ext_blk1 h
  refine ⟨by rw [ints_length]; omega, by omega, fun _ => ⟨_, rfl, Nat.zero_le _, hb.lt, fun j u hu => ?_⟩⟩
  rw [addr_lit, Nat.zero_add, hb.cell, ← Array.getElem?_toList, hc]
  exact hu

theorem impl_compareEdges {a b : Edg} {w : World} :
    Calls Try.prog 37 #[.agg #[.int .i64 a.fr, .int .i64 a.le, .int .i64 a.to], .agg #[.int .i64 b.fr, .int .i64 b.le, .int .i64 b.to]] w fun e w' => e = .returned (.int .i64 (cmpE a b)) ∧ Ext w w' := by
  go_enter Try.func37, Try.ntmps37
  go_wp2_with fail
  obtain ⟨W, hW⟩ : ∃ W : World, W = (w.alloc (.cells #[Value.int .i64 a.fr, .int .i64 a.le, .int .i64 a.to] 65)).alloc (.cells #[Value.int .i64 b.fr, .int .i64 b.le, .int .i64 b.to] 65) := ⟨_, rfl⟩
  have hx : Ext w W := by rw [hW]; exact ((Ext.refl _).alloc _).alloc _
  have h2 := ext_blk2 (show Ext ((w.alloc (.cells #[Value.int .i64 a.fr, .int .i64 a.le, .int .i64 a.to] 65)).alloc (.cells #[Value.int .i64 b.fr, .int .i64 b.le, .int .i64 b.to] 65)) W by rw [hW]; exact Ext.refl _)
  have e0 : ∀ X, Ext W X → ∀ j, X.cell? ⟨w.heap.size, j, none⟩ = #[Value.int .i64 a.fr, .int .i64 a.le, .int .i64 a.to][j]? := fun X hX => (h2.1.ext hX).cell
  have e1 : ∀ X, Ext W X → ∀ j, X.cell? ⟨w.heap.size + 1, j, none⟩ = #[Value.int .i64 b.fr, .int .i64 b.le, .int .i64 b.to][j]? := fun X hX => (h2.2.ext hX).cell
  rw [← hW]
  have hr := Ext.refl W
  clear hW h2
  go_region_held3 (fun X => Ext W X) (first | assumption | (refine Ext.drew ?_; assumption) | (refine Ext.alloc ?_ _; assumption) | (refine Ext.drew ?_; refine Ext.alloc ?_ _; assumption) | (refine Ext.trans ?_ (by assumption); assumption)) (first | (go_at_call 54; refine (cmp_Compare _ _ _).mono ?_; rintro e w' ⟨rfl, rfl⟩) | (go_at_call 53; refine (cmp_Or (reads_lit 3 [cmpI a.fr b.fr, cmpI a.le b.le, cmpI a.to b.to] rfl rfl (by omega) ((Ext.refl _).drew))).mono ?_; rintro e w' ⟨rfl, rfl⟩))
  all_goals (go_wp2_with fail; go_ret; exact ⟨rfl, hx.trans (by first | assumption | (refine Ext.drew ?_; assumption) | (refine Ext.alloc ?_ _; assumption) | (refine Ext.drew ?_; refine Ext.alloc ?_ _; assumption))⟩)
end Go.Proofs.Ytcmgkekaeafgaaa

namespace Go.Proofs.Ytcmgkekaeafgaaa
open Go Go.RowKit
set_option maxHeartbeats 4000000

theorem impl_isState {al st : Int} {A : Option Addr} {n c : Nat} {q : Int} {w : World} :
    Calls Try.prog 35 #[.agg #[.int .i64 al, .int .i64 st, .slice A n c], .int .i64 q] w fun e w' => e = .returned (.bool (decide (0 ≤ q) && decide (q < st))) ∧ Ext w w' := by
  by_cases h0 : 0 ≤ q
  all_goals
    go_enter Try.func35, Try.ntmps35
    go_wp2
    go_ret
    exact ⟨ret_bool (by simp; try omega), (Ext.refl _).alloc _⟩

/-- An edge of a system with an alphabet and a number of states. -/
def edgB (al : Nat) (st : Int) (e : Edg) : Bool := (decide (0 ≤ e.fr) && decide (e.fr < st)) && ((decide (0 ≤ e.to) && decide (e.to < st)) && (decide (e.le < 6) && hasB al e.le))
/-- The k-th edge is right, and behind the one ahead of it. -/
def edgeOK (al : Nat) (st : Int) (l : List Edg) (k : Nat) : Bool :=
  match l[k]? with
  | some e => edgB al st e && (decide (k = 0) || match l[k - 1]? with
    | some p => ltE p e
    | none => false)
  | none => false
def sysValid (s : Sys) : Bool :=
  decide (0 ≤ s.al ∧ s.al ≤ 63) && (decide (1 ≤ s.st ∧ s.st ≤ 16) && (List.range s.edges.length).all (edgeOK s.al.toNat s.st s.edges))

theorem impl_SystemValid {lo hi : Nat} {A : Option Addr} {n c : Nat} {s : Sys} {w : World} (h : SysAt w lo hi A n s) :
    Calls Try.prog 21 #[.agg #[.int .i64 s.al, .int .i64 s.st, .slice A n c]] w fun e w' => e = .returned (.bool (sysValid s)) ∧ Ext w w' := by
  have Hv := hide (show sysValid s = (decide (0 ≤ s.al ∧ s.al ≤ 63) && (decide (1 ≤ s.st ∧ s.st ≤ 16) && (List.range n).all (edgeOK s.al.toNat s.st s.edges))) by unfold sysValid; rw [← h.1])
  have hn := h.2.len
  by_cases hal : 0 ≤ s.al ∧ s.al ≤ 63
  · by_cases hst : 1 ≤ s.st ∧ s.st ≤ 16
    · obtain ⟨al, hal'⟩ : ∃ al : Nat, Hid (s.al = al) := ⟨s.al.toNat, by unfold Hid; omega⟩
      have hsm : Sm al := by have := hal'.out; unfold Sm; omega
      have hd := hide (show decide (0 ≤ (al : Int) ∧ (al : Int) ≤ 63) = true by have := hal'.out; simp; omega)
      rw [hal'.out]
      rw [hal'.out, Int.toNat_natCast] at Hv
      clear hal
      have hd1 : decide (s.st < 1) = false := by simp; omega
      have hd2 : decide (16 < s.st) = false := by simp; omega
      obtain ⟨st, hst', hs1, hs2⟩ : ∃ st : Int, Hid (s.st = st) ∧ 1 ≤ st ∧ st ≤ 16 := ⟨s.st, hide rfl, hst.1, hst.2⟩
      rw [hst'.out] at hd1 hd2 Hv ⊢
      clear hst
      have hR := fun W (hW : Ext w W) => h.2.ext hW
      have HR := hide hR
      clear hR
      go_enter Try.func21, Try.ntmps21
      go_wp2_with (go_at_call 22; refine (impl_isAlphabet _ _).mono ?_; rw [hd.out]; rintro e w' ⟨rfl, rfl⟩)
      go_loopw [22] (fun i wr => ∃ k : Nat, k ≤ n ∧ i = .int .i64 k ∧ Hid (((List.range n).take k).all (edgeOK al st s.edges) = true) ∧ Ext (w.alloc (.cells #[Value.int .i64 al, .int .i64 st, Value.slice A n c] 35)) wr)
        (fun i _ => n - (intOf i).toNat)
      case atStart => exact ⟨0, Nat.zero_le _, rfl, rfl, Ext.refl _⟩
      case round =>
        obtain ⟨k, hk, rfl, hall, hext⟩ := hrel
        by_cases hlt : k < n
        · obtain ⟨b, o, e, rfl, hlo, hhi, he, c0, c1, c2⟩ := (HR.out wr (((Ext.refl _).alloc _).trans hext)).edge hlt
          have hbx := ext_box hext
          go_wp2_with fail
          obtain ⟨W, hW⟩ : ∃ W : World, W = wr.alloc (.cells #[Value.int .i64 e.fr, .int .i64 e.le, .int .i64 e.to] 65) := ⟨_, rfl⟩
          have hx : Ext wr W := by rw [hW]; exact (Ext.refl _).alloc _
          have h1 := ext_blk1 (show Ext (wr.alloc (.cells #[Value.int .i64 e.fr, .int .i64 e.le, .int .i64 e.to] 65)) W by rw [hW]; exact Ext.refl _)
          have e0 : ∀ X, Ext W X → ∀ j, X.cell? ⟨w.heap.size, j, none⟩ = #[Value.int .i64 al, .int .i64 st, Value.slice (some ⟨b, o, none⟩) n c][j]? := fun X hX => ext_box ((hext.trans hx).trans hX)
          have e1 : ∀ X, Ext W X → ∀ j, X.cell? ⟨wr.heap.size, j, none⟩ = #[Value.int .i64 e.fr, .int .i64 e.le, .int .i64 e.to][j]? := fun X hX => (h1.ext hX).cell
          rw [← hW]
          have hr := Ext.refl W
          clear hW h1 hbx c0 c1 c2
          have hfin : ∀ X, Ext W X → Ext w X := fun X hX => ((((Ext.refl _).alloc _).trans hext).trans hx).trans hX
          have Hfin := hide hfin
          clear hfin
          have hge : (List.range n)[k]? = some k := by rw [List.getElem?_range hlt]
          have Hge := hide hge
          clear hge
          cases hA : (decide (0 ≤ e.fr) && decide (e.fr < st))
          · have HA := hide hA
            clear hA
            have hA := HA; clear HA
            refine wp_region_ord (fun X => Ext W X) [0, 1, 2, 3, 4, 5, 6, 7, 8, 9, 10, 11, 12, 13, 14, 15, 16, 17, 18, 19, 20, 21, 22, 23, 24, 25, 26, 27, 28, 29, 30, 31, 32, 33, 34, 35, 36, 37, 38, 39] (by kernel_rfl) rfl (by kernel_rfl) (by kernel_rfl) (fun _ _ _ _ _ h => h) ((Ext.refl _).drew) (fun hS => ?_)
            repeat (first | (refine seq_skip rfl rfl (by assumption) ?_; simp only [Act.put, List.setIfInBounds_toArray, List.set_cons_zero, List.set_cons_succ]) | (refine seq_read (v := ?_) rfl rfl rfl (fun X hX => ?_) (by assumption) ?_; rotate_left; (focus (go_simp <;> with_reducible rfl)); simp only [Act.put, List.setIfInBounds_toArray, List.set_cons_zero, List.set_cons_succ]))
            refine seq_step rfl rfl rfl (fun K hK => ?_)
            go_simp
            refine (impl_isState).mono ?_
            rw [hA.out]; rintro r w2 ⟨rfl, hx2⟩
            refine hK.out _ _ (Ext.trans (by assumption) hx2) (fun hS => ?_)
            try simp only [Act.put, List.setIfInBounds_toArray, List.set_cons_zero, List.set_cons_succ]
            repeat (first | (refine seq_skip rfl rfl (by assumption) ?_; simp only [Act.put, List.setIfInBounds_toArray, List.set_cons_zero, List.set_cons_succ]) | (refine seq_read (v := ?_) rfl rfl rfl (fun X hX => ?_) (by assumption) ?_; rotate_left; (focus (go_simp <;> with_reducible rfl)); simp only [Act.put, List.setIfInBounds_toArray, List.set_cons_zero, List.set_cons_succ]))
            refine seq_nil ?_
            go_wp2_with fail
            go_ret
            exact ⟨ret_bool (by rw [Hv.out, all_stop Hge.out (by rw [edgeOK, he.out]; dsimp only; rw [edgB, hA.out]; simp)]; simp), Hfin.out _ (by assumption)⟩
          · have HA := hide hA
            clear hA
            have hA := HA; clear HA
            cases hB : (decide (0 ≤ e.to) && decide (e.to < st))
            · have HB := hide hB
              clear hB
              have hB := HB; clear HB
              refine wp_region_ord (fun X => Ext W X) [0, 1, 2, 3, 4, 5, 6, 7, 8, 9, 10, 11, 12, 13, 14, 15, 16, 17, 18, 19, 20, 21, 22, 23, 24, 25, 26, 27, 28, 29, 30, 31, 32, 33, 34, 35, 36, 37, 38, 39] (by kernel_rfl) rfl (by kernel_rfl) (by kernel_rfl) (fun _ _ _ _ _ h => h) ((Ext.refl _).drew) (fun hS => ?_)
              repeat (first | (refine seq_skip rfl rfl (by assumption) ?_; simp only [Act.put, List.setIfInBounds_toArray, List.set_cons_zero, List.set_cons_succ]) | (refine seq_read (v := ?_) rfl rfl rfl (fun X hX => ?_) (by assumption) ?_; rotate_left; (focus (go_simp <;> with_reducible rfl)); simp only [Act.put, List.setIfInBounds_toArray, List.set_cons_zero, List.set_cons_succ]))
              refine seq_step rfl rfl rfl (fun K hK => ?_)
              go_simp
              refine (impl_isState).mono ?_
              rw [hA.out]; rintro r w2 ⟨rfl, hx2⟩
              refine hK.out _ _ (Ext.trans (by assumption) hx2) (fun hS => ?_)
              try simp only [Act.put, List.setIfInBounds_toArray, List.set_cons_zero, List.set_cons_succ]
              repeat (first | (refine seq_skip rfl rfl (by assumption) ?_; simp only [Act.put, List.setIfInBounds_toArray, List.set_cons_zero, List.set_cons_succ]) | (refine seq_read (v := ?_) rfl rfl rfl (fun X hX => ?_) (by assumption) ?_; rotate_left; (focus (go_simp <;> with_reducible rfl)); simp only [Act.put, List.setIfInBounds_toArray, List.set_cons_zero, List.set_cons_succ]))
              refine seq_step rfl rfl rfl (fun K hK => ?_)
              go_simp
              refine (impl_isState).mono ?_
              rw [hB.out]; rintro r w3 ⟨rfl, hx3⟩
              refine hK.out _ _ (Ext.trans (by assumption) hx3) (fun hS => ?_)
              try simp only [Act.put, List.setIfInBounds_toArray, List.set_cons_zero, List.set_cons_succ]
              repeat (first | (refine seq_skip rfl rfl (by assumption) ?_; simp only [Act.put, List.setIfInBounds_toArray, List.set_cons_zero, List.set_cons_succ]) | (refine seq_read (v := ?_) rfl rfl rfl (fun X hX => ?_) (by assumption) ?_; rotate_left; (focus (go_simp <;> with_reducible rfl)); simp only [Act.put, List.setIfInBounds_toArray, List.set_cons_zero, List.set_cons_succ]))
              refine seq_nil ?_
              go_wp2_with fail
              go_ret
              exact ⟨ret_bool (by rw [Hv.out, all_stop Hge.out (by rw [edgeOK, he.out]; dsimp only; rw [edgB, hA.out, hB.out]; simp)]; simp), Hfin.out _ (by assumption)⟩
            · have HB := hide hB
              clear hB
              have hB := HB; clear HB
              by_cases hle : 6 ≤ e.le
              · have hL : decide (6 ≤ e.le) = true := by simp; omega
                refine wp_region_ord (fun X => Ext W X) [0, 1, 2, 3, 4, 5, 6, 7, 8, 9, 10, 11, 12, 13, 14, 15, 16, 17, 18, 19, 20, 21, 22, 23, 24, 25, 26, 27, 28, 29, 30, 31, 32, 33, 34, 35, 36, 37, 38, 39] (by kernel_rfl) rfl (by kernel_rfl) (by kernel_rfl) (fun _ _ _ _ _ h => h) ((Ext.refl _).drew) (fun hS => ?_)
                repeat (first | (refine seq_skip rfl rfl (by assumption) ?_; simp only [Act.put, List.setIfInBounds_toArray, List.set_cons_zero, List.set_cons_succ]) | (refine seq_read (v := ?_) rfl rfl rfl (fun X hX => ?_) (by assumption) ?_; rotate_left; (focus (go_simp <;> with_reducible rfl)); simp only [Act.put, List.setIfInBounds_toArray, List.set_cons_zero, List.set_cons_succ]))
                refine seq_step rfl rfl rfl (fun K hK => ?_)
                go_simp
                refine (impl_isState).mono ?_
                rw [hA.out]; rintro r w2 ⟨rfl, hx2⟩
                refine hK.out _ _ (Ext.trans (by assumption) hx2) (fun hS => ?_)
                try simp only [Act.put, List.setIfInBounds_toArray, List.set_cons_zero, List.set_cons_succ]
                repeat (first | (refine seq_skip rfl rfl (by assumption) ?_; simp only [Act.put, List.setIfInBounds_toArray, List.set_cons_zero, List.set_cons_succ]) | (refine seq_read (v := ?_) rfl rfl rfl (fun X hX => ?_) (by assumption) ?_; rotate_left; (focus (go_simp <;> with_reducible rfl)); simp only [Act.put, List.setIfInBounds_toArray, List.set_cons_zero, List.set_cons_succ]))
                refine seq_step rfl rfl rfl (fun K hK => ?_)
                go_simp
                refine (impl_isState).mono ?_
                rw [hB.out]; rintro r w3 ⟨rfl, hx3⟩
                refine hK.out _ _ (Ext.trans (by assumption) hx3) (fun hS => ?_)
                try simp only [Act.put, List.setIfInBounds_toArray, List.set_cons_zero, List.set_cons_succ]
                repeat (first | (refine seq_skip rfl rfl (by assumption) ?_; simp only [Act.put, List.setIfInBounds_toArray, List.set_cons_zero, List.set_cons_succ]) | (refine seq_read (v := ?_) rfl rfl rfl (fun X hX => ?_) (by assumption) ?_; rotate_left; (focus (go_simp <;> with_reducible rfl)); simp only [Act.put, List.setIfInBounds_toArray, List.set_cons_zero, List.set_cons_succ]))
                refine seq_nil ?_
                go_wp2_with fail
                go_ret
                exact ⟨ret_bool (by rw [Hv.out, all_stop Hge.out (by rw [edgeOK, he.out]; dsimp only; rw [edgB, hA.out, hB.out]; simp; omega)]; simp), Hfin.out _ (by assumption)⟩
              · have hL : decide (6 ≤ e.le) = false := by simp; omega
                have hlt6 := hide (show decide (e.le < 6) = true by simp; omega)
                cases hC : hasB al e.le
                · have HC := hide hC
                  clear hC
                  have hC := HC; clear HC
                  refine wp_region_ord (fun X => Ext W X) [0, 1, 2, 3, 4, 5, 6, 7, 8, 9, 10, 11, 12, 13, 14, 15, 16, 17, 18, 19, 20, 21, 22, 23, 24, 25, 26, 27, 28, 29, 30, 31, 32, 33, 34, 35, 36, 37, 38, 39] (by kernel_rfl) rfl (by kernel_rfl) (by kernel_rfl) (fun _ _ _ _ _ h => h) ((Ext.refl _).drew) (fun hS => ?_)
                  repeat (first | (refine seq_skip rfl rfl (by assumption) ?_; simp only [Act.put, List.setIfInBounds_toArray, List.set_cons_zero, List.set_cons_succ]) | (refine seq_read (v := ?_) rfl rfl rfl (fun X hX => ?_) (by assumption) ?_; rotate_left; (focus (go_simp <;> with_reducible rfl)); simp only [Act.put, List.setIfInBounds_toArray, List.set_cons_zero, List.set_cons_succ]))
                  refine seq_step rfl rfl rfl (fun K hK => ?_)
                  go_simp
                  refine (impl_isState).mono ?_
                  rw [hA.out]; rintro r w2 ⟨rfl, hx2⟩
                  refine hK.out _ _ (Ext.trans (by assumption) hx2) (fun hS => ?_)
                  try simp only [Act.put, List.setIfInBounds_toArray, List.set_cons_zero, List.set_cons_succ]
                  repeat (first | (refine seq_skip rfl rfl (by assumption) ?_; simp only [Act.put, List.setIfInBounds_toArray, List.set_cons_zero, List.set_cons_succ]) | (refine seq_read (v := ?_) rfl rfl rfl (fun X hX => ?_) (by assumption) ?_; rotate_left; (focus (go_simp <;> with_reducible rfl)); simp only [Act.put, List.setIfInBounds_toArray, List.set_cons_zero, List.set_cons_succ]))
                  refine seq_step rfl rfl rfl (fun K hK => ?_)
                  go_simp
                  refine (impl_isState).mono ?_
                  rw [hB.out]; rintro r w3 ⟨rfl, hx3⟩
                  refine hK.out _ _ (Ext.trans (by assumption) hx3) (fun hS => ?_)
                  try simp only [Act.put, List.setIfInBounds_toArray, List.set_cons_zero, List.set_cons_succ]
                  repeat (first | (refine seq_skip rfl rfl (by assumption) ?_; simp only [Act.put, List.setIfInBounds_toArray, List.set_cons_zero, List.set_cons_succ]) | (refine seq_read (v := ?_) rfl rfl rfl (fun X hX => ?_) (by assumption) ?_; rotate_left; (focus (go_simp <;> with_reducible rfl)); simp only [Act.put, List.setIfInBounds_toArray, List.set_cons_zero, List.set_cons_succ]))
                  refine seq_step rfl rfl rfl (fun K hK => ?_)
                  go_simp
                  refine (impl_has _ _ hsm _).mono ?_
                  rw [hC.out]; rintro r w4 ⟨rfl, rfl⟩
                  refine hK.out _ _ (by assumption) (fun hS => ?_)
                  try simp only [Act.put, List.setIfInBounds_toArray, List.set_cons_zero, List.set_cons_succ]
                  repeat (first | (refine seq_skip rfl rfl (by assumption) ?_; simp only [Act.put, List.setIfInBounds_toArray, List.set_cons_zero, List.set_cons_succ]) | (refine seq_read (v := ?_) rfl rfl rfl (fun X hX => ?_) (by assumption) ?_; rotate_left; (focus (go_simp <;> with_reducible rfl)); simp only [Act.put, List.setIfInBounds_toArray, List.set_cons_zero, List.set_cons_succ]))
                  refine seq_nil ?_
                  go_wp2_with fail
                  go_ret
                  exact ⟨ret_bool (by rw [Hv.out, all_stop Hge.out (by rw [edgeOK, he.out]; dsimp only; rw [edgB, hA.out, hB.out, hC.out]; simp)]; simp), Hfin.out _ (by assumption)⟩
                · have HC := hide hC
                  clear hC
                  have hC := HC; clear HC
                  have hedg := hide (show edgB al st e = true by rw [edgB, hA.out, hB.out, hC.out, hlt6.out]; rfl)
                  by_cases hk0 : k = 0
                  · subst hk0
                    refine wp_region_ord (fun X => Ext W X) [0, 1, 2, 3, 4, 5, 6, 7, 8, 9, 10, 11, 12, 13, 14, 15, 16, 17, 18, 19, 20, 21, 22, 23, 24, 25, 26, 27, 28, 29, 30, 31, 32, 33, 34, 35, 36, 37, 38, 39] (by kernel_rfl) rfl (by kernel_rfl) (by kernel_rfl) (fun _ _ _ _ _ h => h) ((Ext.refl _).drew) (fun hS => ?_)
                    repeat (first | (refine seq_skip rfl rfl (by assumption) ?_; simp only [Act.put, List.setIfInBounds_toArray, List.set_cons_zero, List.set_cons_succ]) | (refine seq_read (v := ?_) rfl rfl rfl (fun X hX => ?_) (by assumption) ?_; rotate_left; (focus (go_simp <;> with_reducible rfl)); simp only [Act.put, List.setIfInBounds_toArray, List.set_cons_zero, List.set_cons_succ]))
                    refine seq_step rfl rfl rfl (fun K hK => ?_)
                    go_simp
                    refine (impl_isState).mono ?_
                    rw [hA.out]; rintro r w2 ⟨rfl, hx2⟩
                    refine hK.out _ _ (Ext.trans (by assumption) hx2) (fun hS => ?_)
                    try simp only [Act.put, List.setIfInBounds_toArray, List.set_cons_zero, List.set_cons_succ]
                    repeat (first | (refine seq_skip rfl rfl (by assumption) ?_; simp only [Act.put, List.setIfInBounds_toArray, List.set_cons_zero, List.set_cons_succ]) | (refine seq_read (v := ?_) rfl rfl rfl (fun X hX => ?_) (by assumption) ?_; rotate_left; (focus (go_simp <;> with_reducible rfl)); simp only [Act.put, List.setIfInBounds_toArray, List.set_cons_zero, List.set_cons_succ]))
                    refine seq_step rfl rfl rfl (fun K hK => ?_)
                    go_simp
                    refine (impl_isState).mono ?_
                    rw [hB.out]; rintro r w3 ⟨rfl, hx3⟩
                    refine hK.out _ _ (Ext.trans (by assumption) hx3) (fun hS => ?_)
                    try simp only [Act.put, List.setIfInBounds_toArray, List.set_cons_zero, List.set_cons_succ]
                    repeat (first | (refine seq_skip rfl rfl (by assumption) ?_; simp only [Act.put, List.setIfInBounds_toArray, List.set_cons_zero, List.set_cons_succ]) | (refine seq_read (v := ?_) rfl rfl rfl (fun X hX => ?_) (by assumption) ?_; rotate_left; (focus (go_simp <;> with_reducible rfl)); simp only [Act.put, List.setIfInBounds_toArray, List.set_cons_zero, List.set_cons_succ]))
                    refine seq_step rfl rfl rfl (fun K hK => ?_)
                    go_simp
                    refine (impl_has _ _ hsm _).mono ?_
                    rw [hC.out]; rintro r w4 ⟨rfl, rfl⟩
                    refine hK.out _ _ (by assumption) (fun hS => ?_)
                    try simp only [Act.put, List.setIfInBounds_toArray, List.set_cons_zero, List.set_cons_succ]
                    repeat (first | (refine seq_skip rfl rfl (by assumption) ?_; simp only [Act.put, List.setIfInBounds_toArray, List.set_cons_zero, List.set_cons_succ]) | (refine seq_read (v := ?_) rfl rfl rfl (fun X hX => ?_) (by assumption) ?_; rotate_left; (focus (go_simp <;> with_reducible rfl)); simp only [Act.put, List.setIfInBounds_toArray, List.set_cons_zero, List.set_cons_succ]))
                    refine seq_nil ?_
                    go_wp2_with fail
                    go_roundw
                    case rel => exact ⟨0 + 1, by omega, by go_num, all_step Hge.out hall.out (by rw [edgeOK, he.out]; dsimp only; rw [hedg.out]; simp), (hext.trans hx).trans (by assumption)⟩
                    case measure => simp [intOf]; omega
                  · obtain ⟨j, rfl⟩ : ∃ j, k = j + 1 := ⟨k - 1, by omega⟩
                    have hp : s.edges[j]? = some (s.edges[j]'(by have := h.1; omega)) := List.getElem?_eq_getElem _
                    generalize s.edges[j]'(by have := h.1; omega) = p at hp
                    have Hp := hide hp
                    clear hp
                    have hpc := (HR.out wr (((Ext.refl _).alloc _).trans hext)).edge2 Hp.out
                    have p0 : ∀ X, Ext W X → X.cell? ⟨b, o + j * 3, none⟩ = some (.int .i64 p.fr) := fun X hX => (hx.trans hX).cell_some hpc.1
                    have p1 : ∀ X, Ext W X → X.cell? ⟨b, o + j * 3 + 1, none⟩ = some (.int .i64 p.le) := fun X hX => (hx.trans hX).cell_some hpc.2.1
                    have p2 : ∀ X, Ext W X → X.cell? ⟨b, o + j * 3 + 2, none⟩ = some (.int .i64 p.to) := fun X hX => (hx.trans hX).cell_some hpc.2.2
                    clear hpc
                    have hk1 : decide ((0 : Int) < (j : Int) + 1) = true := decide_eq_true (by omega)
                    have hw1 : IntKind.i64.wrap ((j : Int) + 1 - 1) = (j : Int) := by rw [IntKind.wrap_i64]; omega
                    have hw2 : IntKind.i64.wrap (j : Int) = (j : Int) := by rw [IntKind.wrap_i64]; omega
                    have hj0 : (0 : Int) ≤ (j : Int) := by omega
                    have hj1 : (j : Int) < (n : Int) := by omega
                    have hpl := cmpE_lt p e
                    have Hpl := hide hpl
                    clear hpl
                    by_cases hc : 0 ≤ cmpE p e
                    · have hcd : decide (0 ≤ cmpE p e) = true := by simpa using hc
                      have hnl := hide (show ltE p e = false by rw [Bool.eq_false_iff]; intro hh; have := Hpl.out.2 hh; omega)
                      refine wp_region_ord (fun X => Ext W X) [0, 1, 2, 3, 4, 5, 6, 7, 8, 9, 10, 11, 12, 13, 14, 15, 16, 17, 18, 19, 20, 21, 22, 23, 24, 25, 26, 27, 28, 29, 30, 31, 32, 33, 34, 35, 36, 37, 38, 39] (by kernel_rfl) rfl (by kernel_rfl) (by kernel_rfl) (fun _ _ _ _ _ h => h) ((Ext.refl _).drew) (fun hS => ?_)
                      repeat (first | (refine seq_skip rfl rfl (by assumption) ?_; simp only [Act.put, List.setIfInBounds_toArray, List.set_cons_zero, List.set_cons_succ]) | (refine seq_read (v := ?_) rfl rfl rfl (fun X hX => ?_) (by assumption) ?_; rotate_left; (focus (go_simp <;> with_reducible rfl)); simp only [Act.put, List.setIfInBounds_toArray, List.set_cons_zero, List.set_cons_succ]))
                      refine seq_step rfl rfl rfl (fun K hK => ?_)
                      go_simp
                      refine (impl_isState).mono ?_
                      rw [hA.out]; rintro r w2 ⟨rfl, hx2⟩
                      refine hK.out _ _ (Ext.trans (by assumption) hx2) (fun hS => ?_)
                      try simp only [Act.put, List.setIfInBounds_toArray, List.set_cons_zero, List.set_cons_succ]
                      repeat (first | (refine seq_skip rfl rfl (by assumption) ?_; simp only [Act.put, List.setIfInBounds_toArray, List.set_cons_zero, List.set_cons_succ]) | (refine seq_read (v := ?_) rfl rfl rfl (fun X hX => ?_) (by assumption) ?_; rotate_left; (focus (go_simp <;> with_reducible rfl)); simp only [Act.put, List.setIfInBounds_toArray, List.set_cons_zero, List.set_cons_succ]))
                      refine seq_step rfl rfl rfl (fun K hK => ?_)
                      go_simp
                      refine (impl_isState).mono ?_
                      rw [hB.out]; rintro r w3 ⟨rfl, hx3⟩
                      refine hK.out _ _ (Ext.trans (by assumption) hx3) (fun hS => ?_)
                      try simp only [Act.put, List.setIfInBounds_toArray, List.set_cons_zero, List.set_cons_succ]
                      repeat (first | (refine seq_skip rfl rfl (by assumption) ?_; simp only [Act.put, List.setIfInBounds_toArray, List.set_cons_zero, List.set_cons_succ]) | (refine seq_read (v := ?_) rfl rfl rfl (fun X hX => ?_) (by assumption) ?_; rotate_left; (focus (go_simp <;> with_reducible rfl)); simp only [Act.put, List.setIfInBounds_toArray, List.set_cons_zero, List.set_cons_succ]))
                      refine seq_step rfl rfl rfl (fun K hK => ?_)
                      go_simp
                      refine (impl_has _ _ hsm _).mono ?_
                      rw [hC.out]; rintro r w4 ⟨rfl, rfl⟩
                      refine hK.out _ _ (by assumption) (fun hS => ?_)
                      try simp only [Act.put, List.setIfInBounds_toArray, List.set_cons_zero, List.set_cons_succ]
                      repeat (first | (refine seq_skip rfl rfl (by assumption) ?_; simp only [Act.put, List.setIfInBounds_toArray, List.set_cons_zero, List.set_cons_succ]) | (refine seq_read (v := ?_) rfl rfl rfl (fun X hX => ?_) (by assumption) ?_; rotate_left; (focus (go_simp <;> with_reducible rfl)); simp only [Act.put, List.setIfInBounds_toArray, List.set_cons_zero, List.set_cons_succ]))
                      refine seq_step rfl rfl rfl (fun K hK => ?_)
                      go_simp
                      refine (impl_compareEdges (a := p) (b := e)).mono ?_
                      rintro r w5 ⟨rfl, hx5⟩
                      refine hK.out _ _ (Ext.trans (by assumption) hx5) (fun hS => ?_)
                      try simp only [Act.put, List.setIfInBounds_toArray, List.set_cons_zero, List.set_cons_succ]
                      repeat (first | (refine seq_skip rfl rfl (by assumption) ?_; simp only [Act.put, List.setIfInBounds_toArray, List.set_cons_zero, List.set_cons_succ]) | (refine seq_read (v := ?_) rfl rfl rfl (fun X hX => ?_) (by assumption) ?_; rotate_left; (focus (go_simp <;> with_reducible rfl)); simp only [Act.put, List.setIfInBounds_toArray, List.set_cons_zero, List.set_cons_succ]))
                      refine seq_nil ?_
                      go_wp2_with fail
                      go_ret
                      exact ⟨ret_bool (by rw [Hv.out, all_stop Hge.out (by rw [edgeOK, he.out]; dsimp only; rw [Nat.add_sub_cancel, Hp.out]; simp [hnl.out])]; simp), Hfin.out _ (by assumption)⟩
                    · have hcd : decide (0 ≤ cmpE p e) = false := by simp; omega
                      have hnl := hide (show ltE p e = true from Hpl.out.1 (by omega))
                      refine wp_region_ord (fun X => Ext W X) [0, 1, 2, 3, 4, 5, 6, 7, 8, 9, 10, 11, 12, 13, 14, 15, 16, 17, 18, 19, 20, 21, 22, 23, 24, 25, 26, 27, 28, 29, 30, 31, 32, 33, 34, 35, 36, 37, 38, 39] (by kernel_rfl) rfl (by kernel_rfl) (by kernel_rfl) (fun _ _ _ _ _ h => h) ((Ext.refl _).drew) (fun hS => ?_)
                      repeat (first | (refine seq_skip rfl rfl (by assumption) ?_; simp only [Act.put, List.setIfInBounds_toArray, List.set_cons_zero, List.set_cons_succ]) | (refine seq_read (v := ?_) rfl rfl rfl (fun X hX => ?_) (by assumption) ?_; rotate_left; (focus (go_simp <;> with_reducible rfl)); simp only [Act.put, List.setIfInBounds_toArray, List.set_cons_zero, List.set_cons_succ]))
                      refine seq_step rfl rfl rfl (fun K hK => ?_)
                      go_simp
                      refine (impl_isState).mono ?_
                      rw [hA.out]; rintro r w2 ⟨rfl, hx2⟩
                      refine hK.out _ _ (Ext.trans (by assumption) hx2) (fun hS => ?_)
                      try simp only [Act.put, List.setIfInBounds_toArray, List.set_cons_zero, List.set_cons_succ]
                      repeat (first | (refine seq_skip rfl rfl (by assumption) ?_; simp only [Act.put, List.setIfInBounds_toArray, List.set_cons_zero, List.set_cons_succ]) | (refine seq_read (v := ?_) rfl rfl rfl (fun X hX => ?_) (by assumption) ?_; rotate_left; (focus (go_simp <;> with_reducible rfl)); simp only [Act.put, List.setIfInBounds_toArray, List.set_cons_zero, List.set_cons_succ]))
                      refine seq_step rfl rfl rfl (fun K hK => ?_)
                      go_simp
                      refine (impl_isState).mono ?_
                      rw [hB.out]; rintro r w3 ⟨rfl, hx3⟩
                      refine hK.out _ _ (Ext.trans (by assumption) hx3) (fun hS => ?_)
                      try simp only [Act.put, List.setIfInBounds_toArray, List.set_cons_zero, List.set_cons_succ]
                      repeat (first | (refine seq_skip rfl rfl (by assumption) ?_; simp only [Act.put, List.setIfInBounds_toArray, List.set_cons_zero, List.set_cons_succ]) | (refine seq_read (v := ?_) rfl rfl rfl (fun X hX => ?_) (by assumption) ?_; rotate_left; (focus (go_simp <;> with_reducible rfl)); simp only [Act.put, List.setIfInBounds_toArray, List.set_cons_zero, List.set_cons_succ]))
                      refine seq_step rfl rfl rfl (fun K hK => ?_)
                      go_simp
                      refine (impl_has _ _ hsm _).mono ?_
                      rw [hC.out]; rintro r w4 ⟨rfl, rfl⟩
                      refine hK.out _ _ (by assumption) (fun hS => ?_)
                      try simp only [Act.put, List.setIfInBounds_toArray, List.set_cons_zero, List.set_cons_succ]
                      repeat (first | (refine seq_skip rfl rfl (by assumption) ?_; simp only [Act.put, List.setIfInBounds_toArray, List.set_cons_zero, List.set_cons_succ]) | (refine seq_read (v := ?_) rfl rfl rfl (fun X hX => ?_) (by assumption) ?_; rotate_left; (focus (go_simp <;> with_reducible rfl)); simp only [Act.put, List.setIfInBounds_toArray, List.set_cons_zero, List.set_cons_succ]))
                      refine seq_step rfl rfl rfl (fun K hK => ?_)
                      go_simp
                      refine (impl_compareEdges (a := p) (b := e)).mono ?_
                      rintro r w5 ⟨rfl, hx5⟩
                      refine hK.out _ _ (Ext.trans (by assumption) hx5) (fun hS => ?_)
                      try simp only [Act.put, List.setIfInBounds_toArray, List.set_cons_zero, List.set_cons_succ]
                      repeat (first | (refine seq_skip rfl rfl (by assumption) ?_; simp only [Act.put, List.setIfInBounds_toArray, List.set_cons_zero, List.set_cons_succ]) | (refine seq_read (v := ?_) rfl rfl rfl (fun X hX => ?_) (by assumption) ?_; rotate_left; (focus (go_simp <;> with_reducible rfl)); simp only [Act.put, List.setIfInBounds_toArray, List.set_cons_zero, List.set_cons_succ]))
                      refine seq_nil ?_
                      go_wp2_with fail
                      go_roundw
                      case rel => exact ⟨j + 1 + 1, by omega, by go_num, all_step Hge.out hall.out (by rw [edgeOK, he.out]; dsimp only; rw [Nat.add_sub_cancel, Hp.out, hedg.out]; simp [hnl.out]), (hext.trans hx).trans (by assumption)⟩
                      case measure => simp [intOf]; omega
        · obtain rfl : k = n := by omega
          go_wp2
          go_ret
          exact ⟨ret_bool (by rw [Hv.out, all_end (by simp) hall.out, hd.out]; simp; omega), ((Ext.refl _).alloc _).trans hext⟩
    · go_enter Try.func21, Try.ntmps21
      have hd := hide (show decide (0 ≤ s.al ∧ s.al ≤ 63) = true by simp; omega)
      go_wp2_with (go_at_call 22; refine (impl_isAlphabet _ _).mono ?_; rw [hd.out]; rintro e w' ⟨rfl, rfl⟩)
      all_goals go_ret
      all_goals exact ⟨ret_bool (by rw [Hv.out]; simp [hst]), (Ext.refl _).alloc _⟩
  · go_enter Try.func21, Try.ntmps21
    have hd := hide (show decide (0 ≤ s.al ∧ s.al ≤ 63) = false by simp; omega)
    go_wp2_with (go_at_call 22; refine (impl_isAlphabet _ _).mono ?_; rw [hd.out]; rintro e w' ⟨rfl, rfl⟩)
    go_ret
    exact ⟨ret_bool (by rw [Hv.out]; simp; omega), (Ext.refl _).alloc _⟩
end Go.Proofs.Ytcmgkekaeafgaaa
