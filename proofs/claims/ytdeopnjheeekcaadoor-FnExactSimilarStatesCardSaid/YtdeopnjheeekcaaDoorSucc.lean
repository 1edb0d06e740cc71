/- Plain: the sets of the states that letters lead to, and what makes edges answer each other, in bits. -/
import Derived.Test.YtdeopnjheeekcaaDoorSim
import Derived.Test.YtdeopnjheeekcaaDoorMem
namespace Go.Proofs.YtdeopnjheeekcaaDoor
open Go Go.RowKit

theorem foldl_bit (es : List Edg) (p : Edg → Prop) [DecidablePred p] (m k : Nat) : (es.foldl (fun m e => if p e then m ||| 2 ^ e.to.toNat else m) m).testBit k = true ↔ m.testBit k = true ∨ ∃ e ∈ es, p e ∧ e.to.toNat = k := by
  induction es generalizing m with
  | nil => simp
  | cons e r ih =>
    rw [List.foldl_cons, ih]
    by_cases hp : p e
    · rw [if_pos hp, Nat.testBit_or, Nat.testBit_two_pow]
      simp only [Bool.or_eq_true, decide_eq_true_eq, List.mem_cons]
      constructor
      · rintro ((h | h) | ⟨e', h1, h2⟩)
        · exact Or.inl h
        · exact Or.inr ⟨e, Or.inl rfl, hp, h⟩
        · exact Or.inr ⟨e', Or.inr h1, h2⟩
      · rintro (h | ⟨e', h1 | h1, h2⟩)
        · exact Or.inl (Or.inl h)
        · subst h1; exact Or.inl (Or.inr h2.2)
        · exact Or.inr ⟨e', h1, h2⟩
    · rw [if_neg hp]
      constructor
      · rintro (h | ⟨e', h1, h2⟩)
        · exact Or.inl h
        · exact Or.inr ⟨e', List.mem_cons_of_mem _ h1, h2⟩
      · rintro (h | ⟨e', h1, h2⟩)
        · exact Or.inl h
        · rcases List.mem_cons.1 h1 with h1 | h1
          · subst h1; exact absurd h2.1 hp
          · exact Or.inr ⟨e', h1, h2⟩
theorem succ_bit (es : List Edg) (i l : Int) (k : Nat) : (succ es i l).testBit k = true ↔ ∃ e ∈ es, (e.fr = i ∧ e.le = l) ∧ e.to.toNat = k := by
  have := foldl_bit es (fun e => e.fr = i ∧ e.le = l) 0 k
  simpa [succ] using this
/-- Edges between few states. -/
def Few (n : Nat) (es : List Edg) : Prop := ∀ e ∈ es, (0 ≤ e.fr ∧ e.fr < n) ∧ (0 ≤ e.le ∧ e.le < 6) ∧ (0 ≤ e.to ∧ e.to < n)
theorem E_iff {n : Nat} {es : List Edg} (h : Few n es) (i l k : Nat) : E es i l k ↔ (succ es i l).testBit k = true := by
  rw [succ_bit]
  constructor
  · rintro ⟨e, he, h1, h2, h3⟩
    exact ⟨e, he, ⟨h1, h2⟩, by omega⟩
  · rintro ⟨e, he, ⟨h1, h2⟩, h3⟩
    have := h e he
    exact ⟨e, he, h1, h2, by omega⟩
theorem succ_lt {n : Nat} {es : List Edg} (h : Few n es) (i l : Int) : succ es i l < 2 ^ n := by
  apply Nat.lt_pow_two_of_testBit
  intro k hk
  rw [Bool.eq_false_iff]
  intro hb
  obtain ⟨e, he, _, h3⟩ := (succ_bit es i l k).1 hb
  have := h e he
  omega
theorem succ_sm {n : Nat} {es : List Edg} (h : Few n es) (hn : n ≤ 16) (i l : Int) : Sm (succ es i l) :=
  Nat.lt_of_lt_of_le (succ_lt h i l) (by rw [show (4294967296 : Nat) = 2 ^ 32 from rfl]; exact Nat.pow_le_pow_right (by omega) (by omega))

/-- The numbers of one set and not of another. -/
def diff (a b : Nat) : Nat := a ^^^ (a &&& b)
theorem diff_bit (a b k : Nat) : (diff a b).testBit k = (a.testBit k && !b.testBit k) := by
  unfold diff
  rw [Nat.testBit_xor, Nat.testBit_and]
  cases a.testBit k <;> cases b.testBit k <;> rfl
theorem diff_le (a b : Nat) : diff a b ≤ a := by
  apply Nat.le_of_testBit
  intro k hk
  rw [diff_bit] at hk
  simp at hk
  exact hk.1
theorem ne_zero_bit {a : Nat} : a ≠ 0 ↔ ∃ k, a.testBit k = true := by
  constructor
  · intro h
    exact Nat.exists_testBit_of_ne_zero h
  · rintro ⟨k, hk⟩ rfl
    simp at hk
/-- All sets of these states together. -/
def orAll (R : List Nat) (ks : List Nat) : Nat := ks.foldl (fun m k => m ||| R.getD k 0) 0
theorem orAll_snoc (R ks : List Nat) (k : Nat) : orAll R (ks ++ [k]) = orAll R ks ||| R.getD k 0 := by simp [orAll]
theorem orAll_bit (R ks : List Nat) (j : Nat) : (orAll R ks).testBit j = true ↔ ∃ k ∈ ks, (R.getD k 0).testBit j = true := by
  have : ∀ m, (ks.foldl (fun m k => m ||| R.getD k 0) m).testBit j = true ↔ m.testBit j = true ∨ ∃ k ∈ ks, (R.getD k 0).testBit j = true := by
    induction ks with
    | nil => simp
    | cons x r ih =>
      intro m
      rw [List.foldl_cons, ih, Nat.testBit_or]
      simp only [Bool.or_eq_true, List.mem_cons, exists_eq_or_imp]
      exact or_assoc
  simpa [orAll] using this 0
theorem mem_letters {a n k : Nat} : k ∈ letters a n ↔ k < n ∧ a.testBit k = true := by simp [letters]
/-- One letter: the edges from i are answered by those from j. -/
def ansL (both : Bool) (es es' : List Edg) (R : List Nat) (i j l : Nat) : Bool :=
  (letters (succ es i l) 32).all (fun k => !(R.getD k 0 &&& succ es' j l == 0)) && !(both && diff (succ es' j l) (orAll R (letters (succ es i l) 32)) != 0)
def ansB (both : Bool) (es es' : List Edg) (R : List Nat) (i j : Nat) : Bool := (List.range 6).all (ansL both es es' R i j)

theorem rel_getD {R : List Nat} {k j : Nat} (h : (R.getD k 0).testBit j = true) : rel R k j := by
  refine ⟨?_, h⟩
  rcases Nat.lt_or_ge k R.length with h1 | h1
  · exact h1
  · rw [List.getD_eq_getElem?_getD, List.getElem?_eq_none h1] at h
    simp at h
theorem ansB_iff {both : Bool} {m n : Nat} {es es' : List Edg} {R : List Nat} {i j : Nat} (h : Few m es) (h' : Few n es') (hm : m ≤ 16) : ansB both es es' R i j = true ↔ Ok both es es' (rel R) i j := by
  unfold ansB ansL
  simp only [List.all_eq_true, List.mem_range, Bool.and_eq_true, Bool.not_eq_true', mem_letters]
  have hk32 : ∀ {l k : Nat}, (succ es i l).testBit k = true → k < 32 := fun {l k} hk => by
    obtain ⟨e, he, _, h3⟩ := (succ_bit es i l k).1 hk
    have := h e he
    omega
  have hl6 : ∀ {i l k : Nat}, E es i l k → l < 6 := fun {i l k} hk => by
    obtain ⟨e, he, _, h3, _⟩ := hk
    have := h e he
    omega
  have hl6' : ∀ {i l k : Nat}, E es' i l k → l < 6 := fun {i l k} hk => by
    obtain ⟨e, he, _, h3, _⟩ := hk
    have := h' e he
    omega
  constructor
  · intro hA
    refine ⟨fun l k hk => ?_, fun hb l k' hk' => ?_⟩
    · have hk1 := (E_iff h i l k).1 hk
      have h1 := (hA l (hl6 hk)).1 k ⟨hk32 hk1, hk1⟩
      have h2 : R.getD k 0 &&& succ es' j l ≠ 0 := by simpa using h1
      obtain ⟨k', hk'⟩ := ne_zero_bit.1 h2
      rw [Nat.testBit_and, Bool.and_eq_true] at hk'
      exact ⟨k', (E_iff h' j l k').2 hk'.2, rel_getD hk'.1⟩
    · have h1 := (hA l (hl6' hk')).2
      rw [hb, Bool.true_and] at h1
      have h2 : diff (succ es' j l) (orAll R (letters (succ es i l) 32)) = 0 := by simpa using h1
      have h3 := diff_bit (succ es' j l) (orAll R (letters (succ es i l) 32)) k'
      rw [h2, (E_iff h' j l k').1 hk'] at h3
      simp at h3
      obtain ⟨k, hk, hr⟩ := (orAll_bit _ _ _).1 h3
      exact ⟨k, (E_iff h i l k).2 (mem_letters.1 hk).2, rel_getD hr⟩
  · rintro ⟨h1, h2⟩ l hl
    refine ⟨fun k hk => ?_, ?_⟩
    · obtain ⟨k', hk', hr⟩ := h1 l k ((E_iff h i l k).2 hk.2)
      have : R.getD k 0 &&& succ es' j l ≠ 0 := ne_zero_bit.2 ⟨k', by rw [Nat.testBit_and, hr.2, (E_iff h' j l k').1 hk']; rfl⟩
      simpa using this
    · cases hb : both
      · rfl
      · rw [Bool.true_and]
        have : diff (succ es' j l) (orAll R (letters (succ es i l) 32)) = 0 := by
          apply Classical.byContradiction
          intro hne
          obtain ⟨k', hk'⟩ := ne_zero_bit.1 hne
          rw [diff_bit, Bool.and_eq_true] at hk'
          obtain ⟨k, hk, hr⟩ := h2 hb l k' ((E_iff h' j l k').2 hk'.1)
          have hk1 := (E_iff h i l k).1 hk
          have := (orAll_bit R (letters (succ es i l) 32) k').2 ⟨k, mem_letters.2 ⟨hk32 hk1, hk1⟩, hr.2⟩
          rw [this] at hk'
          simp at hk'
        rw [this]; rfl
end Go.Proofs.YtdeopnjheeekcaaDoor
