/- Plain: spec.l15Follows asks the first half of 'the edges are answered'. -/
import Derived.Test.YtdeopnjheeekcaaDoorFol
namespace Go.Proofs.YtdeopnjheeekcaaDoor
open Go Go.RowKit

theorem fol_iff {p q : Nat} {es es' : List Edg} {R : List Nat} {i j : Nat} (h : Few p es) (h' : Few q es') : es.all (folE es' R i j) = true ↔ ∀ l k, E es i l k → ∃ k', E es' j l k' ∧ rel R k k' := by
  rw [List.all_eq_true]
  constructor
  · rintro hA l k ⟨e, he, h1, h2, h3⟩
    have := hA e he
    unfold folE at this
    rw [stepB_one h', h1, h2, show e.to.toNat = k by omega] at this
    simp only [beq_self_eq_true, Bool.true_and, Bool.not_eq_true', beq_eq_false_iff_ne, ne_eq] at this
    obtain ⟨k', hk'⟩ := ne_zero_bit.1 this
    rw [Nat.testBit_and, Bool.and_eq_true] at hk'
    exact ⟨k', (E_iff h' j l k').2 hk'.1, rel_getD hk'.2⟩
  · intro hA e he
    unfold folE
    by_cases hi : e.fr = i
    · have hb := h e he
      obtain ⟨k', h1, h2⟩ := hA e.le.toNat e.to.toNat ⟨e, he, hi, by omega, by omega⟩
      have h3 := (E_iff h' j e.le.toNat k').1 h1
      rw [show ((e.le.toNat : Nat) : Int) = e.le by omega] at h3
      have : succ es' j e.le &&& R.getD e.to.toNat 0 ≠ 0 := ne_zero_bit.2 ⟨k', by rw [Nat.testBit_and, h3, h2.2]; rfl⟩
      rw [stepB_one h']
      simp only [Bool.not_eq_true', Bool.and_eq_false_iff, beq_eq_false_iff_ne, ne_eq]
      exact Or.inr this
    · have : (e.fr == (i : Int)) = false := by simpa using hi
      rw [this]; rfl
end Go.Proofs.YtdeopnjheeekcaaDoor
