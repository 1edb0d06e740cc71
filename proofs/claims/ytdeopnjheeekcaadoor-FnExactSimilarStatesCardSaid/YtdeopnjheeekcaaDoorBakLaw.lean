/- Plain: what spec.l15Backs asks is the other half of 'the edges are answered'. -/
import Derived.Test.YtdeopnjheeekcaaDoorStep
namespace Go.Proofs.YtdeopnjheeekcaaDoor
open Go Go.RowKit

/-- One edge of the second system is no edge from j, or is answered by one from i. -/
def bakE (p : Nat) (es : List Edg) (R : List Nat) (i j : Nat) (e : Edg) : Bool := !(e.fr == (j : Int)) || (List.range p).any fun n => (stepB es (2 ^ i) e.le).testBit n && (R.getD n 0).testBit e.to.toNat
theorem bak_iff {p q : Nat} {es es' : List Edg} {R : List Nat} {i j : Nat} (h : Few p es) (h' : Few q es') : es'.all (bakE p es R i j) = true ↔ ∀ l k', E es' j l k' → ∃ k, E es i l k ∧ rel R k k' := by
  rw [List.all_eq_true]
  constructor
  · rintro hA l k' ⟨e, he, h1, h2, h3⟩
    have := hA e he
    unfold bakE at this
    rw [stepB_one h, h1, h2, show e.to.toNat = k' by omega] at this
    simp only [beq_self_eq_true, Bool.not_true, Bool.false_or, List.any_eq_true, List.mem_range, Bool.and_eq_true] at this
    obtain ⟨k, _, hk1, hk2⟩ := this
    exact ⟨k, (E_iff h i l k).2 hk1, rel_getD hk2⟩
  · intro hA e he
    unfold bakE
    by_cases hj : e.fr = j
    · have hb := h' e he
      obtain ⟨k, h1, h2⟩ := hA e.le.toNat e.to.toNat ⟨e, he, hj, by omega, by omega⟩
      have h3 := (E_iff h i e.le.toNat k).1 h1
      rw [show ((e.le.toNat : Nat) : Int) = e.le by omega] at h3
      obtain ⟨e', he', _, _, h4⟩ := h1
      have := h e' he'
      rw [stepB_one h]
      simp only [Bool.or_eq_true, List.any_eq_true, List.mem_range, Bool.and_eq_true]
      exact Or.inr ⟨k, by omega, h3, h2.2⟩
    · have : (e.fr == (j : Int)) = false := by simpa using hj
      rw [this]; rfl
end Go.Proofs.YtdeopnjheeekcaaDoor
