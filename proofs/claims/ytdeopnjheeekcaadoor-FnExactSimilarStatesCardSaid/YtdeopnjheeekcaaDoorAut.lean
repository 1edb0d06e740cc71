/- Automata as data; how they lie in memory. -/
import Derived.Test.YtdeopnjheeekcaaDoorSz
namespace Go.Proofs.YtdeopnjheeekcaaDoor
open Go Go.RowKit
set_option maxHeartbeats 400000

structure Aut where
  al : Int
  next : List (List Int)
  acc : List Bool

/-- The three cells (al, Next, Accept) of an automaton. -/
def AutAt (w : World) (lo hi : Nat) (A : Option Addr) (n : Nat) (A' : Option Addr) (n' : Nat) (a : Aut) : Prop :=
  ReadsLL w lo hi A n a.next ∧ n' = a.acc.length ∧ Reads w lo hi 1 A' n' (bools a.acc)
section
variable {w w' : World} {lo hi n n' : Nat} {A A' : Option Addr} {a : Aut}
theorem AutAt.ext (h : AutAt w lo hi A n A' n' a) (hb : Ext w w') : AutAt w' lo hi A n A' n' a := ⟨h.1.ext hb, h.2.1, h.2.2.ext hb⟩
theorem AutAt.frm {S : Nat → Prop} (h : AutAt w lo hi A n A' n' a) (hb : Frm S w w') (hS : ∀ k, lo ≤ k → k < hi → ¬ S k) : AutAt w' lo hi A n A' n' a := ⟨h.1.frm hb hS, h.2.1, h.2.2.frm hb hS⟩
theorem AutAt.more {lo' hi' : Nat} (h : AutAt w lo hi A n A' n' a) (hL : lo' ≤ lo) (hH : hi ≤ hi') : AutAt w lo' hi' A n A' n' a := ⟨h.1.more hL hH, h.2.1, h.2.2.more hL hH⟩
theorem AutAt.n1 (h : AutAt w lo hi A n A' n' a) : n = a.next.length := h.1.1
theorem AutAt.n2 (h : AutAt w lo hi A n A' n' a) : n' = a.acc.length := h.2.1
end

/-- How many values an automaton holds. -/
def Aut.size (a : Aut) : Nat := a.next.length + tot a.next + a.acc.length

end Go.Proofs.YtdeopnjheeekcaaDoor
