/- Automata as data; how they lie in memory. -/
import Derived.Test.YtekobefenngedaaSz
namespace Go.Proofs.Ytekobefenngedaa
open Go Go.RowKit
set_option maxHeartbeats 400000

structure Aut where
  al : Int
  next : List (List Int)
  acc : List Bool

/-- The three cells (al, Next, Accept) of an automaton. -/
def AutAt (w : World) (lo hi : Nat) (A : Option Addr) (n : Nat) (A' : Option Addr) (n' : Nat) (a : Aut) : Prop :=
  ReadsLL w lo hi A n a.next ∧ n' = a.acc.length ∧ Reads w lo hi 1 A' n' (bools a.acc)
section
variable {w w' : World} {lo hi n n' : Nat} {A A' : Option Addr} {a : Aut}
theorem AutAt.ext (h : AutAt w lo hi A n A' n' a) (hb : Ext w w') : AutAt w' lo hi A n A' n' a := ⟨h.1.ext hb, h.2.1, h.2.2.ext hb⟩
theorem AutAt.frm {S : Nat → Prop} (h : AutAt w lo hi A n A' n' a) (hb : Frm S w w') (hS : ∀ k, lo ≤ k → k < hi → ¬ S k) : AutAt w' lo hi A n A' n' a := ⟨h.1.frm hb hS, h.2.1, h.2.2.frm hb hS⟩
theorem AutAt.more {lo' hi' : Nat} (h : AutAt w lo hi A n A' n' a) (hL : lo' ≤ lo) (hH : hi ≤ hi') : AutAt w lo' hi' A n A' n' a := ⟨h.1.more hL hH, h.2.1, h.2.2.more hL hH⟩
theorem AutAt.n1 (h : AutAt w lo hi A n A' n' a) : n = a.next.length := h.1.1
theorem AutAt.n2 (h : AutAt w lo hi A n A' n' a) : n' = a.acc.length := h.2.1
end

/-- How many values an automaton holds. -/
def Aut.size (a : Aut) : Nat := a.next.length + tot a.next + a.acc.length

theorem szAutomaton_any (lo hi : Nat) (A : Option Addr) (n c : Nat) (A' : Option Addr) (n' c' : Nat) (a : Aut) (left : Int) (w : World) (h : AutAt w lo hi A n A' n' a) (h0 : 0 ≤ left) (h1 : left ≤ 1048576) :
    Calls Try.prog 13 #[.agg #[.int .i64 a.al, .slice A n c, .slice A' n' c'], .int .i64 left] w fun e w' => e = .returned (.int .i64 (leftOf left a.size)) ∧ Ext w w' := by
  have hle := leftOf_le left (a.next.length + tot a.next) h1
  have hsz : leftOf left a.size = if leftOf left (a.next.length + tot a.next) < 0 then -1 else leftOf (leftOf left (a.next.length + tot a.next)) a.acc.length := by
    unfold leftOf Aut.size; (repeat' split) <;> omega
  have Hsz := hide hsz
  clear hsz
  have hR := fun W (hW : Ext w W) => h.1.ext hW
  have HR := hide hR
  clear hR
  have hn' := h.2.1
  have hl' := h.2.2.len
  subst hn'
  by_cases hneg : leftOf left (a.next.length + tot a.next) < 0
  · go_enter Try.func13, Try.ntmps13
    go_wp2_with (go_at_call 22; refine (szIntSS_any _ _ _ _ _ _ _ _ (HR.out _ ((Ext.refl _).alloc _)) h0 h1).mono ?_; rintro e w' ⟨rfl, rfl⟩)
    go_ret
    exact ⟨ret_int (by rw [Hsz.out, if_pos hneg]), (Ext.refl _).alloc _⟩
  · go_enter Try.func13, Try.ntmps13
    have hpos : 0 ≤ leftOf left (a.next.length + tot a.next) := by omega
    go_wp2_with (first
      | (go_at_call 22; refine (szIntSS_any _ _ _ _ _ _ _ _ (HR.out _ ((Ext.refl _).alloc _)) h0 h1).mono ?_; rintro e w' ⟨rfl, rfl⟩)
      | (go_at_call 23; refine (szBoolS_any _ _ _ _ _ hl' hpos hle).mono ?_; rintro e w' ⟨rfl, rfl⟩))
    all_goals go_ret
    · exact ⟨ret_int (by have := Hsz.out; have := leftOf_ge (leftOf left (a.next.length + tot a.next)) a.acc.length; rw [if_neg (by omega)] at *; omega), (Ext.refl _).alloc _⟩
    · exact ⟨ret_int (by have := Hsz.out; rw [if_neg (by omega)] at *; omega), (Ext.refl _).alloc _⟩
end Go.Proofs.Ytekobefenngedaa
