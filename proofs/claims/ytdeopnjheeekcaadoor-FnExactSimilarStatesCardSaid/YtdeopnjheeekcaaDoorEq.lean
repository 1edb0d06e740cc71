/- Contracts of the laws' own comparisons. -/
import Derived.Test.YtdeopnjheeekcaaDoorTo
namespace Go.Proofs.YtdeopnjheeekcaaDoor
open Go Go.RowKit
set_option maxHeartbeats 400000

theorem eq_stop {α : Type} [BEq α] [LawfulBEq α] {l m : List α} {k : Nat} {x y : α} (hx : l[k]? = some x) (hy : m[k]? = some y) (h : (x == y) = false) : (l == m) = false := by
  rw [beq_eq_false_iff_ne]
  rintro rfl
  rw [hx] at hy
  injection hy with hy
  subst hy
  simp at h
theorem eq_step {α : Type} [BEq α] [LawfulBEq α] {l m : List α} {k : Nat} {x y : α} (hx : l[k]? = some x) (hy : m[k]? = some y) (h : (x == y) = true) (hk : l.take k = m.take k) : l.take (k + 1) = m.take (k + 1) := by
  rw [List.take_add_one, List.take_add_one, hx, hy, hk, eq_of_beq h]
theorem eq_end {α : Type} [BEq α] [LawfulBEq α] {l m : List α} {k : Nat} (h1 : l.length ≤ k) (h2 : m.length ≤ k) (hk : l.take k = m.take k) : (l == m) = true := by
  rw [List.take_of_length_le h1, List.take_of_length_le h2] at hk
  simp [hk]
theorem eq_lens {α : Type} [BEq α] [LawfulBEq α] {l m : List α} (h : l.length ≠ m.length) : (l == m) = false := by
  rw [beq_eq_false_iff_ne]
  rintro rfl
  exact h rfl

theorem eqIntS_any (lo hi lo' hi' : Nat) (A : Option Addr) (n c : Nat) (B : Option Addr) (m d : Nat) (l l' : List Int) (w : World) (h : Reads w lo hi 1 A n (ints l)) (h' : Reads w lo' hi' 1 B m (ints l')) :
    Calls Tryd.prog 16 #[.slice A n c, .slice B m d] w fun e w' => e = .returned (.bool (l == l')) ∧ Ext w w' := by
  have hn := h.len
  have hm := h'.len
  have hl : l.length = n := by have := h.length; rw [ints_length] at this; omega
  have hl' : l'.length = m := by have := h'.length; rw [ints_length] at this; omega
  have Hl := hide hl
  have Hl' := hide hl'
  clear hl hl'
  by_cases he : n = m
  · subst he
    go_enter Tryd.func16, Tryd.ntmps16
    go_wp2
    go_loopw [5] (fun i wr => ∃ k : Nat, k ≤ n ∧ i = .int .i64 k ∧ Hid (l.take k = l'.take k) ∧ Ext w wr) (fun i _ => n - (intOf i).toNat)
    case atStart => exact ⟨0, Nat.zero_le _, rfl, rfl, Ext.refl _⟩
    case round =>
      obtain ⟨k, hk, rfl, heq, hext⟩ := hrel
      by_cases hlt : k < n
      · obtain ⟨ad, x, rfl, _, _, hx, hc⟩ := (h.ext hext).int hlt
        obtain ⟨ad', y, rfl, _, _, hy, hc'⟩ := (h'.ext hext).int hlt
        cases hb : x != y
        · go_wp2
          go_quiet (fail)
          go_wp2
          go_roundw
          case rel => exact ⟨k + 1, by omega, by go_num, eq_step hx.out hy.out (by simpa using hb) heq.out, hext.drewN _⟩
          case measure => simp [intOf]; omega
        · go_wp2
          go_quiet (fail)
          go_wp2
          go_ret
          exact ⟨ret_bool (by rw [eq_stop hx.out hy.out (by simpa using hb)]), hext.drewN _⟩
      · obtain rfl : k = n := by omega
        go_wp2
        go_ret
        exact ⟨ret_bool (by rw [eq_end (by have := Hl.out; omega) (by have := Hl'.out; omega) heq.out]), hext⟩
  · have hne : ((n : Int) != (m : Int)) = true := by simp; omega
    go_enter Tryd.func16, Tryd.ntmps16
    go_wp2
    go_ret
    exact ⟨ret_bool (by rw [eq_lens (by rw [Hl.out, Hl'.out]; exact he)]), Ext.refl _⟩
/-- Two automata are equal as data. -/
def autEq (a b : Aut) : Bool := decide (a.al = b.al) && (a.next == b.next && a.acc == b.acc)
theorem autEq_self (a : Aut) : autEq a a = true := by simp [autEq]
theorem autEq_eq {a b : Aut} (h : autEq a b = true) : a = b := by
  simp only [autEq, Bool.and_eq_true, decide_eq_true_eq, beq_iff_eq] at h
  cases a; cases b; simp_all

end Go.Proofs.YtdeopnjheeekcaaDoor
