/- From the row's reading of an argument to the words of the walks: slices of numbers, of truth values, of slices; automata. -/
import Derived.Test.YtekobefenngedaaTo
import Derived.ProofKit
import Derived.Deep.Slices
import Derived.Deep.Fields
import Derived.ChangeSame
import Derived.ChangeArms
import Derived.Lib.SmallJoins
import Derived.OpenShut
import Derived.ShutString
import Derived.ChangeOld
namespace Go.Proofs.Ytekobefenngedaa
open Go Go.RowKit Go.ChangeShapes Go.WideShapes Go.Deep

theorem map_choose {α : Type} (f : α → Value) (V : Nat → Value) : ∀ len : Nat, (∀ r, r < len → ∃ n, V r = f n) → ∃ l : List α, l.length = len ∧ (List.range len).map V = l.map f
  | 0, _ => ⟨[], rfl, rfl⟩
  | len + 1, h => by
    obtain ⟨l, hl, he⟩ := map_choose f V len fun r hr => h r (by omega)
    obtain ⟨n, hn⟩ := h len (by omega)
    exact ⟨l ++ [n], by simp [hl], by rw [List.range_succ, List.map_append, he]; simp [hn]⟩

section
variable {H : Type} {enc : TypeId × Value → H} {P : Program} {w : World} {spare : Nat → Bool} {held : Bool}

theorem open_one {t e : TypeId} {fuel : Nat} {cs : List Value} {x : DataW H × List MemPlace} (ht : P.underlying t = some (.slice e)) (hc : P.cellsOf e = 1) (h : DataW.trod enc P w 0 spare held fuel t cs = some x) :
    ∃ (A : Option Addr) (n c : Nat) (V : Nat → Value) (k : Nat), cs = [.slice A n c] ∧ Reads w 0 w.heap.size 1 A n ((List.range n).map V) ∧ ∀ i, i < n → ∃ y, DataW.trod enc P w 0 spare held k e [V i] = some y := by
  rcases open_slice1 ht hc h with ⟨rfl, _⟩ | ⟨a, len, cap, m, n, V, D, Pl, rfl, hb, hl, hm, hmm, _, hx⟩
  · exact ⟨none, 0, 0, fun _ => undef, 0, rfl, Reads.nil, fun i hi => by omega⟩
  · have hlm : len ≤ m := by rw [hmm]; split <;> omega
    refine ⟨some a, len, cap, V, n, rfl, ⟨by simp, by unfold maxLen at hm; omega, fun h0 => ?_⟩, fun i hi => ⟨_, (hx i (by omega)).2⟩⟩
    have hblk : a.block < w.heap.size := by
      have := World.block_lt_of_cell? w _ (hx 0 (by omega)).1
      rwa [addr_block] at this
    refine ⟨a, rfl, Nat.zero_le _, hblk, fun j u hu => ?_⟩
    have hj : j < len := by
      have := (List.getElem?_eq_some_iff.1 hu).1
      simpa using this
    rw [(hx j (by omega)).1]
    simpa [hj] using hu

theorem open_ints_ {t e : TypeId} {fuel : Nat} {cs : List Value} {x : DataW H × List MemPlace} (ht : P.underlying t = some (.slice e)) (he : P.underlying e = some (.int .i64)) (hc : P.cellsOf e = 1) (h : DataW.trod enc P w 0 spare held fuel t cs = some x) :
    ∃ (A : Option Addr) (c : Nat) (l : List Int), cs = [.slice A l.length c] ∧ Reads w 0 w.heap.size 1 A l.length (ints l) := by
  obtain ⟨A, n, c, V, k, rfl, hr, hV⟩ := open_one ht hc h
  obtain ⟨l, hl, hm⟩ := map_choose (Value.int .i64) V n fun r hr => by
    obtain ⟨y, hy⟩ := hV r hr
    obtain ⟨m, hm, _⟩ := DataW.trod_int he hy
    exact ⟨m, by simpa using hm⟩
  subst hl
  rw [hm] at hr
  exact ⟨A, c, l, rfl, hr⟩

theorem open_bools_ {t e : TypeId} {fuel : Nat} {cs : List Value} {x : DataW H × List MemPlace} (ht : P.underlying t = some (.slice e)) (he : P.underlying e = some .bool) (hc : P.cellsOf e = 1) (h : DataW.trod enc P w 0 spare held fuel t cs = some x) :
    ∃ (A : Option Addr) (c : Nat) (l : List Bool), cs = [.slice A l.length c] ∧ Reads w 0 w.heap.size 1 A l.length (bools l) := by
  obtain ⟨A, n, c, V, k, rfl, hr, hV⟩ := open_one ht hc h
  obtain ⟨l, hl, hm⟩ := map_choose Value.bool V n fun r hr => by
    obtain ⟨y, hy⟩ := hV r hr
    obtain ⟨m, hm, _⟩ := DataW.trod_bool he hy
    exact ⟨m, by simpa using hm⟩
  subst hl
  rw [hm] at hr
  exact ⟨A, c, l, rfl, hr⟩

theorem rows_choose {w : World} (V : Nat → Value) : ∀ n : Nat, (∀ i, i < n → ∃ (A : Option Addr) (c : Nat) (l : List Int), V i = .slice A l.length c ∧ Reads w 0 w.heap.size 1 A l.length (ints l)) → ∃ ls : List (List Int), ls.length = n ∧ RowsAt w 0 w.heap.size ((List.range n).map V) ls
  | 0, _ => ⟨[], rfl, rfl, fun i row l h => by simp at h⟩
  | n + 1, h => by
    obtain ⟨ls, hl, hr⟩ := rows_choose V n fun i hi => h i (by omega)
    obtain ⟨A, c, l, hv, hx⟩ := h n (by omega)
    refine ⟨ls ++ [l], by simp [hl], by simp [hl], fun i row m hrow hm => ?_⟩
    have hi : i < n + 1 := by
      have := (List.getElem?_eq_some_iff.1 hrow).1
      simpa using this
    rcases Nat.lt_or_eq_of_le (Nat.le_of_lt_succ hi) with h1 | h1
    · refine hr.2 i row m ?_ ?_
      · simp only [List.getElem?_map] at hrow ⊢
        rw [List.getElem?_range (by omega)] at hrow
        rw [List.getElem?_range h1]
        exact hrow
      · rwa [List.getElem?_append_left (by omega)] at hm
    · subst h1
      simp at hrow
      rw [List.getElem?_append_right (by omega), hl, Nat.sub_self] at hm
      simp at hm
      subst hm; subst hrow
      exact ⟨A, c, hv, hx⟩

theorem open_intss_ {t e q : TypeId} {fuel : Nat} {cs : List Value} {x : DataW H × List MemPlace} (ht : P.underlying t = some (.slice e)) (he : P.underlying e = some (.slice q)) (hq : P.underlying q = some (.int .i64)) (hc : P.cellsOf e = 1) (hcq : P.cellsOf q = 1)
    (h : DataW.trod enc P w 0 spare held fuel t cs = some x) :
    ∃ (A : Option Addr) (n c : Nat) (ls : List (List Int)), cs = [.slice A n c] ∧ ReadsLL w 0 w.heap.size A n ls := by
  obtain ⟨A, n, c, V, k, rfl, hr, hV⟩ := open_one ht hc h
  obtain ⟨ls, hl, hm⟩ := rows_choose (w := w) V n fun i hi => by
    obtain ⟨y, hy⟩ := hV i hi
    obtain ⟨A, c, l, hl, hr⟩ := open_ints_ he hq hcq hy
    exact ⟨A, c, l, by simpa using hl, hr⟩
  exact ⟨A, n, c, ls, rfl, hl.symm, _, hr, hm⟩

/-- An automaton that came in, as the cells of a struct. -/
theorem open_aut {t e q b : TypeId} {f0 f1 f2 : Field} {fuel : Nat} {cs : List Value} {x : DataW H × List MemPlace} (ht : P.underlying t = some (.struct #[f0, f1, f2])) (hC : P.cellsOf t = 3)
    (o0 : f0.offset = 0) (o1 : f1.offset = 1) (o2 : f2.offset = 2) (c0 : P.cellsOf f0.type = 1) (c1 : P.cellsOf f1.type = 1) (c2 : P.cellsOf f2.type = 1)
    (u0 : P.underlying f0.type = some (.int .i64)) (u1 : P.underlying f1.type = some (.slice e)) (ue : P.underlying e = some (.slice q)) (uq : P.underlying q = some (.int .i64)) (ce : P.cellsOf e = 1) (cq : P.cellsOf q = 1)
    (u2 : P.underlying f2.type = some (.slice b)) (ub : P.underlying b = some .bool) (cb : P.cellsOf b = 1)
    (h : DataW.trod enc P w 0 spare held fuel t cs = some x) :
    ∃ (a : Aut) (A : Option Addr) (n c : Nat) (A' : Option Addr) (n' c' : Nat), cs = [.int .i64 a.al, .slice A n c, .slice A' n' c'] ∧ AutAt w 0 w.heap.size A n A' n' a := by
  obtain ⟨y0, y1, y2, k, _, hl, h0, h1, h2⟩ := trod_struct3 ht h
  rw [hC] at hl
  match cs, hl with
  | [v0, v1, v2], _ =>
    rw [o0, c0] at h0
    rw [o1, c1] at h1
    rw [o2, c2] at h2
    obtain ⟨al, e0, _⟩ := DataW.trod_int u0 h0
    obtain ⟨A, n, c, ls, e1, hr1⟩ := open_intss_ u1 ue uq ce cq h1
    obtain ⟨A', c', l, e2, hr2⟩ := open_bools_ u2 ub cb h2
    simp at e0 e1 e2
    subst e0; subst e1; subst e2
    exact ⟨⟨al, ls, l⟩, A, n, c, A', _, c', rfl, hr1, rfl, hr2⟩
theorem array5 {α : Type} {cs : Array α} (h : cs.size = 5) : ∃ c0 c1 c2 c3 c4, cs = #[c0, c1, c2, c3, c4] := by
  obtain ⟨l⟩ := cs
  match l, h with
  | [c0, c1, c2, c3, c4], _ => exact ⟨c0, c1, c2, c3, c4, rfl⟩
end
end Go.Proofs.Ytekobefenngedaa
