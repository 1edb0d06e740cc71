/- From the row's reading of an argument to the words of the walks: edges, systems, slices of systems. -/
import Derived.Test.YtdeopnjheeekcaaDoorOpen
import Derived.Test.YtdeopnjheeekcaaDoorSL
namespace Go.Proofs.YtdeopnjheeekcaaDoor
open Go Go.RowKit Go.ChangeShapes Go.WideShapes Go.Deep

section
variable {H : Type} {enc : TypeId × Value → H} {P : Program} {w : World} {spare : Nat → Bool} {held : Bool}

theorem open_three {t e : TypeId} {fuel : Nat} {cs : List Value} {x : DataW H × List MemPlace} (ht : P.underlying t = some (.slice e)) (hc : P.cellsOf e = 3) (h : DataW.trod enc P w 0 spare held fuel t cs = some x) :
    ∃ (A : Option Addr) (n c : Nat) (V : Nat → Value) (k : Nat), cs = [.slice A n c] ∧ Reads w 0 w.heap.size 3 A n ((List.range (n * 3)).map V) ∧ ∀ i, i < n → ∃ y, DataW.trod enc P w 0 spare held k e [V (i * 3), V (i * 3 + 1), V (i * 3 + 2)] = some y := by
  rcases open_slice ht h with ⟨rfl, _⟩ | ⟨a, len, cap, m, n, D, Pl, rfl, hb, hl, hm, hmm, _, hx⟩
  · exact ⟨none, 0, 0, fun _ => undef, 0, rfl, Reads.nil, fun i hi => by omega⟩
  · have hlm : len ≤ m := by rw [hmm]; split <;> omega
    rw [hc] at hx
    have hcell : ∀ i j, i < len → j < 3 → (w.cell? (a.add (i * 3 + j))).isSome = true := fun i j hi hj => by
      obtain ⟨cs', h1, h2⟩ := hx i (by omega)
      obtain ⟨_, hn, hg⟩ := World.cells?_some h1
      rw [← addr_add, hg j hj, List.getElem?_eq_getElem (by omega)]
      rfl
    have hV : ∀ q, q < len * 3 → w.cell? (a.add q) = some ((w.cell? (a.add q)).getD undef) := fun q hq => by
      have h1 := hcell (q / 3) (q % 3) (by omega) (by omega)
      rw [show q / 3 * 3 + q % 3 = q by omega] at h1
      obtain ⟨v, hv⟩ := Option.isSome_iff_exists.1 h1
      rw [hv]; rfl
    refine ⟨some a, len, cap, fun q => (w.cell? (a.add q)).getD undef, n, rfl, ⟨by simp, by unfold maxLen at hm; omega, fun h0 => ?_⟩, fun i hi => ?_⟩
    · have hblk : a.block < w.heap.size := by
        have := World.block_lt_of_cell? w _ (hV 0 (by omega))
        rwa [addr_block] at this
      refine ⟨a, rfl, Nat.zero_le _, hblk, fun j u hu => ?_⟩
      have hj : j < len * 3 := by
        have := (List.getElem?_eq_some_iff.1 hu).1
        simpa using this
      rw [hV j hj]
      simpa [hj] using hu
    · obtain ⟨cs', h1, h2⟩ := hx i (by omega)
      obtain ⟨_, hn, hg⟩ := World.cells?_some h1
      refine ⟨(D i, Pl i), ?_⟩
      rw [← h2]
      congr 1
      match cs', hn with
      | [v0, v1, v2], _ =>
        have e0 := hg 0 (by omega)
        have e1 := hg 1 (by omega)
        have e2 := hg 2 (by omega)
        rw [addr_add] at e0 e1 e2
        rw [Nat.add_zero] at e0
        simp only [e0, e1, e2]
        rfl

theorem edges_choose (V : Nat → Value) : ∀ n : Nat, (∀ i, i < n → ∃ a b c : Int, V (i * 3) = .int .i64 a ∧ V (i * 3 + 1) = .int .i64 b ∧ V (i * 3 + 2) = .int .i64 c) → ∃ l : List Edg, l.length = n ∧ (List.range (n * 3)).map V = edgeCells l
  | 0, _ => ⟨[], rfl, rfl⟩
  | n + 1, h => by
    obtain ⟨l, hl, he⟩ := edges_choose V n fun i hi => h i (by omega)
    obtain ⟨a, b, c, ha, hb, hc⟩ := h n (by omega)
    refine ⟨l ++ [⟨a, b, c⟩], by simp [hl], ?_⟩
    rw [show (n + 1) * 3 = n * 3 + 1 + 1 + 1 by omega, List.range_succ, List.range_succ, List.range_succ, edgeCells_append, ← he]
    simp [ha, hb, hc, edgeCells]

/-- Edges that came in. -/
theorem open_edges {t e : TypeId} {g0 g1 g2 : Field} {fuel : Nat} {cs : List Value} {x : DataW H × List MemPlace} (ht : P.underlying t = some (.slice e)) (hc : P.cellsOf e = 3) (he : P.underlying e = some (.struct #[g0, g1, g2]))
    (p0 : g0.offset = 0) (p1 : g1.offset = 1) (p2 : g2.offset = 2) (d0 : P.cellsOf g0.type = 1) (d1 : P.cellsOf g1.type = 1) (d2 : P.cellsOf g2.type = 1)
    (v0 : P.underlying g0.type = some (.int .i64)) (v1 : P.underlying g1.type = some (.int .i64)) (v2 : P.underlying g2.type = some (.int .i64))
    (h : DataW.trod enc P w 0 spare held fuel t cs = some x) :
    ∃ (A : Option Addr) (n c : Nat) (l : List Edg), cs = [.slice A n c] ∧ n = l.length ∧ Reads w 0 w.heap.size 3 A n (edgeCells l) := by
  obtain ⟨A, n, c, V, k, rfl, hr, hV⟩ := open_three ht hc h
  obtain ⟨l, hl, hm⟩ := edges_choose V n fun i hi => by
    obtain ⟨y, hy⟩ := hV i hi
    obtain ⟨y0, y1, y2, k, _, _, h0, h1, h2⟩ := trod_struct3 he hy
    rw [p0, d0] at h0
    rw [p1, d1] at h1
    rw [p2, d2] at h2
    obtain ⟨a, e0, _⟩ := DataW.trod_int v0 h0
    obtain ⟨b, e1, _⟩ := DataW.trod_int v1 h1
    obtain ⟨c, e2, _⟩ := DataW.trod_int v2 h2
    simp at e0 e1 e2
    exact ⟨a, b, c, e0, e1, e2⟩
  rw [hm] at hr
  exact ⟨A, n, c, l, rfl, hl.symm, hr⟩

/-- A system that came in, as the cells of a struct. -/
theorem open_sys {t e : TypeId} {f0 f1 f2 g0 g1 g2 : Field} {fuel : Nat} {cs : List Value} {x : DataW H × List MemPlace} (hT : P.underlying t = some (.struct #[f0, f1, f2])) (hC : P.cellsOf t = 3)
    (o0 : f0.offset = 0) (o1 : f1.offset = 1) (o2 : f2.offset = 2) (c0 : P.cellsOf f0.type = 1) (c1 : P.cellsOf f1.type = 1) (c2 : P.cellsOf f2.type = 1)
    (u0 : P.underlying f0.type = some (.int .i64)) (u1 : P.underlying f1.type = some (.int .i64)) (u2 : P.underlying f2.type = some (.slice e)) (hc : P.cellsOf e = 3) (he : P.underlying e = some (.struct #[g0, g1, g2]))
    (p0 : g0.offset = 0) (p1 : g1.offset = 1) (p2 : g2.offset = 2) (d0 : P.cellsOf g0.type = 1) (d1 : P.cellsOf g1.type = 1) (d2 : P.cellsOf g2.type = 1)
    (v0 : P.underlying g0.type = some (.int .i64)) (v1 : P.underlying g1.type = some (.int .i64)) (v2 : P.underlying g2.type = some (.int .i64))
    (h : DataW.trod enc P w 0 spare held fuel t cs = some x) :
    ∃ (s : Sys) (A : Option Addr) (n c : Nat), cs = [.int .i64 s.al, .int .i64 s.st, .slice A n c] ∧ SysAt w 0 w.heap.size A n s := by
  obtain ⟨y0, y1, y2, k, _, hl, h0, h1, h2⟩ := trod_struct3 hT h
  rw [hC] at hl
  match cs, hl with
  | [z0, z1, z2], _ =>
    rw [o0, c0] at h0
    rw [o1, c1] at h1
    rw [o2, c2] at h2
    obtain ⟨al, e0, _⟩ := DataW.trod_int u0 h0
    obtain ⟨st, e1, _⟩ := DataW.trod_int u1 h1
    obtain ⟨A, n, c, l, e2, hn, hr⟩ := open_edges u2 hc he p0 p1 p2 d0 d1 d2 v0 v1 v2 h2
    simp at e0 e1 e2
    subst e0; subst e1; subst e2
    exact ⟨⟨al, st, l⟩, A, n, c, rfl, hn, hr⟩

theorem systems_choose {w : World} (V : Nat → Value) : ∀ n : Nat, (∀ i, i < n → ∃ (s : Sys) (A : Option Addr) (m c : Nat), V (i * 3) = .int .i64 s.al ∧ V (i * 3 + 1) = .int .i64 s.st ∧ V (i * 3 + 2) = .slice A m c ∧ SysAt w 0 w.heap.size A m s) →
    ∃ ss : List Sys, ss.length = n ∧ ∀ i s, ss[i]? = some s → ∃ (A : Option Addr) (m c : Nat), V (i * 3) = .int .i64 s.al ∧ V (i * 3 + 1) = .int .i64 s.st ∧ V (i * 3 + 2) = .slice A m c ∧ SysAt w 0 w.heap.size A m s
  | 0, _ => ⟨[], rfl, fun i s h => by simp at h⟩
  | n + 1, h => by
    obtain ⟨ss, hl, hr⟩ := systems_choose V n fun i hi => h i (by omega)
    obtain ⟨s, A, m, c, hv⟩ := h n (by omega)
    refine ⟨ss ++ [s], by simp [hl], fun i t ht => ?_⟩
    rcases Nat.lt_or_ge i n with h1 | h1
    · rw [List.getElem?_append_left (by omega)] at ht
      exact hr i t ht
    · have hi : i = n := by
        have := (List.getElem?_eq_some_iff.1 ht).1
        simp at this; omega
      subst hi
      rw [List.getElem?_append_right (by omega), hl, Nat.sub_self] at ht
      simp at ht
      subst ht
      exact ⟨A, m, c, hv⟩

/-- Systems that came in. -/
theorem open_systems {T t e : TypeId} {f0 f1 f2 g0 g1 g2 : Field} {fuel : Nat} {cs : List Value} {x : DataW H × List MemPlace} (hS : P.underlying T = some (.slice t)) (hT : P.underlying t = some (.struct #[f0, f1, f2])) (hC : P.cellsOf t = 3)
    (o0 : f0.offset = 0) (o1 : f1.offset = 1) (o2 : f2.offset = 2) (c0 : P.cellsOf f0.type = 1) (c1 : P.cellsOf f1.type = 1) (c2 : P.cellsOf f2.type = 1)
    (u0 : P.underlying f0.type = some (.int .i64)) (u1 : P.underlying f1.type = some (.int .i64)) (u2 : P.underlying f2.type = some (.slice e)) (hc : P.cellsOf e = 3) (he : P.underlying e = some (.struct #[g0, g1, g2]))
    (p0 : g0.offset = 0) (p1 : g1.offset = 1) (p2 : g2.offset = 2) (d0 : P.cellsOf g0.type = 1) (d1 : P.cellsOf g1.type = 1) (d2 : P.cellsOf g2.type = 1)
    (v0 : P.underlying g0.type = some (.int .i64)) (v1 : P.underlying g1.type = some (.int .i64)) (v2 : P.underlying g2.type = some (.int .i64))
    (h : DataW.trod enc P w 0 spare held fuel T cs = some x) :
    ∃ (ss : List Sys) (A : Option Addr) (n c : Nat), cs = [.slice A n c] ∧ SLAt w 0 w.heap.size A n ss := by
  obtain ⟨A, n, c, V, k, rfl, hr, hV⟩ := open_three hS hC h
  obtain ⟨ss, hl, hx⟩ := systems_choose (w := w) V n fun i hi => by
    obtain ⟨y, hy⟩ := hV i hi
    obtain ⟨s, A, m, c, e1, e2⟩ := open_sys hT hC o0 o1 o2 c0 c1 c2 u0 u1 u2 hc he p0 p1 p2 d0 d1 d2 v0 v1 v2 hy
    simp at e1
    exact ⟨s, A, m, c, e1.1, e1.2.1, e1.2.2, e2⟩
  refine ⟨ss, A, n, c, rfl, hl.symm, _, hr, fun i s hs => ?_⟩
  have hi : i < n := by have := (List.getElem?_eq_some_iff.1 hs).1; omega
  obtain ⟨B, m, d, e0, e1, e2, e3⟩ := hx i s hs
  refine ⟨B, m, d, ?_, ?_, ?_, e3⟩ <;> rw [List.getElem?_map, List.getElem?_range (by omega)] <;> simp [e0, e1, e2]
end
end Go.Proofs.YtdeopnjheeekcaaDoor
