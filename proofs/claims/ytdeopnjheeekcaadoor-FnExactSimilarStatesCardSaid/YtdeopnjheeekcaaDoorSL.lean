/- Slices of systems: how they lie in memory; the laws' own counts, copies and comparisons of them. -/
import Derived.Test.YtdeopnjheeekcaaDoorSys2
namespace Go.Proofs.YtdeopnjheeekcaaDoor
open Go Go.RowKit
set_option maxHeartbeats 1000000

/-- The slice (A, n) holds these systems. -/
def SLAt (w : World) (lo hi : Nat) (A : Option Addr) (n : Nat) (ss : List Sys) : Prop :=
  n = ss.length ∧ ∃ cells, Reads w lo hi 3 A n cells ∧ ∀ (k : Nat) (s : Sys), ss[k]? = some s → ∃ (B : Option Addr) (m c : Nat), cells[k * 3]? = some (.int .i64 s.al) ∧ cells[k * 3 + 1]? = some (.int .i64 s.st) ∧ cells[k * 3 + 2]? = some (.slice B m c) ∧ SysAt w lo hi B m s
section
variable {w w' : World} {lo hi n k : Nat} {A : Option Addr} {ss : List Sys}
theorem SLAt.ext (h : SLAt w lo hi A n ss) (hb : Ext w w') : SLAt w' lo hi A n ss := by
  obtain ⟨e, cells, hr, hx⟩ := h
  refine ⟨e, cells, hr.ext hb, fun k s hs => ?_⟩
  obtain ⟨B, m, c, h0, h1, h2, h3⟩ := hx k s hs
  exact ⟨B, m, c, h0, h1, h2, h3.ext hb⟩
theorem SLAt.len (h : SLAt w lo hi A n ss) : n ≤ 9223372036854775807 := by
  obtain ⟨_, cells, hr, _⟩ := h
  exact hr.len
theorem reads_zero {xs : List Value} {u : Value} (h : Reads w lo hi 3 A n xs) (hn : 0 < n) (hu : xs[0]? = some u) : ∃ b o, A = some ⟨b, o, none⟩ ∧ lo ≤ b ∧ b < hi ∧ ∀ j v, xs[j]? = some v → w.cell? ⟨b, o + j, none⟩ = some v := by
  obtain ⟨ad, e, hl, hb, hc⟩ := h.at_ hn
  have hs := addr_spot (hc 0 u hu)
  refine ⟨ad.block, ad.off, by rw [e, hs], hl, hb, fun j v hv => ?_⟩
  have := hc j v hv
  rw [hs, addr_lit] at this
  exact this
theorem SLAt.sys (h : SLAt w lo hi A n ss) (hk : k < n) : ∃ b o s B m c, A = some ⟨b, o, none⟩ ∧ lo ≤ b ∧ b < hi ∧ Hid (ss[k]? = some s) ∧ w.cell? ⟨b, o + k * 3, none⟩ = some (.int .i64 s.al) ∧ w.cell? ⟨b, o + k * 3 + 1, none⟩ = some (.int .i64 s.st) ∧ w.cell? ⟨b, o + k * 3 + 2, none⟩ = some (.slice B m c) ∧ SysAt w lo hi B m s := by
  obtain ⟨e, cells, hr, hx⟩ := h
  have h0 : ss[0]? = some (ss[0]'(by omega)) := List.getElem?_eq_getElem _
  obtain ⟨_, _, _, z0, _⟩ := hx 0 _ h0
  rw [Nat.zero_mul] at z0
  obtain ⟨b, o, rfl, hl, hb, hc⟩ := reads_zero hr (by omega) z0
  have hs : ss[k]? = some (ss[k]'(by omega)) := List.getElem?_eq_getElem _
  obtain ⟨B, m, c, h0, h1, h2, h3⟩ := hx k _ hs
  exact ⟨b, o, _, B, m, c, rfl, hl, hb, hs, hc _ _ h0, by rw [Nat.add_assoc]; exact hc _ _ h1, by rw [Nat.add_assoc]; exact hc _ _ h2, h3⟩
theorem SLAt.sys2 {b o : Nat} {s : Sys} (h : SLAt w lo hi (some ⟨b, o, none⟩) n ss) (hs : ss[k]? = some s) : ∃ B m c, w.cell? ⟨b, o + k * 3, none⟩ = some (.int .i64 s.al) ∧ w.cell? ⟨b, o + k * 3 + 1, none⟩ = some (.int .i64 s.st) ∧ w.cell? ⟨b, o + k * 3 + 2, none⟩ = some (.slice B m c) ∧ SysAt w lo hi B m s := by
  have hk : k < n := by rw [h.1]; exact (List.getElem?_eq_some_iff.1 hs).1
  obtain ⟨b', o', s', B, m, c, hA, _, _, hs', r⟩ := h.sys hk
  injection hA with hA
  injection hA with h1 h2
  subst h1; subst h2
  have := hs'.out
  rw [hs] at this
  injection this with this
  subst this
  exact ⟨B, m, c, r⟩
end

/-- All edges of systems. -/
def totE (ss : List Sys) : Nat := (ss.map fun s => s.edges.length).sum
theorem totE_take_succ {ss : List Sys} {k : Nat} {s : Sys} (h : ss[k]? = some s) : totE (ss.take (k + 1)) = totE (ss.take k) + s.edges.length := by
  rw [List.take_add_one, h]
  simp [totE]
theorem totE_append (a b : List Sys) : totE (a ++ b) = totE a + totE b := by simp [totE]
theorem totE_take_le (ss : List Sys) (k : Nat) : totE (ss.take k) ≤ totE ss := by
  have h := totE_append (ss.take k) (ss.drop k)
  rw [List.take_append_drop] at h
  omega

theorem info_sys : (Tryd.prog.info? 29).map (fun i => (i.zero, i.size, i.bytes)) = some (some (.agg #[.int .i64 0, .int .i64 0, .slice none 0 0]), 3, 40) := by kernel_rfl
/-- The cells of systems whose edges are the call's own. -/
def SLOwn (w : World) (base : Nat) (cells : List Value) (ss : List Sys) : Prop :=
  cells.length = ss.length * 3 ∧ ∀ (k : Nat) (s : Sys), ss[k]? = some s → ∃ (B : Option Addr) (m c : Nat), cells[k * 3]? = some (.int .i64 s.al) ∧ cells[k * 3 + 1]? = some (.int .i64 s.st) ∧ cells[k * 3 + 2]? = some (.slice B m c) ∧ OwnE w base B m c s.edges
theorem SLOwn.nil (w : World) (base : Nat) : SLOwn w base [] [] := ⟨rfl, fun k s h => by simp at h⟩
theorem SLOwn.ext {w w' : World} {base : Nat} {cells : List Value} {ss : List Sys} (h : SLOwn w base cells ss) (hb : Ext w w') : SLOwn w' base cells ss :=
  ⟨h.1, fun k s hs => by
    obtain ⟨B, m, c, h0, h1, h2, h3⟩ := h.2 k s hs
    exact ⟨B, m, c, h0, h1, h2, h3.ext hb⟩⟩
theorem SLOwn.snoc {w w' : World} {base : Nat} {cells : List Value} {ss : List Sys} {s : Sys} {B : Option Addr} {m c : Nat} (h : SLOwn w base cells ss) (hb : Ext w w') (ho : OwnE w' base B m c s.edges) :
    SLOwn w' base (cells ++ [.int .i64 s.al, .int .i64 s.st, .slice B m c]) (ss ++ [s]) := by
  have hl := h.1
  refine ⟨by simp [hl]; omega, fun k t ht => ?_⟩
  rcases Nat.lt_or_ge k ss.length with hk | hk
  · rw [List.getElem?_append_left hk] at ht
    obtain ⟨B, m, c, h0, h1, h2, h3⟩ := h.2 k t ht
    refine ⟨B, m, c, ?_, ?_, ?_, h3.ext hb⟩ <;> rw [List.getElem?_append_left (by omega)] <;> assumption
  · have hk' : k = ss.length := by have := (List.getElem?_eq_some_iff.1 ht).1; simp at this; omega
    subst hk'
    rw [List.getElem?_append_right (by omega), Nat.sub_self] at ht
    simp at ht
    subst ht
    refine ⟨B, m, c, ?_, ?_, ?_, ho⟩ <;> rw [List.getElem?_append_right (by omega), hl]
    · simp
    · rw [show ss.length * 3 + 1 - ss.length * 3 = 1 from by omega]; rfl
    · rw [show ss.length * 3 + 2 - ss.length * 3 = 2 from by omega]; rfl
theorem SLOwn.store {w : World} {base g j n cap : Nat} {xs : List Value} {u : Value} {cells : List Value} {ss : List Sys} (h : SLOwn w base cells ss) (hown : w.ownsRow base 29 3 (.slice (some ⟨g, 0, none⟩) n cap) n xs) : SLOwn (w.setCell ⟨g, j, none⟩ u) base cells ss :=
  ⟨h.1, fun k s hs => by
    obtain ⟨B, m, c, h0, h1, h2, h3⟩ := h.2 k s hs
    refine ⟨B, m, c, h0, h1, h2, h3.1, own_frm h3.2 (Frm.setCell w g j u) fun b hb hbg => ?_⟩
    subst hbg
    exact own_ne h3.2 hown (by decide) hb rfl⟩
theorem set3_end {xs rest : List Value} {k : Nat} (u v x : Value) (hk : xs.length = k) (hr : 3 ≤ rest.length) : (((xs ++ rest).set k u).set (k + 1) v).set (k + 2) x = (xs ++ [u, v, x]) ++ rest.drop 3 := by
  subst hk
  match rest, hr with
  | a :: b :: c :: r, _ =>
    rw [List.set_append_right _ _ (by omega), Nat.sub_self, List.set_append_right _ _ (by omega), List.set_append_right _ _ (by omega)]
    rw [show xs.length + 1 - xs.length = 1 from by omega, show xs.length + 2 - xs.length = 2 from by omega]
    simp
/-- Systems in new memory. -/
def OwnSL (w : World) (base : Nat) (A : Option Addr) (n c : Nat) (ss : List Sys) : Prop := n = ss.length ∧ ∃ cells, w.ownsRow base 29 3 (.slice A n c) n cells ∧ SLOwn w base cells ss
theorem OwnSL.ext {w w' : World} {base : Nat} {A : Option Addr} {n c : Nat} {ss : List Sys} (h : OwnSL w base A n c ss) (hb : Ext w w') : OwnSL w' base A n c ss := by
  obtain ⟨e, cells, h1, h2⟩ := h
  exact ⟨e, cells, own_ext h1 hb, h2.ext hb⟩
theorem OwnSL.reads {w : World} {base : Nat} {A : Option Addr} {n c : Nat} {ss : List Sys} (h : OwnSL w base A n c ss) : SLAt w base w.heap.size A n ss := by
  obtain ⟨e, cells, h1, h2⟩ := h
  refine ⟨e, cells, Reads.of_own h1, fun k s hs => ?_⟩
  obtain ⟨B, m, c, r0, r1, r2, r3⟩ := h2.2 k s hs
  exact ⟨B, m, c, r0, r1, r2, r3.reads⟩

end Go.Proofs.YtdeopnjheeekcaaDoor
