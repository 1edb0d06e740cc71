/- Systems as data; how they lie in memory; the laws' own copies and counts. | Contracts of the laws' own comparisons. | Systems: copies and comparisons of the laws. | Slices of systems: how they lie in memory; the laws' own counts, copies and comparisons of them. | From the row's reading of an argument to the words of the walks: edges, systems, slices of systems. | What every row's proof takes: how the arguments of the laws are opened. | A region that draws its order and ends in stores: walked in one order; what is behind all that reads (the tail) may turn what was read. It holds of every program, without conditions. | Contracts of the leaves on words. -/
import Derived.Test.YtcmgkekaeafgaaaG01
namespace Go.Proofs.Ytcmgkekaeafgaaa
open Go Go.RowKit
set_option maxHeartbeats 400000

structure Edg where
  fr : Int
  le : Int
  to : Int
deriving DecidableEq
structure Sys where
  al : Int
  st : Int
  edges : List Edg

def edgeCells : List Edg → List Value
  | [] => []
  | e :: r => .int .i64 e.fr :: .int .i64 e.le :: .int .i64 e.to :: edgeCells r
theorem edgeCells_length (l : List Edg) : (edgeCells l).length = l.length * 3 := by
  induction l with
  | nil => rfl
  | cons e r ih => simp only [edgeCells, List.length_cons, ih]; omega
theorem edgeCells_append (l m : List Edg) : edgeCells (l ++ m) = edgeCells l ++ edgeCells m := by
  induction l with
  | nil => rfl
  | cons e r ih => simp [edgeCells, ih]
theorem edgeCells_get {l : List Edg} {k : Nat} {e : Edg} (h : l[k]? = some e) : (edgeCells l)[k * 3]? = some (.int .i64 e.fr) ∧ (edgeCells l)[k * 3 + 1]? = some (.int .i64 e.le) ∧ (edgeCells l)[k * 3 + 2]? = some (.int .i64 e.to) := by
  induction l generalizing k with
  | nil => simp at h
  | cons a r ih =>
    cases k with
    | zero => simp at h; subst h; exact ⟨rfl, rfl, rfl⟩
    | succ k =>
      have := ih (k := k) (by simpa using h)
      have e1 : (k + 1) * 3 = k * 3 + 1 + 1 + 1 := by omega
      refine ⟨?_, ?_, ?_⟩ <;> rw [e1] <;> simp only [edgeCells, List.getElem?_cons_succ]
      · exact this.1
      · exact this.2.1
      · exact this.2.2

theorem addr_spot {w : World} {ad : Addr} {v : Value} (h : w.cell? (ad.add 0) = some v) : ad = ⟨ad.block, ad.off, none⟩ := by
  rw [addr_zero] at h
  obtain ⟨b, o, s⟩ := ad
  have hs : s = none := World.cell?_spot h
  subst hs
  rfl
theorem Reads.edge {w : World} {lo hi n k : Nat} {A : Option Addr} {l : List Edg} (h : Reads w lo hi 3 A n (edgeCells l)) (hk : k < n) :
    ∃ b o e, A = some ⟨b, o, none⟩ ∧ lo ≤ b ∧ b < hi ∧ Hid (l[k]? = some e) ∧ w.cell? ⟨b, o + k * 3, none⟩ = some (.int .i64 e.fr) ∧ w.cell? ⟨b, o + k * 3 + 1, none⟩ = some (.int .i64 e.le) ∧ w.cell? ⟨b, o + k * 3 + 2, none⟩ = some (.int .i64 e.to) := by
  obtain ⟨ad, eA, hl, hb, hc⟩ := h.at_ hk
  have hn : l.length = n := by have := h.length; rw [edgeCells_length] at this; omega
  have hx : l[k]? = some l[k] := List.getElem?_eq_getElem (by omega)
  have hg := edgeCells_get hx
  have h0 := hc _ _ hg.1
  have h1 := hc _ _ hg.2.1
  have h2 := hc _ _ hg.2.2
  have hz := edgeCells_get (k := 0) (List.getElem?_eq_getElem (l := l) (by omega))
  rw [Nat.zero_mul] at hz
  have hs := addr_spot (hc _ _ hz.1)
  rw [hs] at h0 h1 h2
  rw [addr_lit] at h0 h1 h2
  exact ⟨ad.block, ad.off, l[k], by rw [eA, hs], hl, hb, hx, h0, by rw [Nat.add_assoc]; exact h1, by rw [Nat.add_assoc]; exact h2⟩

theorem Reads.edge2 {w : World} {lo hi n j b o : Nat} {l : List Edg} {e : Edg} (h : Reads w lo hi 3 (some ⟨b, o, none⟩) n (edgeCells l)) (he : l[j]? = some e) :
    w.cell? ⟨b, o + j * 3, none⟩ = some (.int .i64 e.fr) ∧ w.cell? ⟨b, o + j * 3 + 1, none⟩ = some (.int .i64 e.le) ∧ w.cell? ⟨b, o + j * 3 + 2, none⟩ = some (.int .i64 e.to) := by
  have hj : j < l.length := (List.getElem?_eq_some_iff.1 he).1
  have hn : l.length = n := by have := h.length; rw [edgeCells_length] at this; omega
  obtain ⟨ad, eA, _, _, hc⟩ := h.at_ (k := j) (by omega)
  injection eA with eA
  subst eA
  have hg := edgeCells_get he
  have h0 := hc _ _ hg.1
  have h1 := hc _ _ hg.2.1
  have h2 := hc _ _ hg.2.2
  rw [addr_lit] at h0 h1 h2
  exact ⟨h0, by rw [Nat.add_assoc]; exact h1, by rw [Nat.add_assoc]; exact h2⟩

/-- The slice of edges (A, n) holds the edges of a system. -/
def SysAt (w : World) (lo hi : Nat) (A : Option Addr) (n : Nat) (s : Sys) : Prop := n = s.edges.length ∧ Reads w lo hi 3 A n (edgeCells s.edges)
section
variable {w w' : World} {lo hi n : Nat} {A : Option Addr} {s : Sys}
theorem SysAt.ext (h : SysAt w lo hi A n s) (hb : Ext w w') : SysAt w' lo hi A n s := ⟨h.1, h.2.ext hb⟩
theorem SysAt.frm {S : Nat → Prop} (h : SysAt w lo hi A n s) (hb : Frm S w w') (hS : ∀ k, lo ≤ k → k < hi → ¬ S k) : SysAt w' lo hi A n s := ⟨h.1, h.2.frm hb hS⟩
theorem SysAt.more {lo' hi' : Nat} (h : SysAt w lo hi A n s) (hL : lo' ≤ lo) (hH : hi ≤ hi') : SysAt w lo' hi' A n s := ⟨h.1, h.2.more hL hH⟩
end

theorem info_edge : (Try.prog.info? 65).map (fun i => (i.zero, i.size, i.bytes)) = some (some (.agg #[.int .i64 0, .int .i64 0, .int .i64 0]), 3, 24) := by kernel_rfl
theorem own_store3 {w : World} {base n cap g : Nat} {e : TypeId} {xs : List Value} (h : w.ownsRow base e 3 (.slice (some ⟨g, 0, none⟩) n cap) n xs) (j : Nat) (u v x : Value) :
    (((w.setCell ⟨g, j, none⟩ u).setCell ⟨g, j + 1, none⟩ v).setCell ⟨g, j + 2, none⟩ x).ownsRow base e 3 (.slice (some ⟨g, 0, none⟩) n cap) n (((xs.set j u).set (j + 1) v).set (j + 2) x) :=
  (((h.stored j u).1.stored (j + 1) v).1.stored (j + 2) x).1
theorem set3_edges {l : List Edg} {rest : List Value} {k : Nat} {e : Edg} (he : l[k]? = some e) (hr : 3 ≤ rest.length) :
    (((edgeCells (l.take k) ++ rest).set (k * 3) (.int .i64 e.fr)).set (k * 3 + 1) (.int .i64 e.le)).set (k * 3 + 2) (.int .i64 e.to) = edgeCells (l.take (k + 1)) ++ rest.drop 3 := by
  have hk : k < l.length := (List.getElem?_eq_some_iff.1 he).1
  have hl : (edgeCells (l.take k)).length = k * 3 := by rw [edgeCells_length, List.length_take, Nat.min_eq_left (by omega)]
  match rest, hr with
  | a :: b :: c :: r, _ =>
    rw [List.set_append_right _ _ (by omega), hl, Nat.sub_self, List.set_append_right _ _ (by omega), hl, List.set_append_right _ _ (by omega), hl, List.take_add_one, he, edgeCells_append]
    rw [show k * 3 + 1 - k * 3 = 1 from by omega, show k * 3 + 2 - k * 3 = 2 from by omega]
    simp [edgeCells]

/-- Edges in new memory. -/
def OwnE (w : World) (base : Nat) (A : Option Addr) (n c : Nat) (l : List Edg) : Prop := n = l.length ∧ w.ownsRow base 65 3 (.slice A n c) n (edgeCells l)
theorem OwnE.ext {w w' : World} {base : Nat} {A : Option Addr} {n c : Nat} {l : List Edg} (h : OwnE w base A n c l) (hb : Ext w w') : OwnE w' base A n c l := ⟨h.1, own_ext h.2 hb⟩
theorem OwnE.keep {S : Nat → Prop} {w w' : World} {base : Nat} {A : Option Addr} {n c : Nat} {l : List Edg} (h : OwnE w base A n c l) (hb : Frm S w w') (hS : ∀ b, base ≤ b → ¬ S b) : OwnE w' base A n c l := ⟨h.1, own_keep h.2 hb hS⟩
theorem OwnE.less {w : World} {base base' : Nat} {A : Option Addr} {n c : Nat} {l : List Edg} (h : OwnE w base A n c l) (hb : base' ≤ base) : OwnE w base' A n c l := ⟨h.1, own_less h.2 hb⟩
theorem OwnE.reads {w : World} {base : Nat} {A : Option Addr} {n c : Nat} {s : Sys} (h : OwnE w base A n c s.edges) : SysAt w base w.heap.size A n s := ⟨h.1, Reads.of_own h.2⟩

end Go.Proofs.Ytcmgkekaeafgaaa

namespace Go.Proofs.Ytcmgkekaeafgaaa
open Go Go.RowKit
set_option maxHeartbeats 400000

theorem eq_stop {α : Type} [BEq α] [LawfulBEq α] {l m : List α} {k : Nat} {x y : α} (hx : l[k]? = some x) (hy : m[k]? = some y) (h : (x == y) = false) : (l == m) = false := by
  rw [beq_eq_false_iff_ne]
  rintro rfl
  rw [hx] at hy
  injection hy with hy
  subst hy
  simp at h
theorem eq_step {α : Type} [BEq α] [LawfulBEq α] {l m : List α} {k : Nat} {x y : α} (hx : l[k]? = some x) (hy : m[k]? = some y) (h : (x == y) = true) (hk : l.take k = m.take k) : l.take (k + 1) = m.take (k + 1) := by
  rw [List.take_add_one, List.take_add_one, hx, hy, hk, eq_of_beq h]
theorem eq_end {α : Type} [BEq α] [LawfulBEq α] {l m : List α} {k : Nat} (h1 : l.length ≤ k) (h2 : m.length ≤ k) (hk : l.take k = m.take k) : (l == m) = true := by
  rw [List.take_of_length_le h1, List.take_of_length_le h2] at hk
  simp [hk]
theorem eq_lens {α : Type} [BEq α] [LawfulBEq α] {l m : List α} (h : l.length ≠ m.length) : (l == m) = false := by
  rw [beq_eq_false_iff_ne]
  rintro rfl
  exact h rfl

/-- Two automata are equal as data. -/
def autEq (a b : Aut) : Bool := decide (a.al = b.al) && (a.next == b.next && a.acc == b.acc)
theorem autEq_self (a : Aut) : autEq a a = true := by simp [autEq]
theorem autEq_eq {a b : Aut} (h : autEq a b = true) : a = b := by
  simp only [autEq, Bool.and_eq_true, decide_eq_true_eq, beq_iff_eq] at h
  cases a; cases b; simp_all

end Go.Proofs.Ytcmgkekaeafgaaa

namespace Go.Proofs.Ytcmgkekaeafgaaa
open Go Go.RowKit
set_option maxHeartbeats 400000

/-- A system in new memory. -/
def RetSys (w : World) (s : Sys) (e : Ending) (w' : World) : Prop :=
  ∃ A n c, e = .returned (.agg #[.int .i64 s.al, .int .i64 s.st, .slice A n c]) ∧ OwnE w' w.heap.size A n c s.edges ∧ Ext w w'

instance : BEq Edg := ⟨fun a b => decide (a.fr = b.fr) && (decide (a.le = b.le) && decide (a.to = b.to))⟩
theorem edg_beq (a b : Edg) : (a == b) = (decide (a.fr = b.fr) && (decide (a.le = b.le) && decide (a.to = b.to))) := rfl
instance : LawfulBEq Edg where
  eq_of_beq {a b} h := by
    rw [edg_beq] at h
    simp only [Bool.and_eq_true, decide_eq_true_eq] at h
    cases a; cases b; simp_all
  rfl {a} := by rw [edg_beq]; simp

/-- Two systems are equal as data. -/
def sysEq (s t : Sys) : Bool := decide (s.al = t.al) && (decide (s.st = t.st) && s.edges == t.edges)
theorem sysEq_self (s : Sys) : sysEq s s = true := by simp [sysEq]

end Go.Proofs.Ytcmgkekaeafgaaa

namespace Go.Proofs.Ytcmgkekaeafgaaa
open Go Go.RowKit
set_option maxHeartbeats 1000000

/-- The slice (A, n) holds these systems. -/
def SLAt (w : World) (lo hi : Nat) (A : Option Addr) (n : Nat) (ss : List Sys) : Prop :=
  n = ss.length ∧ ∃ cells, Reads w lo hi 3 A n cells ∧ ∀ (k : Nat) (s : Sys), ss[k]? = some s → ∃ (B : Option Addr) (m c : Nat), cells[k * 3]? = some (.int .i64 s.al) ∧ cells[k * 3 + 1]? = some (.int .i64 s.st) ∧ cells[k * 3 + 2]? = some (.slice B m c) ∧ SysAt w lo hi B m s
section
variable {w w' : World} {lo hi n k : Nat} {A : Option Addr} {ss : List Sys}
theorem SLAt.ext (h : SLAt w lo hi A n ss) (hb : Ext w w') : SLAt w' lo hi A n ss := by
  obtain ⟨e, cells, hr, hx⟩ := h
  refine ⟨e, cells, hr.ext hb, fun k s hs => ?_⟩
  obtain ⟨B, m, c, h0, h1, h2, h3⟩ := hx k s hs
  exact ⟨B, m, c, h0, h1, h2, h3.ext hb⟩
theorem SLAt.len (h : SLAt w lo hi A n ss) : n ≤ 9223372036854775807 := by
  obtain ⟨_, cells, hr, _⟩ := h
  exact hr.len
theorem reads_zero {xs : List Value} {u : Value} (h : Reads w lo hi 3 A n xs) (hn : 0 < n) (hu : xs[0]? = some u) : ∃ b o, A = some ⟨b, o, none⟩ ∧ lo ≤ b ∧ b < hi ∧ ∀ j v, xs[j]? = some v → w.cell? ⟨b, o + j, none⟩ = some v := by
  obtain ⟨ad, e, hl, hb, hc⟩ := h.at_ hn
  have hs := addr_spot (hc 0 u hu)
  refine ⟨ad.block, ad.off, by rw [e, hs], hl, hb, fun j v hv => ?_⟩
  have := hc j v hv
  rw [hs, addr_lit] at this
  exact this
theorem SLAt.sys (h : SLAt w lo hi A n ss) (hk : k < n) : ∃ b o s B m c, A = some ⟨b, o, none⟩ ∧ lo ≤ b ∧ b < hi ∧ Hid (ss[k]? = some s) ∧ w.cell? ⟨b, o + k * 3, none⟩ = some (.int .i64 s.al) ∧ w.cell? ⟨b, o + k * 3 + 1, none⟩ = some (.int .i64 s.st) ∧ w.cell? ⟨b, o + k * 3 + 2, none⟩ = some (.slice B m c) ∧ SysAt w lo hi B m s := by
  obtain ⟨e, cells, hr, hx⟩ := h
  have h0 : ss[0]? = some (ss[0]'(by omega)) := List.getElem?_eq_getElem _
  obtain ⟨_, _, _, z0, _⟩ := hx 0 _ h0
  rw [Nat.zero_mul] at z0
  obtain ⟨b, o, rfl, hl, hb, hc⟩ := reads_zero hr (by omega) z0
  have hs : ss[k]? = some (ss[k]'(by omega)) := List.getElem?_eq_getElem _
  obtain ⟨B, m, c, h0, h1, h2, h3⟩ := hx k _ hs
  exact ⟨b, o, _, B, m, c, rfl, hl, hb, hs, hc _ _ h0, by rw [Nat.add_assoc]; exact hc _ _ h1, by rw [Nat.add_assoc]; exact hc _ _ h2, h3⟩
theorem SLAt.sys2 {b o : Nat} {s : Sys} (h : SLAt w lo hi (some ⟨b, o, none⟩) n ss) (hs : ss[k]? = some s) : ∃ B m c, w.cell? ⟨b, o + k * 3, none⟩ = some (.int .i64 s.al) ∧ w.cell? ⟨b, o + k * 3 + 1, none⟩ = some (.int .i64 s.st) ∧ w.cell? ⟨b, o + k * 3 + 2, none⟩ = some (.slice B m c) ∧ SysAt w lo hi B m s := by
  have hk : k < n := by rw [h.1]; exact (List.getElem?_eq_some_iff.1 hs).1
  obtain ⟨b', o', s', B, m, c, hA, _, _, hs', r⟩ := h.sys hk
  injection hA with hA
  injection hA with h1 h2
  subst h1; subst h2
  have := hs'.out
  rw [hs] at this
  injection this with this
  subst this
  exact ⟨B, m, c, r⟩
end

/-- All edges of systems. -/
def totE (ss : List Sys) : Nat := (ss.map fun s => s.edges.length).sum
theorem totE_take_succ {ss : List Sys} {k : Nat} {s : Sys} (h : ss[k]? = some s) : totE (ss.take (k + 1)) = totE (ss.take k) + s.edges.length := by
  rw [List.take_add_one, h]
  simp [totE]
theorem totE_append (a b : List Sys) : totE (a ++ b) = totE a + totE b := by simp [totE]
theorem totE_take_le (ss : List Sys) (k : Nat) : totE (ss.take k) ≤ totE ss := by
  have h := totE_append (ss.take k) (ss.drop k)
  rw [List.take_append_drop] at h
  omega

theorem info_sys : (Try.prog.info? 35).map (fun i => (i.zero, i.size, i.bytes)) = some (some (.agg #[.int .i64 0, .int .i64 0, .slice none 0 0]), 3, 40) := by kernel_rfl
/-- The cells of systems whose edges are the call's own. -/
def SLOwn (w : World) (base : Nat) (cells : List Value) (ss : List Sys) : Prop :=
  cells.length = ss.length * 3 ∧ ∀ (k : Nat) (s : Sys), ss[k]? = some s → ∃ (B : Option Addr) (m c : Nat), cells[k * 3]? = some (.int .i64 s.al) ∧ cells[k * 3 + 1]? = some (.int .i64 s.st) ∧ cells[k * 3 + 2]? = some (.slice B m c) ∧ OwnE w base B m c s.edges
theorem SLOwn.nil (w : World) (base : Nat) : SLOwn w base [] [] := ⟨rfl, fun k s h => by simp at h⟩
theorem SLOwn.ext {w w' : World} {base : Nat} {cells : List Value} {ss : List Sys} (h : SLOwn w base cells ss) (hb : Ext w w') : SLOwn w' base cells ss :=
  ⟨h.1, fun k s hs => by
    obtain ⟨B, m, c, h0, h1, h2, h3⟩ := h.2 k s hs
    exact ⟨B, m, c, h0, h1, h2, h3.ext hb⟩⟩
theorem SLOwn.snoc {w w' : World} {base : Nat} {cells : List Value} {ss : List Sys} {s : Sys} {B : Option Addr} {m c : Nat} (h : SLOwn w base cells ss) (hb : Ext w w') (ho : OwnE w' base B m c s.edges) :
    SLOwn w' base (cells ++ [.int .i64 s.al, .int .i64 s.st, .slice B m c]) (ss ++ [s]) := by
  have hl := h.1
  refine ⟨by simp [hl]; omega, fun k t ht => ?_⟩
  rcases Nat.lt_or_ge k ss.length with hk | hk
  · rw [List.getElem?_append_left hk] at ht
    obtain ⟨B, m, c, h0, h1, h2, h3⟩ := h.2 k t ht
    refine ⟨B, m, c, ?_, ?_, ?_, h3.ext hb⟩ <;> rw [List.getElem?_append_left (by omega)] <;> assumption
  · have hk' : k = ss.length := by have := (List.getElem?_eq_some_iff.1 ht).1; simp at this; omega
    subst hk'
    rw [List.getElem?_append_right (by omega), Nat.sub_self] at ht
    simp at ht
    subst ht
    refine ⟨B, m, c, ?_, ?_, ?_, ho⟩ <;> rw [List.getElem?_append_right (by omega), hl]
    · simp
    · rw [show ss.length * 3 + 1 - ss.length * 3 = 1 from by omega]; rfl
    · rw [show ss.length * 3 + 2 - ss.length * 3 = 2 from by omega]; rfl
theorem SLOwn.store {w : World} {base g j n cap : Nat} {xs : List Value} {u : Value} {cells : List Value} {ss : List Sys} (h : SLOwn w base cells ss) (hown : w.ownsRow base 35 3 (.slice (some ⟨g, 0, none⟩) n cap) n xs) : SLOwn (w.setCell ⟨g, j, none⟩ u) base cells ss :=
  ⟨h.1, fun k s hs => by
    obtain ⟨B, m, c, h0, h1, h2, h3⟩ := h.2 k s hs
    refine ⟨B, m, c, h0, h1, h2, h3.1, own_frm h3.2 (Frm.setCell w g j u) fun b hb hbg => ?_⟩
    subst hbg
    exact own_ne h3.2 hown (by decide) hb rfl⟩
theorem set3_end {xs rest : List Value} {k : Nat} (u v x : Value) (hk : xs.length = k) (hr : 3 ≤ rest.length) : (((xs ++ rest).set k u).set (k + 1) v).set (k + 2) x = (xs ++ [u, v, x]) ++ rest.drop 3 := by
  subst hk
  match rest, hr with
  | a :: b :: c :: r, _ =>
    rw [List.set_append_right _ _ (by omega), Nat.sub_self, List.set_append_right _ _ (by omega), List.set_append_right _ _ (by omega)]
    rw [show xs.length + 1 - xs.length = 1 from by omega, show xs.length + 2 - xs.length = 2 from by omega]
    simp
/-- Systems in new memory. -/
def OwnSL (w : World) (base : Nat) (A : Option Addr) (n c : Nat) (ss : List Sys) : Prop := n = ss.length ∧ ∃ cells, w.ownsRow base 35 3 (.slice A n c) n cells ∧ SLOwn w base cells ss
theorem OwnSL.ext {w w' : World} {base : Nat} {A : Option Addr} {n c : Nat} {ss : List Sys} (h : OwnSL w base A n c ss) (hb : Ext w w') : OwnSL w' base A n c ss := by
  obtain ⟨e, cells, h1, h2⟩ := h
  exact ⟨e, cells, own_ext h1 hb, h2.ext hb⟩
theorem OwnSL.reads {w : World} {base : Nat} {A : Option Addr} {n c : Nat} {ss : List Sys} (h : OwnSL w base A n c ss) : SLAt w base w.heap.size A n ss := by
  obtain ⟨e, cells, h1, h2⟩ := h
  refine ⟨e, cells, Reads.of_own h1, fun k s hs => ?_⟩
  obtain ⟨B, m, c, r0, r1, r2, r3⟩ := h2.2 k s hs
  exact ⟨B, m, c, r0, r1, r2, r3.reads⟩

end Go.Proofs.Ytcmgkekaeafgaaa

namespace Go.Proofs.Ytcmgkekaeafgaaa
open Go Go.RowKit Go.ChangeShapes Go.WideShapes Go.Deep

section
variable {H : Type} {enc : TypeId × Value → H} {P : Program} {w : World} {spare : Nat → Bool} {held : Bool}

theorem open_three {t e : TypeId} {fuel : Nat} {cs : List Value} {x : DataW H × List MemPlace} (ht : P.underlying t = some (.slice e)) (hc : P.cellsOf e = 3) (h : DataW.trod enc P w 0 spare held fuel t cs = some x) :
    ∃ (A : Option Addr) (n c : Nat) (V : Nat → Value) (k : Nat), cs = [.slice A n c] ∧ Reads w 0 w.heap.size 3 A n ((List.range (n * 3)).map V) ∧ ∀ i, i < n → ∃ y, DataW.trod enc P w 0 spare held k e [V (i * 3), V (i * 3 + 1), V (i * 3 + 2)] = some y := by
  rcases open_slice ht h with ⟨rfl, _⟩ | ⟨a, len, cap, m, n, D, Pl, rfl, hb, hl, hm, hmm, _, hx⟩
  · exact ⟨none, 0, 0, fun _ => undef, 0, rfl, Reads.nil, fun i hi => by omega⟩
  · have hlm : len ≤ m := by rw [hmm]; split <;> omega
    rw [hc] at hx
    have hcell : ∀ i j, i < len → j < 3 → (w.cell? (a.add (i * 3 + j))).isSome = true := fun i j hi hj => by
      obtain ⟨cs', h1, h2⟩ := hx i (by omega)
      obtain ⟨_, hn, hg⟩ := World.cells?_some h1
      rw [← addr_add, hg j hj, List.getElem?_eq_getElem (by omega)]
      rfl
    have hV : ∀ q, q < len * 3 → w.cell? (a.add q) = some ((w.cell? (a.add q)).getD undef) := fun q hq => by
      have h1 := hcell (q / 3) (q % 3) (by omega) (by omega)
      rw [show q / 3 * 3 + q % 3 = q by omega] at h1
      obtain ⟨v, hv⟩ := Option.isSome_iff_exists.1 h1
      rw [hv]; rfl
    refine ⟨some a, len, cap, fun q => (w.cell? (a.add q)).getD undef, n, rfl, ⟨by simp, by unfold maxLen at hm; omega, fun h0 => ?_⟩, fun i hi => ?_⟩
    · have hblk : a.block < w.heap.size := by
        have := World.block_lt_of_cell? w _ (hV 0 (by omega))
        rwa [addr_block] at this
      refine ⟨a, rfl, Nat.zero_le _, hblk, fun j u hu => ?_⟩
      have hj : j < len * 3 := by
        have := (List.getElem?_eq_some_iff.1 hu).1
        simpa using this
      rw [hV j hj]
      simpa [hj] using hu
    · obtain ⟨cs', h1, h2⟩ := hx i (by omega)
      obtain ⟨_, hn, hg⟩ := World.cells?_some h1
      refine ⟨(D i, Pl i), ?_⟩
      rw [← h2]
      congr 1
      match cs', hn with
      | [v0, v1, v2], _ =>
        have e0 := hg 0 (by omega)
        have e1 := hg 1 (by omega)
        have e2 := hg 2 (by omega)
        rw [addr_add] at e0 e1 e2
        rw [Nat.add_zero] at e0
        simp only [e0, e1, e2]
        rfl

theorem edges_choose (V : Nat → Value) : ∀ n : Nat, (∀ i, i < n → ∃ a b c : Int, V (i * 3) = .int .i64 a ∧ V (i * 3 + 1) = .int .i64 b ∧ V (i * 3 + 2) = .int .i64 c) → ∃ l : List Edg, l.length = n ∧ (List.range (n * 3)).map V = edgeCells l
  | 0, _ => ⟨[], rfl, rfl⟩
  | n + 1, h => by
    obtain ⟨l, hl, he⟩ := edges_choose V n fun i hi => h i (by omega)
    obtain ⟨a, b, c, ha, hb, hc⟩ := h n (by omega)
    refine ⟨l ++ [⟨a, b, c⟩], by simp [hl], ?_⟩
    rw [show (n + 1) * 3 = n * 3 + 1 + 1 + 1 by omega, List.range_succ, List.range_succ, List.range_succ, edgeCells_append, ← he]
    simp [ha, hb, hc, edgeCells]

/-- Edges that came in. -/
theorem open_edges {t e : TypeId} {g0 g1 g2 : Field} {fuel : Nat} {cs : List Value} {x : DataW H × List MemPlace} (ht : P.underlying t = some (.slice e)) (hc : P.cellsOf e = 3) (he : P.underlying e = some (.struct #[g0, g1, g2]))
    (p0 : g0.offset = 0) (p1 : g1.offset = 1) (p2 : g2.offset = 2) (d0 : P.cellsOf g0.type = 1) (d1 : P.cellsOf g1.type = 1) (d2 : P.cellsOf g2.type = 1)
    (v0 : P.underlying g0.type = some (.int .i64)) (v1 : P.underlying g1.type = some (.int .i64)) (v2 : P.underlying g2.type = some (.int .i64))
    (h : DataW.trod enc P w 0 spare held fuel t cs = some x) :
    ∃ (A : Option Addr) (n c : Nat) (l : List Edg), cs = [.slice A n c] ∧ n = l.length ∧ Reads w 0 w.heap.size 3 A n (edgeCells l) := by
  obtain ⟨A, n, c, V, k, rfl, hr, hV⟩ := open_three ht hc h
  obtain ⟨l, hl, hm⟩ := edges_choose V n fun i hi => by
    obtain ⟨y, hy⟩ := hV i hi
    obtain ⟨y0, y1, y2, k, _, _, h0, h1, h2⟩ := trod_struct3 he hy
    rw [p0, d0] at h0
    rw [p1, d1] at h1
    rw [p2, d2] at h2
    obtain ⟨a, e0, _⟩ := DataW.trod_int v0 h0
    obtain ⟨b, e1, _⟩ := DataW.trod_int v1 h1
    obtain ⟨c, e2, _⟩ := DataW.trod_int v2 h2
    simp at e0 e1 e2
    exact ⟨a, b, c, e0, e1, e2⟩
  rw [hm] at hr
  exact ⟨A, n, c, l, rfl, hl.symm, hr⟩

/-- A system that came in, as the cells of a struct. -/
theorem open_sys {t e : TypeId} {f0 f1 f2 g0 g1 g2 : Field} {fuel : Nat} {cs : List Value} {x : DataW H × List MemPlace} (hT : P.underlying t = some (.struct #[f0, f1, f2])) (hC : P.cellsOf t = 3)
    (o0 : f0.offset = 0) (o1 : f1.offset = 1) (o2 : f2.offset = 2) (c0 : P.cellsOf f0.type = 1) (c1 : P.cellsOf f1.type = 1) (c2 : P.cellsOf f2.type = 1)
    (u0 : P.underlying f0.type = some (.int .i64)) (u1 : P.underlying f1.type = some (.int .i64)) (u2 : P.underlying f2.type = some (.slice e)) (hc : P.cellsOf e = 3) (he : P.underlying e = some (.struct #[g0, g1, g2]))
    (p0 : g0.offset = 0) (p1 : g1.offset = 1) (p2 : g2.offset = 2) (d0 : P.cellsOf g0.type = 1) (d1 : P.cellsOf g1.type = 1) (d2 : P.cellsOf g2.type = 1)
    (v0 : P.underlying g0.type = some (.int .i64)) (v1 : P.underlying g1.type = some (.int .i64)) (v2 : P.underlying g2.type = some (.int .i64))
    (h : DataW.trod enc P w 0 spare held fuel t cs = some x) :
    ∃ (s : Sys) (A : Option Addr) (n c : Nat), cs = [.int .i64 s.al, .int .i64 s.st, .slice A n c] ∧ SysAt w 0 w.heap.size A n s := by
  obtain ⟨y0, y1, y2, k, _, hl, h0, h1, h2⟩ := trod_struct3 hT h
  rw [hC] at hl
  match cs, hl with
  | [z0, z1, z2], _ =>
    rw [o0, c0] at h0
    rw [o1, c1] at h1
    rw [o2, c2] at h2
    obtain ⟨al, e0, _⟩ := DataW.trod_int u0 h0
    obtain ⟨st, e1, _⟩ := DataW.trod_int u1 h1
    obtain ⟨A, n, c, l, e2, hn, hr⟩ := open_edges u2 hc he p0 p1 p2 d0 d1 d2 v0 v1 v2 h2
    simp at e0 e1 e2
    subst e0; subst e1; subst e2
    exact ⟨⟨al, st, l⟩, A, n, c, rfl, hn, hr⟩

theorem systems_choose {w : World} (V : Nat → Value) : ∀ n : Nat, (∀ i, i < n → ∃ (s : Sys) (A : Option Addr) (m c : Nat), V (i * 3) = .int .i64 s.al ∧ V (i * 3 + 1) = .int .i64 s.st ∧ V (i * 3 + 2) = .slice A m c ∧ SysAt w 0 w.heap.size A m s) →
    ∃ ss : List Sys, ss.length = n ∧ ∀ i s, ss[i]? = some s → ∃ (A : Option Addr) (m c : Nat), V (i * 3) = .int .i64 s.al ∧ V (i * 3 + 1) = .int .i64 s.st ∧ V (i * 3 + 2) = .slice A m c ∧ SysAt w 0 w.heap.size A m s
  | 0, _ => ⟨[], rfl, fun i s h => by simp at h⟩
  | n + 1, h => by
    obtain ⟨ss, hl, hr⟩ := systems_choose V n fun i hi => h i (by omega)
    obtain ⟨s, A, m, c, hv⟩ := h n (by omega)
    refine ⟨ss ++ [s], by simp [hl], fun i t ht => ?_⟩
    rcases Nat.lt_or_ge i n with h1 | h1
    · rw [List.getElem?_append_left (by omega)] at ht
      exact hr i t ht
    · have hi : i = n := by
        have := (List.getElem?_eq_some_iff.1 ht).1
        simp at this; omega
      subst hi
      rw [List.getElem?_append_right (by omega), hl, Nat.sub_self] at ht
      simp at ht
      subst ht
      exact ⟨A, m, c, hv⟩

/-- Systems that came in. -/
theorem open_systems {T t e : TypeId} {f0 f1 f2 g0 g1 g2 : Field} {fuel : Nat} {cs : List Value} {x : DataW H × List MemPlace} (hS : P.underlying T = some (.slice t)) (hT : P.underlying t = some (.struct #[f0, f1, f2])) (hC : P.cellsOf t = 3)
    (o0 : f0.offset = 0) (o1 : f1.offset = 1) (o2 : f2.offset = 2) (c0 : P.cellsOf f0.type = 1) (c1 : P.cellsOf f1.type = 1) (c2 : P.cellsOf f2.type = 1)
    (u0 : P.underlying f0.type = some (.int .i64)) (u1 : P.underlying f1.type = some (.int .i64)) (u2 : P.underlying f2.type = some (.slice e)) (hc : P.cellsOf e = 3) (he : P.underlying e = some (.struct #[g0, g1, g2]))
    (p0 : g0.offset = 0) (p1 : g1.offset = 1) (p2 : g2.offset = 2) (d0 : P.cellsOf g0.type = 1) (d1 : P.cellsOf g1.type = 1) (d2 : P.cellsOf g2.type = 1)
    (v0 : P.underlying g0.type = some (.int .i64)) (v1 : P.underlying g1.type = some (.int .i64)) (v2 : P.underlying g2.type = some (.int .i64))
    (h : DataW.trod enc P w 0 spare held fuel T cs = some x) :
    ∃ (ss : List Sys) (A : Option Addr) (n c : Nat), cs = [.slice A n c] ∧ SLAt w 0 w.heap.size A n ss := by
  obtain ⟨A, n, c, V, k, rfl, hr, hV⟩ := open_three hS hC h
  obtain ⟨ss, hl, hx⟩ := systems_choose (w := w) V n fun i hi => by
    obtain ⟨y, hy⟩ := hV i hi
    obtain ⟨s, A, m, c, e1, e2⟩ := open_sys hT hC o0 o1 o2 c0 c1 c2 u0 u1 u2 hc he p0 p1 p2 d0 d1 d2 v0 v1 v2 hy
    simp at e1
    exact ⟨s, A, m, c, e1.1, e1.2.1, e1.2.2, e2⟩
  refine ⟨ss, A, n, c, rfl, hl.symm, _, hr, fun i s hs => ?_⟩
  have hi : i < n := by have := (List.getElem?_eq_some_iff.1 hs).1; omega
  obtain ⟨B, m, d, e0, e1, e2, e3⟩ := hx i s hs
  refine ⟨B, m, d, ?_, ?_, ?_, e3⟩ <;> rw [List.getElem?_map, List.getElem?_range (by omega)] <;> simp [e0, e1, e2]
end
end Go.Proofs.Ytcmgkekaeafgaaa

namespace Go.Proofs.Ytcmgkekaeafgaaa
open Go Go.ChangeShapes Go.WideShapes Go.ChangeAt Go.RowKit Go.Deep
set_option maxRecDepth 100000

theorem own_ : ownKnob Try.prog.godebug = none := by kernel_rfl
theorem laidOut_ : laidOutB Try.prog = true := by kernel_rfl

theorem array3 {α : Type} {cs : Array α} (h : cs.size = 3) : ∃ c0 c1 c2, cs = #[c0, c1, c2] := by
  obtain ⟨l⟩ := cs
  match l, h with
  | [c0, c1, c2], _ => exact ⟨c0, c1, c2, rfl⟩

end Go.Proofs.Ytcmgkekaeafgaaa

namespace Go.Proofs.Ytcmgkekaeafgaaa
open Go Go.RowKit

section
variable {P : Program} {ops : Array Oper} {Q : Exit → Act → World → Prop} {md : Region.Mode} {S : Array Bool → World → Prop}

/-- Whatever order is picked; behind every operation the condition of what has come up holds. -/
def wpAnyL (P : Program) (md : Region.Mode) (ops : Array Oper) (Q : Exit → Act → World → Prop) (S : Array Bool → World → Prop) : Nat → Array Bool → Act → World → Prop
  | 0, listed, a, w => Region.ready md ops listed = [] ∧ Q .normal a w
  | fuel + 1, listed, a, w =>
    (Region.ready md ops listed = [] → Q .normal a w) ∧
    ∀ i ∈ Region.ready md ops listed, wpOp P ops Q i (fun a' w' => S (listed.setIfInBounds i true) w' ∧ wpAnyL P md ops Q S fuel (listed.setIfInBounds i true) a' w') a w
theorem wpAny_of_L : ∀ (fuel : Nat) (listed : Array Bool) (a : Act) (w : World), wpAnyL P md ops Q S fuel listed a w → wpAny P md ops Q fuel listed a w
  | 0, _, _, _, h => h
  | fuel + 1, _, _, _, h => ⟨h.1, fun i hi => wpOp_mono (fun a' w' h' => wpAny_of_L fuel _ a' w' h'.2) (h.2 i hi)⟩
theorem wpAnyL_first {i : Nat} {oi : Oper} {v : Value} {Si : World → Prop} {G : Array Bool → Prop} (hi : ops[i]? = some oi) (hsel : ∀ (j : Nat) (o : Oper) cs b, ops[j]? = some o → o.op ≠ .select cs b)
    (hQ : ∀ c a w, Q (.panic c) (a.put oi.dst v) w → Q (.panic c) a w)
    (hG : ∀ listed j, j ∈ Region.ready md ops listed → G listed → G (listed.setIfInBounds j true))
    (hSi : ∀ listed w, G listed → listed.getD i true = false → S listed w → Si w)
    (hup : ∀ listed w, S listed w → S (listed.setIfInBounds i true) w) (hdn : ∀ listed w, listed.getD i true = false → S (listed.setIfInBounds i true) w → S listed w) :
    ∀ (fuel : Nat) (listed : Array Bool) (a : Act) (w : World), G listed →
      (∀ j oj, ops[j]? = some oj → j ≠ i → listed.getD j true = false → (∀ e ∈ oj.after, Region.binds md e = true → e.on ≠ i) → oi.apart ops oj = true) →
      i ∈ Region.ready md ops listed → YieldsIf P ops Si oi v a → S listed w →
      wpAnyL P md ops Q S fuel (listed.setIfInBounds i true) (a.put oi.dst v) w → wpAnyL P md ops Q S (fuel + 1) listed a w := by
  intro fuel
  induction fuel with
  | zero =>
    intro listed a w hg _ hr hy hS H
    refine ⟨fun h => (by rw [h] at hr; cases hr), fun j hj => ?_⟩
    by_cases hji : j = i
    · subst hji; exact hy.wpOp hi (hSi _ _ hg (mem_ready.1 hr).1 hS) ⟨hup _ _ hS, H⟩
    · have := ready_mono hj hji
      rw [H.1] at this
      cases this
  | succ fuel ih =>
    intro listed a w hg hfree hr hy hS H
    refine ⟨fun h => (by rw [h] at hr; cases hr), fun j hj => ?_⟩
    by_cases hji : j = i
    · subst hji; exact hy.wpOp hi (hSi _ _ hg (mem_ready.1 hr).1 hS) ⟨hup _ _ hS, H⟩
    · have h1 := H.2 j (ready_mono hj hji)
      obtain ⟨hjun, oj, hoj, hall⟩ := mem_ready.1 hj
      have hnot : ∀ e ∈ oj.after, Region.binds md e = true → e.on ≠ i := fun e he hb heq => by
        have h1 := hall e he hb
        have h0 := (mem_ready.1 hr).1
        rw [heq] at h1
        rcases Nat.lt_or_ge i listed.size with h' | h'
        · simp [h'] at h0 h1; rw [h0] at h1; cases h1
        · simp [Array.getElem?_eq_none h'] at h1
      have h2 := wpOp_putIf hoj (hfree j oj hoj hji hjun hnot) (fun cs b => hsel i oi cs b hi) (fun cs b => hsel j oj cs b hoj) hQ hy h1
      have hfree' : ∀ k ok, ops[k]? = some ok → k ≠ i → (listed.setIfInBounds j true).getD k true = false →
          (∀ e ∈ ok.after, Region.binds md e = true → e.on ≠ i) → oi.apart ops ok = true := fun k ok hk hki hun hno => by
        refine hfree k ok hk hki ?_ hno
        by_cases hjk : j = k
        · subst hjk; exact hjun
        · rw [getD_set_ne true hjk] at hun; exact hun
      have hiun : (listed.setIfInBounds j true).getD i true = false := by
        rw [getD_set_ne true hji]; exact (mem_ready.1 hr).1
      refine wpOp_mono (fun a' w' h3 => ?_) h2
      have h4 : S (listed.setIfInBounds j true) w' := hdn _ _ hiun (by rw [Array.setIfInBounds_comm _ _ hji]; exact h3.2.1)
      refine ⟨h4, ih (listed.setIfInBounds j true) a' w' (hG _ _ hj hg) hfree' (ready_mono hr (Ne.symm hji)) h3.1 h4 ?_⟩
      rw [Array.setIfInBounds_comm _ _ hji]
      exact h3.2.2
end

/-- What has come up is shut downward. -/
def Clo (l : List Oper) (listed : Array Bool) : Prop := ∀ j, listed.getD j false = true → ∀ o, l[j]? = some o → ∀ e ∈ o.after, Region.binds .any e = true → listed.getD e.on false = true
/-- Number i comes ahead of t, by the region's edges. -/
def below (l : List Oper) : Nat → Nat → Nat → Bool
  | 0, _, _ => false
  | f + 1, t, i => match l[t]? with
    | some o => o.after.any fun e => Region.binds .any e && (e.on == i || below l f e.on i)
    | none => false
theorem below_spec {l : List Oper} {listed : Array Bool} (hc : Clo l listed) : ∀ (f t i : Nat), below l f t i = true → listed.getD t false = true → listed.getD i false = true
  | 0, _, _, h, _ => by simp [below] at h
  | f + 1, t, i, h, ht => by
    unfold below at h
    cases ho : l[t]? with
    | none => simp [ho] at h
    | some o =>
      simp only [ho] at h
      obtain ⟨e, he, hb⟩ := Array.any_eq_true'.1 h
      simp only [Bool.and_eq_true, Bool.or_eq_true, beq_iff_eq] at hb
      have h1 := hc t ht o ho e he hb.1
      rcases hb.2 with h2 | h2
      · rw [← h2]; exact h1
      · exact below_spec hc f e.on i h2 h1
theorem clo_step {l : List Oper} {listed : Array Bool} {j : Nat} (hj : j ∈ Region.ready .any l.toArray listed) (h : Clo l listed) : Clo l (listed.setIfInBounds j true) := by
  intro k hk o ho e he hb
  by_cases hkj : j = k
  · subst hkj
    obtain ⟨_, o', ho', hall⟩ := mem_ready.1 hj
    have : o' = o := by
      have h1 : l[j]? = some o' := by simpa using ho'
      rw [ho] at h1
      exact (Option.some.inj h1).symm
    subst this
    exact getD_set_true (hall e he hb)
  · rw [getD_set_ne false hkj] at hk
    exact getD_set_true (h k hk o ho e he hb)

/-- Operations whose value hangs on no memory. -/
def pureOp : Op → Bool
  | .move _ | .assign _ | .pick _ _ _ | .binOp _ _ _ _ _ | .unOp _ _ _ | .fieldAddr _ _ _ | .field _ _ _ | .extract _ _ | .build _ _ => true
  | _ => false

/-- An order of a region's operations; where two may come up, both. -/
inductive Ord where
  | nil : Ord
  | one : Nat → Ord → Ord
  | two : Nat → Ord → Nat → Ord → Ord
/-- One order. -/
def Ord.of : List Nat → Ord
  | [] => .nil
  | i :: r => .one i (Ord.of r)
/-- Ahead of another order. -/
def Ord.app : List Nat → Ord → Ord
  | [], o => o
  | i :: r, o => .one i (Ord.app r o)
/-- The order serves: as okOrd, with the operations of the tail T, each behind all that reads memory. -/
def okOrdT (l : List Oper) (T : List Nat) : Ord → Array Bool → Bool
  | .nil, listed => (Region.ready .any l.toArray listed).isEmpty
  | .one i rest, listed =>
    (match l[i]? with
      | some o => if quietOp o.op then Region.free .any l.toArray listed i && (Region.ready .any l.toArray listed).contains i && !T.contains i && (pureOp o.op || T.all fun t => below l l.length t i)
        else Region.ready .any l.toArray listed == [i]
      | none => false) && okOrdT l T rest (listed.setIfInBounds i true)
  | .two i r j r', listed => (i < l.length && j < l.length && Region.ready .any l.toArray listed == [i, j]) && (okOrdT l T r (listed.setIfInBounds i true) && okOrdT l T r' (listed.setIfInBounds j true))

def wpSeqT (P : Program) (l : List Oper) (T : List Nat) (Q : Exit → Act → World → Prop) (S : World → Prop) : Ord → Act → World → Prop
  | .nil, a, w => Q .normal a w
  | .one i rest, a, w => match l[i]? with
    | some o => if quietOp o.op then ∃ v, YieldsIf P l.toArray (if pureOp o.op then fun _ => True else S) o v a ∧ wpSeqT P l T Q S rest (a.put o.dst v) w
      else wpOp P l.toArray Q i (fun a' w' => (T.contains i = false → S w') ∧ wpSeqT P l T Q S rest a' w') a w
    | none => False
  | .two i r j r', a, w => wpOp P l.toArray Q i (fun a' w' => (T.contains i = false → S w') ∧ wpSeqT P l T Q S r a' w') a w ∧ wpOp P l.toArray Q j (fun a' w' => (T.contains j = false → S w') ∧ wpSeqT P l T Q S r' a' w') a w
/-- How many operations an order has. -/
def Ord.len : Ord → Nat
  | .nil => 0
  | .one _ r => r.len + 1
  | .two _ r _ r' => (if r.len = r'.len then r.len else 0) + 1
/-- Both ways are of one length. -/
def Ord.even : Ord → Bool
  | .nil => true
  | .one _ r => r.even
  | .two _ r _ r' => r.len == r'.len && (r.even && r'.even)

section
variable {P : Program} {l : List Oper} {Q : Exit → Act → World → Prop} {S : World → Prop} {T : List Nat}

def tailed (T : List Nat) (listed : Array Bool) : Prop := ∃ t ∈ T, listed.getD t false = true
theorem seqT_sound (hs : Region.noSelect l.toArray = true) (hQ : ∀ (c : List PanicEntry) (a : Act) (d : Tmp) (v : Value) (w : World), Q (.panic c) (a.put (some d) v) w → Q (.panic c) a w) :
    ∀ (ord : Ord) (listed : Array Bool) (a : Act) (w : World), listed.size = l.length → Clo l listed → ord.even = true → okOrdT l T ord listed = true → (tailed T listed ∨ S w) → wpSeqT P l T Q S ord a w →
      wpAnyL P .any l.toArray Q (fun listed w => tailed T listed ∨ S w) ord.len listed a w
  | .nil, listed, a, w, _, _, _, hok, _, h => by
    simp only [okOrdT, List.isEmpty_iff] at hok
    exact ⟨hok, h⟩
  | .one i rest, listed, a, w, hsz, hc, hev, hok, hS, h => by
    cases ho : l[i]? with
    | none => simp [okOrdT, ho] at hok
    | some o =>
      have hil : i < l.length := (List.getElem?_eq_some_iff.1 ho).1
      simp only [okOrdT, ho, Bool.and_eq_true] at hok
      simp only [wpSeqT, ho] at h
      by_cases hq : quietOp o.op = true
      · rw [if_pos hq] at hok h
        simp only [Bool.and_eq_true] at hok
        obtain ⟨⟨⟨⟨hf, hrd⟩, hnT⟩, hpure⟩, hrest⟩ := hok
        obtain ⟨v, hy, hr⟩ := h
        have hmem : i ∈ Region.ready .any l.toArray listed := by simpa using hrd
        have hnT' : i ∉ T := by simpa using hnT
        have hset : ∀ listed : Array Bool, tailed T (listed.setIfInBounds i true) ↔ tailed T listed := fun listed => by
          constructor
          · rintro ⟨t, ht, hl⟩
            refine ⟨t, ht, ?_⟩
            rwa [getD_set_ne false (by rintro rfl; exact hnT' ht)] at hl
          · rintro ⟨t, ht, hl⟩
            exact ⟨t, ht, getD_set_true hl⟩
        refine wpAnyL_first (G := fun listed => Clo l listed ∧ listed.size = l.length) (by simpa using ho) (Region.noSelect_spec hs)
          (fun c a w h => by cases hd : o.dst with | none => rw [hd] at h; exact h | some d => rw [hd] at h; exact hQ c a d v w h)
          (fun li j hj hg => ⟨clo_step hj hg.1, by simpa using hg.2⟩) ?_ (fun li w h => h.imp (fun x => (hset li).2 x) id) (fun li w _ h => h.imp (fun x => (hset li).1 x) id)
          rest.len listed a w ⟨hc, hsz⟩ (Region.free_spec (by simpa using ho) hf) hmem hy hS ?_
        · intro li w' hg hun h
          by_cases hp : pureOp o.op = true
          · rw [if_pos hp]; trivial
          · rw [if_neg hp]
            rcases h with ⟨t, ht, hl⟩ | h
            · exfalso
              simp only [hp, Bool.false_or] at hpure
              have hb := List.all_eq_true.1 hpure t ht
              have h1 := below_spec hg.1 _ _ _ hb hl
              have h2 : i < li.size := by rw [hg.2]; exact hil
              simp [h2] at hun h1
              rw [h1] at hun; cases hun
            · exact h
        · exact seqT_sound hs hQ rest _ _ _ (by simpa using hsz) (clo_step hmem hc) hev hrest (hS.imp (fun x => (hset _).2 x) id) hr
      · rw [if_neg hq] at hok h
        have hready : Region.ready .any l.toArray listed = [i] := by simpa using hok.1
        have hmem : i ∈ Region.ready .any l.toArray listed := by rw [hready]; simp
        refine ⟨fun h0 => (by rw [h0] at hready; cases hready), fun j hj => ?_⟩
        rw [hready] at hj
        rw [List.mem_singleton.1 hj]
        refine wpOp_mono (fun a' w' h => ?_) h
        have hS' : tailed T (listed.setIfInBounds i true) ∨ S w' := by
          cases hT : T.contains i
          · exact Or.inr (h.1 hT)
          · refine Or.inl ⟨i, by simpa using hT, ?_⟩
            have : i < listed.size := by omega
            simp [this]
        exact ⟨hS', seqT_sound hs hQ rest _ _ _ (by simpa using hsz) (clo_step hmem hc) hev hok.2 hS' h.2⟩
  | .two i r j r', listed, a, w, hsz, hc, hev, hok, hS, h => by
    simp only [Ord.even, Bool.and_eq_true, beq_iff_eq] at hev
    simp only [okOrdT, Bool.and_eq_true, decide_eq_true_eq, beq_iff_eq] at hok
    simp only [wpSeqT] at h
    obtain ⟨⟨⟨hi, hj⟩, hready⟩, hok1, hok2⟩ := hok
    have hlen : (Ord.two i r j r').len = r.len + 1 := by simp [Ord.len, hev.1]
    rw [hlen]
    have hm : ∀ k, k ∈ Region.ready .any l.toArray listed ↔ k = i ∨ k = j := fun k => by rw [hready]; simp
    have hS' : ∀ k w', k < l.length → (T.contains k = false → S w') → tailed T (listed.setIfInBounds k true) ∨ S w' := fun k w' hk hx => by
      cases hT : T.contains k
      · exact Or.inr (hx hT)
      · refine Or.inl ⟨k, by simpa using hT, ?_⟩
        have : k < listed.size := by omega
        simp [this]
    refine ⟨fun h0 => (by rw [h0] at hready; cases hready), fun k hk => ?_⟩
    rcases (hm k).1 hk with hk' | hk'
    · rw [hk'] at hk ⊢
      refine wpOp_mono (fun a' w' h => ?_) h.1
      exact ⟨hS' _ _ hi h.1, seqT_sound hs hQ r _ _ _ (by simpa using hsz) (clo_step hk hc) hev.2.1 hok1 (hS' _ _ hi h.1) h.2⟩
    · rw [hk'] at hk ⊢
      refine wpOp_mono (fun a' w' h => ?_) h.2
      have := seqT_sound hs hQ r' _ _ _ (by simpa using hsz) (clo_step hk hc) hev.2.2 hok2 (hS' _ _ hj h.1) h.2
      rw [← hev.1] at this
      exact ⟨hS' _ _ hj h.1, this⟩

theorem clo_start (l : List Oper) : Clo l (Array.replicate l.length false) := by
  intro j hj
  exfalso
  rcases Nat.lt_or_ge j l.length with h | h
  · simp [h] at hj
  · simp [Nat.not_lt.2 h] at hj

/-- The region, walked in one order: what reads under S first, then the tail. -/
theorem wp_region_tail {id : Nat} {a : Act} {w : World} (S : World → Prop) (T : List Nat) (ord : Ord) (hm : P.follows .mixedOrders = true) (hlen : ord.len = l.length) (hev : ord.even = true) (hs : Region.noSelect l.toArray = true) (hok : okOrdT l T ord (Array.replicate l.length false) = true)
    (hQ : ∀ (c : List PanicEntry) (a : Act) (d : Tmp) (v : Value) (w : World), Q (.panic c) (a.put (some d) v) w → Q (.panic c) a w) (hS : S w.drew) (h : wpSeqT P l T Q S ord a w.drew) : (Code.region id l.toArray true).wp P Q a w := by
  refine wp_region_any hm ?_
  have := wpAny_of_L _ _ _ _ (seqT_sound hs hQ ord _ a w.drew (by simp) (clo_start l) hev hok (Or.inr hS) h)
  rw [hlen] at this
  simpa using this

theorem tseq_nil {a : Act} {w : World} (h : Q .normal a w) : wpSeqT P l T Q S .nil a w := h
/-- A step that needs no memory. -/
theorem tseq_pure {i : Nat} {rest : Ord} {o : Oper} {v : Value} {a : Act} {w : World} (ho : l[i]? = some o) (hq : quietOp o.op = true) (_hp : pureOp o.op = true) (hw : Region.wanted o (yielded l.toArray a.tmps) = true)
    (hy : ∀ W, (execOp a.eval o).run P W = .ok (.value v) W) (h : wpSeqT P l T Q S rest (a.put o.dst v) w) : wpSeqT P l T Q S (.one i rest) a w := by
  simp only [wpSeqT, ho, hq, if_true]
  exact ⟨v, .inl ⟨hw, fun W _ => hy W⟩, h⟩
/-- A step that reads. -/
theorem tseq_read {i : Nat} {rest : Ord} {o : Oper} {v : Value} {a : Act} {w : World} (ho : l[i]? = some o) (hq : quietOp o.op = true) (hp : pureOp o.op = false) (hw : Region.wanted o (yielded l.toArray a.tmps) = true)
    (hy : ∀ W, S W → (execOp a.eval o).run P W = .ok (.value v) W) (h : wpSeqT P l T Q S rest (a.put o.dst v) w) : wpSeqT P l T Q S (.one i rest) a w := by
  simp only [wpSeqT, ho, hq, hp, if_true]
  exact ⟨v, .inl ⟨hw, hy⟩, h⟩
/-- A step whose guard is off. -/
theorem tseq_skip {i : Nat} {rest : Ord} {o : Oper} {a : Act} {w : World} (ho : l[i]? = some o) (hw : Region.wanted o (yielded l.toArray a.tmps) = false)
    (hS : S w) (h : wpSeqT P l T Q S rest (a.put o.dst undef) w) : wpSeqT P l T Q S (.one i rest) a w := by
  simp only [wpSeqT, ho]
  split
  · exact ⟨undef, .inr ⟨hw, rfl⟩, h⟩
  · unfold wpOp
    simp only [List.getElem?_toArray, ho, hw, Bool.false_eq_true, if_false]
    exact ⟨fun _ => hS, h⟩
/-- A step that makes memory, or calls, ahead of the tail. -/
theorem tseq_step {i : Nat} {rest : Ord} {o : Oper} {a : Act} {w : World} (ho : l[i]? = some o) (hq : quietOp o.op = false) (hw : Region.wanted o (yielded l.toArray a.tmps) = true)
    (h : ∀ K : Act → World → Prop, Shut (∀ a w, S w → wpSeqT P l T Q S rest a w → K a w) → o.wp P a w K Q) : wpSeqT P l T Q S (.one i rest) a w := by
  simp only [wpSeqT, ho, hq]
  unfold wpOp
  simp only [List.getElem?_toArray, ho, hw, if_true]
  exact .inl (h _ fun a w hS hW => ⟨fun _ => hS, hW⟩)
/-- A step of the tail. -/
theorem tseq_last {i : Nat} {rest : Ord} {o : Oper} {a : Act} {w : World} (ho : l[i]? = some o) (hq : quietOp o.op = false) (hT : T.contains i = true) (hw : Region.wanted o (yielded l.toArray a.tmps) = true)
    (h : ∀ K : Act → World → Prop, Shut (∀ a w, wpSeqT P l T Q S rest a w → K a w) → o.wp P a w K Q) : wpSeqT P l T Q S (.one i rest) a w := by
  simp only [wpSeqT, ho, hq]
  unfold wpOp
  simp only [List.getElem?_toArray, ho, hw, if_true]
  exact .inl (h _ fun a w hW => ⟨fun hn => absurd (hn.symm.trans hT) (by decide), hW⟩)
end

section
variable {P : Program} {l : List Oper} {Q : Exit → Act → World → Prop} {S : World → Prop} {T : List Nat}
/-- Two that may come up, neither of the tail. -/
theorem tseq_both {i j : Nat} {r r' : Ord} {o o' : Oper} {a : Act} {w : World} (ho : l[i]? = some o) (ho' : l[j]? = some o') (hw : Region.wanted o (yielded l.toArray a.tmps) = true) (hw' : Region.wanted o' (yielded l.toArray a.tmps) = true)
    (h1 : ∀ K : Act → World → Prop, Shut (∀ a w, S w → wpSeqT P l T Q S r a w → K a w) → o.wp P a w K Q) (h2 : ∀ K : Act → World → Prop, Shut (∀ a w, S w → wpSeqT P l T Q S r' a w → K a w) → o'.wp P a w K Q) : wpSeqT P l T Q S (.two i r j r') a w := by
  constructor
  · unfold wpOp
    simp only [List.getElem?_toArray, ho, hw, if_true]
    exact .inl (h1 _ fun a w hS hW => ⟨fun _ => hS, hW⟩)
  · unfold wpOp
    simp only [List.getElem?_toArray, ho', hw', if_true]
    exact .inl (h2 _ fun a w hS hW => ⟨fun _ => hS, hW⟩)
end
/-- 'append(s, x)' of one element, in a region that draws. -/
theorem wp_push {P : Program} (wb w : World) {o : Oper} {a : Act} {K : Act → World → Prop} {Q : Exit → Act → World → Prop} (s x : Operand) (t : TypeId)
    (ho : o.op = .call { callee := .builtin .append, args := #[s, x], argTypes := #[t, t] })
    (e : TypeId) (z : Value) (size bytes : Nat) (ht : P.underlying t = some (.slice e)) (hi : (P.info? e).map (fun i => (i.zero, i.size, i.bytes)) = some (some z, size, bytes)) (hzs : z.cells.size = size) (hsz : 0 < size)
    (v : Value) (n : Nat) (xs : List Value) (us : Array Value) (e' : TypeId) (hs : a.eval s = v) (hx : a.eval x = .slice (some ⟨w.heap.size, 0, none⟩) 1 1)
    (hext : wb.heap.size ≤ w.heap.size) (hown : w.ownsRow wb.heap.size e size v n xs) (hus : us.size = size) (h1 : ∀ u ∈ us.toList, u.oneCell' = true)
    (h63 : n + 1 ≤ maxLen) (hbytes : (n + 1) * bytes ≤ 140737488355328)
    (h : ∀ g cap w', w'.ownsRow wb.heap.size e size (.slice (some ⟨g, 0, none⟩) (n + 1) cap) (n + 1) (xs ++ us.toList) → w.grownBy w' v.ownBlock → (v.ownBlock = some g ∨ g = w.heap.size + 1) → g < w'.heap.size → K (a.put o.dst (.slice (some ⟨g, 0, none⟩) (n + 1) cap)) w') :
    o.wp P a (w.alloc (.cells us e')) K Q := by
  obtain ⟨i, hi0, hz0, hz1, hz2⟩ := info_parts hi
  refine wp_append_lies (w.alloc (.cells us e')) s x t ho wb.heap.size e i z size bytes ht hi0 hz0 hz1 hz2 hzs hsz v n xs hs (hown.alloc _) ⟨w.heap.size, 0, none⟩ 1 1 us.toList hx (by simpa using hus) ?_ h1 (by omega) h63 hbytes (by simp; omega) (w.heap.size + 1) (by simp) ?_
  · intro j u hu
    rw [addr_lit, Nat.zero_add, (Blk.new w e' us).cell]
    simpa using hu
  · intro g cap w' hown' hg hat hlt
    have hg' : w.grownBy w' v.ownBlock := ⟨hg.os, hg.tape, hg.output, Nat.le_trans (by simp) hg.size, fun k hk hne => (hg.block k (by simp; omega) hne).trans (Below.heap_alloc w _ k hk)⟩
    exact h g cap w' hown' hg' hat hlt
/-- 'append(s, x)' of one element, in a region that keeps its order. -/
theorem wpList_push3 {P : Program} (wb w : World) {ops : Array Oper} {rest : List Oper} {o : Oper} {a : Act} {Q : Exit → Act → World → Prop} (hgd : o.guard = none) (s x : Operand) (t : TypeId)
    (ho : o.op = .call { callee := .builtin .append, args := #[s, x], argTypes := #[t, t] })
    (e : TypeId) (z : Value) (size bytes : Nat) (ht : P.underlying t = some (.slice e)) (hi : (P.info? e).map (fun i => (i.zero, i.size, i.bytes)) = some (some z, size, bytes)) (hzs : z.cells.size = size) (hsz : 0 < size)
    (v : Value) (n : Nat) (xs : List Value) (us : Array Value) (e' : TypeId) (hs : a.eval s = v) (hx : a.eval x = .slice (some ⟨w.heap.size, 0, none⟩) 1 1)
    (hext : wb.heap.size ≤ w.heap.size) (hown : w.ownsRow wb.heap.size e size v n xs) (hus : us.size = size) (h1 : ∀ u ∈ us.toList, u.oneCell' = true)
    (h63 : n + 1 ≤ maxLen) (hbytes : (n + 1) * bytes ≤ 140737488355328)
    (h : ∀ g cap w', w'.ownsRow wb.heap.size e size (.slice (some ⟨g, 0, none⟩) (n + 1) cap) (n + 1) (xs ++ us.toList) → w.grownBy w' v.ownBlock → (v.ownBlock = some g ∨ g = w.heap.size + 1) → g < w'.heap.size → wpList P ops Q rest (a.put o.dst (.slice (some ⟨g, 0, none⟩) (n + 1) cap)) w') :
    wpList P ops Q (o :: rest) a (w.alloc (.cells us e')) :=
  wpList_plain hgd fun _ hK => wp_push wb w s x t ho e z size bytes ht hi hzs hsz v n xs us e' hs hx hext hown hus h1 h63 hbytes fun g cap w' h2 h3 h4 h5 => hK _ _ (h g cap w' h2 h3 h4 h5)
end Go.Proofs.Ytcmgkekaeafgaaa

namespace Go.Proofs.Ytcmgkekaeafgaaa
open Go Go.RowKit
set_option maxHeartbeats 400000

theorem spec_l1Letters (a : Nat) (hs : Sm a) (w : World) :
    Calls Try.prog 41 #[.int .i64 a] w (RetNats w (letters a 6)) := by
  go_enter Try.func41, Try.ntmps41
  go_wp2
  go_loopw [3, 4] (fun v i wr => ∃ k : Nat, k ≤ 6 ∧ i = .int .i64 k ∧ wr.ownsRow w.heap.size 3 1 v (letters a k).length (nats (letters a k)) ∧ Ext w wr)
    (fun _ i _ => 6 - (intOf i).toNat)
  case atStart => exact ⟨0, Nat.zero_le _, rfl, World.ownsRow_lit w #[] 0 (Nat.le_refl _) (by unfold maxLen; omega) rfl, (Ext.refl _).alloc _⟩
  case round =>
    obtain ⟨k, hk, rfl, hown, hext⟩ := hrel
    have hl := letters_length a k
    by_cases hlt : k < 6
    · cases hb : a.testBit k
      all_goals
        have Hb := hide hb
        have hls := letters_succ a k
        rw [hb] at hls
        have Hls := hide hls
        clear hls hb
        go_wp2_with (first
          | (go_at_call 56; refine (spec_l1Has a k hs _ (by omega)).mono ?_; rw [Hb.out]; rintro e w' ⟨rfl, rfl⟩)
          | (at_builtin; refine wpList_push w wr rfl _ _ _ rfl 3 _ 1 8 Try.underlying52 info_int rfl (by decide) u3 _ _ _ _ rfl rfl hext hown rfl (cells_int _) (by unfold maxLen; omega) (by omega) ?_; intro v' w1 hext1 hown1 hg1 hat1))
        go_roundw
        case rel => exact ⟨k + 1, by omega, by go_num, by rw [Hls.out]; first | simpa [nats] using hown1 | simpa using hown, by assumption⟩
        case measure => simp [intOf]; omega
    · obtain rfl : k = 6 := by omega
      obtain ⟨A, c, rfl⟩ := own_form hown
      go_wp2
      go_ret
      exact ⟨_, _, rfl, hown, hext⟩

/-- A byte is a letter. -/
def letterB (b : UInt8) : Bool := decide (97 ≤ (b.toNat : Int) ∧ (b.toNat : Int) ≤ 102)
/-- A string is a word. -/
def wordB (s : ByteArray) : Bool := decide (s.size ≤ 50000) && s.data.toList.all letterB
theorem byte_get (s : ByteArray) (i : Nat) (h : i < s.size) : s.data.toList[i]? = some s[i] := by
  rw [List.getElem?_eq_getElem (by simpa using h)]; rfl

/-- Each letter of a string is in an alphabet. -/
def overB (s : ByteArray) (a : Nat) : Bool := s.data.toList.all fun b => hasB a (ltr b.toNat)
theorem over_all {a : Nat} (h : a = 63) (b : UInt8) : hasB a (ltr b.toNat) = letterB b := by
  subst h
  have : b.toNat < 256 := b.toNat_lt
  unfold hasB ltr letterB
  by_cases h1 : (b.toNat : Int) - 97 < 0
  · rw [if_pos (.inl h1)]; simp; omega
  · by_cases h2 : 6 ≤ (b.toNat : Int) - 97
    · rw [if_pos (.inr h2)]; simp; omega
    · rw [if_neg (by omega)]
      have h3 : b.toNat = 97 ∨ b.toNat = 98 ∨ b.toNat = 99 ∨ b.toNat = 100 ∨ b.toNat = 101 ∨ b.toNat = 102 := by omega
      rcases h3 with h | h | h | h | h | h <;> rw [h] <;> decide
theorem overB_63 (s : ByteArray) : overB s 63 = s.data.toList.all letterB := by
  unfold overB
  congr 1
  funext b
  exact over_all rfl b

end Go.Proofs.Ytcmgkekaeafgaaa
