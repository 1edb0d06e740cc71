/- Contracts of the laws' own copies. -/
import Derived.Test.YtdeopnjheeekcaaDoorAut
namespace Go.Proofs.YtdeopnjheeekcaaDoor
open Go Go.RowKit
set_option maxHeartbeats 400000

theorem info_bool : (Tryd.prog.info? 4).map (fun i => (i.zero, i.size, i.bytes)) = some (some (.bool false), 1, 1) := by kernel_rfl
theorem info_ints : (Tryd.prog.info? 32).map (fun i => (i.zero, i.size, i.bytes)) = some (some (.slice none 0 0), 1, 24) := by kernel_rfl

/-- Slices of numbers that are the call's own, no two in one block. -/
def RowsOwn (w : World) (base : Nat) (rows : List Value) (ls : List (List Int)) : Prop :=
  rows.length = ls.length ∧ (∀ (i : Nat) (row : Value) (l : List Int), rows[i]? = some row → ls[i]? = some l → w.ownsRow base 3 1 row l.length (ints l)) ∧
    ∀ (i j : Nat) (ri rj : Value) (b : Nat), rows[i]? = some ri → rows[j]? = some rj → i ≠ j → ri.ownBlock = some b → rj.ownBlock ≠ some b
theorem RowsOwn.nil (w : World) (base : Nat) : RowsOwn w base [] [] := ⟨rfl, fun i row l h => by simp at h, fun i j ri rj b h => by simp at h⟩
theorem RowsOwn.ext {w w' : World} {base : Nat} {rows : List Value} {ls : List (List Int)} (h : RowsOwn w base rows ls) (hb : Ext w w') : RowsOwn w' base rows ls :=
  ⟨h.1, fun i row l hr hl => own_ext (h.2.1 i row l hr hl) hb, h.2.2⟩
theorem RowsOwn.row {w : World} {base : Nat} {rows : List Value} {ls : List (List Int)} (h : RowsOwn w base rows ls) {i : Nat} {row : Value} (hr : rows[i]? = some row) : ∃ l, ls[i]? = some l ∧ w.ownsRow base 3 1 row l.length (ints l) := by
  have hi : i < rows.length := (List.getElem?_eq_some_iff.1 hr).1
  have hl : ls[i]? = some (ls[i]'(by rw [← h.1]; exact hi)) := List.getElem?_eq_getElem _
  exact ⟨_, hl, h.2.1 i row _ hr hl⟩
theorem RowsOwn.frm {S : Nat → Prop} {w w' : World} {base : Nat} {rows : List Value} {ls : List (List Int)} (h : RowsOwn w base rows ls) (hb : Frm S w w') (hS : ∀ (i : Nat) (row : Value) (b : Nat), rows[i]? = some row → row.ownBlock = some b → ¬ S b) : RowsOwn w' base rows ls :=
  ⟨h.1, fun i row l hr hl => own_frm (h.2.1 i row l hr hl) hb (fun b hb => hS i row b hr hb), h.2.2⟩
theorem RowsOwn.snoc {w w' : World} {base : Nat} {rows : List Value} {ls : List (List Int)} (h : RowsOwn w base rows ls) (hb : Ext w w') {row : Value} {l : List Int} (hbase : base ≤ w.heap.size) (hrow : w'.ownsRow w.heap.size 3 1 row l.length (ints l)) :
    RowsOwn w' base (rows ++ [row]) (ls ++ [l]) := by
  have hlen := h.1
  refine ⟨by simp [hlen], fun i r m hr hm => ?_, fun i j ri rj b hri hrj hij hbi => ?_⟩
  · rcases Nat.lt_trichotomy i rows.length with hi | hi | hi
    · rw [List.getElem?_append_left hi] at hr
      rw [List.getElem?_append_left (by omega)] at hm
      exact own_ext (h.2.1 i r m hr hm) hb
    · rw [List.getElem?_append_right (by omega), hi, Nat.sub_self] at hr
      rw [List.getElem?_append_right (by omega), hi, hlen, Nat.sub_self] at hm
      simp at hr hm
      subst hr; subst hm
      exact own_less hrow hbase
    · rw [List.getElem?_eq_none (by simp; omega)] at hr; cases hr
  · have old : ∀ (i : Nat) (r : Value) (b : Nat), i < rows.length → rows[i]? = some r → r.ownBlock = some b → b < w.heap.size := fun i r b hi hr hb => by
      obtain ⟨m, _, ho⟩ := h.row hr
      exact (ho.lt b hb).2
    have new : ∀ b, row.ownBlock = some b → w.heap.size ≤ b := fun b hb => (hrow.lt b hb).1
    have hi : i ≤ rows.length := by have := (List.getElem?_eq_some_iff.1 hri).1; simp at this; omega
    have hj : j ≤ rows.length := by have := (List.getElem?_eq_some_iff.1 hrj).1; simp at this; omega
    rcases Nat.lt_or_eq_of_le hi with hi | hi <;> rcases Nat.lt_or_eq_of_le hj with hj | hj
    · rw [List.getElem?_append_left hi] at hri
      rw [List.getElem?_append_left hj] at hrj
      exact h.2.2 i j ri rj b hri hrj hij hbi
    · rw [List.getElem?_append_left hi] at hri
      subst hj
      simp at hrj
      subst hrj
      intro hc
      have h1 := old i ri b hi hri hbi
      have h2 := new b hc
      omega
    · rw [List.getElem?_append_left hj] at hrj
      subst hi
      simp at hri
      subst hri
      intro hc
      have h1 := old j rj b hj hrj hc
      have h2 := new b hbi
      omega
    · omega
/-- A slice of slices of numbers that is the call's own. -/
def OwnLL (w : World) (base : Nat) (v : Value) (ls : List (List Int)) : Prop := ∃ rows, w.ownsRow base 32 1 v ls.length rows ∧ RowsOwn w base rows ls
theorem OwnLL.ext {w w' : World} {base : Nat} {v : Value} {ls : List (List Int)} (h : OwnLL w base v ls) (hb : Ext w w') : OwnLL w' base v ls := by
  obtain ⟨rows, h1, h2⟩ := h
  exact ⟨rows, own_ext h1 hb, h2.ext hb⟩
theorem RowsOwn.keep {S : Nat → Prop} {w w' : World} {base : Nat} {rows : List Value} {ls : List (List Int)} (h : RowsOwn w base rows ls) (hb : Frm S w w') (hS : ∀ b, base ≤ b → ¬ S b) : RowsOwn w' base rows ls :=
  ⟨h.1, fun i row l hr hl => own_keep (h.2.1 i row l hr hl) hb hS, h.2.2⟩
theorem RowsOwn.less {w : World} {base base' : Nat} {rows : List Value} {ls : List (List Int)} (h : RowsOwn w base rows ls) (hb : base' ≤ base) : RowsOwn w base' rows ls :=
  ⟨h.1, fun i row l hr hl => own_less (h.2.1 i row l hr hl) hb, h.2.2⟩
theorem OwnLL.keep {S : Nat → Prop} {w w' : World} {base : Nat} {v : Value} {ls : List (List Int)} (h : OwnLL w base v ls) (hb : Frm S w w') (hS : ∀ b, base ≤ b → ¬ S b) : OwnLL w' base v ls := by
  obtain ⟨rows, h1, h2⟩ := h
  exact ⟨rows, own_keep h1 hb hS, h2.keep hb hS⟩
theorem OwnLL.less {w : World} {base base' : Nat} {v : Value} {ls : List (List Int)} (h : OwnLL w base v ls) (hb : base' ≤ base) : OwnLL w base' v ls := by
  obtain ⟨rows, h1, h2⟩ := h
  exact ⟨rows, own_less h1 hb, h2.less hb⟩
theorem OwnLL.reads {w : World} {base : Nat} {A : Option Addr} {n c : Nat} {ls : List (List Int)} (h : OwnLL w base (.slice A n c) ls) (hn : n = ls.length) : ReadsLL w base w.heap.size A n ls := by
  obtain ⟨rows, h1, h2⟩ := h
  subst hn
  refine ⟨rfl, rows, Reads.of_own h1, h2.1, fun i row l hr hl => ?_⟩
  have ho := h2.2.1 i row l hr hl
  obtain ⟨A', c', rfl⟩ := own_form ho
  exact ⟨A', c', rfl, Reads.of_own ho⟩

theorem rows_store {w : World} {base g n cap k : Nat} {rows rest : List Value} {row : Value} {ls : List (List Int)} (hown : w.ownsRow base 32 1 (.slice (some ⟨g, 0, none⟩) n cap) n (rows ++ rest)) (hk : rows.length = k) (hr : 0 < rest.length)
    (hrows : RowsOwn w base (rows ++ [row]) ls) :
    (w.setCell ⟨g, k, none⟩ row).ownsRow base 32 1 (.slice (some ⟨g, 0, none⟩) n cap) n ((rows ++ [row]) ++ rest.tail) ∧ RowsOwn (w.setCell ⟨g, k, none⟩ row) base (rows ++ [row]) ls := by
  refine ⟨?_, hrows.frm (Frm.setCell w g k row) fun i r b hr hb => ?_⟩
  · have h := (hown.stored k row).1
    rw [set_end row hk hr] at h
    exact h
  · rintro rfl
    obtain ⟨l, _, ho⟩ := hrows.row hr
    exact own_ne ho hown (by decide) hb rfl

/-- An automaton in new memory. -/
def AutOwn (w : World) (base : Nat) (A : Option Addr) (n c : Nat) (A' : Option Addr) (n' c' : Nat) (a : Aut) : Prop :=
  OwnLL w base (.slice A n c) a.next ∧ n = a.next.length ∧ w.ownsRow base 4 1 (.slice A' n' c') n' (bools a.acc) ∧ n' = a.acc.length
theorem AutOwn.ext {w w' : World} {base : Nat} {A : Option Addr} {n c : Nat} {A' : Option Addr} {n' c' : Nat} {a : Aut} (h : AutOwn w base A n c A' n' c' a) (hb : Ext w w') : AutOwn w' base A n c A' n' c' a :=
  ⟨h.1.ext hb, h.2.1, own_ext h.2.2.1 hb, h.2.2.2⟩
theorem AutOwn.keep {S : Nat → Prop} {w w' : World} {base : Nat} {A : Option Addr} {n c : Nat} {A' : Option Addr} {n' c' : Nat} {a : Aut} (h : AutOwn w base A n c A' n' c' a) (hb : Frm S w w') (hS : ∀ b, base ≤ b → ¬ S b) : AutOwn w' base A n c A' n' c' a :=
  ⟨h.1.keep hb hS, h.2.1, own_keep h.2.2.1 hb hS, h.2.2.2⟩
theorem AutOwn.less {w : World} {base base' : Nat} {A : Option Addr} {n c : Nat} {A' : Option Addr} {n' c' : Nat} {a : Aut} (h : AutOwn w base A n c A' n' c' a) (hb : base' ≤ base) : AutOwn w base' A n c A' n' c' a :=
  ⟨h.1.less hb, h.2.1, own_less h.2.2.1 hb, h.2.2.2⟩
theorem AutOwn.reads {w : World} {base : Nat} {A : Option Addr} {n c : Nat} {A' : Option Addr} {n' c' : Nat} {a : Aut} (h : AutOwn w base A n c A' n' c' a) : AutAt w base w.heap.size A n A' n' a :=
  ⟨h.1.reads h.2.1, h.2.2.2, Reads.of_own h.2.2.1⟩
def RetAut (w : World) (a : Aut) (e : Ending) (w' : World) : Prop :=
  ∃ A n c A' n' c', e = .returned (.agg #[.int .i64 a.al, .slice A n c, .slice A' n' c']) ∧ AutOwn w' w.heap.size A n c A' n' c' a ∧ Ext w w'

end Go.Proofs.YtdeopnjheeekcaaDoor
