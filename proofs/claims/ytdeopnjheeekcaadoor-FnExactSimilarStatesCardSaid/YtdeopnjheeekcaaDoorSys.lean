/- Systems as data; how they lie in memory; the laws' own copies and counts. -/
import Derived.Test.YtdeopnjheeekcaaDoorTo
import Derived.Test.YtdeopnjheeekcaaDoorSeq
namespace Go.Proofs.YtdeopnjheeekcaaDoor
open Go Go.RowKit
set_option maxHeartbeats 400000

structure Edg where
  fr : Int
  le : Int
  to : Int
deriving DecidableEq
structure Sys where
  al : Int
  st : Int
  edges : List Edg

def edgeCells : List Edg → List Value
  | [] => []
  | e :: r => .int .i64 e.fr :: .int .i64 e.le :: .int .i64 e.to :: edgeCells r
theorem edgeCells_length (l : List Edg) : (edgeCells l).length = l.length * 3 := by
  induction l with
  | nil => rfl
  | cons e r ih => simp only [edgeCells, List.length_cons, ih]; omega
theorem edgeCells_append (l m : List Edg) : edgeCells (l ++ m) = edgeCells l ++ edgeCells m := by
  induction l with
  | nil => rfl
  | cons e r ih => simp [edgeCells, ih]
theorem edgeCells_get {l : List Edg} {k : Nat} {e : Edg} (h : l[k]? = some e) : (edgeCells l)[k * 3]? = some (.int .i64 e.fr) ∧ (edgeCells l)[k * 3 + 1]? = some (.int .i64 e.le) ∧ (edgeCells l)[k * 3 + 2]? = some (.int .i64 e.to) := by
  induction l generalizing k with
  | nil => simp at h
  | cons a r ih =>
    cases k with
    | zero => simp at h; subst h; exact ⟨rfl, rfl, rfl⟩
    | succ k =>
      have := ih (k := k) (by simpa using h)
      have e1 : (k + 1) * 3 = k * 3 + 1 + 1 + 1 := by omega
      refine ⟨?_, ?_, ?_⟩ <;> rw [e1] <;> simp only [edgeCells, List.getElem?_cons_succ]
      · exact this.1
      · exact this.2.1
      · exact this.2.2

theorem addr_spot {w : World} {ad : Addr} {v : Value} (h : w.cell? (ad.add 0) = some v) : ad = ⟨ad.block, ad.off, none⟩ := by
  rw [addr_zero] at h
  obtain ⟨b, o, s⟩ := ad
  have hs : s = none := World.cell?_spot h
  subst hs
  rfl
theorem Reads.edge {w : World} {lo hi n k : Nat} {A : Option Addr} {l : List Edg} (h : Reads w lo hi 3 A n (edgeCells l)) (hk : k < n) :
    ∃ b o e, A = some ⟨b, o, none⟩ ∧ lo ≤ b ∧ b < hi ∧ Hid (l[k]? = some e) ∧ w.cell? ⟨b, o + k * 3, none⟩ = some (.int .i64 e.fr) ∧ w.cell? ⟨b, o + k * 3 + 1, none⟩ = some (.int .i64 e.le) ∧ w.cell? ⟨b, o + k * 3 + 2, none⟩ = some (.int .i64 e.to) := by
  obtain ⟨ad, eA, hl, hb, hc⟩ := h.at_ hk
  have hn : l.length = n := by have := h.length; rw [edgeCells_length] at this; omega
  have hx : l[k]? = some l[k] := List.getElem?_eq_getElem (by omega)
  have hg := edgeCells_get hx
  have h0 := hc _ _ hg.1
  have h1 := hc _ _ hg.2.1
  have h2 := hc _ _ hg.2.2
  have hz := edgeCells_get (k := 0) (List.getElem?_eq_getElem (l := l) (by omega))
  rw [Nat.zero_mul] at hz
  have hs := addr_spot (hc _ _ hz.1)
  rw [hs] at h0 h1 h2
  rw [addr_lit] at h0 h1 h2
  exact ⟨ad.block, ad.off, l[k], by rw [eA, hs], hl, hb, hx, h0, by rw [Nat.add_assoc]; exact h1, by rw [Nat.add_assoc]; exact h2⟩

theorem Reads.edge2 {w : World} {lo hi n j b o : Nat} {l : List Edg} {e : Edg} (h : Reads w lo hi 3 (some ⟨b, o, none⟩) n (edgeCells l)) (he : l[j]? = some e) :
    w.cell? ⟨b, o + j * 3, none⟩ = some (.int .i64 e.fr) ∧ w.cell? ⟨b, o + j * 3 + 1, none⟩ = some (.int .i64 e.le) ∧ w.cell? ⟨b, o + j * 3 + 2, none⟩ = some (.int .i64 e.to) := by
  have hj : j < l.length := (List.getElem?_eq_some_iff.1 he).1
  have hn : l.length = n := by have := h.length; rw [edgeCells_length] at this; omega
  obtain ⟨ad, eA, _, _, hc⟩ := h.at_ (k := j) (by omega)
  injection eA with eA
  subst eA
  have hg := edgeCells_get he
  have h0 := hc _ _ hg.1
  have h1 := hc _ _ hg.2.1
  have h2 := hc _ _ hg.2.2
  rw [addr_lit] at h0 h1 h2
  exact ⟨h0, by rw [Nat.add_assoc]; exact h1, by rw [Nat.add_assoc]; exact h2⟩

/-- The slice of edges (A, n) holds the edges of a system. -/
def SysAt (w : World) (lo hi : Nat) (A : Option Addr) (n : Nat) (s : Sys) : Prop := n = s.edges.length ∧ Reads w lo hi 3 A n (edgeCells s.edges)
section
variable {w w' : World} {lo hi n : Nat} {A : Option Addr} {s : Sys}
theorem SysAt.ext (h : SysAt w lo hi A n s) (hb : Ext w w') : SysAt w' lo hi A n s := ⟨h.1, h.2.ext hb⟩
theorem SysAt.frm {S : Nat → Prop} (h : SysAt w lo hi A n s) (hb : Frm S w w') (hS : ∀ k, lo ≤ k → k < hi → ¬ S k) : SysAt w' lo hi A n s := ⟨h.1, h.2.frm hb hS⟩
theorem SysAt.more {lo' hi' : Nat} (h : SysAt w lo hi A n s) (hL : lo' ≤ lo) (hH : hi ≤ hi') : SysAt w lo' hi' A n s := ⟨h.1, h.2.more hL hH⟩
end

theorem szEdgeS_any {A : Option Addr} {n c : Nat} {left : Int} {w : World} (hn : n ≤ 9223372036854775807) (h0 : 0 ≤ left) (h1 : left ≤ 1048576) :
    Calls Tryd.prog 22 #[.slice A n c, .int .i64 left] w fun e w' => e = .returned (.int .i64 (leftOf left n)) ∧ w = w' := by
  by_cases h : left - n < 0
  all_goals
    go_enter Tryd.func22, Tryd.ntmps22
    go_wp2
    go_ret
    exact ⟨ret_int (by unfold leftOf; split <;> omega), rfl⟩

theorem szSystem_any {A : Option Addr} {n c : Nat} {al st left : Int} {w : World} (hn : n ≤ 9223372036854775807) (h0 : 0 ≤ left) (h1 : left ≤ 1048576) :
    Calls Tryd.prog 7 #[.agg #[.int .i64 al, .int .i64 st, .slice A n c], .int .i64 left] w fun e w' => e = .returned (.int .i64 (leftOf left n)) ∧ Ext w w' := by
  have hg := leftOf_ge left n
  by_cases h : leftOf left n < 0
  all_goals
    go_enter Tryd.func7, Tryd.ntmps7
    go_wp2_with (go_at_call 22; refine (szEdgeS_any hn h0 h1).mono ?_; rintro e w' ⟨rfl, rfl⟩)
    go_ret
    exact ⟨ret_int (by omega), (Ext.refl _).alloc _⟩

theorem toEdge_any {e : Edg} {w : World} :
    Calls Tryd.prog 39 #[.agg #[.int .i64 e.fr, .int .i64 e.le, .int .i64 e.to]] w fun r w' => r = .returned (.agg #[.int .i64 e.fr, .int .i64 e.le, .int .i64 e.to]) ∧ Ext w w' := by
  go_enter Tryd.func39, Tryd.ntmps39
  go_wp2
  refine bodyPost_ret (v := .agg #[.int .i64 e.fr, .int .i64 e.le, .int .i64 e.to]) (by simp [results, Tryd.results39, go_sem]) rfl ⟨rfl, ?_⟩
  exact (((Ext.refl _).alloc _).alloc _).alloc _

theorem info_edge : (Tryd.prog.info? 53).map (fun i => (i.zero, i.size, i.bytes)) = some (some (.agg #[.int .i64 0, .int .i64 0, .int .i64 0]), 3, 24) := by kernel_rfl
theorem own_store3 {w : World} {base n cap g : Nat} {e : TypeId} {xs : List Value} (h : w.ownsRow base e 3 (.slice (some ⟨g, 0, none⟩) n cap) n xs) (j : Nat) (u v x : Value) :
    (((w.setCell ⟨g, j, none⟩ u).setCell ⟨g, j + 1, none⟩ v).setCell ⟨g, j + 2, none⟩ x).ownsRow base e 3 (.slice (some ⟨g, 0, none⟩) n cap) n (((xs.set j u).set (j + 1) v).set (j + 2) x) :=
  (((h.stored j u).1.stored (j + 1) v).1.stored (j + 2) x).1
theorem set3_edges {l : List Edg} {rest : List Value} {k : Nat} {e : Edg} (he : l[k]? = some e) (hr : 3 ≤ rest.length) :
    (((edgeCells (l.take k) ++ rest).set (k * 3) (.int .i64 e.fr)).set (k * 3 + 1) (.int .i64 e.le)).set (k * 3 + 2) (.int .i64 e.to) = edgeCells (l.take (k + 1)) ++ rest.drop 3 := by
  have hk : k < l.length := (List.getElem?_eq_some_iff.1 he).1
  have hl : (edgeCells (l.take k)).length = k * 3 := by rw [edgeCells_length, List.length_take, Nat.min_eq_left (by omega)]
  match rest, hr with
  | a :: b :: c :: r, _ =>
    rw [List.set_append_right _ _ (by omega), hl, Nat.sub_self, List.set_append_right _ _ (by omega), hl, List.set_append_right _ _ (by omega), hl, List.take_add_one, he, edgeCells_append]
    rw [show k * 3 + 1 - k * 3 = 1 from by omega, show k * 3 + 2 - k * 3 = 2 from by omega]
    simp [edgeCells]

/-- Edges in new memory. -/
def OwnE (w : World) (base : Nat) (A : Option Addr) (n c : Nat) (l : List Edg) : Prop := n = l.length ∧ w.ownsRow base 53 3 (.slice A n c) n (edgeCells l)
theorem OwnE.ext {w w' : World} {base : Nat} {A : Option Addr} {n c : Nat} {l : List Edg} (h : OwnE w base A n c l) (hb : Ext w w') : OwnE w' base A n c l := ⟨h.1, own_ext h.2 hb⟩
theorem OwnE.keep {S : Nat → Prop} {w w' : World} {base : Nat} {A : Option Addr} {n c : Nat} {l : List Edg} (h : OwnE w base A n c l) (hb : Frm S w w') (hS : ∀ b, base ≤ b → ¬ S b) : OwnE w' base A n c l := ⟨h.1, own_keep h.2 hb hS⟩
theorem OwnE.less {w : World} {base base' : Nat} {A : Option Addr} {n c : Nat} {l : List Edg} (h : OwnE w base A n c l) (hb : base' ≤ base) : OwnE w base' A n c l := ⟨h.1, own_less h.2 hb⟩
theorem OwnE.reads {w : World} {base : Nat} {A : Option Addr} {n c : Nat} {s : Sys} (h : OwnE w base A n c s.edges) : SysAt w base w.heap.size A n s := ⟨h.1, Reads.of_own h.2⟩

theorem toEdgeS_any {lo hi : Nat} {A : Option Addr} {n c : Nat} {l : List Edg} {w : World} (h : Reads w lo hi 3 A n (edgeCells l)) (hn : n ≤ 1048576) :
    Calls Tryd.prog 26 #[.slice A n c] w fun e w' => e = .returned (.slice (some ⟨w.heap.size, 0, none⟩) n n) ∧ OwnE w' w.heap.size (some ⟨w.heap.size, 0, none⟩) n n l ∧ Ext w w' := by
  have hl : l.length = n := by have := h.length; rw [edgeCells_length] at this; omega
  have Hl := hide hl
  clear hl
  go_enter Tryd.func26, Tryd.ntmps26
  go_wp2_with (at_make; refine wpList_make w _ rfl _ _ 27 rfl 53 _ 3 24 Tryd.underlying27 info_edge _ _ n rfl rfl (Ext.refl _) (by omega) (by unfold maxLen; omega) ?_; intro w1 hext1 hown1 _ hsz1)
  go_loopw [4] (fun i wr => ∃ k : Nat, k ≤ n ∧ i = .int .i64 k ∧ ∃ rest : List Value, Hid (rest.length = (n - k) * 3) ∧ wr.ownsRow w.heap.size 53 3 (.slice (some ⟨w.heap.size, 0, none⟩) n n) n (edgeCells (l.take k) ++ rest) ∧ Ext w wr)
    (fun i _ => n - (intOf i).toNat)
  case atStart => exact ⟨0, Nat.zero_le _, rfl, _, by have := hown1.1; unfold Hid; rw [this]; omega, by simpa [edgeCells] using hown1, hext1⟩
  case round =>
    obtain ⟨k, hk, rfl, rest, hrest, hown, hext⟩ := hrel
    by_cases hlt : k < n
    · obtain ⟨b, o, e, rfl, hlo, hhi, he, c0, c1, c2⟩ := (h.ext hext).edge hlt
      go_wp2_with (go_at_call 39; refine (toEdge_any (e := e)).mono ?_; rintro r w2 ⟨rfl, hext2⟩; have hown' := own_ext hown hext2; obtain ⟨o0, d0⟩ := own_cell hown' (k * 3) (by omega); obtain ⟨o1, d1⟩ := own_cell hown' (k * 3 + 1) (by omega); obtain ⟨o2, d2⟩ := own_cell hown' (k * 3 + 2) (by omega); have f0 := hown'.frozenAt (k * 3); have f1 := hown'.frozenAt (k * 3 + 1); have f2 := hown'.frozenAt (k * 3 + 2))
      have hst := own_store3 hown' (k * 3) (.int .i64 e.fr) (.int .i64 e.le) (.int .i64 e.to)
      rw [set3_edges he.out (by have := hrest.out; omega)] at hst
      go_roundw
      case rel => exact ⟨k + 1, by omega, by go_num, rest.drop 3, by have := hrest.out; unfold Hid; rw [List.length_drop]; omega, hst, (((hext.trans hext2).setCell (by dsimp only; omega) _).setCell (by dsimp only; omega) _).setCell (by dsimp only; omega) _⟩
      case measure => simp [intOf]; omega
    · obtain rfl : k = n := by omega
      go_wp2
      go_ret
      have : rest = [] := List.eq_nil_of_length_eq_zero (by have := hrest.out; omega)
      subst this
      rw [List.take_of_length_le (by have := Hl.out; omega)] at hown
      exact ⟨rfl, ⟨Hl.out.symm, by simpa using hown⟩, hext⟩
end Go.Proofs.YtdeopnjheeekcaaDoor
