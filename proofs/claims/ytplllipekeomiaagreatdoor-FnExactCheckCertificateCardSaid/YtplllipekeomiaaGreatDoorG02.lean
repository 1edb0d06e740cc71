/- Systems as data; how they lie in memory; the laws' own copies and counts. | Contracts of the laws' own comparisons. | Systems: copies and comparisons of the laws. | Slices of systems: how they lie in memory; the laws' own counts, copies and comparisons of them. | From the row's reading of an argument to the words of the walks: edges, systems, slices of systems. | What every row's proof takes: how the arguments of the laws are opened. | math/bits.TrailingZeros, as this program has it; the members of a set. | What a row's proof over the variables' door takes besides: the table of math/bits, out of the row's condition. -/
import Derived.Test.YtplllipekeomiaaGreatDoorG01
import Derived.Lib.TrailingZeros
import Derived.Shelf.Spec.TrailingZeros
import Derived.Lib.LaidTab
import Derived.LaidMore
import Derived.ProofKit
import Derived.Stop.Joined
import Derived.Stop.LaidErr
namespace Go.Proofs.YtplllipekeomiaaGreatDoor
open Go Go.RowKit
set_option maxHeartbeats 400000

structure Edg where
  fr : Int
  le : Int
  to : Int
deriving DecidableEq
structure Sys where
  al : Int
  st : Int
  edges : List Edg

def edgeCells : List Edg → List Value
  | [] => []
  | e :: r => .int .i64 e.fr :: .int .i64 e.le :: .int .i64 e.to :: edgeCells r
theorem edgeCells_length (l : List Edg) : (edgeCells l).length = l.length * 3 := by
  induction l with
  | nil => rfl
  | cons e r ih => simp only [edgeCells, List.length_cons, ih]; omega
theorem edgeCells_append (l m : List Edg) : edgeCells (l ++ m) = edgeCells l ++ edgeCells m := by
  induction l with
  | nil => rfl
  | cons e r ih => simp [edgeCells, ih]
theorem edgeCells_get {l : List Edg} {k : Nat} {e : Edg} (h : l[k]? = some e) : (edgeCells l)[k * 3]? = some (.int .i64 e.fr) ∧ (edgeCells l)[k * 3 + 1]? = some (.int .i64 e.le) ∧ (edgeCells l)[k * 3 + 2]? = some (.int .i64 e.to) := by
  induction l generalizing k with
  | nil => simp at h
  | cons a r ih =>
    cases k with
    | zero => simp at h; subst h; exact ⟨rfl, rfl, rfl⟩
    | succ k =>
      have := ih (k := k) (by simpa using h)
      have e1 : (k + 1) * 3 = k * 3 + 1 + 1 + 1 := by omega
      refine ⟨?_, ?_, ?_⟩ <;> rw [e1] <;> simp only [edgeCells, List.getElem?_cons_succ]
      · exact this.1
      · exact this.2.1
      · exact this.2.2

theorem addr_spot {w : World} {ad : Addr} {v : Value} (h : w.cell? (ad.add 0) = some v) : ad = ⟨ad.block, ad.off, none⟩ := by
  rw [addr_zero] at h
  obtain ⟨b, o, s⟩ := ad
  have hs : s = none := World.cell?_spot h
  subst hs
  rfl
theorem Reads.edge {w : World} {lo hi n k : Nat} {A : Option Addr} {l : List Edg} (h : Reads w lo hi 3 A n (edgeCells l)) (hk : k < n) :
    ∃ b o e, A = some ⟨b, o, none⟩ ∧ lo ≤ b ∧ b < hi ∧ Hid (l[k]? = some e) ∧ w.cell? ⟨b, o + k * 3, none⟩ = some (.int .i64 e.fr) ∧ w.cell? ⟨b, o + k * 3 + 1, none⟩ = some (.int .i64 e.le) ∧ w.cell? ⟨b, o + k * 3 + 2, none⟩ = some (.int .i64 e.to) := by
  obtain ⟨ad, eA, hl, hb, hc⟩ := h.at_ hk
  have hn : l.length = n := by have := h.length; rw [edgeCells_length] at this; omega
  have hx : l[k]? = some l[k] := List.getElem?_eq_getElem (by omega)
  have hg := edgeCells_get hx
  have h0 := hc _ _ hg.1
  have h1 := hc _ _ hg.2.1
  have h2 := hc _ _ hg.2.2
  have hz := edgeCells_get (k := 0) (List.getElem?_eq_getElem (l := l) (by omega))
  rw [Nat.zero_mul] at hz
  have hs := addr_spot (hc _ _ hz.1)
  rw [hs] at h0 h1 h2
  rw [addr_lit] at h0 h1 h2
  exact ⟨ad.block, ad.off, l[k], by rw [eA, hs], hl, hb, hx, h0, by rw [Nat.add_assoc]; exact h1, by rw [Nat.add_assoc]; exact h2⟩

theorem Reads.edge2 {w : World} {lo hi n j b o : Nat} {l : List Edg} {e : Edg} (h : Reads w lo hi 3 (some ⟨b, o, none⟩) n (edgeCells l)) (he : l[j]? = some e) :
    w.cell? ⟨b, o + j * 3, none⟩ = some (.int .i64 e.fr) ∧ w.cell? ⟨b, o + j * 3 + 1, none⟩ = some (.int .i64 e.le) ∧ w.cell? ⟨b, o + j * 3 + 2, none⟩ = some (.int .i64 e.to) := by
  have hj : j < l.length := (List.getElem?_eq_some_iff.1 he).1
  have hn : l.length = n := by have := h.length; rw [edgeCells_length] at this; omega
  obtain ⟨ad, eA, _, _, hc⟩ := h.at_ (k := j) (by omega)
  injection eA with eA
  subst eA
  have hg := edgeCells_get he
  have h0 := hc _ _ hg.1
  have h1 := hc _ _ hg.2.1
  have h2 := hc _ _ hg.2.2
  rw [addr_lit] at h0 h1 h2
  exact ⟨h0, by rw [Nat.add_assoc]; exact h1, by rw [Nat.add_assoc]; exact h2⟩

/-- The slice of edges (A, n) holds the edges of a system. -/
def SysAt (w : World) (lo hi : Nat) (A : Option Addr) (n : Nat) (s : Sys) : Prop := n = s.edges.length ∧ Reads w lo hi 3 A n (edgeCells s.edges)
section
variable {w w' : World} {lo hi n : Nat} {A : Option Addr} {s : Sys}
theorem SysAt.ext (h : SysAt w lo hi A n s) (hb : Ext w w') : SysAt w' lo hi A n s := ⟨h.1, h.2.ext hb⟩
theorem SysAt.frm {S : Nat → Prop} (h : SysAt w lo hi A n s) (hb : Frm S w w') (hS : ∀ k, lo ≤ k → k < hi → ¬ S k) : SysAt w' lo hi A n s := ⟨h.1, h.2.frm hb hS⟩
theorem SysAt.more {lo' hi' : Nat} (h : SysAt w lo hi A n s) (hL : lo' ≤ lo) (hH : hi ≤ hi') : SysAt w lo' hi' A n s := ⟨h.1, h.2.more hL hH⟩
end

theorem szEdgeS_any {A : Option Addr} {n c : Nat} {left : Int} {w : World} (hn : n ≤ 9223372036854775807) (h0 : 0 ≤ left) (h1 : left ≤ 1048576) :
    Calls Tryz.prog 38 #[.slice A n c, .int .i64 left] w fun e w' => e = .returned (.int .i64 (leftOf left n)) ∧ w = w' := by
  by_cases h : left - n < 0
  all_goals
    go_enter Tryz.func38, Tryz.ntmps38
    go_wp2
    go_ret
    exact ⟨ret_int (by unfold leftOf; split <;> omega), rfl⟩

theorem szSystem_any {A : Option Addr} {n c : Nat} {al st left : Int} {w : World} (hn : n ≤ 9223372036854775807) (h0 : 0 ≤ left) (h1 : left ≤ 1048576) :
    Calls Tryz.prog 16 #[.agg #[.int .i64 al, .int .i64 st, .slice A n c], .int .i64 left] w fun e w' => e = .returned (.int .i64 (leftOf left n)) ∧ Ext w w' := by
  have hg := leftOf_ge left n
  by_cases h : leftOf left n < 0
  all_goals
    go_enter Tryz.func16, Tryz.ntmps16
    go_wp2_with (go_at_call 38; refine (szEdgeS_any hn h0 h1).mono ?_; rintro e w' ⟨rfl, rfl⟩)
    go_ret
    exact ⟨ret_int (by omega), (Ext.refl _).alloc _⟩

theorem toEdge_any {e : Edg} {w : World} :
    Calls Tryz.prog 70 #[.agg #[.int .i64 e.fr, .int .i64 e.le, .int .i64 e.to]] w fun r w' => r = .returned (.agg #[.int .i64 e.fr, .int .i64 e.le, .int .i64 e.to]) ∧ Ext w w' := by
  go_enter Tryz.func70, Tryz.ntmps70
  go_wp2
  refine bodyPost_ret (v := .agg #[.int .i64 e.fr, .int .i64 e.le, .int .i64 e.to]) (by simp [results, Tryz.results70, go_sem]) rfl ⟨rfl, ?_⟩
  exact (((Ext.refl _).alloc _).alloc _).alloc _

theorem info_edge : (Tryz.prog.info? 96).map (fun i => (i.zero, i.size, i.bytes)) = some (some (.agg #[.int .i64 0, .int .i64 0, .int .i64 0]), 3, 24) := by kernel_rfl
theorem own_store3 {w : World} {base n cap g : Nat} {e : TypeId} {xs : List Value} (h : w.ownsRow base e 3 (.slice (some ⟨g, 0, none⟩) n cap) n xs) (j : Nat) (u v x : Value) :
    (((w.setCell ⟨g, j, none⟩ u).setCell ⟨g, j + 1, none⟩ v).setCell ⟨g, j + 2, none⟩ x).ownsRow base e 3 (.slice (some ⟨g, 0, none⟩) n cap) n (((xs.set j u).set (j + 1) v).set (j + 2) x) :=
  (((h.stored j u).1.stored (j + 1) v).1.stored (j + 2) x).1
theorem set3_edges {l : List Edg} {rest : List Value} {k : Nat} {e : Edg} (he : l[k]? = some e) (hr : 3 ≤ rest.length) :
    (((edgeCells (l.take k) ++ rest).set (k * 3) (.int .i64 e.fr)).set (k * 3 + 1) (.int .i64 e.le)).set (k * 3 + 2) (.int .i64 e.to) = edgeCells (l.take (k + 1)) ++ rest.drop 3 := by
  have hk : k < l.length := (List.getElem?_eq_some_iff.1 he).1
  have hl : (edgeCells (l.take k)).length = k * 3 := by rw [edgeCells_length, List.length_take, Nat.min_eq_left (by omega)]
  match rest, hr with
  | a :: b :: c :: r, _ =>
    rw [List.set_append_right _ _ (by omega), hl, Nat.sub_self, List.set_append_right _ _ (by omega), hl, List.set_append_right _ _ (by omega), hl, List.take_add_one, he, edgeCells_append]
    rw [show k * 3 + 1 - k * 3 = 1 from by omega, show k * 3 + 2 - k * 3 = 2 from by omega]
    simp [edgeCells]

/-- Edges in new memory. -/
def OwnE (w : World) (base : Nat) (A : Option Addr) (n c : Nat) (l : List Edg) : Prop := n = l.length ∧ w.ownsRow base 96 3 (.slice A n c) n (edgeCells l)
theorem OwnE.ext {w w' : World} {base : Nat} {A : Option Addr} {n c : Nat} {l : List Edg} (h : OwnE w base A n c l) (hb : Ext w w') : OwnE w' base A n c l := ⟨h.1, own_ext h.2 hb⟩
theorem OwnE.keep {S : Nat → Prop} {w w' : World} {base : Nat} {A : Option Addr} {n c : Nat} {l : List Edg} (h : OwnE w base A n c l) (hb : Frm S w w') (hS : ∀ b, base ≤ b → ¬ S b) : OwnE w' base A n c l := ⟨h.1, own_keep h.2 hb hS⟩
theorem OwnE.less {w : World} {base base' : Nat} {A : Option Addr} {n c : Nat} {l : List Edg} (h : OwnE w base A n c l) (hb : base' ≤ base) : OwnE w base' A n c l := ⟨h.1, own_less h.2 hb⟩
theorem OwnE.reads {w : World} {base : Nat} {A : Option Addr} {n c : Nat} {s : Sys} (h : OwnE w base A n c s.edges) : SysAt w base w.heap.size A n s := ⟨h.1, Reads.of_own h.2⟩

theorem toEdgeS_any {lo hi : Nat} {A : Option Addr} {n c : Nat} {l : List Edg} {w : World} (h : Reads w lo hi 3 A n (edgeCells l)) (hn : n ≤ 1048576) :
    Calls Tryz.prog 43 #[.slice A n c] w fun e w' => e = .returned (.slice (some ⟨w.heap.size, 0, none⟩) n n) ∧ OwnE w' w.heap.size (some ⟨w.heap.size, 0, none⟩) n n l ∧ Ext w w' := by
  have hl : l.length = n := by have := h.length; rw [edgeCells_length] at this; omega
  have Hl := hide hl
  clear hl
  go_enter Tryz.func43, Tryz.ntmps43
  go_wp2_with (at_make; refine wpList_make w _ rfl _ _ 52 rfl 96 _ 3 24 Tryz.underlying52 info_edge _ _ n rfl rfl (Ext.refl _) (by omega) (by unfold maxLen; omega) ?_; intro w1 hext1 hown1 _ hsz1)
  go_loopw [4] (fun i wr => ∃ k : Nat, k ≤ n ∧ i = .int .i64 k ∧ ∃ rest : List Value, Hid (rest.length = (n - k) * 3) ∧ wr.ownsRow w.heap.size 96 3 (.slice (some ⟨w.heap.size, 0, none⟩) n n) n (edgeCells (l.take k) ++ rest) ∧ Ext w wr)
    (fun i _ => n - (intOf i).toNat)
  case atStart => exact ⟨0, Nat.zero_le _, rfl, _, by have := hown1.1; unfold Hid; rw [this]; omega, by simpa [edgeCells] using hown1, hext1⟩
  case round =>
    obtain ⟨k, hk, rfl, rest, hrest, hown, hext⟩ := hrel
    by_cases hlt : k < n
    · obtain ⟨b, o, e, rfl, hlo, hhi, he, c0, c1, c2⟩ := (h.ext hext).edge hlt
      go_wp2_with (go_at_call 70; refine (toEdge_any (e := e)).mono ?_; rintro r w2 ⟨rfl, hext2⟩; have hown' := own_ext hown hext2; obtain ⟨o0, d0⟩ := own_cell hown' (k * 3) (by omega); obtain ⟨o1, d1⟩ := own_cell hown' (k * 3 + 1) (by omega); obtain ⟨o2, d2⟩ := own_cell hown' (k * 3 + 2) (by omega); have f0 := hown'.frozenAt (k * 3); have f1 := hown'.frozenAt (k * 3 + 1); have f2 := hown'.frozenAt (k * 3 + 2))
      have hst := own_store3 hown' (k * 3) (.int .i64 e.fr) (.int .i64 e.le) (.int .i64 e.to)
      rw [set3_edges he.out (by have := hrest.out; omega)] at hst
      go_roundw
      case rel => exact ⟨k + 1, by omega, by go_num, rest.drop 3, by have := hrest.out; unfold Hid; rw [List.length_drop]; omega, hst, (((hext.trans hext2).setCell (by dsimp only; omega) _).setCell (by dsimp only; omega) _).setCell (by dsimp only; omega) _⟩
      case measure => simp [intOf]; omega
    · obtain rfl : k = n := by omega
      go_wp2
      go_ret
      have : rest = [] := List.eq_nil_of_length_eq_zero (by have := hrest.out; omega)
      subst this
      rw [List.take_of_length_le (by have := Hl.out; omega)] at hown
      exact ⟨rfl, ⟨Hl.out.symm, by simpa using hown⟩, hext⟩
end Go.Proofs.YtplllipekeomiaaGreatDoor

namespace Go.Proofs.YtplllipekeomiaaGreatDoor
open Go Go.RowKit
set_option maxHeartbeats 400000

theorem eq_stop {α : Type} [BEq α] [LawfulBEq α] {l m : List α} {k : Nat} {x y : α} (hx : l[k]? = some x) (hy : m[k]? = some y) (h : (x == y) = false) : (l == m) = false := by
  rw [beq_eq_false_iff_ne]
  rintro rfl
  rw [hx] at hy
  injection hy with hy
  subst hy
  simp at h
theorem eq_step {α : Type} [BEq α] [LawfulBEq α] {l m : List α} {k : Nat} {x y : α} (hx : l[k]? = some x) (hy : m[k]? = some y) (h : (x == y) = true) (hk : l.take k = m.take k) : l.take (k + 1) = m.take (k + 1) := by
  rw [List.take_add_one, List.take_add_one, hx, hy, hk, eq_of_beq h]
theorem eq_end {α : Type} [BEq α] [LawfulBEq α] {l m : List α} {k : Nat} (h1 : l.length ≤ k) (h2 : m.length ≤ k) (hk : l.take k = m.take k) : (l == m) = true := by
  rw [List.take_of_length_le h1, List.take_of_length_le h2] at hk
  simp [hk]
theorem eq_lens {α : Type} [BEq α] [LawfulBEq α] {l m : List α} (h : l.length ≠ m.length) : (l == m) = false := by
  rw [beq_eq_false_iff_ne]
  rintro rfl
  exact h rfl

theorem eqIntS_any (lo hi lo' hi' : Nat) (A : Option Addr) (n c : Nat) (B : Option Addr) (m d : Nat) (l l' : List Int) (w : World) (h : Reads w lo hi 1 A n (ints l)) (h' : Reads w lo' hi' 1 B m (ints l')) :
    Calls Tryz.prog 64 #[.slice A n c, .slice B m d] w fun e w' => e = .returned (.bool (l == l')) ∧ Ext w w' := by
  have hn := h.len
  have hm := h'.len
  have hl : l.length = n := by have := h.length; rw [ints_length] at this; omega
  have hl' : l'.length = m := by have := h'.length; rw [ints_length] at this; omega
  have Hl := hide hl
  have Hl' := hide hl'
  clear hl hl'
  by_cases he : n = m
  · subst he
    go_enter Tryz.func64, Tryz.ntmps64
    go_wp2
    go_loopw [5] (fun i wr => ∃ k : Nat, k ≤ n ∧ i = .int .i64 k ∧ Hid (l.take k = l'.take k) ∧ Ext w wr) (fun i _ => n - (intOf i).toNat)
    case atStart => exact ⟨0, Nat.zero_le _, rfl, rfl, Ext.refl _⟩
    case round =>
      obtain ⟨k, hk, rfl, heq, hext⟩ := hrel
      by_cases hlt : k < n
      · obtain ⟨ad, x, rfl, _, _, hx, hc⟩ := (h.ext hext).int hlt
        obtain ⟨ad', y, rfl, _, _, hy, hc'⟩ := (h'.ext hext).int hlt
        cases hb : x != y
        · go_wp2
          go_quiet (fail)
          go_wp2
          go_roundw
          case rel => exact ⟨k + 1, by omega, by go_num, eq_step hx.out hy.out (by simpa using hb) heq.out, hext.drewN _⟩
          case measure => simp [intOf]; omega
        · go_wp2
          go_quiet (fail)
          go_wp2
          go_ret
          exact ⟨ret_bool (by rw [eq_stop hx.out hy.out (by simpa using hb)]), hext.drewN _⟩
      · obtain rfl : k = n := by omega
        go_wp2
        go_ret
        exact ⟨ret_bool (by rw [eq_end (by have := Hl.out; omega) (by have := Hl'.out; omega) heq.out]), hext⟩
  · have hne : ((n : Int) != (m : Int)) = true := by simp; omega
    go_enter Tryz.func64, Tryz.ntmps64
    go_wp2
    go_ret
    exact ⟨ret_bool (by rw [eq_lens (by rw [Hl.out, Hl'.out]; exact he)]), Ext.refl _⟩
theorem eqBoolS_any (lo hi lo' hi' : Nat) (A : Option Addr) (n c : Nat) (B : Option Addr) (m d : Nat) (l l' : List Bool) (w : World) (h : Reads w lo hi 1 A n (bools l)) (h' : Reads w lo' hi' 1 B m (bools l')) :
    Calls Tryz.prog 37 #[.slice A n c, .slice B m d] w fun e w' => e = .returned (.bool (l == l')) ∧ Ext w w' := by
  have hn := h.len
  have hm := h'.len
  have hl : l.length = n := by have := h.length; rw [bools_length] at this; omega
  have hl' : l'.length = m := by have := h'.length; rw [bools_length] at this; omega
  have Hl := hide hl
  have Hl' := hide hl'
  clear hl hl'
  by_cases he : n = m
  · subst he
    go_enter Tryz.func37, Tryz.ntmps37
    go_wp2
    go_loopw [5] (fun i wr => ∃ k : Nat, k ≤ n ∧ i = .int .i64 k ∧ Hid (l.take k = l'.take k) ∧ Ext w wr) (fun i _ => n - (intOf i).toNat)
    case atStart => exact ⟨0, Nat.zero_le _, rfl, rfl, Ext.refl _⟩
    case round =>
      obtain ⟨k, hk, rfl, heq, hext⟩ := hrel
      by_cases hlt : k < n
      · obtain ⟨ad, x, rfl, _, _, hx, hc⟩ := (h.ext hext).bool hlt
        obtain ⟨ad', y, rfl, _, _, hy, hc'⟩ := (h'.ext hext).bool hlt
        cases hb : x == y
        · go_wp2
          go_quiet (fail)
          go_wp2
          go_ret
          exact ⟨ret_bool (by rw [eq_stop hx.out hy.out hb]), hext.drewN _⟩
        · go_wp2
          go_quiet (fail)
          go_wp2
          go_roundw
          case rel => exact ⟨k + 1, by omega, by go_num, eq_step hx.out hy.out hb heq.out, hext.drewN _⟩
          case measure => simp [intOf]; omega
      · obtain rfl : k = n := by omega
        go_wp2
        go_ret
        exact ⟨ret_bool (by rw [eq_end (by have := Hl.out; omega) (by have := Hl'.out; omega) heq.out]), hext⟩
  · have hne : ((n : Int) != (m : Int)) = true := by simp; omega
    go_enter Tryz.func37, Tryz.ntmps37
    go_wp2
    go_ret
    exact ⟨ret_bool (by rw [eq_lens (by rw [Hl.out, Hl'.out]; exact he)]), Ext.refl _⟩

theorem eqIntSS_any (lo hi lo' hi' : Nat) (A : Option Addr) (n c : Nat) (B : Option Addr) (m d : Nat) (l l' : List (List Int)) (w : World) (h : ReadsLL w lo hi A n l) (h' : ReadsLL w lo' hi' B m l') :
    Calls Tryz.prog 36 #[.slice A n c, .slice B m d] w fun e w' => e = .returned (.bool (l == l')) ∧ Ext w w' := by
  have hn := h.len
  have hm := h'.len
  have Hl := hide h.1
  have Hl' := hide h'.1
  by_cases he : n = m
  · subst he
    go_enter Tryz.func36, Tryz.ntmps36
    go_wp2
    go_loopw [5] (fun i wr => ∃ k : Nat, k ≤ n ∧ i = .int .i64 k ∧ Hid (l.take k = l'.take k) ∧ Ext w wr) (fun i _ => n - (intOf i).toNat)
    case atStart => exact ⟨0, Nat.zero_le _, rfl, rfl, Ext.refl _⟩
    case round =>
      obtain ⟨k, hk, rfl, heq, hext⟩ := hrel
      by_cases hlt : k < n
      · obtain ⟨ad, Ak, ck, x, rfl, _, _, hx, hc, hrk⟩ := (h.ext hext).row hlt
        obtain ⟨ad', Bk, dk, y, rfl, _, _, hy, hc', hrk'⟩ := (h'.ext hext).row hlt
        have hce : ∀ W, Ext wr W → W.cell? (ad.add k) = some (.slice Ak x.length ck) := fun W hW => hW.cell_some hc
        have hce' : ∀ W, Ext wr W → W.cell? (ad'.add k) = some (.slice Bk y.length dk) := fun W hW => hW.cell_some hc'
        have hwr := Ext.refl wr
        cases hb : x == y
        all_goals
          have Hb := hide hb
          clear hb
          go_wp2_with fail
          go_region_held3 (fun W => Ext wr W) (first | assumption | (refine Ext.drew ?_; assumption) | (refine Ext.trans ?_ (by assumption); assumption) | (refine Ext.trans ?_ (by assumption); refine Ext.drew ?_; assumption)) ((go_at_call 64; refine (eqIntS_any _ _ _ _ _ _ _ _ _ _ _ _ _ (hrk.ext ?_) (hrk'.ext ?_)).mono ?_; assumption; assumption; rw [Hb.out]; rintro e w3 ⟨rfl, hext3⟩))
          go_wp2
        · go_ret
          exact ⟨ret_bool (by rw [eq_stop hx.out hy.out Hb.out]), hext.trans (by assumption)⟩
        · go_roundw
          case rel => exact ⟨k + 1, by omega, by go_num, eq_step hx.out hy.out Hb.out heq.out, hext.trans (by assumption)⟩
          case measure => simp [intOf]; omega
      · obtain rfl : k = n := by omega
        go_wp2
        go_ret
        exact ⟨ret_bool (by rw [eq_end (by have := Hl.out; omega) (by have := Hl'.out; omega) heq.out]), hext⟩
  · have hne : ((n : Int) != (m : Int)) = true := by simp; omega
    go_enter Tryz.func36, Tryz.ntmps36
    go_wp2
    go_ret
    exact ⟨ret_bool (by rw [eq_lens (by rw [← Hl.out, ← Hl'.out]; exact he)]), Ext.refl _⟩

/-- Two automata are equal as data. -/
def autEq (a b : Aut) : Bool := decide (a.al = b.al) && (a.next == b.next && a.acc == b.acc)
theorem autEq_self (a : Aut) : autEq a a = true := by simp [autEq]
theorem autEq_eq {a b : Aut} (h : autEq a b = true) : a = b := by
  simp only [autEq, Bool.and_eq_true, decide_eq_true_eq, beq_iff_eq] at h
  cases a; cases b; simp_all

theorem eqAutomaton_any (lo hi lo' hi' : Nat) (A : Option Addr) (n c : Nat) (A' : Option Addr) (n' c' : Nat) (B : Option Addr) (m d : Nat) (B' : Option Addr) (m' d' : Nat) (a b : Aut) (w : World) (h : AutAt w lo hi A n A' n' a) (h' : AutAt w lo' hi' B m B' m' b) :
    Calls Tryz.prog 14 #[.agg #[.int .i64 a.al, .slice A n c, .slice A' n' c'], .agg #[.int .i64 b.al, .slice B m d, .slice B' m' d']] w fun e w' => e = .returned (.bool (autEq a b)) ∧ Ext w w' := by
  have hR := fun W (hW : Ext w W) => h.ext hW
  have HR := hide hR
  have hR' := fun W (hW : Ext w W) => h'.ext hW
  have HR' := hide hR'
  clear hR hR'
  by_cases h0 : a.al = b.al
  · have hne : (a.al != b.al) = false := by simp [h0]
    have H0 := hide h0
    clear h0
    cases h1 : a.next == b.next
    · have H1 := hide h1
      clear h1
      go_enter Tryz.func14, Tryz.ntmps14
      go_wp2_with (go_at_call 36; refine (eqIntSS_any _ _ _ _ _ _ _ _ _ _ _ _ _ (HR.out _ ?_).1 (HR'.out _ ?_).1).mono ?_; exact ((Ext.refl _).alloc _).alloc _; exact ((Ext.refl _).alloc _).alloc _; rw [H1.out]; rintro e w2 ⟨rfl, hext2⟩; obtain ⟨b1, b2⟩ := ext_blk2 hext2; have c1 := b1.cell; have c2 := b2.cell)
      go_ret
      exact ⟨ret_bool (by rw [autEq, H1.out]; simp), (((Ext.refl _).alloc _).alloc _).trans hext2⟩
    · have H1 := hide h1
      clear h1
      go_enter Tryz.func14, Tryz.ntmps14
      go_wp2_with (first
        | (go_at_call 36; refine (eqIntSS_any _ _ _ _ _ _ _ _ _ _ _ _ _ (HR.out _ ?_).1 (HR'.out _ ?_).1).mono ?_; exact ((Ext.refl _).alloc _).alloc _; exact ((Ext.refl _).alloc _).alloc _; rw [H1.out]; rintro e w2 ⟨rfl, hext2⟩; obtain ⟨b1, b2⟩ := ext_blk2 hext2; have c1 := b1.cell; have c2 := b2.cell)
        | (go_at_call 37; refine (eqBoolS_any _ _ _ _ _ _ _ _ _ _ _ _ _ (HR.out _ ?_).2.2 (HR'.out _ ?_).2.2).mono ?_; exact (((Ext.refl _).alloc _).alloc _).trans hext2; exact (((Ext.refl _).alloc _).alloc _).trans hext2; rintro e w3 ⟨rfl, hext3⟩))
      all_goals go_ret
      all_goals exact ⟨ret_bool (by rw [autEq, H1.out, H0.out]; simp_all), ((((Ext.refl _).alloc _).alloc _).trans hext2).trans hext3⟩
  · have hne : (a.al != b.al) = true := by simp [h0]
    go_enter Tryz.func14, Tryz.ntmps14
    go_wp2
    go_ret
    exact ⟨ret_bool (by rw [autEq]; simp [h0]), ((Ext.refl _).alloc _).alloc _⟩
end Go.Proofs.YtplllipekeomiaaGreatDoor

namespace Go.Proofs.YtplllipekeomiaaGreatDoor
open Go Go.RowKit
set_option maxHeartbeats 400000

/-- A system in new memory. -/
def RetSys (w : World) (s : Sys) (e : Ending) (w' : World) : Prop :=
  ∃ A n c, e = .returned (.agg #[.int .i64 s.al, .int .i64 s.st, .slice A n c]) ∧ OwnE w' w.heap.size A n c s.edges ∧ Ext w w'

theorem toSystem_any {lo hi : Nat} {A : Option Addr} {n c : Nat} {s : Sys} {w : World} (h : SysAt w lo hi A n s) (hn : n ≤ 1048576) :
    Calls Tryz.prog 19 #[.agg #[.int .i64 s.al, .int .i64 s.st, .slice A n c]] w (RetSys w s) := by
  have hR := fun W (hW : Ext w W) => h.2.ext hW
  have HR := hide hR
  clear hR
  go_enter Tryz.func19, Tryz.ntmps19
  go_wp2_with (go_at_call 43; refine (toEdgeS_any (HR.out _ ?_) hn).mono ?_; exact (((Ext.refl _).alloc _).alloc _).alloc _; rintro e w2 ⟨rfl, hown2, hext2⟩; obtain ⟨b1, b2, b3⟩ := ext_blk3 hext2; have c1 := b1.cell; have c2 := b2.cell; have c3 := b3.cell; have f2 := b2.frozen; have f3 := b3.frozen; have hx2 := ((((Ext.refl w).alloc _).alloc _).alloc _).trans hext2)
  have z2 := hext2.size
  simp only [World.size_alloc] at z2 hown2
  refine bodyPost_ret (v := .agg #[.int .i64 s.al, .int .i64 s.st, .slice (some ⟨w.heap.size + 1 + 1 + 1, 0, none⟩) n n]) (by simp [results, Tryz.results19, go_sem, c2]) rfl ⟨_, _, _, rfl, ?_, ?_⟩
  · refine (hown2.keep (S := fun k => k < w.heap.size + 3) ?_ (by intro b hb; omega)).less (by omega)
    iterate 4 refine Frm.cell ?_ (by dsimp only; omega) _
    exact Frm.refl _ _
  · iterate 4 refine Ext.setCell ?_ (by dsimp only; omega) _
    exact hx2

instance : BEq Edg := ⟨fun a b => decide (a.fr = b.fr) && (decide (a.le = b.le) && decide (a.to = b.to))⟩
theorem edg_beq (a b : Edg) : (a == b) = (decide (a.fr = b.fr) && (decide (a.le = b.le) && decide (a.to = b.to))) := rfl
instance : LawfulBEq Edg where
  eq_of_beq {a b} h := by
    rw [edg_beq] at h
    simp only [Bool.and_eq_true, decide_eq_true_eq] at h
    cases a; cases b; simp_all
  rfl {a} := by rw [edg_beq]; simp

theorem eqEdge_any {a b : Edg} {w : World} :
    Calls Tryz.prog 81 #[.agg #[.int .i64 a.fr, .int .i64 a.le, .int .i64 a.to], .agg #[.int .i64 b.fr, .int .i64 b.le, .int .i64 b.to]] w fun e w' => e = .returned (.bool (a == b)) ∧ Ext w w' := by
  have hx : Ext w ((w.alloc (.cells #[Value.int .i64 a.fr, .int .i64 a.le, .int .i64 a.to] 96)).alloc (.cells #[Value.int .i64 b.fr, .int .i64 b.le, .int .i64 b.to] 96)) := ((Ext.refl _).alloc _).alloc _
  have Hx := hide hx
  clear hx
  have He := hide (edg_beq a b)
  by_cases h0 : a.fr = b.fr
  · have n0 : (a.fr != b.fr) = false := by simp [h0]
    have H0 := hide h0
    clear h0
    by_cases h1 : a.le = b.le
    · have n1 : (a.le != b.le) = false := by simp [h1]
      have H1 := hide h1
      clear h1
      by_cases h2 : a.to = b.to
      · have n2 : (a.to != b.to) = false := by simp [h2]
        have H2 := hide h2
        clear h2
        go_enter Tryz.func81, Tryz.ntmps81
        go_wp2
        go_ret
        exact ⟨ret_bool (by rw [He.out, H0.out, H1.out, H2.out]; simp), Hx.out⟩
      · have n2 : (a.to != b.to) = true := by simp [h2]
        go_enter Tryz.func81, Tryz.ntmps81
        go_wp2
        go_ret
        exact ⟨ret_bool (by rw [He.out]; simp [h2]), Hx.out⟩
    · have n1 : (a.le != b.le) = true := by simp [h1]
      go_enter Tryz.func81, Tryz.ntmps81
      go_wp2
      go_ret
      exact ⟨ret_bool (by rw [He.out]; simp [h1]), Hx.out⟩
  · have n0 : (a.fr != b.fr) = true := by simp [h0]
    go_enter Tryz.func81, Tryz.ntmps81
    go_wp2
    go_ret
    exact ⟨ret_bool (by rw [He.out]; simp [h0]), Hx.out⟩

theorem eqEdgeS_any {lo hi lo' hi' : Nat} {A : Option Addr} {n c : Nat} {B : Option Addr} {m d : Nat} {l l' : List Edg} {w : World} (h : Reads w lo hi 3 A n (edgeCells l)) (h' : Reads w lo' hi' 3 B m (edgeCells l')) :
    Calls Tryz.prog 49 #[.slice A n c, .slice B m d] w fun e w' => e = .returned (.bool (l == l')) ∧ Ext w w' := by
  have hn := h.len
  have hm := h'.len
  have Hl := hide (show l.length = n by have := h.length; rw [edgeCells_length] at this; omega)
  have Hl' := hide (show l'.length = m by have := h'.length; rw [edgeCells_length] at this; omega)
  by_cases he : n = m
  · subst he
    go_enter Tryz.func49, Tryz.ntmps49
    go_wp2
    go_loopw [5] (fun i wr => ∃ k : Nat, k ≤ n ∧ i = .int .i64 k ∧ Hid (l.take k = l'.take k) ∧ Ext w wr) (fun i _ => n - (intOf i).toNat)
    case atStart => exact ⟨0, Nat.zero_le _, rfl, rfl, Ext.refl _⟩
    case round =>
      obtain ⟨k, hk, rfl, heq, hext⟩ := hrel
      by_cases hlt : k < n
      · obtain ⟨b, o, x, rfl, _, _, hx, c0, c1, c2⟩ := (h.ext hext).edge hlt
        obtain ⟨b', o', y, rfl, _, _, hy, d0, d1, d2⟩ := (h'.ext hext).edge hlt
        have e0 : ∀ W, Ext wr W → W.cell? ⟨b, o + k * 3, none⟩ = some (.int .i64 x.fr) := fun W hW => hW.cell_some c0
        have e1 : ∀ W, Ext wr W → W.cell? ⟨b, o + k * 3 + 1, none⟩ = some (.int .i64 x.le) := fun W hW => hW.cell_some c1
        have e2 : ∀ W, Ext wr W → W.cell? ⟨b, o + k * 3 + 2, none⟩ = some (.int .i64 x.to) := fun W hW => hW.cell_some c2
        have g0 : ∀ W, Ext wr W → W.cell? ⟨b', o' + k * 3, none⟩ = some (.int .i64 y.fr) := fun W hW => hW.cell_some d0
        have g1 : ∀ W, Ext wr W → W.cell? ⟨b', o' + k * 3 + 1, none⟩ = some (.int .i64 y.le) := fun W hW => hW.cell_some d1
        have g2 : ∀ W, Ext wr W → W.cell? ⟨b', o' + k * 3 + 2, none⟩ = some (.int .i64 y.to) := fun W hW => hW.cell_some d2
        clear c0 c1 c2 d0 d1 d2
        have hwr := Ext.refl wr
        cases hb : x == y
        all_goals
          have Hb := hide hb
          clear hb
          go_wp2_with fail
          go_region_held3 (fun W => Ext wr W) (first | assumption | (refine Ext.drew ?_; assumption) | (refine Ext.trans ?_ (by assumption); assumption) | (refine Ext.trans ?_ (by assumption); refine Ext.drew ?_; assumption)) ((go_at_call 81; refine (eqEdge_any (a := x) (b := y)).mono ?_; rw [Hb.out]; rintro e w3 ⟨rfl, hext3⟩))
          go_wp2
        · go_ret
          exact ⟨ret_bool (by rw [eq_stop hx.out hy.out Hb.out]), hext.trans (by assumption)⟩
        · go_roundw
          case rel => exact ⟨k + 1, by omega, by go_num, eq_step hx.out hy.out Hb.out heq.out, hext.trans (by assumption)⟩
          case measure => simp [intOf]; omega
      · obtain rfl : k = n := by omega
        go_wp2
        go_ret
        exact ⟨ret_bool (by rw [eq_end (by have := Hl.out; omega) (by have := Hl'.out; omega) heq.out]), hext⟩
  · have hne : ((n : Int) != (m : Int)) = true := by simp; omega
    go_enter Tryz.func49, Tryz.ntmps49
    go_wp2
    go_ret
    exact ⟨ret_bool (by rw [eq_lens (by rw [Hl.out, Hl'.out]; exact he)]), Ext.refl _⟩

/-- Two systems are equal as data. -/
def sysEq (s t : Sys) : Bool := decide (s.al = t.al) && (decide (s.st = t.st) && s.edges == t.edges)
theorem sysEq_self (s : Sys) : sysEq s s = true := by simp [sysEq]

theorem eqSystem_any {lo hi lo' hi' : Nat} {A : Option Addr} {n c : Nat} {B : Option Addr} {m d : Nat} {s t : Sys} {w : World} (h : SysAt w lo hi A n s) (h' : SysAt w lo' hi' B m t) :
    Calls Tryz.prog 22 #[.agg #[.int .i64 s.al, .int .i64 s.st, .slice A n c], .agg #[.int .i64 t.al, .int .i64 t.st, .slice B m d]] w fun e w' => e = .returned (.bool (sysEq s t)) ∧ Ext w w' := by
  have hR := fun W (hW : Ext w W) => h.2.ext hW
  have HR := hide hR
  have hR' := fun W (hW : Ext w W) => h'.2.ext hW
  have HR' := hide hR'
  clear hR hR'
  by_cases h0 : s.al = t.al
  · have n0 : (s.al != t.al) = false := by simp [h0]
    have H0 := hide h0
    clear h0
    by_cases h1 : s.st = t.st
    · have n1 : (s.st != t.st) = false := by simp [h1]
      have H1 := hide h1
      clear h1
      cases h2 : s.edges == t.edges
      all_goals
        have H2 := hide h2
        clear h2
        go_enter Tryz.func22, Tryz.ntmps22
        go_wp2_with (go_at_call 49; refine (eqEdgeS_any (HR.out _ ?_) (HR'.out _ ?_)).mono ?_; exact ((Ext.refl _).alloc _).alloc _; exact ((Ext.refl _).alloc _).alloc _; rw [H2.out]; rintro e w2 ⟨rfl, hext2⟩)
        go_ret
        exact ⟨ret_bool (by rw [sysEq, H0.out, H1.out, H2.out]; simp), (((Ext.refl _).alloc _).alloc _).trans hext2⟩
    · have n1 : (s.st != t.st) = true := by simp [h1]
      go_enter Tryz.func22, Tryz.ntmps22
      go_wp2
      go_ret
      exact ⟨ret_bool (by rw [sysEq]; simp [h1]), ((Ext.refl _).alloc _).alloc _⟩
  · have n0 : (s.al != t.al) = true := by simp [h0]
    go_enter Tryz.func22, Tryz.ntmps22
    go_wp2
    go_ret
    exact ⟨ret_bool (by rw [sysEq]; simp [h0]), ((Ext.refl _).alloc _).alloc _⟩
end Go.Proofs.YtplllipekeomiaaGreatDoor

namespace Go.Proofs.YtplllipekeomiaaGreatDoor
open Go Go.RowKit
set_option maxHeartbeats 1000000

/-- The slice (A, n) holds these systems. -/
def SLAt (w : World) (lo hi : Nat) (A : Option Addr) (n : Nat) (ss : List Sys) : Prop :=
  n = ss.length ∧ ∃ cells, Reads w lo hi 3 A n cells ∧ ∀ (k : Nat) (s : Sys), ss[k]? = some s → ∃ (B : Option Addr) (m c : Nat), cells[k * 3]? = some (.int .i64 s.al) ∧ cells[k * 3 + 1]? = some (.int .i64 s.st) ∧ cells[k * 3 + 2]? = some (.slice B m c) ∧ SysAt w lo hi B m s
section
variable {w w' : World} {lo hi n k : Nat} {A : Option Addr} {ss : List Sys}
theorem SLAt.ext (h : SLAt w lo hi A n ss) (hb : Ext w w') : SLAt w' lo hi A n ss := by
  obtain ⟨e, cells, hr, hx⟩ := h
  refine ⟨e, cells, hr.ext hb, fun k s hs => ?_⟩
  obtain ⟨B, m, c, h0, h1, h2, h3⟩ := hx k s hs
  exact ⟨B, m, c, h0, h1, h2, h3.ext hb⟩
theorem SLAt.len (h : SLAt w lo hi A n ss) : n ≤ 9223372036854775807 := by
  obtain ⟨_, cells, hr, _⟩ := h
  exact hr.len
theorem reads_zero {xs : List Value} {u : Value} (h : Reads w lo hi 3 A n xs) (hn : 0 < n) (hu : xs[0]? = some u) : ∃ b o, A = some ⟨b, o, none⟩ ∧ lo ≤ b ∧ b < hi ∧ ∀ j v, xs[j]? = some v → w.cell? ⟨b, o + j, none⟩ = some v := by
  obtain ⟨ad, e, hl, hb, hc⟩ := h.at_ hn
  have hs := addr_spot (hc 0 u hu)
  refine ⟨ad.block, ad.off, by rw [e, hs], hl, hb, fun j v hv => ?_⟩
  have := hc j v hv
  rw [hs, addr_lit] at this
  exact this
theorem SLAt.sys (h : SLAt w lo hi A n ss) (hk : k < n) : ∃ b o s B m c, A = some ⟨b, o, none⟩ ∧ lo ≤ b ∧ b < hi ∧ Hid (ss[k]? = some s) ∧ w.cell? ⟨b, o + k * 3, none⟩ = some (.int .i64 s.al) ∧ w.cell? ⟨b, o + k * 3 + 1, none⟩ = some (.int .i64 s.st) ∧ w.cell? ⟨b, o + k * 3 + 2, none⟩ = some (.slice B m c) ∧ SysAt w lo hi B m s := by
  obtain ⟨e, cells, hr, hx⟩ := h
  have h0 : ss[0]? = some (ss[0]'(by omega)) := List.getElem?_eq_getElem _
  obtain ⟨_, _, _, z0, _⟩ := hx 0 _ h0
  rw [Nat.zero_mul] at z0
  obtain ⟨b, o, rfl, hl, hb, hc⟩ := reads_zero hr (by omega) z0
  have hs : ss[k]? = some (ss[k]'(by omega)) := List.getElem?_eq_getElem _
  obtain ⟨B, m, c, h0, h1, h2, h3⟩ := hx k _ hs
  exact ⟨b, o, _, B, m, c, rfl, hl, hb, hs, hc _ _ h0, by rw [Nat.add_assoc]; exact hc _ _ h1, by rw [Nat.add_assoc]; exact hc _ _ h2, h3⟩
theorem SLAt.sys2 {b o : Nat} {s : Sys} (h : SLAt w lo hi (some ⟨b, o, none⟩) n ss) (hs : ss[k]? = some s) : ∃ B m c, w.cell? ⟨b, o + k * 3, none⟩ = some (.int .i64 s.al) ∧ w.cell? ⟨b, o + k * 3 + 1, none⟩ = some (.int .i64 s.st) ∧ w.cell? ⟨b, o + k * 3 + 2, none⟩ = some (.slice B m c) ∧ SysAt w lo hi B m s := by
  have hk : k < n := by rw [h.1]; exact (List.getElem?_eq_some_iff.1 hs).1
  obtain ⟨b', o', s', B, m, c, hA, _, _, hs', r⟩ := h.sys hk
  injection hA with hA
  injection hA with h1 h2
  subst h1; subst h2
  have := hs'.out
  rw [hs] at this
  injection this with this
  subst this
  exact ⟨B, m, c, r⟩
end

/-- All edges of systems. -/
def totE (ss : List Sys) : Nat := (ss.map fun s => s.edges.length).sum
theorem totE_take_succ {ss : List Sys} {k : Nat} {s : Sys} (h : ss[k]? = some s) : totE (ss.take (k + 1)) = totE (ss.take k) + s.edges.length := by
  rw [List.take_add_one, h]
  simp [totE]
theorem totE_append (a b : List Sys) : totE (a ++ b) = totE a + totE b := by simp [totE]
theorem totE_take_le (ss : List Sys) (k : Nat) : totE (ss.take k) ≤ totE ss := by
  have h := totE_append (ss.take k) (ss.drop k)
  rw [List.take_append_drop] at h
  omega

theorem szSystemS_any {lo hi : Nat} {A : Option Addr} {n c : Nat} {ss : List Sys} {left : Int} {w : World} (h : SLAt w lo hi A n ss) (h0 : 0 ≤ left) (h1 : left ≤ 1048576) :
    Calls Tryz.prog 5 #[.slice A n c, .int .i64 left] w fun e w' => e = .returned (.int .i64 (leftOf left (ss.length + totE ss))) ∧ Ext w w' := by
  have hn := h.len
  have hL : n ≤ ss.length ∧ ss.length ≤ n := by have := h.1; omega
  by_cases hneg : left - n < 0
  · go_enter Tryz.func5, Tryz.ntmps5
    go_wp2
    go_ret
    exact ⟨ret_int (by unfold leftOf; split <;> omega), Ext.refl _⟩
  · go_enter Tryz.func5, Tryz.ntmps5
    go_wp2
    go_loopw [1, 5] (fun v i wr => ∃ k : Nat, k ≤ n ∧ i = .int .i64 k ∧ ∃ m : Int, v = .int .i64 m ∧ Hid (m = left - n - totE (ss.take k)) ∧ 0 ≤ m ∧ m ≤ 1048576 ∧ Ext w wr)
      (fun _ i _ => n - (intOf i).toNat)
    case atStart => exact ⟨0, Nat.zero_le _, rfl, _, rfl, by simp [totE, Hid], by omega, by omega, Ext.refl _⟩
    case round =>
      obtain ⟨k, hk, rfl, m, rfl, hm, hm0, hm1, hext⟩ := hrel
      by_cases hlt : k < n
      · obtain ⟨b, o, s, B, q, d, rfl, hlo, hhi, hs, c0, c1, c2, hsy⟩ := (h.ext hext).sys hlt
        have hlen := hsy.2.len
        have hg := leftOf_ge m q
        have ht := hide (totE_take_succ hs.out)
        have hq := hide hsy.1
        have hle := totE_take_le ss (k + 1)
        by_cases hng : leftOf m q < 0
        · go_wp2_with (go_at_call 16; refine (szSystem_any hlen hm0 hm1).mono ?_; rintro e w' ⟨rfl, hx⟩)
          go_ret
          have hm' := hm.out
          have ht' := ht.out
          have hq' := hq.out
          exact ⟨ret_int (by unfold leftOf at hng ⊢; (repeat split) <;> (split at hng) <;> omega), hext.trans hx⟩
        · go_wp2_with (go_at_call 16; refine (szSystem_any hlen hm0 hm1).mono ?_; rintro e w' ⟨rfl, hx⟩)
          go_roundw
          case rel => exact ⟨k + 1, by omega, by go_num, _, rfl, by have hm' := hm.out; have ht' := ht.out; have hq' := hq.out; unfold Hid; unfold leftOf at hng ⊢; split at hng <;> split <;> omega, by omega, leftOf_le _ _ hm1, hext.trans hx⟩
          case measure => simp [intOf]; omega
      · obtain rfl : k = n := by omega
        go_wp2
        go_ret
        have hm' := hm.out
        rw [List.take_of_length_le (by omega)] at hm'
        exact ⟨ret_int (by unfold leftOf; split <;> omega), hext⟩

theorem info_sys : (Tryz.prog.info? 54).map (fun i => (i.zero, i.size, i.bytes)) = some (some (.agg #[.int .i64 0, .int .i64 0, .slice none 0 0]), 3, 40) := by kernel_rfl
/-- The cells of systems whose edges are the call's own. -/
def SLOwn (w : World) (base : Nat) (cells : List Value) (ss : List Sys) : Prop :=
  cells.length = ss.length * 3 ∧ ∀ (k : Nat) (s : Sys), ss[k]? = some s → ∃ (B : Option Addr) (m c : Nat), cells[k * 3]? = some (.int .i64 s.al) ∧ cells[k * 3 + 1]? = some (.int .i64 s.st) ∧ cells[k * 3 + 2]? = some (.slice B m c) ∧ OwnE w base B m c s.edges
theorem SLOwn.nil (w : World) (base : Nat) : SLOwn w base [] [] := ⟨rfl, fun k s h => by simp at h⟩
theorem SLOwn.ext {w w' : World} {base : Nat} {cells : List Value} {ss : List Sys} (h : SLOwn w base cells ss) (hb : Ext w w') : SLOwn w' base cells ss :=
  ⟨h.1, fun k s hs => by
    obtain ⟨B, m, c, h0, h1, h2, h3⟩ := h.2 k s hs
    exact ⟨B, m, c, h0, h1, h2, h3.ext hb⟩⟩
theorem SLOwn.snoc {w w' : World} {base : Nat} {cells : List Value} {ss : List Sys} {s : Sys} {B : Option Addr} {m c : Nat} (h : SLOwn w base cells ss) (hb : Ext w w') (ho : OwnE w' base B m c s.edges) :
    SLOwn w' base (cells ++ [.int .i64 s.al, .int .i64 s.st, .slice B m c]) (ss ++ [s]) := by
  have hl := h.1
  refine ⟨by simp [hl]; omega, fun k t ht => ?_⟩
  rcases Nat.lt_or_ge k ss.length with hk | hk
  · rw [List.getElem?_append_left hk] at ht
    obtain ⟨B, m, c, h0, h1, h2, h3⟩ := h.2 k t ht
    refine ⟨B, m, c, ?_, ?_, ?_, h3.ext hb⟩ <;> rw [List.getElem?_append_left (by omega)] <;> assumption
  · have hk' : k = ss.length := by have := (List.getElem?_eq_some_iff.1 ht).1; simp at this; omega
    subst hk'
    rw [List.getElem?_append_right (by omega), Nat.sub_self] at ht
    simp at ht
    subst ht
    refine ⟨B, m, c, ?_, ?_, ?_, ho⟩ <;> rw [List.getElem?_append_right (by omega), hl]
    · simp
    · rw [show ss.length * 3 + 1 - ss.length * 3 = 1 from by omega]; rfl
    · rw [show ss.length * 3 + 2 - ss.length * 3 = 2 from by omega]; rfl
theorem SLOwn.store {w : World} {base g j n cap : Nat} {xs : List Value} {u : Value} {cells : List Value} {ss : List Sys} (h : SLOwn w base cells ss) (hown : w.ownsRow base 54 3 (.slice (some ⟨g, 0, none⟩) n cap) n xs) : SLOwn (w.setCell ⟨g, j, none⟩ u) base cells ss :=
  ⟨h.1, fun k s hs => by
    obtain ⟨B, m, c, h0, h1, h2, h3⟩ := h.2 k s hs
    refine ⟨B, m, c, h0, h1, h2, h3.1, own_frm h3.2 (Frm.setCell w g j u) fun b hb hbg => ?_⟩
    subst hbg
    exact own_ne h3.2 hown (by decide) hb rfl⟩
theorem set3_end {xs rest : List Value} {k : Nat} (u v x : Value) (hk : xs.length = k) (hr : 3 ≤ rest.length) : (((xs ++ rest).set k u).set (k + 1) v).set (k + 2) x = (xs ++ [u, v, x]) ++ rest.drop 3 := by
  subst hk
  match rest, hr with
  | a :: b :: c :: r, _ =>
    rw [List.set_append_right _ _ (by omega), Nat.sub_self, List.set_append_right _ _ (by omega), List.set_append_right _ _ (by omega)]
    rw [show xs.length + 1 - xs.length = 1 from by omega, show xs.length + 2 - xs.length = 2 from by omega]
    simp
/-- Systems in new memory. -/
def OwnSL (w : World) (base : Nat) (A : Option Addr) (n c : Nat) (ss : List Sys) : Prop := n = ss.length ∧ ∃ cells, w.ownsRow base 54 3 (.slice A n c) n cells ∧ SLOwn w base cells ss
theorem OwnSL.ext {w w' : World} {base : Nat} {A : Option Addr} {n c : Nat} {ss : List Sys} (h : OwnSL w base A n c ss) (hb : Ext w w') : OwnSL w' base A n c ss := by
  obtain ⟨e, cells, h1, h2⟩ := h
  exact ⟨e, cells, own_ext h1 hb, h2.ext hb⟩
theorem OwnSL.reads {w : World} {base : Nat} {A : Option Addr} {n c : Nat} {ss : List Sys} (h : OwnSL w base A n c ss) : SLAt w base w.heap.size A n ss := by
  obtain ⟨e, cells, h1, h2⟩ := h
  refine ⟨e, cells, Reads.of_own h1, fun k s hs => ?_⟩
  obtain ⟨B, m, c, r0, r1, r2, r3⟩ := h2.2 k s hs
  exact ⟨B, m, c, r0, r1, r2, r3.reads⟩

theorem toSystemS_any {lo hi : Nat} {A : Option Addr} {n c : Nat} {ss : List Sys} {w : World} (h : SLAt w lo hi A n ss) (hn : ss.length + totE ss ≤ 1048576) :
    Calls Tryz.prog 9 #[.slice A n c] w fun e w' => e = .returned (.slice (some ⟨w.heap.size, 0, none⟩) n n) ∧ OwnSL w' w.heap.size (some ⟨w.heap.size, 0, none⟩) n n ss ∧ Ext w w' := by
  have hL : n ≤ ss.length ∧ ss.length ≤ n := by have := h.1; omega
  have hrow : ∀ (k : Nat) (s : Sys), ss[k]? = some s → s.edges.length ≤ 1048576 := fun k s hs => by
    have h1 := totE_take_succ hs
    have h2 := totE_take_le ss (k + 1)
    omega
  have Hrow := hide hrow
  clear hrow
  go_enter Tryz.func9, Tryz.ntmps9
  go_wp2_with (at_make; refine wpList_make w _ rfl _ _ 33 rfl 54 _ 3 40 Tryz.underlying33 info_sys _ _ n rfl rfl (Ext.refl _) (by omega) (by unfold maxLen; omega) ?_; intro w1 hext1 hown1 _ hsz1)
  go_loopw [4] (fun i wr => ∃ k : Nat, k ≤ n ∧ i = .int .i64 k ∧ ∃ cells rest : List Value, Hid (rest.length = (n - k) * 3) ∧ wr.ownsRow w.heap.size 54 3 (.slice (some ⟨w.heap.size, 0, none⟩) n n) n (cells ++ rest) ∧ SLOwn wr w.heap.size cells (ss.take k) ∧ Ext w wr)
    (fun i _ => n - (intOf i).toNat)
  case atStart => exact ⟨0, Nat.zero_le _, rfl, [], _, by have := hown1.1; unfold Hid; rw [this]; omega, by simpa using hown1, SLOwn.nil _ _, hext1⟩
  case round =>
    obtain ⟨k, hk, rfl, cells, rest, hrest, hown, hcs, hext⟩ := hrel
    by_cases hlt : k < n
    · obtain ⟨b, o, s, B, q, d, rfl, hlo, hhi, hs, c0, c1, c2, hsy⟩ := (h.ext hext).sys hlt
      have hll := Hrow.out k s hs.out
      have hq : q ≤ 1048576 := by have := hsy.1; omega
      have hcl : cells.length ≤ k * 3 ∧ k * 3 ≤ cells.length := by have := hcs.1; rw [List.length_take] at this; omega
      go_wp2_with (go_at_call 19; refine (toSystem_any hsy hq).mono ?_; rintro e w2 ⟨B2, q2, d2, rfl, hown2, hext2⟩; have hown' := own_ext hown hext2; obtain ⟨o0, g0⟩ := own_cell hown' (k * 3) (by omega); obtain ⟨o1, g1⟩ := own_cell hown' (k * 3 + 1) (by omega); obtain ⟨o2, g2⟩ := own_cell hown' (k * 3 + 2) (by omega); have f0 := hown'.frozenAt (k * 3); have f1 := hown'.frozenAt (k * 3 + 1); have f2 := hown'.frozenAt (k * 3 + 2))
      have hst := own_store3 hown' (k * 3) (.int .i64 s.al) (.int .i64 s.st) (.slice B2 q2 d2)
      rw [set3_end _ _ _ (show cells.length = k * 3 by omega) (by have := hrest.out; omega)] at hst
      have hsn := hcs.snoc hext2 (hown2.less hext.size)
      have hs1 := ((hsn.store (j := k * 3) (u := .int .i64 s.al) hown').store (j := k * 3 + 1) (u := .int .i64 s.st) (hown'.stored (k * 3) _).1).store (j := k * 3 + 2) (u := .slice B2 q2 d2) ((hown'.stored (k * 3) _).1.stored (k * 3 + 1) _).1
      go_roundw
      case rel => exact ⟨k + 1, by omega, by go_num, _, rest.drop 3, by have := hrest.out; unfold Hid; rw [List.length_drop]; omega, hst, by rw [List.take_add_one, hs.out]; exact hs1, (((hext.trans hext2).setCell (by dsimp only; omega) _).setCell (by dsimp only; omega) _).setCell (by dsimp only; omega) _⟩
      case measure => simp [intOf]; omega
    · obtain rfl : k = n := by omega
      go_wp2
      go_ret
      have : rest = [] := List.eq_nil_of_length_eq_zero (by have := hrest.out; omega)
      subst this
      rw [List.take_of_length_le (by omega)] at hcs
      exact ⟨rfl, ⟨h.1, cells, by simpa using hown, hcs⟩, hext⟩
end Go.Proofs.YtplllipekeomiaaGreatDoor

namespace Go.Proofs.YtplllipekeomiaaGreatDoor
open Go Go.RowKit Go.ChangeShapes Go.WideShapes Go.Deep

section
variable {H : Type} {enc : TypeId × Value → H} {P : Program} {w : World} {spare : Nat → Bool} {held : Bool}

theorem open_three {t e : TypeId} {fuel : Nat} {cs : List Value} {x : DataW H × List MemPlace} (ht : P.underlying t = some (.slice e)) (hc : P.cellsOf e = 3) (h : DataW.trod enc P w 0 spare held fuel t cs = some x) :
    ∃ (A : Option Addr) (n c : Nat) (V : Nat → Value) (k : Nat), cs = [.slice A n c] ∧ Reads w 0 w.heap.size 3 A n ((List.range (n * 3)).map V) ∧ ∀ i, i < n → ∃ y, DataW.trod enc P w 0 spare held k e [V (i * 3), V (i * 3 + 1), V (i * 3 + 2)] = some y := by
  rcases open_slice ht h with ⟨rfl, _⟩ | ⟨a, len, cap, m, n, D, Pl, rfl, hb, hl, hm, hmm, _, hx⟩
  · exact ⟨none, 0, 0, fun _ => undef, 0, rfl, Reads.nil, fun i hi => by omega⟩
  · have hlm : len ≤ m := by rw [hmm]; split <;> omega
    rw [hc] at hx
    have hcell : ∀ i j, i < len → j < 3 → (w.cell? (a.add (i * 3 + j))).isSome = true := fun i j hi hj => by
      obtain ⟨cs', h1, h2⟩ := hx i (by omega)
      obtain ⟨_, hn, hg⟩ := World.cells?_some h1
      rw [← addr_add, hg j hj, List.getElem?_eq_getElem (by omega)]
      rfl
    have hV : ∀ q, q < len * 3 → w.cell? (a.add q) = some ((w.cell? (a.add q)).getD undef) := fun q hq => by
      have h1 := hcell (q / 3) (q % 3) (by omega) (by omega)
      rw [show q / 3 * 3 + q % 3 = q by omega] at h1
      obtain ⟨v, hv⟩ := Option.isSome_iff_exists.1 h1
      rw [hv]; rfl
    refine ⟨some a, len, cap, fun q => (w.cell? (a.add q)).getD undef, n, rfl, ⟨by simp, by unfold maxLen at hm; omega, fun h0 => ?_⟩, fun i hi => ?_⟩
    · have hblk : a.block < w.heap.size := by
        have := World.block_lt_of_cell? w _ (hV 0 (by omega))
        rwa [addr_block] at this
      refine ⟨a, rfl, Nat.zero_le _, hblk, fun j u hu => ?_⟩
      have hj : j < len * 3 := by
        have := (List.getElem?_eq_some_iff.1 hu).1
        simpa using this
      rw [hV j hj]
      simpa [hj] using hu
    · obtain ⟨cs', h1, h2⟩ := hx i (by omega)
      obtain ⟨_, hn, hg⟩ := World.cells?_some h1
      refine ⟨(D i, Pl i), ?_⟩
      rw [← h2]
      congr 1
      match cs', hn with
      | [v0, v1, v2], _ =>
        have e0 := hg 0 (by omega)
        have e1 := hg 1 (by omega)
        have e2 := hg 2 (by omega)
        rw [addr_add] at e0 e1 e2
        rw [Nat.add_zero] at e0
        simp only [e0, e1, e2]
        rfl

theorem edges_choose (V : Nat → Value) : ∀ n : Nat, (∀ i, i < n → ∃ a b c : Int, V (i * 3) = .int .i64 a ∧ V (i * 3 + 1) = .int .i64 b ∧ V (i * 3 + 2) = .int .i64 c) → ∃ l : List Edg, l.length = n ∧ (List.range (n * 3)).map V = edgeCells l
  | 0, _ => ⟨[], rfl, rfl⟩
  | n + 1, h => by
    obtain ⟨l, hl, he⟩ := edges_choose V n fun i hi => h i (by omega)
    obtain ⟨a, b, c, ha, hb, hc⟩ := h n (by omega)
    refine ⟨l ++ [⟨a, b, c⟩], by simp [hl], ?_⟩
    rw [show (n + 1) * 3 = n * 3 + 1 + 1 + 1 by omega, List.range_succ, List.range_succ, List.range_succ, edgeCells_append, ← he]
    simp [ha, hb, hc, edgeCells]

/-- Edges that came in. -/
theorem open_edges {t e : TypeId} {g0 g1 g2 : Field} {fuel : Nat} {cs : List Value} {x : DataW H × List MemPlace} (ht : P.underlying t = some (.slice e)) (hc : P.cellsOf e = 3) (he : P.underlying e = some (.struct #[g0, g1, g2]))
    (p0 : g0.offset = 0) (p1 : g1.offset = 1) (p2 : g2.offset = 2) (d0 : P.cellsOf g0.type = 1) (d1 : P.cellsOf g1.type = 1) (d2 : P.cellsOf g2.type = 1)
    (v0 : P.underlying g0.type = some (.int .i64)) (v1 : P.underlying g1.type = some (.int .i64)) (v2 : P.underlying g2.type = some (.int .i64))
    (h : DataW.trod enc P w 0 spare held fuel t cs = some x) :
    ∃ (A : Option Addr) (n c : Nat) (l : List Edg), cs = [.slice A n c] ∧ n = l.length ∧ Reads w 0 w.heap.size 3 A n (edgeCells l) := by
  obtain ⟨A, n, c, V, k, rfl, hr, hV⟩ := open_three ht hc h
  obtain ⟨l, hl, hm⟩ := edges_choose V n fun i hi => by
    obtain ⟨y, hy⟩ := hV i hi
    obtain ⟨y0, y1, y2, k, _, _, h0, h1, h2⟩ := trod_struct3 he hy
    rw [p0, d0] at h0
    rw [p1, d1] at h1
    rw [p2, d2] at h2
    obtain ⟨a, e0, _⟩ := DataW.trod_int v0 h0
    obtain ⟨b, e1, _⟩ := DataW.trod_int v1 h1
    obtain ⟨c, e2, _⟩ := DataW.trod_int v2 h2
    simp at e0 e1 e2
    exact ⟨a, b, c, e0, e1, e2⟩
  rw [hm] at hr
  exact ⟨A, n, c, l, rfl, hl.symm, hr⟩

/-- A system that came in, as the cells of a struct. -/
theorem open_sys {t e : TypeId} {f0 f1 f2 g0 g1 g2 : Field} {fuel : Nat} {cs : List Value} {x : DataW H × List MemPlace} (hT : P.underlying t = some (.struct #[f0, f1, f2])) (hC : P.cellsOf t = 3)
    (o0 : f0.offset = 0) (o1 : f1.offset = 1) (o2 : f2.offset = 2) (c0 : P.cellsOf f0.type = 1) (c1 : P.cellsOf f1.type = 1) (c2 : P.cellsOf f2.type = 1)
    (u0 : P.underlying f0.type = some (.int .i64)) (u1 : P.underlying f1.type = some (.int .i64)) (u2 : P.underlying f2.type = some (.slice e)) (hc : P.cellsOf e = 3) (he : P.underlying e = some (.struct #[g0, g1, g2]))
    (p0 : g0.offset = 0) (p1 : g1.offset = 1) (p2 : g2.offset = 2) (d0 : P.cellsOf g0.type = 1) (d1 : P.cellsOf g1.type = 1) (d2 : P.cellsOf g2.type = 1)
    (v0 : P.underlying g0.type = some (.int .i64)) (v1 : P.underlying g1.type = some (.int .i64)) (v2 : P.underlying g2.type = some (.int .i64))
    (h : DataW.trod enc P w 0 spare held fuel t cs = some x) :
    ∃ (s : Sys) (A : Option Addr) (n c : Nat), cs = [.int .i64 s.al, .int .i64 s.st, .slice A n c] ∧ SysAt w 0 w.heap.size A n s := by
  obtain ⟨y0, y1, y2, k, _, hl, h0, h1, h2⟩ := trod_struct3 hT h
  rw [hC] at hl
  match cs, hl with
  | [z0, z1, z2], _ =>
    rw [o0, c0] at h0
    rw [o1, c1] at h1
    rw [o2, c2] at h2
    obtain ⟨al, e0, _⟩ := DataW.trod_int u0 h0
    obtain ⟨st, e1, _⟩ := DataW.trod_int u1 h1
    obtain ⟨A, n, c, l, e2, hn, hr⟩ := open_edges u2 hc he p0 p1 p2 d0 d1 d2 v0 v1 v2 h2
    simp at e0 e1 e2
    subst e0; subst e1; subst e2
    exact ⟨⟨al, st, l⟩, A, n, c, rfl, hn, hr⟩

theorem systems_choose {w : World} (V : Nat → Value) : ∀ n : Nat, (∀ i, i < n → ∃ (s : Sys) (A : Option Addr) (m c : Nat), V (i * 3) = .int .i64 s.al ∧ V (i * 3 + 1) = .int .i64 s.st ∧ V (i * 3 + 2) = .slice A m c ∧ SysAt w 0 w.heap.size A m s) →
    ∃ ss : List Sys, ss.length = n ∧ ∀ i s, ss[i]? = some s → ∃ (A : Option Addr) (m c : Nat), V (i * 3) = .int .i64 s.al ∧ V (i * 3 + 1) = .int .i64 s.st ∧ V (i * 3 + 2) = .slice A m c ∧ SysAt w 0 w.heap.size A m s
  | 0, _ => ⟨[], rfl, fun i s h => by simp at h⟩
  | n + 1, h => by
    obtain ⟨ss, hl, hr⟩ := systems_choose V n fun i hi => h i (by omega)
    obtain ⟨s, A, m, c, hv⟩ := h n (by omega)
    refine ⟨ss ++ [s], by simp [hl], fun i t ht => ?_⟩
    rcases Nat.lt_or_ge i n with h1 | h1
    · rw [List.getElem?_append_left (by omega)] at ht
      exact hr i t ht
    · have hi : i = n := by
        have := (List.getElem?_eq_some_iff.1 ht).1
        simp at this; omega
      subst hi
      rw [List.getElem?_append_right (by omega), hl, Nat.sub_self] at ht
      simp at ht
      subst ht
      exact ⟨A, m, c, hv⟩

/-- Systems that came in. -/
theorem open_systems {T t e : TypeId} {f0 f1 f2 g0 g1 g2 : Field} {fuel : Nat} {cs : List Value} {x : DataW H × List MemPlace} (hS : P.underlying T = some (.slice t)) (hT : P.underlying t = some (.struct #[f0, f1, f2])) (hC : P.cellsOf t = 3)
    (o0 : f0.offset = 0) (o1 : f1.offset = 1) (o2 : f2.offset = 2) (c0 : P.cellsOf f0.type = 1) (c1 : P.cellsOf f1.type = 1) (c2 : P.cellsOf f2.type = 1)
    (u0 : P.underlying f0.type = some (.int .i64)) (u1 : P.underlying f1.type = some (.int .i64)) (u2 : P.underlying f2.type = some (.slice e)) (hc : P.cellsOf e = 3) (he : P.underlying e = some (.struct #[g0, g1, g2]))
    (p0 : g0.offset = 0) (p1 : g1.offset = 1) (p2 : g2.offset = 2) (d0 : P.cellsOf g0.type = 1) (d1 : P.cellsOf g1.type = 1) (d2 : P.cellsOf g2.type = 1)
    (v0 : P.underlying g0.type = some (.int .i64)) (v1 : P.underlying g1.type = some (.int .i64)) (v2 : P.underlying g2.type = some (.int .i64))
    (h : DataW.trod enc P w 0 spare held fuel T cs = some x) :
    ∃ (ss : List Sys) (A : Option Addr) (n c : Nat), cs = [.slice A n c] ∧ SLAt w 0 w.heap.size A n ss := by
  obtain ⟨A, n, c, V, k, rfl, hr, hV⟩ := open_three hS hC h
  obtain ⟨ss, hl, hx⟩ := systems_choose (w := w) V n fun i hi => by
    obtain ⟨y, hy⟩ := hV i hi
    obtain ⟨s, A, m, c, e1, e2⟩ := open_sys hT hC o0 o1 o2 c0 c1 c2 u0 u1 u2 hc he p0 p1 p2 d0 d1 d2 v0 v1 v2 hy
    simp at e1
    exact ⟨s, A, m, c, e1.1, e1.2.1, e1.2.2, e2⟩
  refine ⟨ss, A, n, c, rfl, hl.symm, _, hr, fun i s hs => ?_⟩
  have hi : i < n := by have := (List.getElem?_eq_some_iff.1 hs).1; omega
  obtain ⟨B, m, d, e0, e1, e2, e3⟩ := hx i s hs
  refine ⟨B, m, d, ?_, ?_, ?_, e3⟩ <;> rw [List.getElem?_map, List.getElem?_range (by omega)] <;> simp [e0, e1, e2]
end
end Go.Proofs.YtplllipekeomiaaGreatDoor

namespace Go.Proofs.YtplllipekeomiaaGreatDoor
open Go Go.ChangeShapes Go.WideShapes Go.ChangeAt Go.RowKit Go.Deep
set_option maxRecDepth 100000

theorem own_ : ownKnob Tryz.prog.godebug = none := by kernel_rfl
theorem laidOut_ : laidOutB Tryz.prog = true := by kernel_rfl

theorem open_laws_aut {H : Type} {enc : TypeId × Value → H} {w : World} {spare : Nat → Bool} {held : Bool} {fuel : Nat} {cs : List Value} {x : DataW H × List MemPlace} (h : DataW.trod enc Tryz.prog w 0 spare held fuel 26 cs = some x) :
    ∃ (a : Aut) (A : Option Addr) (n c : Nat) (A' : Option Addr) (n' c' : Nat), cs = [.int .i64 a.al, .slice A n c, .slice A' n' c'] ∧ AutAt w 0 w.heap.size A n A' n' a :=
  open_aut Tryz.underlying26 (by kernel_rfl) rfl rfl rfl (by kernel_rfl) (by kernel_rfl) (by kernel_rfl) Tryz.underlying3 Tryz.underlying23 Tryz.underlying84 Tryz.underlying3 (by kernel_rfl) (by kernel_rfl) Tryz.underlying24 Tryz.underlying4 (by kernel_rfl) h
theorem open_laws_sys {H : Type} {enc : TypeId × Value → H} {w : World} {spare : Nat → Bool} {held : Bool} {fuel : Nat} {cs : List Value} {x : DataW H × List MemPlace} (h : DataW.trod enc Tryz.prog w 0 spare held fuel 46 cs = some x) :
    ∃ (s : Sys) (A : Option Addr) (n c : Nat), cs = [.int .i64 s.al, .int .i64 s.st, .slice A n c] ∧ SysAt w 0 w.heap.size A n s :=
  open_sys Tryz.underlying46 (by kernel_rfl) rfl rfl rfl (by kernel_rfl) (by kernel_rfl) (by kernel_rfl) Tryz.underlying3 Tryz.underlying3 Tryz.underlying44 (by kernel_rfl) Tryz.underlying98 rfl rfl rfl (by kernel_rfl) (by kernel_rfl) (by kernel_rfl) Tryz.underlying3 Tryz.underlying3 Tryz.underlying3 h
theorem open_laws_systems {H : Type} {enc : TypeId × Value → H} {w : World} {spare : Nat → Bool} {held : Bool} {fuel : Nat} {cs : List Value} {x : DataW H × List MemPlace} (h : DataW.trod enc Tryz.prog w 0 spare held fuel 22 cs = some x) :
    ∃ (ss : List Sys) (A : Option Addr) (n c : Nat), cs = [.slice A n c] ∧ SLAt w 0 w.heap.size A n ss :=
  open_systems Tryz.underlying22 Tryz.underlying46 (by kernel_rfl) rfl rfl rfl (by kernel_rfl) (by kernel_rfl) (by kernel_rfl) Tryz.underlying3 Tryz.underlying3 Tryz.underlying44 (by kernel_rfl) Tryz.underlying98 rfl rfl rfl (by kernel_rfl) (by kernel_rfl) (by kernel_rfl) Tryz.underlying3 Tryz.underlying3 Tryz.underlying3 h

theorem array3 {α : Type} {cs : Array α} (h : cs.size = 3) : ∃ c0 c1 c2, cs = #[c0, c1, c2] := by
  obtain ⟨l⟩ := cs
  match l, h with
  | [c0, c1, c2], _ => exact ⟨c0, c1, c2, rfl⟩

/-- An automaton, as a row's argument. -/
theorem arg_aut {H : Type} {enc : TypeId × Value → H} {w : World} {spare : Nat → Bool} {held : Bool} {r : Reach} {b0 : Nat} {v : Value} {d : DataW H} {p : List MemPlace} (hv : Value.okWide Tryz.prog w r b0 26 v) (h : DataW.Trod enc Tryz.prog w 0 spare held 26 v d p) :
    ∃ (a : Aut) (A : Option Addr) (n c : Nat) (A' : Option Addr) (n' c' : Nat), v = .agg #[.int .i64 a.al, .slice A n c, .slice A' n' c'] ∧ AutAt w 0 w.heap.size A n A' n' a := by
  obtain ⟨cs, rfl, hsz⟩ := okWide_struct Tryz.underlying26 hv
  obtain ⟨c0, c1, c2, rfl⟩ := array3 (hsz.trans (by kernel_rfl))
  obtain ⟨fuel, hf⟩ := h
  obtain ⟨a, A, n, c, A', n', c', e1, hr⟩ := open_laws_aut hf
  simp [Value.cells] at e1
  obtain ⟨rfl, rfl, rfl⟩ := e1
  exact ⟨a, A, n, c, A', n', c', rfl, hr⟩
theorem arg_sys {H : Type} {enc : TypeId × Value → H} {w : World} {spare : Nat → Bool} {held : Bool} {r : Reach} {b0 : Nat} {v : Value} {d : DataW H} {p : List MemPlace} (hv : Value.okWide Tryz.prog w r b0 46 v) (h : DataW.Trod enc Tryz.prog w 0 spare held 46 v d p) :
    ∃ (s : Sys) (A : Option Addr) (n c : Nat), v = .agg #[.int .i64 s.al, .int .i64 s.st, .slice A n c] ∧ SysAt w 0 w.heap.size A n s := by
  obtain ⟨cs, rfl, hsz⟩ := okWide_struct Tryz.underlying46 hv
  obtain ⟨c0, c1, c2, rfl⟩ := array3 (hsz.trans (by kernel_rfl))
  obtain ⟨fuel, hf⟩ := h
  obtain ⟨a, A, n, c, e1, hr⟩ := open_laws_sys hf
  simp [Value.cells] at e1
  obtain ⟨rfl, rfl, rfl⟩ := e1
  exact ⟨a, A, n, c, rfl, hr⟩
theorem arg_systems {H : Type} {enc : TypeId × Value → H} {w : World} {spare : Nat → Bool} {held : Bool} {r : Reach} {b0 : Nat} {v : Value} {d : DataW H} {p : List MemPlace} (hv : Value.okWide Tryz.prog w r b0 22 v) (h : DataW.Trod enc Tryz.prog w 0 spare held 22 v d p) :
    ∃ (ss : List Sys) (A : Option Addr) (n c : Nat), v = .slice A n c ∧ SLAt w 0 w.heap.size A n ss := by
  obtain ⟨a, l, k, rfl⟩ := okWide_slice Tryz.underlying22 hv
  obtain ⟨fuel, hf⟩ := h
  obtain ⟨ss, A, n, c, e1, hr⟩ := open_laws_systems hf
  simp [Value.cells] at e1
  obtain ⟨rfl, rfl, rfl⟩ := e1
  exact ⟨ss, a, l, k, rfl, hr⟩
end Go.Proofs.YtplllipekeomiaaGreatDoor

namespace Go.Proofs.YtplllipekeomiaaGreatDoor
open Go Go.RowKit
set_option maxHeartbeats 1000000

/-- The library's table lies where it was laid. -/
def Tab (w : World) : Prop := ∀ j, j < 64 → w.cell? ⟨1, j, none⟩ = some (.int .u8 (Lib.deBruijn64tab.getD j 0))
theorem Tab.ext {w w' : World} (h : Tab w) (hb : Ext w w') : Tab w' := fun j hj => hb.cell_some (h j hj)

theorem tz64_core (x k idx : Nat) (w : World) (hx0 : ((x : Int) == 0) = false)
    (key : IntKind.u64.wrap (bits BinOp.and IntKind.u64 (x : Int) (IntKind.u64.wrap (-(x : Int))) * 285870213051353865) / 288230376151711744 = (idx : Int))
    (hi : idx < 64) (hk : k < 64) (hcell : w.cell? ⟨1, idx, none⟩ = some (.int .u8 k)) :
    Calls Tryz.prog 140 #[.int .u64 x] w fun e w' => e = .returned (.int .i64 k) ∧ w = w' := by
  go_enter Tryz.func140, Tryz.ntmps140
  go_wp2_with (simp only [key])
  go_ret
  exact ⟨rfl, rfl⟩
theorem tz64 (x : Nat) (hx : x < 18446744073709551616) (hx0 : x ≠ 0) (w : World) (hT : Tab w) :
    Calls Tryz.prog 140 #[.int .u64 x] w fun e w' => e = .returned (.int .i64 (Lib.ctz 64 x)) ∧ w = w' := by
  obtain ⟨hlow, hk⟩ := Lib.lowest_bit 64 x hx0 hx
  obtain ⟨hi, htab⟩ := Lib.deBruijn64_at _ hk
  have hcell := hT _ hi
  rw [htab] at hcell
  exact tz64_core x _ _ w (by simp; omega) (tz64_key x _ hx hx0 hlow) hi hk hcell
theorem tz (x : Nat) (hx : x < 18446744073709551616) (hx0 : x ≠ 0) (w : World) (hT : Tab w) :
    Calls Tryz.prog 134 #[.int .u64 x] w fun e w' => e = .returned (.int .i64 (Lib.ctz 64 x)) ∧ w = w' := by
  go_enter Tryz.func134, Tryz.ntmps134
  go_wp2_with (go_at_call 140; refine (tz64 x hx hx0 w hT).mono ?_; rintro e w' ⟨rfl, rfl⟩)
  go_ret
  exact ⟨rfl, rfl⟩
end Go.Proofs.YtplllipekeomiaaGreatDoor

namespace Go.Proofs.YtplllipekeomiaaGreatDoor
open Go Go.RowKit

theorem tab_head {W : World} {rest : List (String × DataW Unit)} (h : laidMet Tryz.prog (("math/bits.deBruijn64tab", Rows.laid_math_bits_deBruijn64tab) :: rest) W) : Tab W := by
  have h1 : Lib.TabIs Tryz.prog W "math/bits.deBruijn64tab" .u8 (Lib.deBruijn64tab.map fun n : Nat => (n : Int)) :=
    Lib.tabIs_of_head (g := 1) (t := 172) (e := 5) (by kernel_rfl) (by kernel_rfl) Tryz.underlying172 Tryz.underlying5 (by kernel_rfl) (by kernel_rfl) h
  intro j hj
  have := h1.cell (g := 1) (by kernel_rfl) j (by rw [List.length_map]; exact hj)
  rw [this, List.getD_eq_getElem?_getD, List.getElem?_map, List.getD_eq_getElem?_getD]
  have hl : Lib.deBruijn64tab.length = 64 := rfl
  rw [List.getElem?_eq_getElem (by omega)]
  rfl
/-- The two tables of math/bits, as a row lists them. -/
theorem tab_two {W : World} {rest : List (String × DataW Unit)} (h : laidMet Tryz.prog (("math/bits.deBruijn32tab", Rows.laid_math_bits_deBruijn32tab) :: ("math/bits.deBruijn64tab", Rows.laid_math_bits_deBruijn64tab) :: rest) W) : Tab W := tab_head (laidMet.tail h)
end Go.Proofs.YtplllipekeomiaaGreatDoor
