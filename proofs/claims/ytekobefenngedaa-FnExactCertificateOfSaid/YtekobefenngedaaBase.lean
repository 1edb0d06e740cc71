/- Plain lemmas on memory: a slice that reads as a list, blocks that are known whole, frames. They hold of every program and every world, without conditions. -/
import Derived.WalkKit
import Derived.WalkSpells
import Derived.WalkLawsBesides
import Derived.BigQuiet
import Derived.Deep.QuietTactic
import Derived.Deep.RegionWith
import Derived.Deep.RegionHeld3
import Derived.Deep.AppendLies
import Derived.Deep.Draws
import Derived.Laws.OwnMore
import Derived.Laws.BitsAllLaws
import Derived.Laws.BitsLemmas
import Derived.Maps.AppendAt
namespace Go.Proofs.Ytekobefenngedaa
open Go Go.RowKit

theorem hide {p : Prop} (h : p) : Hid p := h

theorem addr_block (a : Addr) (n : Nat) : (a.add n).block = a.block := by unfold Addr.add; split <;> rfl
theorem addr_add (a : Addr) (i j : Nat) : (a.add i).add j = a.add (i + j) := by
  unfold Addr.add
  by_cases hi : i = 0 <;> by_cases hj : j = 0 <;> simp [hi, hj, Nat.add_assoc]
theorem addr_zero (a : Addr) : a.add 0 = a := by simp [Addr.add]
theorem addr_lit (g o n : Nat) : (⟨g, o, none⟩ : Addr).add n = ⟨g, o + n, none⟩ := by unfold Addr.add; split <;> simp_all

/-- w' is w, but for new blocks and for the old blocks in S. -/
structure Frm (S : Nat → Prop) (w w' : World) : Prop where
  os : w'.os = w.os
  tape : w'.tape = w.tape
  output : w'.output = w.output
  size : w.heap.size ≤ w'.heap.size
  block : ∀ k, k < w.heap.size → ¬ S k → w'.heap[k]? = w.heap[k]?

/-- w' is w with new blocks. -/
def Ext (w w' : World) : Prop := Frm (fun _ => False) w w'

theorem Ext.refl (w : World) : Ext w w := ⟨rfl, rfl, rfl, Nat.le_refl _, fun _ _ _ => rfl⟩
theorem Ext.trans {a b c : World} (h : Ext a b) (k : Ext b c) : Ext a c :=
  ⟨k.os.trans h.os, k.tape.trans h.tape, k.output.trans h.output, Nat.le_trans h.size k.size, fun i hi hn => (k.block i (Nat.lt_of_lt_of_le hi h.size) hn).trans (h.block i hi hn)⟩
theorem Ext.drew {a w : World} (h : Ext a w) : Ext a w.drew := ⟨h.os, h.tape, h.output, h.size, h.block⟩
theorem Ext.drewN {a w : World} (h : Ext a w) (n : Nat) : Ext a (w.drewN n) := ⟨h.os, h.tape, h.output, h.size, h.block⟩
theorem Ext.of_drewN {a w : World} {n : Nat} (h : Ext (a.drewN n) w) : Ext a w := ⟨h.os, h.tape, h.output, h.size, h.block⟩
theorem Ext.alloc {a w : World} (h : Ext a w) (o : Obj) : Ext a (w.alloc o) :=
  h.trans ⟨rfl, rfl, rfl, by simp, fun k hk _ => Below.heap_alloc _ _ _ hk⟩
theorem Ext.setCell {a w : World} (h : Ext a w) {p : Addr} (hp : a.heap.size ≤ p.block) (u : Value) : Ext a (w.setCell p u) :=
  ⟨h.os, h.tape, h.output, by simpa [World.setCell] using h.size, fun k hk hn => (Below.heap_setCell _ _ _ _ (by omega)).trans (h.block k hk hn)⟩
theorem Ext.grown {a w w' : World} {row : Option Nat} (h : Ext a w) (hg : w.grownBy w' row) (hr : ∀ k, row = some k → a.heap.size ≤ k) : Ext a w' :=
  ⟨hg.os.trans h.os, hg.tape.trans h.tape, hg.output.trans h.output, Nat.le_trans h.size hg.size,
    fun k hk hn => (hg.block k (Nat.lt_of_lt_of_le hk h.size) (fun e => by have := hr k e.symm; omega)).trans (h.block k hk hn)⟩
theorem Ext.below {w w' : World} (h : Ext w w') : Below w.heap.size w w' := ⟨h.os, h.tape, h.output, h.size, fun k hk => h.block k hk id⟩
theorem Ext.of_below {w w' : World} (h : Below w.heap.size w w') : Ext w w' := ⟨h.os, h.tape, h.output, h.size, fun k hk _ => h.block k hk⟩
theorem Ext.heap {w w' : World} (h : Ext w w') {k : Nat} (hk : k < w.heap.size) : w'.heap[k]? = w.heap[k]? := h.block k hk id
theorem Ext.cell {w w' : World} (h : Ext w w') {p : Addr} (hp : p.block < w.heap.size) : w'.cell? p = w.cell? p := World.cell?_of_block (w := w) (h.heap hp)
theorem Ext.cell_some {w w' : World} (h : Ext w w') {p : Addr} {v : Value} (hv : w.cell? p = some v) : w'.cell? p = some v :=
  (h.cell (World.block_lt_of_cell? w p hv)).trans hv

/-- Block g is just these cells of element type t. -/
def Blk (w : World) (g : Nat) (t : TypeId) (cs : Array Value) : Prop := w.heap[g]? = some (.cells cs t (0, 0))
section
variable {w w' : World} {g : Nat} {t : TypeId} {cs : Array Value}
theorem Blk.lt (h : Blk w g t cs) : g < w.heap.size := by
  rcases Nat.lt_or_ge g w.heap.size with hlt | hge
  · exact hlt
  · unfold Blk at h; rw [Array.getElem?_eq_none hge] at h; cases h
theorem Blk.cell (h : Blk w g t cs) (i : Nat) : w.cell? ⟨g, i, none⟩ = cs[i]? := cell_of_row w g i cs t (0, 0) h
theorem Blk.frozen (h : Blk w g t cs) (i : Nat) : w.frozen? ⟨g, i, none⟩ = false := by
  unfold Blk at h
  simp [World.frozen?, h]
theorem Blk.new (w : World) (t : TypeId) (cs : Array Value) : Blk (w.alloc (.cells cs t)) w.heap.size t cs := heap_alloc_new w _
theorem Blk.ext (h : Blk w g t cs) (hb : Ext w w') : Blk w' g t cs := (hb.heap h.lt).trans h
theorem Blk.frm {S : Nat → Prop} (h : Blk w g t cs) (hb : Frm S w w') (hg : ¬ S g) : Blk w' g t cs := (hb.block g h.lt hg).trans h
theorem Blk.set_ (h : Blk w g t cs) (i : Nat) (u : Value) : Blk (w.setCell ⟨g, i, none⟩ u) g t (cs.setIfInBounds i u) := by
  unfold Blk at h ⊢
  simp [World.setCell, Array.getElem?_modify, h]
end

/-- Blocks that lay ahead of a call. -/
theorem ext_blk1 {w w' : World} {cs : Array Value} {t : TypeId} (h : Ext (w.alloc (.cells cs t)) w') : Blk w' w.heap.size t cs := (Blk.new w t cs).ext h
theorem ext_blk2 {w w' : World} {cs ds : Array Value} {t u : TypeId} (h : Ext ((w.alloc (.cells cs t)).alloc (.cells ds u)) w') : Blk w' w.heap.size t cs ∧ Blk w' (w.heap.size + 1) u ds := by
  refine ⟨ext_blk1 (((Ext.refl _).alloc _).trans h), ?_⟩
  have := ext_blk1 h
  simpa using this
theorem ext_blk3 {w w' : World} {cs ds es : Array Value} {t u v : TypeId} (h : Ext (((w.alloc (.cells cs t)).alloc (.cells ds u)).alloc (.cells es v)) w') : Blk w' w.heap.size t cs ∧ Blk w' (w.heap.size + 1) u ds ∧ Blk w' (w.heap.size + 1 + 1) v es := by
  have h2 := ext_blk2 (((Ext.refl _).alloc _).trans h)
  refine ⟨h2.1, h2.2, ?_⟩
  have := ext_blk1 h
  simpa using this
theorem Blk.far {w : World} {g : Nat} {t : TypeId} {cs : Array Value} (h : Blk w g t cs) {p : Addr} (hp : g ≠ p.block) (u : Value) : Blk (w.setCell p u) g t cs := (Below.heap_setCell w p u g hp).trans h
theorem ext_box {w w' : World} {cs : Array Value} {t : TypeId} (h : Ext (w.alloc (.cells cs t)) w') : ∀ j, w'.cell? ⟨w.heap.size, j, none⟩ = cs[j]? := (ext_blk1 h).cell

/-- The slice (A, n elements of 'size' cells each) holds the cells xs, in a block from lo on and below hi. -/
def Reads (w : World) (lo hi size : Nat) (A : Option Addr) (n : Nat) (xs : List Value) : Prop :=
  xs.length = n * size ∧ n ≤ 9223372036854775807 ∧ (0 < n → ∃ ad, A = some ad ∧ lo ≤ ad.block ∧ ad.block < hi ∧ ∀ j u, xs[j]? = some u → w.cell? (ad.add j) = some u)
section
variable {w w' : World} {lo hi size n : Nat} {A : Option Addr} {xs : List Value}
theorem Reads.nil : Reads w lo hi size A 0 [] := ⟨by simp, by omega, fun h => absurd h (by omega)⟩
theorem Reads.len (h : Reads w lo hi size A n xs) : n ≤ 9223372036854775807 := h.2.1
theorem Reads.length (h : Reads w lo hi size A n xs) : xs.length = n * size := h.1
theorem Reads.at_ {k : Nat} (h : Reads w lo hi size A n xs) (hk : k < n) : ∃ ad, A = some ad ∧ lo ≤ ad.block ∧ ad.block < hi ∧ ∀ j u, xs[j]? = some u → w.cell? (ad.add j) = some u := h.2.2 (by omega)
theorem Reads.one {k : Nat} (h : Reads w lo hi 1 A n xs) (hk : k < n) : ∃ ad u, A = some ad ∧ lo ≤ ad.block ∧ ad.block < hi ∧ Hid (xs[k]? = some u) ∧ w.cell? (ad.add k) = some u := by
  obtain ⟨ad, e, hl, hb, hc⟩ := h.2.2 (by omega)
  have hx : k < xs.length := by have := h.1; omega
  exact ⟨ad, xs[k], e, hl, hb, List.getElem?_eq_getElem hx, hc k _ (List.getElem?_eq_getElem hx)⟩
theorem Reads.keep (h : Reads w lo hi size A n xs) (hk : ∀ p : Addr, lo ≤ p.block → p.block < hi → w'.cell? p = w.cell? p) : Reads w' lo hi size A n xs :=
  ⟨h.1, h.2.1, fun hn => by
    obtain ⟨ad, e, hl, hb, hc⟩ := h.2.2 hn
    exact ⟨ad, e, hl, hb, fun j u hu => (hk _ (by rw [addr_block]; exact hl) (by rw [addr_block]; exact hb)).trans (hc j u hu)⟩⟩
theorem Reads.more {lo' hi' : Nat} (h : Reads w lo hi size A n xs) (hL : lo' ≤ lo) (hH : hi ≤ hi') : Reads w lo' hi' size A n xs :=
  ⟨h.1, h.2.1, fun hn => by
    obtain ⟨ad, e, hl, hb, hc⟩ := h.2.2 hn
    exact ⟨ad, e, by omega, by omega, hc⟩⟩
theorem Reads.ext (h : Reads w lo hi size A n xs) (hb : Ext w w') : Reads w' lo hi size A n xs :=
  ⟨h.1, h.2.1, fun hn => by
    obtain ⟨ad, e, hl, hi, hc⟩ := h.2.2 hn
    exact ⟨ad, e, hl, hi, fun j u hu => hb.cell_some (hc j u hu)⟩⟩
theorem Reads.frm {S : Nat → Prop} (h : Reads w lo hi size A n xs) (hb : Frm S w w') (hS : ∀ k, lo ≤ k → k < hi → ¬ S k) : Reads w' lo hi size A n xs :=
  ⟨h.1, h.2.1, fun hn => by
    obtain ⟨ad, e, hl, hi, hc⟩ := h.2.2 hn
    refine ⟨ad, e, hl, hi, fun j u hu => ?_⟩
    have hcell := hc j u hu
    have hlt := World.block_lt_of_cell? w _ hcell
    exact (World.cell?_of_block (w := w) (hb.block _ hlt (by rw [addr_block]; exact hS _ hl hi))).trans hcell⟩
theorem Reads.of_own {base : Nat} {e : TypeId} {c : Nat} (h : w.ownsRow base e size (.slice A n c) n xs) : Reads w base w.heap.size size A n xs := by
  rcases h.2 with ⟨h', h0⟩ | ⟨g, cap, cur, hv, hb, hg, hnc, hcm, _, htake⟩
  · subst h0
    have hx : xs = [] := List.eq_nil_of_length_eq_zero (by simpa using h.1)
    subst hx
    exact Reads.nil
  · have hA : A = some ⟨g, 0, none⟩ := by injection hv
    subst hA
    exact ⟨h.1, by unfold maxLen at hcm; omega, fun _ => ⟨_, rfl, hb, (Array.getElem?_eq_some_iff.1 hg).1, h.cells (g := g) rfl⟩⟩
end

/-- 'append(s, x)' of one element: what buildSlice has laid in a block of its own comes behind what is owned. -/
theorem wpList_push {P : Program} (wb w : World) {ops : Array Oper} {rest : List Oper} {o : Oper} {a : Act} {Q : Exit → Act → World → Prop} (hgd : o.guard = none) (s x : Operand) (t : TypeId)
    (ho : o.op = .call { callee := .builtin .append, args := #[s, x], argTypes := #[t, t] })
    (e : TypeId) (z : Value) (size bytes : Nat) (ht : P.underlying t = some (.slice e)) (hi : (P.info? e).map (fun i => (i.zero, i.size, i.bytes)) = some (some z, size, bytes)) (hzs : z.cells.size = size) (hsz : 0 < size)
    (v : Value) (n : Nat) (xs : List Value) (us : Array Value) (e' : TypeId) (hs : a.eval s = v) (hx : a.eval x = .slice (some ⟨w.heap.size, 0, none⟩) 1 1)
    (hext : Ext wb w) (hown : w.ownsRow wb.heap.size e size v n xs) (hus : us.size = size) (h1 : ∀ u ∈ us.toList, u.oneCell' = true)
    (h63 : n + 1 ≤ maxLen) (hbytes : (n + 1) * bytes ≤ 140737488355328)
    (h : ∀ v' w', Ext wb w' → w'.ownsRow wb.heap.size e size v' (n + 1) (xs ++ us.toList) → w.grownBy w' v.ownBlock → (v'.ownBlock = v.ownBlock ∨ v'.ownBlock = some (w.heap.size + 1)) → wpList P ops Q rest (a.put o.dst v') w') :
    wpList P ops Q (o :: rest) a (w.alloc (.cells us e')) := by
  obtain ⟨i, hi0, hz0, hz1, hz2⟩ := info_parts hi
  refine wpList_append_own_at (w.alloc (.cells us e')) hgd s x t ho wb.heap.size e i z size bytes ht hi0 hz0 hz1 hz2 hzs hsz v n xs hs (hown.alloc _) ⟨w.heap.size, 0, none⟩ 1 1 us.toList hx (by simpa using hus) ?_ h1 h63 hbytes (by have := hext.size; simp; omega) ?_
  · intro j u hu
    rw [addr_lit, Nat.zero_add, (Blk.new w e' us).cell]
    simpa using hu
  · intro v' w' hown' hg _ hat
    have hg' : w.grownBy w' v.ownBlock := ⟨hg.os, hg.tape, hg.output, Nat.le_trans (by simp) hg.size, fun k hk hne => (hg.block k (by simp; omega) hne).trans (Below.heap_alloc w _ k hk)⟩
    exact h v' w' (hext.grown hg' (fun k hk => (hown.lt k hk).1)) hown' hg' (by simpa using hat)

/-- 'make([]T, n)'. -/
theorem wpList_make {P : Program} (wb w : World) {ops : Array Oper} {rest : List Oper} {o : Oper} {a : Act} {Q : Exit → Act → World → Prop} (hgd : o.guard = none) (l c : Operand) (t : TypeId) (ho : o.op = .makeSlice t l c)
    (e : TypeId) (z : Value) (size bytes : Nat) (ht : P.underlying t = some (.slice e)) (hi : (P.info? e).map (fun i => (i.zero, i.size, i.bytes)) = some (some z, size, bytes))
    (kl kc : IntKind) (n : Nat) (hl : a.eval l = .int kl (n : Int)) (hc : a.eval c = .int kc (n : Int)) (hext : Ext wb w) (hbytes : n * bytes ≤ 140737488355328) (h63 : n ≤ maxLen)
    (h : ∀ w', Ext wb w' → w'.ownsRow wb.heap.size e size (.slice (some ⟨w.heap.size, 0, none⟩) n n) n (madeCells z.cells (n * size)).toList → Ext w w' → w.heap.size < w'.heap.size → wpList P ops Q rest (a.put o.dst (.slice (some ⟨w.heap.size, 0, none⟩) n n)) w') :
    wpList P ops Q (o :: rest) a w := by
  obtain ⟨i, hi0, hz0, hz1, hz2⟩ := info_parts hi
  refine wpList_make_full w hgd l c t ho wb.heap.size e i z size ht hi0 hz0 hz1 kl kc n n n hl hc rfl rfl (by rw [hz2, Nat.mul_comm]; omega) h63 hext.size ?_
  intro w' hown hg
  refine h w' (hext.grown hg (by simp)) hown ((Ext.refl _).grown hg (by simp)) ?_
  rcases hown.2 with ⟨h', _⟩ | ⟨g, cap, cur, h', _, hh, _⟩
  · simp at h'
  · have : w.heap.size = g := by injection h' with h1; injection h1 with h1; injection h1
    subst this
    exact (Array.getElem?_eq_some_iff.1 hh).1

theorem own_form {w : World} {base : Nat} {e : TypeId} {size : Nat} {v : Value} {n : Nat} {xs : List Value} (h : w.ownsRow base e size v n xs) : ∃ A c, v = .slice A n c := by
  rcases h.2 with ⟨rfl, h0⟩ | ⟨g, cap, cur, rfl, _⟩
  · exact ⟨none, 0, by rw [h0]⟩
  · exact ⟨_, _, rfl⟩
theorem cells_int (n : Int) : ∀ u ∈ (#[Value.int .i64 n] : Array Value).toList, u.oneCell' = true := by simp [Value.oneCell']
theorem cells_bool (b : Bool) : ∀ u ∈ (#[Value.bool b] : Array Value).toList, u.oneCell' = true := by simp [Value.oneCell']
theorem cells_u8 (n : Int) : ∀ u ∈ (#[Value.int .u8 n] : Array Value).toList, u.oneCell' = true := by simp [Value.oneCell']
theorem cells_slice (A : Option Addr) (n c : Nat) : ∀ u ∈ (#[Value.slice A n c] : Array Value).toList, u.oneCell' = true := by simp [Value.oneCell']
/-- The cells of a list of numbers. -/
def ints (l : List Int) : List Value := l.map (Value.int .i64)
theorem ints_length (l : List Int) : (ints l).length = l.length := by simp [ints]
/-- The cells of a list of truth values. -/
def bools (l : List Bool) : List Value := l.map Value.bool
theorem bools_length (l : List Bool) : (bools l).length = l.length := by simp [bools]
theorem ints_get {l : List Int} {k : Nat} {u : Value} (h : (ints l)[k]? = some u) : ∃ n, l[k]? = some n ∧ u = .int .i64 n := by
  simp only [ints, List.getElem?_map, Option.map_eq_some_iff] at h
  obtain ⟨n, hn, rfl⟩ := h
  exact ⟨n, hn, rfl⟩
theorem bools_get {l : List Bool} {k : Nat} {u : Value} (h : (bools l)[k]? = some u) : ∃ n, l[k]? = some n ∧ u = .bool n := by
  simp only [bools, List.getElem?_map, Option.map_eq_some_iff] at h
  obtain ⟨n, hn, rfl⟩ := h
  exact ⟨n, hn, rfl⟩
theorem Reads.int {w : World} {lo hi n k : Nat} {A : Option Addr} {l : List Int} (h : Reads w lo hi 1 A n (ints l)) (hk : k < n) : ∃ ad x, A = some ad ∧ lo ≤ ad.block ∧ ad.block < hi ∧ Hid (l[k]? = some x) ∧ w.cell? (ad.add k) = some (.int .i64 x) := by
  obtain ⟨ad, u, e, hl, hb, hx, hc⟩ := h.one hk
  obtain ⟨x, hx', rfl⟩ := ints_get hx.out
  exact ⟨ad, x, e, hl, hb, hx', hc⟩
theorem Reads.bool {w : World} {lo hi n k : Nat} {A : Option Addr} {l : List Bool} (h : Reads w lo hi 1 A n (bools l)) (hk : k < n) : ∃ ad x, A = some ad ∧ lo ≤ ad.block ∧ ad.block < hi ∧ Hid (l[k]? = some x) ∧ w.cell? (ad.add k) = some (.bool x) := by
  obtain ⟨ad, u, e, hl, hb, hx, hc⟩ := h.one hk
  obtain ⟨x, hx', rfl⟩ := bools_get hx.out
  exact ⟨ad, x, e, hl, hb, hx', hc⟩

/-- These slices hold these lists of numbers. -/
def RowsAt (w : World) (lo hi : Nat) (rows : List Value) (ls : List (List Int)) : Prop :=
  rows.length = ls.length ∧ ∀ (i : Nat) (row : Value) (l : List Int), rows[i]? = some row → ls[i]? = some l → ∃ A c, row = .slice A l.length c ∧ Reads w lo hi 1 A l.length (ints l)
/-- A slice of slices of numbers. -/
def ReadsLL (w : World) (lo hi : Nat) (A : Option Addr) (n : Nat) (ls : List (List Int)) : Prop :=
  n = ls.length ∧ ∃ rows, Reads w lo hi 1 A n rows ∧ RowsAt w lo hi rows ls
section
variable {w w' : World} {lo hi n k : Nat} {A : Option Addr} {ls : List (List Int)} {rows : List Value}
theorem RowsAt.ext (h : RowsAt w lo hi rows ls) (hb : Ext w w') : RowsAt w' lo hi rows ls :=
  ⟨h.1, fun i row l hr hl => by
    obtain ⟨A, c, e, hx⟩ := h.2 i row l hr hl
    exact ⟨A, c, e, hx.ext hb⟩⟩
theorem ReadsLL.ext (h : ReadsLL w lo hi A n ls) (hb : Ext w w') : ReadsLL w' lo hi A n ls := by
  obtain ⟨e, rows, hr, hx⟩ := h
  exact ⟨e, rows, hr.ext hb, hx.ext hb⟩
theorem RowsAt.frm {S : Nat → Prop} (h : RowsAt w lo hi rows ls) (hb : Frm S w w') (hS : ∀ k, lo ≤ k → k < hi → ¬ S k) : RowsAt w' lo hi rows ls :=
  ⟨h.1, fun i row l hr hl => by
    obtain ⟨A, c, e, hx⟩ := h.2 i row l hr hl
    exact ⟨A, c, e, hx.frm hb hS⟩⟩
theorem ReadsLL.frm {S : Nat → Prop} (h : ReadsLL w lo hi A n ls) (hb : Frm S w w') (hS : ∀ k, lo ≤ k → k < hi → ¬ S k) : ReadsLL w' lo hi A n ls := by
  obtain ⟨e, rows, hr, hx⟩ := h
  exact ⟨e, rows, hr.frm hb hS, hx.frm hb hS⟩
theorem RowsAt.more {lo' hi' : Nat} (h : RowsAt w lo hi rows ls) (hL : lo' ≤ lo) (hH : hi ≤ hi') : RowsAt w lo' hi' rows ls :=
  ⟨h.1, fun i row l hr hl => by
    obtain ⟨A, c, e, hx⟩ := h.2 i row l hr hl
    exact ⟨A, c, e, hx.more hL hH⟩⟩
theorem ReadsLL.more {lo' hi' : Nat} (h : ReadsLL w lo hi A n ls) (hL : lo' ≤ lo) (hH : hi ≤ hi') : ReadsLL w lo' hi' A n ls := by
  obtain ⟨e, rows, hr, hx⟩ := h
  exact ⟨e, rows, hr.more hL hH, hx.more hL hH⟩
theorem ReadsLL.len (h : ReadsLL w lo hi A n ls) : n ≤ 9223372036854775807 := by
  obtain ⟨_, rows, hr, _⟩ := h
  exact hr.len
theorem ReadsLL.row (h : ReadsLL w lo hi A n ls) (hk : k < n) : ∃ ad Ak ck l, A = some ad ∧ lo ≤ ad.block ∧ ad.block < hi ∧ Hid (ls[k]? = some l) ∧ w.cell? (ad.add k) = some (.slice Ak l.length ck) ∧ Reads w lo hi 1 Ak l.length (ints l) := by
  obtain ⟨e, rows, hr, hx⟩ := h
  obtain ⟨ad, u, eA, hl, hb, hu, hc⟩ := hr.one hk
  have hlt : k < ls.length := by omega
  obtain ⟨Ak, ck, rfl, hrk⟩ := hx.2 k u ls[k] hu.out (List.getElem?_eq_getElem hlt)
  exact ⟨ad, Ak, ck, ls[k], eA, hl, hb, List.getElem?_eq_getElem hlt, hc, hrk⟩
end

section
variable {w w' : World} {base base' size size' n n' : Nat} {e e' : TypeId} {v v' : Value} {xs xs' : List Value}
theorem own_ext (h : w.ownsRow base e size v n xs) (hb : Ext w w') : w'.ownsRow base e size v n xs := by
  refine ⟨h.1, ?_⟩
  rcases h.2 with hn | ⟨g, cap, cur, hv, hg, hh, r⟩
  · exact .inl hn
  · exact .inr ⟨g, cap, cur, hv, hg, (hb.heap (Array.getElem?_eq_some_iff.1 hh).1).trans hh, r⟩
theorem own_frm {S : Nat → Prop} (h : w.ownsRow base e size v n xs) (hb : Frm S w w') (hS : ∀ b, v.ownBlock = some b → ¬ S b) : w'.ownsRow base e size v n xs := by
  refine ⟨h.1, ?_⟩
  rcases h.2 with hn | ⟨g, cap, cur, hv, hg, hh, r⟩
  · exact .inl hn
  · exact .inr ⟨g, cap, cur, hv, hg, (hb.block g (Array.getElem?_eq_some_iff.1 hh).1 (hS g (by rw [hv]; rfl))).trans hh, r⟩
theorem own_keep {S : Nat → Prop} (h : w.ownsRow base e size v n xs) (hb : Frm S w w') (hS : ∀ b, base ≤ b → ¬ S b) : w'.ownsRow base e size v n xs := own_frm h hb fun b hv => hS b (h.lt b hv).1
theorem own_less (h : w.ownsRow base e size v n xs) (hb : base' ≤ base) : w.ownsRow base' e size v n xs := by
  refine ⟨h.1, ?_⟩
  rcases h.2 with hn | ⟨g, cap, cur, hv, hg, r⟩
  · exact .inl hn
  · exact .inr ⟨g, cap, cur, hv, by omega, r⟩
theorem own_ne (h : w.ownsRow base e size v n xs) (h' : w.ownsRow base' e' size' v' n' xs') (hne : e ≠ e') {b : Nat} (hb : v.ownBlock = some b) : v'.ownBlock ≠ some b := by
  rcases h.2 with ⟨rfl, _⟩ | ⟨g, cap, cur, rfl, _, hh, _⟩
  · simp [Value.ownBlock] at hb
  · rcases h'.2 with ⟨rfl, _⟩ | ⟨g', cap', cur', rfl, _, hh', _⟩
    · simp [Value.ownBlock]
    · have hb1 : g = b := by simpa [Value.ownBlock] using hb
      subst hb1
      intro he
      have hg : g' = g := by simpa [Value.ownBlock] using he
      subst hg
      rw [hh] at hh'
      injection hh' with hh'
      injection hh' with _ ht
      exact hne ht
theorem own_cell {g n cap : Nat} (h : w.ownsRow base e size (.slice (some ⟨g, 0, none⟩) n cap) n xs) (j : Nat) (hj : j < n * size) : ∃ u, w.cell? ⟨g, j, none⟩ = some u := by
  have hx : j < xs.length := by rw [h.1]; exact hj
  exact ⟨xs[j], by rw [h.cellAt j hj, List.getElem?_eq_getElem hx]⟩
theorem own_len (h : w.ownsRow base e size v n xs) : xs.length = n * size := h.1
theorem own_drew (h : w.ownsRow base e size v n xs) (k : Nat) : (w.drewN k).ownsRow base e size v n xs := h
end
theorem Ext.toFrm {w w' : World} {S : Nat → Prop} (h : Ext w w') : Frm S w w' := ⟨h.os, h.tape, h.output, h.size, fun k hk _ => h.block k hk id⟩
theorem Frm.of_grown {w w' : World} {row : Option Nat} (h : w.grownBy w' row) : Frm (fun k => row = some k) w w' :=
  ⟨h.os, h.tape, h.output, h.size, fun k hk hn => h.block k hk (fun e => hn e.symm)⟩
theorem Frm.setCell (w : World) (g j : Nat) (u : Value) : Frm (fun k => k = g) w (w.setCell ⟨g, j, none⟩ u) :=
  ⟨rfl, rfl, rfl, by simp [World.setCell], fun k _ hn => Below.heap_setCell _ _ _ _ hn⟩
theorem Frm.trans {S : Nat → Prop} {a b c : World} (h : Frm S a b) (k : Frm S b c) : Frm S a c :=
  ⟨k.os.trans h.os, k.tape.trans h.tape, k.output.trans h.output, Nat.le_trans h.size k.size, fun i hi hn => (k.block i (Nat.lt_of_lt_of_le hi h.size) hn).trans (h.block i hi hn)⟩
theorem Frm.mono {S T : Nat → Prop} {a b : World} (h : Frm S a b) (hS : ∀ k, k < a.heap.size → S k → T k) : Frm T a b :=
  ⟨h.os, h.tape, h.output, h.size, fun k hk hn => h.block k hk (fun hs => hn (hS k hk hs))⟩
theorem Frm.refl (S : Nat → Prop) (w : World) : Frm S w w := ⟨rfl, rfl, rfl, Nat.le_refl _, fun _ _ _ => rfl⟩
theorem Frm.cell {S : Nat → Prop} {a w : World} (h : Frm S a w) {p : Addr} (hp : S p.block) (u : Value) : Frm S a (w.setCell p u) :=
  ⟨h.os, h.tape, h.output, by simpa [World.setCell] using h.size, fun k hk hn => (Below.heap_setCell _ _ _ _ (by rintro rfl; exact hn hp)).trans (h.block k hk hn)⟩
theorem Frm.ext {S : Nat → Prop} {a w w' : World} (h : Frm S a w) (hb : Ext w w') : Frm S a w' := h.trans hb.toFrm
theorem Frm.drewN {S : Nat → Prop} {a w : World} (h : Frm S a w) (n : Nat) : Frm S a (w.drewN n) := ⟨h.os, h.tape, h.output, h.size, h.block⟩
/-- Writes to new blocks alone. -/
theorem Ext.frm {S : Nat → Prop} {a b c : World} (h : Ext a b) (k : Frm S b c) (hS : ∀ k, k < a.heap.size → ¬ S k) : Ext a c :=
  ⟨k.os.trans h.os, k.tape.trans h.tape, k.output.trans h.output, Nat.le_trans h.size k.size, fun i hi hn => (k.block i (Nat.lt_of_lt_of_le hi h.size) (hS i hi)).trans (h.block i hi hn)⟩

theorem set_end {xs rest : List Value} {k : Nat} (u : Value) (hk : xs.length = k) (hr : 0 < rest.length) : (xs ++ rest).set k u = (xs ++ [u]) ++ rest.tail := by
  subst hk
  rw [List.set_append_right _ _ (by omega), Nat.sub_self]
  cases rest with
  | nil => simp at hr
  | cons r rs => simp
section
variable {α : Type} {l : List α} {p : α → Bool} {k : Nat} {x : α}
theorem all_stop (h : l[k]? = some x) (hp : p x = false) : l.all p = false :=
  List.all_eq_false.2 ⟨x, List.mem_of_getElem? h, by simp [hp]⟩
theorem all_step (h : l[k]? = some x) (hk : (l.take k).all p = true) (hp : p x = true) : (l.take (k + 1)).all p = true := by
  rw [List.take_add_one, h, List.all_append, hk]
  simp [hp]
theorem all_end (hk : l.length ≤ k) (h : (l.take k).all p = true) : l.all p = true := by
  rwa [List.take_of_length_le hk] at h
end
/-- A loop that fills a slice: one cell more. -/
theorem set_mix {vals rest : List Value} {k : Nat} {u : Value} (hu : vals[k]? = some u) (hr : rest.length = vals.length - k) : (vals.take k ++ rest).set k u = vals.take (k + 1) ++ rest.tail := by
  have hk : k < vals.length := by
    rcases Nat.lt_or_ge k vals.length with h | h
    · exact h
    · rw [List.getElem?_eq_none h] at hu; cases hu
  have hl : (vals.take k).length = k := by simp; omega
  rw [List.set_append_right _ _ (by omega), hl, Nat.sub_self, List.take_add_one, hu]
  cases rest with
  | nil => simp at hr; omega
  | cons r rs => simp
end Go.Proofs.Ytekobefenngedaa
