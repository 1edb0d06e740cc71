/- Plain lemmas on memory: a slice that reads as a list, blocks that are known whole, frames. They hold of every program and every world, without conditions. | Plain lemmas on sets of small numbers as bits. They hold without conditions. | Contracts of the leaves: letters, alphabets, words. | Contracts of the laws' own size counts. | Automata as data; how they lie in memory. | Contracts of the laws' own copies. | From the row's reading of an argument to the words of the walks: slices of numbers, of truth values, of slices; automata. | A region that draws its order, walked in one order: whatever reads is taken first, what makes memory comes up alone. It holds of every program, without conditions. -/
import Derived.WalkKit
import Derived.WalkSpells
import Derived.WalkLawsBesides
import Derived.BigQuiet
import Derived.Deep.QuietTactic
import Derived.Deep.RegionWith
import Derived.Deep.RegionHeld3
import Derived.Deep.AppendLies
import Derived.Deep.Draws
import Derived.Laws.OwnMore
import Derived.Laws.BitsAllLaws
import Derived.Laws.BitsLemmas
import Derived.Maps.AppendAt
import Derived.Test.YtcmgkekaeafgaaaRows
import Derived.ProofKit
import Derived.Deep.Slices
import Derived.Deep.Fields
import Derived.ChangeSame
import Derived.ChangeArms
import Derived.Lib.SmallJoins
import Derived.OpenShut
import Derived.ShutString
import Derived.ChangeOld
import Derived.OrdersHeld
namespace Go.Proofs.Ytcmgkekaeafgaaa
open Go Go.RowKit

theorem hide {p : Prop} (h : p) : Hid p := h

theorem addr_block (a : Addr) (n : Nat) : (a.add n).block = a.block := by unfold Addr.add; split <;> rfl
theorem addr_add (a : Addr) (i j : Nat) : (a.add i).add j = a.add (i + j) := by
  unfold Addr.add
  by_cases hi : i = 0 <;> by_cases hj : j = 0 <;> simp [hi, hj, Nat.add_assoc]
theorem addr_zero (a : Addr) : a.add 0 = a := by simp [Addr.add]
theorem addr_lit (g o n : Nat) : (⟨g, o, none⟩ : Addr).add n = ⟨g, o + n, none⟩ := by unfold Addr.add; split <;> simp_all

/-- w' is w, but for new blocks and for the old blocks in S. -/
structure Frm (S : Nat → Prop) (w w' : World) : Prop where
  os : w'.os = w.os
  tape : w'.tape = w.tape
  output : w'.output = w.output
  size : w.heap.size ≤ w'.heap.size
  block : ∀ k, k < w.heap.size → ¬ S k → w'.heap[k]? = w.heap[k]?

/-- w' is w with new blocks. -/
def Ext (w w' : World) : Prop := Frm (fun _ => False) w w'

theorem Ext.refl (w : World) : Ext w w := ⟨rfl, rfl, rfl, Nat.le_refl _, fun _ _ _ => rfl⟩
theorem Ext.trans {a b c : World} (h : Ext a b) (k : Ext b c) : Ext a c :=
  ⟨k.os.trans h.os, k.tape.trans h.tape, k.output.trans h.output, Nat.le_trans h.size k.size, fun i hi hn => (k.block i (Nat.lt_of_lt_of_le hi h.size) hn).trans (h.block i hi hn)⟩
theorem Ext.drew {a w : World} (h : Ext a w) : Ext a w.drew := ⟨h.os, h.tape, h.output, h.size, h.block⟩
theorem Ext.drewN {a w : World} (h : Ext a w) (n : Nat) : Ext a (w.drewN n) := ⟨h.os, h.tape, h.output, h.size, h.block⟩
theorem Ext.of_drewN {a w : World} {n : Nat} (h : Ext (a.drewN n) w) : Ext a w := ⟨h.os, h.tape, h.output, h.size, h.block⟩
theorem Ext.alloc {a w : World} (h : Ext a w) (o : Obj) : Ext a (w.alloc o) :=
  h.trans ⟨rfl, rfl, rfl, by simp, fun k hk _ => Below.heap_alloc _ _ _ hk⟩
theorem Ext.setCell {a w : World} (h : Ext a w) {p : Addr} (hp : a.heap.size ≤ p.block) (u : Value) : Ext a (w.setCell p u) :=
  ⟨h.os, h.tape, h.output, by simpa [World.setCell] using h.size, fun k hk hn => (Below.heap_setCell _ _ _ _ (by omega)).trans (h.block k hk hn)⟩
theorem Ext.grown {a w w' : World} {row : Option Nat} (h : Ext a w) (hg : w.grownBy w' row) (hr : ∀ k, row = some k → a.heap.size ≤ k) : Ext a w' :=
  ⟨hg.os.trans h.os, hg.tape.trans h.tape, hg.output.trans h.output, Nat.le_trans h.size hg.size,
    fun k hk hn => (hg.block k (Nat.lt_of_lt_of_le hk h.size) (fun e => by have := hr k e.symm; omega)).trans (h.block k hk hn)⟩
theorem Ext.below {w w' : World} (h : Ext w w') : Below w.heap.size w w' := ⟨h.os, h.tape, h.output, h.size, fun k hk => h.block k hk id⟩
theorem Ext.of_below {w w' : World} (h : Below w.heap.size w w') : Ext w w' := ⟨h.os, h.tape, h.output, h.size, fun k hk _ => h.block k hk⟩
theorem Ext.heap {w w' : World} (h : Ext w w') {k : Nat} (hk : k < w.heap.size) : w'.heap[k]? = w.heap[k]? := h.block k hk id
theorem Ext.cell {w w' : World} (h : Ext w w') {p : Addr} (hp : p.block < w.heap.size) : w'.cell? p = w.cell? p := World.cell?_of_block (w := w) (h.heap hp)
theorem Ext.cell_some {w w' : World} (h : Ext w w') {p : Addr} {v : Value} (hv : w.cell? p = some v) : w'.cell? p = some v :=
  (h.cell (World.block_lt_of_cell? w p hv)).trans hv

/-- Block g is just these cells of element type t. -/
def Blk (w : World) (g : Nat) (t : TypeId) (cs : Array Value) : Prop := w.heap[g]? = some (.cells cs t (0, 0))
section
variable {w w' : World} {g : Nat} {t : TypeId} {cs : Array Value}
theorem Blk.lt (h : Blk w g t cs) : g < w.heap.size := by
  rcases Nat.lt_or_ge g w.heap.size with hlt | hge
  · exact hlt
  · unfold Blk at h; rw [Array.getElem?_eq_none hge] at h; cases h
theorem Blk.cell (h : Blk w g t cs) (i : Nat) : w.cell? ⟨g, i, none⟩ = cs[i]? := cell_of_row w g i cs t (0, 0) h
theorem Blk.frozen (h : Blk w g t cs) (i : Nat) : w.frozen? ⟨g, i, none⟩ = false := by
  unfold Blk at h
  simp [World.frozen?, h]
theorem Blk.new (w : World) (t : TypeId) (cs : Array Value) : Blk (w.alloc (.cells cs t)) w.heap.size t cs := heap_alloc_new w _
theorem Blk.ext (h : Blk w g t cs) (hb : Ext w w') : Blk w' g t cs := (hb.heap h.lt).trans h
theorem Blk.frm {S : Nat → Prop} (h : Blk w g t cs) (hb : Frm S w w') (hg : ¬ S g) : Blk w' g t cs := (hb.block g h.lt hg).trans h
theorem Blk.set_ (h : Blk w g t cs) (i : Nat) (u : Value) : Blk (w.setCell ⟨g, i, none⟩ u) g t (cs.setIfInBounds i u) := by
  unfold Blk at h ⊢
  simp [World.setCell, Array.getElem?_modify, h]
end

/-- Blocks that lay ahead of a call. -/
theorem ext_blk1 {w w' : World} {cs : Array Value} {t : TypeId} (h : Ext (w.alloc (.cells cs t)) w') : Blk w' w.heap.size t cs := (Blk.new w t cs).ext h
theorem ext_blk2 {w w' : World} {cs ds : Array Value} {t u : TypeId} (h : Ext ((w.alloc (.cells cs t)).alloc (.cells ds u)) w') : Blk w' w.heap.size t cs ∧ Blk w' (w.heap.size + 1) u ds := by
  refine ⟨ext_blk1 (((Ext.refl _).alloc _).trans h), ?_⟩
  have := ext_blk1 h
  simpa using this
theorem ext_blk3 {w w' : World} {cs ds es : Array Value} {t u v : TypeId} (h : Ext (((w.alloc (.cells cs t)).alloc (.cells ds u)).alloc (.cells es v)) w') : Blk w' w.heap.size t cs ∧ Blk w' (w.heap.size + 1) u ds ∧ Blk w' (w.heap.size + 1 + 1) v es := by
  have h2 := ext_blk2 (((Ext.refl _).alloc _).trans h)
  refine ⟨h2.1, h2.2, ?_⟩
  have := ext_blk1 h
  simpa using this
theorem Blk.far {w : World} {g : Nat} {t : TypeId} {cs : Array Value} (h : Blk w g t cs) {p : Addr} (hp : g ≠ p.block) (u : Value) : Blk (w.setCell p u) g t cs := (Below.heap_setCell w p u g hp).trans h
theorem ext_box {w w' : World} {cs : Array Value} {t : TypeId} (h : Ext (w.alloc (.cells cs t)) w') : ∀ j, w'.cell? ⟨w.heap.size, j, none⟩ = cs[j]? := (ext_blk1 h).cell

/-- The slice (A, n elements of 'size' cells each) holds the cells xs, in a block from lo on and below hi. -/
def Reads (w : World) (lo hi size : Nat) (A : Option Addr) (n : Nat) (xs : List Value) : Prop :=
  xs.length = n * size ∧ n ≤ 9223372036854775807 ∧ (0 < n → ∃ ad, A = some ad ∧ lo ≤ ad.block ∧ ad.block < hi ∧ ∀ j u, xs[j]? = some u → w.cell? (ad.add j) = some u)
section
variable {w w' : World} {lo hi size n : Nat} {A : Option Addr} {xs : List Value}
theorem Reads.nil : Reads w lo hi size A 0 [] := ⟨by simp, by omega, fun h => absurd h (by omega)⟩
theorem Reads.len (h : Reads w lo hi size A n xs) : n ≤ 9223372036854775807 := h.2.1
theorem Reads.length (h : Reads w lo hi size A n xs) : xs.length = n * size := h.1
theorem Reads.at_ {k : Nat} (h : Reads w lo hi size A n xs) (hk : k < n) : ∃ ad, A = some ad ∧ lo ≤ ad.block ∧ ad.block < hi ∧ ∀ j u, xs[j]? = some u → w.cell? (ad.add j) = some u := h.2.2 (by omega)
theorem Reads.one {k : Nat} (h : Reads w lo hi 1 A n xs) (hk : k < n) : ∃ ad u, A = some ad ∧ lo ≤ ad.block ∧ ad.block < hi ∧ Hid (xs[k]? = some u) ∧ w.cell? (ad.add k) = some u := by
  obtain ⟨ad, e, hl, hb, hc⟩ := h.2.2 (by omega)
  have hx : k < xs.length := by have := h.1; omega
  exact ⟨ad, xs[k], e, hl, hb, List.getElem?_eq_getElem hx, hc k _ (List.getElem?_eq_getElem hx)⟩
theorem Reads.keep (h : Reads w lo hi size A n xs) (hk : ∀ p : Addr, lo ≤ p.block → p.block < hi → w'.cell? p = w.cell? p) : Reads w' lo hi size A n xs :=
  ⟨h.1, h.2.1, fun hn => by
    obtain ⟨ad, e, hl, hb, hc⟩ := h.2.2 hn
    exact ⟨ad, e, hl, hb, fun j u hu => (hk _ (by rw [addr_block]; exact hl) (by rw [addr_block]; exact hb)).trans (hc j u hu)⟩⟩
theorem Reads.more {lo' hi' : Nat} (h : Reads w lo hi size A n xs) (hL : lo' ≤ lo) (hH : hi ≤ hi') : Reads w lo' hi' size A n xs :=
  ⟨h.1, h.2.1, fun hn => by
    obtain ⟨ad, e, hl, hb, hc⟩ := h.2.2 hn
    exact ⟨ad, e, by omega, by omega, hc⟩⟩
theorem Reads.ext (h : Reads w lo hi size A n xs) (hb : Ext w w') : Reads w' lo hi size A n xs :=
  ⟨h.1, h.2.1, fun hn => by
    obtain ⟨ad, e, hl, hi, hc⟩ := h.2.2 hn
    exact ⟨ad, e, hl, hi, fun j u hu => hb.cell_some (hc j u hu)⟩⟩
theorem Reads.frm {S : Nat → Prop} (h : Reads w lo hi size A n xs) (hb : Frm S w w') (hS : ∀ k, lo ≤ k → k < hi → ¬ S k) : Reads w' lo hi size A n xs :=
  ⟨h.1, h.2.1, fun hn => by
    obtain ⟨ad, e, hl, hi, hc⟩ := h.2.2 hn
    refine ⟨ad, e, hl, hi, fun j u hu => ?_⟩
    have hcell := hc j u hu
    have hlt := World.block_lt_of_cell? w _ hcell
    exact (World.cell?_of_block (w := w) (hb.block _ hlt (by rw [addr_block]; exact hS _ hl hi))).trans hcell⟩
theorem Reads.of_own {base : Nat} {e : TypeId} {c : Nat} (h : w.ownsRow base e size (.slice A n c) n xs) : Reads w base w.heap.size size A n xs := by
  rcases h.2 with ⟨h', h0⟩ | ⟨g, cap, cur, hv, hb, hg, hnc, hcm, _, htake⟩
  · subst h0
    have hx : xs = [] := List.eq_nil_of_length_eq_zero (by simpa using h.1)
    subst hx
    exact Reads.nil
  · have hA : A = some ⟨g, 0, none⟩ := by injection hv
    subst hA
    exact ⟨h.1, by unfold maxLen at hcm; omega, fun _ => ⟨_, rfl, hb, (Array.getElem?_eq_some_iff.1 hg).1, h.cells (g := g) rfl⟩⟩
end

/-- 'append(s, x)' of one element: what buildSlice has laid in a block of its own comes behind what is owned. -/
theorem wpList_push {P : Program} (wb w : World) {ops : Array Oper} {rest : List Oper} {o : Oper} {a : Act} {Q : Exit → Act → World → Prop} (hgd : o.guard = none) (s x : Operand) (t : TypeId)
    (ho : o.op = .call { callee := .builtin .append, args := #[s, x], argTypes := #[t, t] })
    (e : TypeId) (z : Value) (size bytes : Nat) (ht : P.underlying t = some (.slice e)) (hi : (P.info? e).map (fun i => (i.zero, i.size, i.bytes)) = some (some z, size, bytes)) (hzs : z.cells.size = size) (hsz : 0 < size)
    (v : Value) (n : Nat) (xs : List Value) (us : Array Value) (e' : TypeId) (hs : a.eval s = v) (hx : a.eval x = .slice (some ⟨w.heap.size, 0, none⟩) 1 1)
    (hext : Ext wb w) (hown : w.ownsRow wb.heap.size e size v n xs) (hus : us.size = size) (h1 : ∀ u ∈ us.toList, u.oneCell' = true)
    (h63 : n + 1 ≤ maxLen) (hbytes : (n + 1) * bytes ≤ 140737488355328)
    (h : ∀ v' w', Ext wb w' → w'.ownsRow wb.heap.size e size v' (n + 1) (xs ++ us.toList) → w.grownBy w' v.ownBlock → (v'.ownBlock = v.ownBlock ∨ v'.ownBlock = some (w.heap.size + 1)) → wpList P ops Q rest (a.put o.dst v') w') :
    wpList P ops Q (o :: rest) a (w.alloc (.cells us e')) := by
  obtain ⟨i, hi0, hz0, hz1, hz2⟩ := info_parts hi
  refine wpList_append_own_at (w.alloc (.cells us e')) hgd s x t ho wb.heap.size e i z size bytes ht hi0 hz0 hz1 hz2 hzs hsz v n xs hs (hown.alloc _) ⟨w.heap.size, 0, none⟩ 1 1 us.toList hx (by simpa using hus) ?_ h1 h63 hbytes (by have := hext.size; simp; omega) ?_
  · intro j u hu
    rw [addr_lit, Nat.zero_add, (Blk.new w e' us).cell]
    simpa using hu
  · intro v' w' hown' hg _ hat
    have hg' : w.grownBy w' v.ownBlock := ⟨hg.os, hg.tape, hg.output, Nat.le_trans (by simp) hg.size, fun k hk hne => (hg.block k (by simp; omega) hne).trans (Below.heap_alloc w _ k hk)⟩
    exact h v' w' (hext.grown hg' (fun k hk => (hown.lt k hk).1)) hown' hg' (by simpa using hat)

/-- 'make([]T, n)'. -/
theorem wpList_make {P : Program} (wb w : World) {ops : Array Oper} {rest : List Oper} {o : Oper} {a : Act} {Q : Exit → Act → World → Prop} (hgd : o.guard = none) (l c : Operand) (t : TypeId) (ho : o.op = .makeSlice t l c)
    (e : TypeId) (z : Value) (size bytes : Nat) (ht : P.underlying t = some (.slice e)) (hi : (P.info? e).map (fun i => (i.zero, i.size, i.bytes)) = some (some z, size, bytes))
    (kl kc : IntKind) (n : Nat) (hl : a.eval l = .int kl (n : Int)) (hc : a.eval c = .int kc (n : Int)) (hext : Ext wb w) (hbytes : n * bytes ≤ 140737488355328) (h63 : n ≤ maxLen)
    (h : ∀ w', Ext wb w' → w'.ownsRow wb.heap.size e size (.slice (some ⟨w.heap.size, 0, none⟩) n n) n (madeCells z.cells (n * size)).toList → Ext w w' → w.heap.size < w'.heap.size → wpList P ops Q rest (a.put o.dst (.slice (some ⟨w.heap.size, 0, none⟩) n n)) w') :
    wpList P ops Q (o :: rest) a w := by
  obtain ⟨i, hi0, hz0, hz1, hz2⟩ := info_parts hi
  refine wpList_make_full w hgd l c t ho wb.heap.size e i z size ht hi0 hz0 hz1 kl kc n n n hl hc rfl rfl (by rw [hz2, Nat.mul_comm]; omega) h63 hext.size ?_
  intro w' hown hg
  refine h w' (hext.grown hg (by simp)) hown ((Ext.refl _).grown hg (by simp)) ?_
  rcases hown.2 with ⟨h', _⟩ | ⟨g, cap, cur, h', _, hh, _⟩
  · simp at h'
  · have : w.heap.size = g := by injection h' with h1; injection h1 with h1; injection h1
    subst this
    exact (Array.getElem?_eq_some_iff.1 hh).1

theorem own_form {w : World} {base : Nat} {e : TypeId} {size : Nat} {v : Value} {n : Nat} {xs : List Value} (h : w.ownsRow base e size v n xs) : ∃ A c, v = .slice A n c := by
  rcases h.2 with ⟨rfl, h0⟩ | ⟨g, cap, cur, rfl, _⟩
  · exact ⟨none, 0, by rw [h0]⟩
  · exact ⟨_, _, rfl⟩
theorem cells_int (n : Int) : ∀ u ∈ (#[Value.int .i64 n] : Array Value).toList, u.oneCell' = true := by simp [Value.oneCell']
theorem cells_bool (b : Bool) : ∀ u ∈ (#[Value.bool b] : Array Value).toList, u.oneCell' = true := by simp [Value.oneCell']
theorem cells_u8 (n : Int) : ∀ u ∈ (#[Value.int .u8 n] : Array Value).toList, u.oneCell' = true := by simp [Value.oneCell']
theorem cells_slice (A : Option Addr) (n c : Nat) : ∀ u ∈ (#[Value.slice A n c] : Array Value).toList, u.oneCell' = true := by simp [Value.oneCell']
/-- The cells of a list of numbers. -/
def ints (l : List Int) : List Value := l.map (Value.int .i64)
theorem ints_length (l : List Int) : (ints l).length = l.length := by simp [ints]
/-- The cells of a list of truth values. -/
def bools (l : List Bool) : List Value := l.map Value.bool
theorem bools_length (l : List Bool) : (bools l).length = l.length := by simp [bools]
theorem ints_get {l : List Int} {k : Nat} {u : Value} (h : (ints l)[k]? = some u) : ∃ n, l[k]? = some n ∧ u = .int .i64 n := by
  simp only [ints, List.getElem?_map, Option.map_eq_some_iff] at h
  obtain ⟨n, hn, rfl⟩ := h
  exact ⟨n, hn, rfl⟩
theorem bools_get {l : List Bool} {k : Nat} {u : Value} (h : (bools l)[k]? = some u) : ∃ n, l[k]? = some n ∧ u = .bool n := by
  simp only [bools, List.getElem?_map, Option.map_eq_some_iff] at h
  obtain ⟨n, hn, rfl⟩ := h
  exact ⟨n, hn, rfl⟩
theorem Reads.int {w : World} {lo hi n k : Nat} {A : Option Addr} {l : List Int} (h : Reads w lo hi 1 A n (ints l)) (hk : k < n) : ∃ ad x, A = some ad ∧ lo ≤ ad.block ∧ ad.block < hi ∧ Hid (l[k]? = some x) ∧ w.cell? (ad.add k) = some (.int .i64 x) := by
  obtain ⟨ad, u, e, hl, hb, hx, hc⟩ := h.one hk
  obtain ⟨x, hx', rfl⟩ := ints_get hx.out
  exact ⟨ad, x, e, hl, hb, hx', hc⟩
theorem Reads.bool {w : World} {lo hi n k : Nat} {A : Option Addr} {l : List Bool} (h : Reads w lo hi 1 A n (bools l)) (hk : k < n) : ∃ ad x, A = some ad ∧ lo ≤ ad.block ∧ ad.block < hi ∧ Hid (l[k]? = some x) ∧ w.cell? (ad.add k) = some (.bool x) := by
  obtain ⟨ad, u, e, hl, hb, hx, hc⟩ := h.one hk
  obtain ⟨x, hx', rfl⟩ := bools_get hx.out
  exact ⟨ad, x, e, hl, hb, hx', hc⟩

/-- These slices hold these lists of numbers. -/
def RowsAt (w : World) (lo hi : Nat) (rows : List Value) (ls : List (List Int)) : Prop :=
  rows.length = ls.length ∧ ∀ (i : Nat) (row : Value) (l : List Int), rows[i]? = some row → ls[i]? = some l → ∃ A c, row = .slice A l.length c ∧ Reads w lo hi 1 A l.length (ints l)
/-- A slice of slices of numbers. -/
def ReadsLL (w : World) (lo hi : Nat) (A : Option Addr) (n : Nat) (ls : List (List Int)) : Prop :=
  n = ls.length ∧ ∃ rows, Reads w lo hi 1 A n rows ∧ RowsAt w lo hi rows ls
section
variable {w w' : World} {lo hi n k : Nat} {A : Option Addr} {ls : List (List Int)} {rows : List Value}
theorem RowsAt.ext (h : RowsAt w lo hi rows ls) (hb : Ext w w') : RowsAt w' lo hi rows ls :=
  ⟨h.1, fun i row l hr hl => by
    obtain ⟨A, c, e, hx⟩ := h.2 i row l hr hl
    exact ⟨A, c, e, hx.ext hb⟩⟩
theorem ReadsLL.ext (h : ReadsLL w lo hi A n ls) (hb : Ext w w') : ReadsLL w' lo hi A n ls := by
  obtain ⟨e, rows, hr, hx⟩ := h
  exact ⟨e, rows, hr.ext hb, hx.ext hb⟩
theorem RowsAt.frm {S : Nat → Prop} (h : RowsAt w lo hi rows ls) (hb : Frm S w w') (hS : ∀ k, lo ≤ k → k < hi → ¬ S k) : RowsAt w' lo hi rows ls :=
  ⟨h.1, fun i row l hr hl => by
    obtain ⟨A, c, e, hx⟩ := h.2 i row l hr hl
    exact ⟨A, c, e, hx.frm hb hS⟩⟩
theorem ReadsLL.frm {S : Nat → Prop} (h : ReadsLL w lo hi A n ls) (hb : Frm S w w') (hS : ∀ k, lo ≤ k → k < hi → ¬ S k) : ReadsLL w' lo hi A n ls := by
  obtain ⟨e, rows, hr, hx⟩ := h
  exact ⟨e, rows, hr.frm hb hS, hx.frm hb hS⟩
theorem RowsAt.more {lo' hi' : Nat} (h : RowsAt w lo hi rows ls) (hL : lo' ≤ lo) (hH : hi ≤ hi') : RowsAt w lo' hi' rows ls :=
  ⟨h.1, fun i row l hr hl => by
    obtain ⟨A, c, e, hx⟩ := h.2 i row l hr hl
    exact ⟨A, c, e, hx.more hL hH⟩⟩
theorem ReadsLL.more {lo' hi' : Nat} (h : ReadsLL w lo hi A n ls) (hL : lo' ≤ lo) (hH : hi ≤ hi') : ReadsLL w lo' hi' A n ls := by
  obtain ⟨e, rows, hr, hx⟩ := h
  exact ⟨e, rows, hr.more hL hH, hx.more hL hH⟩
theorem ReadsLL.len (h : ReadsLL w lo hi A n ls) : n ≤ 9223372036854775807 := by
  obtain ⟨_, rows, hr, _⟩ := h
  exact hr.len
theorem ReadsLL.row (h : ReadsLL w lo hi A n ls) (hk : k < n) : ∃ ad Ak ck l, A = some ad ∧ lo ≤ ad.block ∧ ad.block < hi ∧ Hid (ls[k]? = some l) ∧ w.cell? (ad.add k) = some (.slice Ak l.length ck) ∧ Reads w lo hi 1 Ak l.length (ints l) := by
  obtain ⟨e, rows, hr, hx⟩ := h
  obtain ⟨ad, u, eA, hl, hb, hu, hc⟩ := hr.one hk
  have hlt : k < ls.length := by omega
  obtain ⟨Ak, ck, rfl, hrk⟩ := hx.2 k u ls[k] hu.out (List.getElem?_eq_getElem hlt)
  exact ⟨ad, Ak, ck, ls[k], eA, hl, hb, List.getElem?_eq_getElem hlt, hc, hrk⟩
end

section
variable {w w' : World} {base base' size size' n n' : Nat} {e e' : TypeId} {v v' : Value} {xs xs' : List Value}
theorem own_ext (h : w.ownsRow base e size v n xs) (hb : Ext w w') : w'.ownsRow base e size v n xs := by
  refine ⟨h.1, ?_⟩
  rcases h.2 with hn | ⟨g, cap, cur, hv, hg, hh, r⟩
  · exact .inl hn
  · exact .inr ⟨g, cap, cur, hv, hg, (hb.heap (Array.getElem?_eq_some_iff.1 hh).1).trans hh, r⟩
theorem own_frm {S : Nat → Prop} (h : w.ownsRow base e size v n xs) (hb : Frm S w w') (hS : ∀ b, v.ownBlock = some b → ¬ S b) : w'.ownsRow base e size v n xs := by
  refine ⟨h.1, ?_⟩
  rcases h.2 with hn | ⟨g, cap, cur, hv, hg, hh, r⟩
  · exact .inl hn
  · exact .inr ⟨g, cap, cur, hv, hg, (hb.block g (Array.getElem?_eq_some_iff.1 hh).1 (hS g (by rw [hv]; rfl))).trans hh, r⟩
theorem own_keep {S : Nat → Prop} (h : w.ownsRow base e size v n xs) (hb : Frm S w w') (hS : ∀ b, base ≤ b → ¬ S b) : w'.ownsRow base e size v n xs := own_frm h hb fun b hv => hS b (h.lt b hv).1
theorem own_less (h : w.ownsRow base e size v n xs) (hb : base' ≤ base) : w.ownsRow base' e size v n xs := by
  refine ⟨h.1, ?_⟩
  rcases h.2 with hn | ⟨g, cap, cur, hv, hg, r⟩
  · exact .inl hn
  · exact .inr ⟨g, cap, cur, hv, by omega, r⟩
theorem own_ne (h : w.ownsRow base e size v n xs) (h' : w.ownsRow base' e' size' v' n' xs') (hne : e ≠ e') {b : Nat} (hb : v.ownBlock = some b) : v'.ownBlock ≠ some b := by
  rcases h.2 with ⟨rfl, _⟩ | ⟨g, cap, cur, rfl, _, hh, _⟩
  · simp [Value.ownBlock] at hb
  · rcases h'.2 with ⟨rfl, _⟩ | ⟨g', cap', cur', rfl, _, hh', _⟩
    · simp [Value.ownBlock]
    · have hb1 : g = b := by simpa [Value.ownBlock] using hb
      subst hb1
      intro he
      have hg : g' = g := by simpa [Value.ownBlock] using he
      subst hg
      rw [hh] at hh'
      injection hh' with hh'
      injection hh' with _ ht
      exact hne ht
theorem own_cell {g n cap : Nat} (h : w.ownsRow base e size (.slice (some ⟨g, 0, none⟩) n cap) n xs) (j : Nat) (hj : j < n * size) : ∃ u, w.cell? ⟨g, j, none⟩ = some u := by
  have hx : j < xs.length := by rw [h.1]; exact hj
  exact ⟨xs[j], by rw [h.cellAt j hj, List.getElem?_eq_getElem hx]⟩
theorem own_len (h : w.ownsRow base e size v n xs) : xs.length = n * size := h.1
theorem own_drew (h : w.ownsRow base e size v n xs) (k : Nat) : (w.drewN k).ownsRow base e size v n xs := h
end
theorem Ext.toFrm {w w' : World} {S : Nat → Prop} (h : Ext w w') : Frm S w w' := ⟨h.os, h.tape, h.output, h.size, fun k hk _ => h.block k hk id⟩
theorem Frm.of_grown {w w' : World} {row : Option Nat} (h : w.grownBy w' row) : Frm (fun k => row = some k) w w' :=
  ⟨h.os, h.tape, h.output, h.size, fun k hk hn => h.block k hk (fun e => hn e.symm)⟩
theorem Frm.setCell (w : World) (g j : Nat) (u : Value) : Frm (fun k => k = g) w (w.setCell ⟨g, j, none⟩ u) :=
  ⟨rfl, rfl, rfl, by simp [World.setCell], fun k _ hn => Below.heap_setCell _ _ _ _ hn⟩
theorem Frm.trans {S : Nat → Prop} {a b c : World} (h : Frm S a b) (k : Frm S b c) : Frm S a c :=
  ⟨k.os.trans h.os, k.tape.trans h.tape, k.output.trans h.output, Nat.le_trans h.size k.size, fun i hi hn => (k.block i (Nat.lt_of_lt_of_le hi h.size) hn).trans (h.block i hi hn)⟩
theorem Frm.mono {S T : Nat → Prop} {a b : World} (h : Frm S a b) (hS : ∀ k, k < a.heap.size → S k → T k) : Frm T a b :=
  ⟨h.os, h.tape, h.output, h.size, fun k hk hn => h.block k hk (fun hs => hn (hS k hk hs))⟩
theorem Frm.refl (S : Nat → Prop) (w : World) : Frm S w w := ⟨rfl, rfl, rfl, Nat.le_refl _, fun _ _ _ => rfl⟩
theorem Frm.cell {S : Nat → Prop} {a w : World} (h : Frm S a w) {p : Addr} (hp : S p.block) (u : Value) : Frm S a (w.setCell p u) :=
  ⟨h.os, h.tape, h.output, by simpa [World.setCell] using h.size, fun k hk hn => (Below.heap_setCell _ _ _ _ (by rintro rfl; exact hn hp)).trans (h.block k hk hn)⟩
theorem Frm.ext {S : Nat → Prop} {a w w' : World} (h : Frm S a w) (hb : Ext w w') : Frm S a w' := h.trans hb.toFrm
theorem Frm.drewN {S : Nat → Prop} {a w : World} (h : Frm S a w) (n : Nat) : Frm S a (w.drewN n) := ⟨h.os, h.tape, h.output, h.size, h.block⟩
/-- Writes to new blocks alone. -/
theorem Ext.frm {S : Nat → Prop} {a b c : World} (h : Ext a b) (k : Frm S b c) (hS : ∀ k, k < a.heap.size → ¬ S k) : Ext a c :=
  ⟨k.os.trans h.os, k.tape.trans h.tape, k.output.trans h.output, Nat.le_trans h.size k.size, fun i hi hn => (k.block i (Nat.lt_of_lt_of_le hi h.size) (hS i hi)).trans (h.block i hi hn)⟩

theorem set_end {xs rest : List Value} {k : Nat} (u : Value) (hk : xs.length = k) (hr : 0 < rest.length) : (xs ++ rest).set k u = (xs ++ [u]) ++ rest.tail := by
  subst hk
  rw [List.set_append_right _ _ (by omega), Nat.sub_self]
  cases rest with
  | nil => simp at hr
  | cons r rs => simp
section
variable {α : Type} {l : List α} {p : α → Bool} {k : Nat} {x : α}
theorem all_stop (h : l[k]? = some x) (hp : p x = false) : l.all p = false :=
  List.all_eq_false.2 ⟨x, List.mem_of_getElem? h, by simp [hp]⟩
theorem all_step (h : l[k]? = some x) (hk : (l.take k).all p = true) (hp : p x = true) : (l.take (k + 1)).all p = true := by
  rw [List.take_add_one, h, List.all_append, hk]
  simp [hp]
theorem all_end (hk : l.length ≤ k) (h : (l.take k).all p = true) : l.all p = true := by
  rwa [List.take_of_length_le hk] at h
end
/-- A loop that fills a slice: one cell more. -/
theorem set_mix {vals rest : List Value} {k : Nat} {u : Value} (hu : vals[k]? = some u) (hr : rest.length = vals.length - k) : (vals.take k ++ rest).set k u = vals.take (k + 1) ++ rest.tail := by
  have hk : k < vals.length := by
    rcases Nat.lt_or_ge k vals.length with h | h
    · exact h
    · rw [List.getElem?_eq_none h] at hu; cases hu
  have hl : (vals.take k).length = k := by simp; omega
  rw [List.set_append_right _ _ (by omega), hl, Nat.sub_self, List.take_add_one, hu]
  cases rest with
  | nil => simp at hr; omega
  | cons r rs => simp
end Go.Proofs.Ytcmgkekaeafgaaa

namespace Go.Proofs.Ytcmgkekaeafgaaa
open Go Go.RowKit

/-- A set of small numbers: 32 bits at most. -/
def Sm (n : Nat) : Prop := n < 4294967296
theorem Sm.lt {n : Nat} (h : Sm n) : n < 4294967296 := h
theorem Sm.of_lt {n : Nat} (h : n < 4294967296) : Sm n := h
theorem Sm.or {a b : Nat} (ha : Sm a) (hb : Sm b) : Sm (a ||| b) := Nat.or_lt_two_pow (n := 32) ha hb
theorem Sm.and_left {a : Nat} (b : Nat) (ha : Sm a) : Sm (a &&& b) := Nat.lt_of_le_of_lt Nat.and_le_left ha
theorem Sm.and_right {b : Nat} (a : Nat) (hb : Sm b) : Sm (a &&& b) := Nat.lt_of_le_of_lt Nat.and_le_right hb
theorem Sm.bit {n : Nat} (h : n < 32) : Sm (2 ^ n) := Nat.pow_lt_pow_right (by omega) h

theorem i64_toNat (a : Nat) (ha : a < 9223372036854775808) : (BitVec.ofInt 64 (a : Int)).toNat = a := by
  rw [BitVec.ofInt_natCast, BitVec.toNat_ofNat]; exact Nat.mod_eq_of_lt (by omega)
theorem bits_and {a b : Nat} (ha : Sm a) (hb : Sm b) : bits .and .i64 (a : Int) (b : Int) = ((a &&& b : Nat) : Int) := by
  have hx := (Sm.and_left b ha).lt
  have := ha.lt; have := hb.lt
  show IntKind.i64.wrap ((BitVec.ofInt 64 (a : Int) &&& BitVec.ofInt 64 (b : Int)).toNat : Int) = _
  rw [BitVec.toNat_and, i64_toNat a (by omega), i64_toNat b (by omega), IntKind.wrap_i64]
  omega
theorem bits_or {a b : Nat} (ha : Sm a) (hb : Sm b) : bits .or .i64 (a : Int) (b : Int) = ((a ||| b : Nat) : Int) := by
  have hx := (Sm.or ha hb).lt
  have := ha.lt; have := hb.lt
  show IntKind.i64.wrap ((BitVec.ofInt 64 (a : Int) ||| BitVec.ofInt 64 (b : Int)).toNat : Int) = _
  rw [BitVec.toNat_or, i64_toNat a (by omega), i64_toNat b (by omega), IntKind.wrap_i64]
  omega
theorem and_one {x : Nat} (hx : Sm x) : bits .and .i64 (x : Int) 1 = ((x % 2 : Nat) : Int) := by
  have := bits_and hx (b := 1) (by unfold Sm; omega)
  rw [nat_mask1] at this
  exact this
theorem div_pow (x n : Nat) : (x : Int) / 2 ^ n = ((x / 2 ^ n : Nat) : Int) := by simp
theorem testBit_small {x n : Nat} (hx : Sm x) (hn : 32 ≤ n) : x.testBit n = false :=
  Nat.testBit_lt_two_pow (Nat.lt_of_lt_of_le hx.lt (by rw [show (4294967296 : Nat) = 2 ^ 32 from rfl]; exact Nat.pow_le_pow_right (by omega) hn))
theorem shr_and_one {x : Nat} (hx : Sm x) (n : Nat) : (bits .and .i64 ((x : Int) / 2 ^ min n 64) 1 == 1) = x.testBit n := by
  rw [div_pow, and_one (Nat.lt_of_le_of_lt (Nat.div_le_self _ _) hx)]
  by_cases hn : n ≤ 64
  · rw [Nat.min_eq_left hn, Nat.testBit_eq_decide_div_mod_eq]
    rw [Bool.eq_iff_iff]
    simp only [beq_iff_eq, decide_eq_true_eq]
    omega
  · rw [Nat.min_eq_right (by omega), testBit_small hx (by omega)]
    have : x / 2 ^ 64 = 0 := Nat.div_eq_of_lt (Nat.lt_trans hx.lt (by decide))
    rw [this]; decide

/-- 'has': a number that is not negative, and in the set. -/
def hasB (s : Nat) (n : Int) : Bool := decide (0 ≤ n) && s.testBit n.toNat

/-- The numbers of a set below 6, ascending. -/
def letters (a k : Nat) : List Nat := (List.range k).filter fun l => a.testBit l
theorem letters_zero (a : Nat) : letters a 0 = [] := rfl
theorem letters_succ (a k : Nat) : letters a (k + 1) = letters a k ++ if a.testBit k then [k] else [] := by
  unfold letters
  rw [List.range_succ, List.filter_append]
  cases h : a.testBit k <;> simp [h]
theorem letters_length (a k : Nat) : (letters a k).length ≤ k := by
  unfold letters
  have := List.length_filter_le (fun l => a.testBit l) (List.range k)
  simpa using this
/-- The cells of a list of natural numbers. -/
def nats (l : List Nat) : List Value := l.map fun n : Nat => Value.int .i64 (n : Int)
theorem nats_length (l : List Nat) : (nats l).length = l.length := by simp [nats]
theorem nats_append (l m : List Nat) : nats (l ++ m) = nats l ++ nats m := by simp [nats]
end Go.Proofs.Ytcmgkekaeafgaaa

namespace Go.Proofs.Ytcmgkekaeafgaaa
open Go Go.RowKit
set_option maxHeartbeats 400000

theorem impl_isAlphabet (a : Int) (w : World) :
    Calls Try.prog 22 #[.int .i64 a] w fun e w' => e = .returned (.bool (decide (0 ≤ a ∧ a ≤ 63))) ∧ w = w' := by
  by_cases h0 : 0 ≤ a
  · go_enter Try.func22, Try.ntmps22
    go_wp2
    go_ret
    exact ⟨by simp [h0], rfl⟩
  · go_enter Try.func22, Try.ntmps22
    go_wp2
    go_ret
    exact ⟨by simp; omega, rfl⟩

theorem spec_l1Alphabet (a : Int) (w : World) :
    Calls Try.prog 39 #[.int .i64 a] w fun e w' => e = .returned (.bool (decide (0 ≤ a ∧ a ≤ 63))) ∧ w = w' := by
  by_cases h0 : 0 ≤ a
  · go_enter Try.func39, Try.ntmps39
    go_wp2
    go_ret
    exact ⟨by simp [h0], rfl⟩
  · go_enter Try.func39, Try.ntmps39
    go_wp2
    go_ret
    exact ⟨by simp; omega, rfl⟩

theorem byte_lt (s : ByteArray) (i : Nat) (h : i < s.size) : (s[i].toNat : Int) < 256 := by
  have := s[i].toNat_lt
  omega

/-- The number of the letter at a position, or -1. -/
def ltr (b : Int) : Int := if b - 97 < 0 ∨ 6 ≤ b - 97 then -1 else b - 97
theorem ret_bool {a b : Bool} (h : a = b) : Ending.returned (.bool a) = .returned (.bool b) := by rw [h]
theorem ret_int {k : IntKind} {a b : Int} (h : a = b) : Ending.returned (.int k a) = .returned (.int k b) := by rw [h]

theorem spec_l1At (s : ByteArray) (i : Nat) (hi : i < s.size) (w : World) :
    Calls Try.prog 58 #[.string s, .int .i64 i] w fun e w' => e = .returned (.int .i64 (s[i].toNat - 97)) ∧ w = w' := by
  have hb := byte_lt s i hi
  go_enter Try.func58, Try.ntmps58
  go_wp2
  go_ret
  exact ⟨rfl, rfl⟩


theorem spec_l1Has (s n : Nat) (hs : Sm s) (w : World) (hn : n < 9223372036854775808) :
    Calls Try.prog 56 #[.int .i64 s, .int .i64 n] w fun e w' => e = .returned (.bool (s.testBit n)) ∧ w = w' := by
  have hu : IntKind.u64.wrap (n : Int) = n := by rw [IntKind.wrap_u64]; omega
  have hb := shr_and_one hs n
  have Hb := hide hb
  clear hb
  go_enter Try.func56, Try.ntmps56
  go_wp2
  go_ret
  exact ⟨by simp [Hb.out], rfl⟩

theorem impl_has (s : Nat) (n : Int) (hs : Sm s) (w : World) :
    Calls Try.prog 36 #[.int .i64 s, .int .i64 n] w fun e w' => e = .returned (.bool (hasB s n)) ∧ w = w' := by
  have hb := shr_and_one hs n.toNat
  have Hb := hide hb
  clear hb
  by_cases h0 : 0 ≤ n
  · go_enter Try.func36, Try.ntmps36
    go_wp2
    go_ret
    exact ⟨by simp [Hb.out, hasB, h0], rfl⟩
  · go_enter Try.func36, Try.ntmps36
    go_wp2
    go_ret
    exact ⟨by simp [hasB]; omega, rfl⟩

theorem info_int : (Try.prog.info? 3).map (fun i => (i.zero, i.size, i.bytes)) = some (some (.int .i64 0), 1, 8) := by kernel_rfl

/-- A slice of numbers in new memory. -/
def RetNats (w : World) (xs : List Nat) (e : Ending) (w' : World) : Prop :=
  ∃ A c, e = .returned (.slice A xs.length c) ∧ w'.ownsRow w.heap.size 3 1 (.slice A xs.length c) xs.length (nats xs) ∧ Ext w w'

theorem impl_lettersOf (a : Nat) (hs : Sm a) (w : World) :
    Calls Try.prog 23 #[.int .i64 a] w (RetNats w (letters a 6)) := by
  go_enter Try.func23, Try.ntmps23
  go_wp2
  go_loopw [3, 5] (fun v i wr => ∃ k : Nat, k ≤ 6 ∧ i = .int .i64 k ∧ wr.ownsRow w.heap.size 3 1 v (letters a k).length (nats (letters a k)) ∧ Ext w wr)
    (fun _ i _ => 6 - (intOf i).toNat)
  case atStart => exact ⟨0, Nat.zero_le _, rfl, World.ownsRow_nil _ _ _ _, Ext.refl _⟩
  case round =>
    obtain ⟨k, hk, rfl, hown, hext⟩ := hrel
    have hl := letters_length a k
    by_cases hlt : k < 6
    · cases hb : a.testBit k
      all_goals
        have Hb : hasB a k = a.testBit k := by simp [hasB]
        rw [hb] at Hb
        have hls := letters_succ a k
        rw [hb] at hls
        have Hls := hide hls
        clear hls hb
        go_wp2_with (first
          | (go_at_call 36; refine (impl_has a k hs _).mono ?_; rintro e w' ⟨rfl, rfl⟩)
          | (at_builtin; refine wpList_push w wr rfl (.tmp 11) (.tmp 13) _ rfl 3 _ 1 8 Try.underlying52 info_int rfl (by decide) u3 _ _ _ _ rfl rfl hext hown rfl (cells_int _) (by unfold maxLen; omega) (by omega) ?_; intro v' w1 hext1 hown1 hg1 hat1))
        go_roundw
        case rel => exact ⟨k + 1, by omega, by go_num, by rw [Hls.out]; first | simpa [nats] using hown1 | simpa using hown, by assumption⟩
        case measure => simp [intOf]; omega
    · obtain rfl : k = 6 := by omega
      obtain ⟨A, c, rfl⟩ := own_form hown
      go_wp2
      go_ret
      exact ⟨_, _, rfl, hown, hext⟩
end Go.Proofs.Ytcmgkekaeafgaaa

namespace Go.Proofs.Ytcmgkekaeafgaaa
open Go Go.RowKit
set_option maxHeartbeats 400000

/-- What is left of a count, or -1. -/
def leftOf (left : Int) (n : Nat) : Int := if left - n < 0 then -1 else left - n
theorem leftOf_le (left : Int) (n : Nat) (h : left ≤ 1048576) : leftOf left n ≤ 1048576 := by unfold leftOf; split <;> omega
theorem leftOf_ge (left : Int) (n : Nat) : -1 ≤ leftOf left n := by unfold leftOf; split <;> omega

theorem leftOf_two {left : Int} {m : Nat} (n : Nat) (h : 0 ≤ leftOf left m) : leftOf left (m + n) = if leftOf left m - n < 0 then -1 else leftOf left m - n := by
  unfold leftOf at *
  split at h
  · omega
  · rename_i h'; rw [if_neg h']; split <;> split <;> omega
theorem leftOf_neg {left : Int} {m : Nat} (n : Nat) (h : leftOf left m < 0) : leftOf left (m + n) = -1 := by
  unfold leftOf at *
  split at h
  · split <;> omega
  · omega

/-- All elements of a list of lists. -/
def tot (ls : List (List Int)) : Nat := (ls.map List.length).sum
theorem tot_take_succ {ls : List (List Int)} {k : Nat} {l : List Int} (h : ls[k]? = some l) : tot (ls.take (k + 1)) = tot (ls.take k) + l.length := by
  rw [List.take_add_one, h]
  simp [tot]
theorem tot_append (a b : List (List Int)) : tot (a ++ b) = tot a + tot b := by simp [tot]
theorem tot_take_le (ls : List (List Int)) (k : Nat) : tot (ls.take k) ≤ tot ls := by
  have h := tot_append (ls.take k) (ls.drop k)
  rw [List.take_append_drop] at h
  omega

end Go.Proofs.Ytcmgkekaeafgaaa

namespace Go.Proofs.Ytcmgkekaeafgaaa
open Go Go.RowKit
set_option maxHeartbeats 400000

structure Aut where
  al : Int
  next : List (List Int)
  acc : List Bool

/-- The three cells (al, Next, Accept) of an automaton. -/
def AutAt (w : World) (lo hi : Nat) (A : Option Addr) (n : Nat) (A' : Option Addr) (n' : Nat) (a : Aut) : Prop :=
  ReadsLL w lo hi A n a.next ∧ n' = a.acc.length ∧ Reads w lo hi 1 A' n' (bools a.acc)
section
variable {w w' : World} {lo hi n n' : Nat} {A A' : Option Addr} {a : Aut}
theorem AutAt.ext (h : AutAt w lo hi A n A' n' a) (hb : Ext w w') : AutAt w' lo hi A n A' n' a := ⟨h.1.ext hb, h.2.1, h.2.2.ext hb⟩
theorem AutAt.frm {S : Nat → Prop} (h : AutAt w lo hi A n A' n' a) (hb : Frm S w w') (hS : ∀ k, lo ≤ k → k < hi → ¬ S k) : AutAt w' lo hi A n A' n' a := ⟨h.1.frm hb hS, h.2.1, h.2.2.frm hb hS⟩
theorem AutAt.more {lo' hi' : Nat} (h : AutAt w lo hi A n A' n' a) (hL : lo' ≤ lo) (hH : hi ≤ hi') : AutAt w lo' hi' A n A' n' a := ⟨h.1.more hL hH, h.2.1, h.2.2.more hL hH⟩
theorem AutAt.n1 (h : AutAt w lo hi A n A' n' a) : n = a.next.length := h.1.1
theorem AutAt.n2 (h : AutAt w lo hi A n A' n' a) : n' = a.acc.length := h.2.1
end

/-- How many values an automaton holds. -/
def Aut.size (a : Aut) : Nat := a.next.length + tot a.next + a.acc.length

end Go.Proofs.Ytcmgkekaeafgaaa

namespace Go.Proofs.Ytcmgkekaeafgaaa
open Go Go.RowKit
set_option maxHeartbeats 400000

theorem info_bool : (Try.prog.info? 4).map (fun i => (i.zero, i.size, i.bytes)) = some (some (.bool false), 1, 1) := by kernel_rfl
theorem info_ints : (Try.prog.info? 52).map (fun i => (i.zero, i.size, i.bytes)) = some (some (.slice none 0 0), 1, 24) := by kernel_rfl

/-- Slices of numbers that are the call's own, no two in one block. -/
def RowsOwn (w : World) (base : Nat) (rows : List Value) (ls : List (List Int)) : Prop :=
  rows.length = ls.length ∧ (∀ (i : Nat) (row : Value) (l : List Int), rows[i]? = some row → ls[i]? = some l → w.ownsRow base 3 1 row l.length (ints l)) ∧
    ∀ (i j : Nat) (ri rj : Value) (b : Nat), rows[i]? = some ri → rows[j]? = some rj → i ≠ j → ri.ownBlock = some b → rj.ownBlock ≠ some b
theorem RowsOwn.nil (w : World) (base : Nat) : RowsOwn w base [] [] := ⟨rfl, fun i row l h => by simp at h, fun i j ri rj b h => by simp at h⟩
theorem RowsOwn.ext {w w' : World} {base : Nat} {rows : List Value} {ls : List (List Int)} (h : RowsOwn w base rows ls) (hb : Ext w w') : RowsOwn w' base rows ls :=
  ⟨h.1, fun i row l hr hl => own_ext (h.2.1 i row l hr hl) hb, h.2.2⟩
theorem RowsOwn.row {w : World} {base : Nat} {rows : List Value} {ls : List (List Int)} (h : RowsOwn w base rows ls) {i : Nat} {row : Value} (hr : rows[i]? = some row) : ∃ l, ls[i]? = some l ∧ w.ownsRow base 3 1 row l.length (ints l) := by
  have hi : i < rows.length := (List.getElem?_eq_some_iff.1 hr).1
  have hl : ls[i]? = some (ls[i]'(by rw [← h.1]; exact hi)) := List.getElem?_eq_getElem _
  exact ⟨_, hl, h.2.1 i row _ hr hl⟩
theorem RowsOwn.frm {S : Nat → Prop} {w w' : World} {base : Nat} {rows : List Value} {ls : List (List Int)} (h : RowsOwn w base rows ls) (hb : Frm S w w') (hS : ∀ (i : Nat) (row : Value) (b : Nat), rows[i]? = some row → row.ownBlock = some b → ¬ S b) : RowsOwn w' base rows ls :=
  ⟨h.1, fun i row l hr hl => own_frm (h.2.1 i row l hr hl) hb (fun b hb => hS i row b hr hb), h.2.2⟩
theorem RowsOwn.snoc {w w' : World} {base : Nat} {rows : List Value} {ls : List (List Int)} (h : RowsOwn w base rows ls) (hb : Ext w w') {row : Value} {l : List Int} (hbase : base ≤ w.heap.size) (hrow : w'.ownsRow w.heap.size 3 1 row l.length (ints l)) :
    RowsOwn w' base (rows ++ [row]) (ls ++ [l]) := by
  have hlen := h.1
  refine ⟨by simp [hlen], fun i r m hr hm => ?_, fun i j ri rj b hri hrj hij hbi => ?_⟩
  · rcases Nat.lt_trichotomy i rows.length with hi | hi | hi
    · rw [List.getElem?_append_left hi] at hr
      rw [List.getElem?_append_left (by omega)] at hm
      exact own_ext (h.2.1 i r m hr hm) hb
    · rw [List.getElem?_append_right (by omega), hi, Nat.sub_self] at hr
      rw [List.getElem?_append_right (by omega), hi, hlen, Nat.sub_self] at hm
      simp at hr hm
      subst hr; subst hm
      exact own_less hrow hbase
    · rw [List.getElem?_eq_none (by simp; omega)] at hr; cases hr
  · have old : ∀ (i : Nat) (r : Value) (b : Nat), i < rows.length → rows[i]? = some r → r.ownBlock = some b → b < w.heap.size := fun i r b hi hr hb => by
      obtain ⟨m, _, ho⟩ := h.row hr
      exact (ho.lt b hb).2
    have new : ∀ b, row.ownBlock = some b → w.heap.size ≤ b := fun b hb => (hrow.lt b hb).1
    have hi : i ≤ rows.length := by have := (List.getElem?_eq_some_iff.1 hri).1; simp at this; omega
    have hj : j ≤ rows.length := by have := (List.getElem?_eq_some_iff.1 hrj).1; simp at this; omega
    rcases Nat.lt_or_eq_of_le hi with hi | hi <;> rcases Nat.lt_or_eq_of_le hj with hj | hj
    · rw [List.getElem?_append_left hi] at hri
      rw [List.getElem?_append_left hj] at hrj
      exact h.2.2 i j ri rj b hri hrj hij hbi
    · rw [List.getElem?_append_left hi] at hri
      subst hj
      simp at hrj
      subst hrj
      intro hc
      have h1 := old i ri b hi hri hbi
      have h2 := new b hc
      omega
    · rw [List.getElem?_append_left hj] at hrj
      subst hi
      simp at hri
      subst hri
      intro hc
      have h1 := old j rj b hj hrj hc
      have h2 := new b hbi
      omega
    · omega
/-- A slice of slices of numbers that is the call's own. -/
def OwnLL (w : World) (base : Nat) (v : Value) (ls : List (List Int)) : Prop := ∃ rows, w.ownsRow base 52 1 v ls.length rows ∧ RowsOwn w base rows ls
theorem OwnLL.ext {w w' : World} {base : Nat} {v : Value} {ls : List (List Int)} (h : OwnLL w base v ls) (hb : Ext w w') : OwnLL w' base v ls := by
  obtain ⟨rows, h1, h2⟩ := h
  exact ⟨rows, own_ext h1 hb, h2.ext hb⟩
theorem RowsOwn.keep {S : Nat → Prop} {w w' : World} {base : Nat} {rows : List Value} {ls : List (List Int)} (h : RowsOwn w base rows ls) (hb : Frm S w w') (hS : ∀ b, base ≤ b → ¬ S b) : RowsOwn w' base rows ls :=
  ⟨h.1, fun i row l hr hl => own_keep (h.2.1 i row l hr hl) hb hS, h.2.2⟩
theorem RowsOwn.less {w : World} {base base' : Nat} {rows : List Value} {ls : List (List Int)} (h : RowsOwn w base rows ls) (hb : base' ≤ base) : RowsOwn w base' rows ls :=
  ⟨h.1, fun i row l hr hl => own_less (h.2.1 i row l hr hl) hb, h.2.2⟩
theorem OwnLL.keep {S : Nat → Prop} {w w' : World} {base : Nat} {v : Value} {ls : List (List Int)} (h : OwnLL w base v ls) (hb : Frm S w w') (hS : ∀ b, base ≤ b → ¬ S b) : OwnLL w' base v ls := by
  obtain ⟨rows, h1, h2⟩ := h
  exact ⟨rows, own_keep h1 hb hS, h2.keep hb hS⟩
theorem OwnLL.less {w : World} {base base' : Nat} {v : Value} {ls : List (List Int)} (h : OwnLL w base v ls) (hb : base' ≤ base) : OwnLL w base' v ls := by
  obtain ⟨rows, h1, h2⟩ := h
  exact ⟨rows, own_less h1 hb, h2.less hb⟩
theorem OwnLL.reads {w : World} {base : Nat} {A : Option Addr} {n c : Nat} {ls : List (List Int)} (h : OwnLL w base (.slice A n c) ls) (hn : n = ls.length) : ReadsLL w base w.heap.size A n ls := by
  obtain ⟨rows, h1, h2⟩ := h
  subst hn
  refine ⟨rfl, rows, Reads.of_own h1, h2.1, fun i row l hr hl => ?_⟩
  have ho := h2.2.1 i row l hr hl
  obtain ⟨A', c', rfl⟩ := own_form ho
  exact ⟨A', c', rfl, Reads.of_own ho⟩

theorem rows_store {w : World} {base g n cap k : Nat} {rows rest : List Value} {row : Value} {ls : List (List Int)} (hown : w.ownsRow base 52 1 (.slice (some ⟨g, 0, none⟩) n cap) n (rows ++ rest)) (hk : rows.length = k) (hr : 0 < rest.length)
    (hrows : RowsOwn w base (rows ++ [row]) ls) :
    (w.setCell ⟨g, k, none⟩ row).ownsRow base 52 1 (.slice (some ⟨g, 0, none⟩) n cap) n ((rows ++ [row]) ++ rest.tail) ∧ RowsOwn (w.setCell ⟨g, k, none⟩ row) base (rows ++ [row]) ls := by
  refine ⟨?_, hrows.frm (Frm.setCell w g k row) fun i r b hr hb => ?_⟩
  · have h := (hown.stored k row).1
    rw [set_end row hk hr] at h
    exact h
  · rintro rfl
    obtain ⟨l, _, ho⟩ := hrows.row hr
    exact own_ne ho hown (by decide) hb rfl

/-- An automaton in new memory. -/
def AutOwn (w : World) (base : Nat) (A : Option Addr) (n c : Nat) (A' : Option Addr) (n' c' : Nat) (a : Aut) : Prop :=
  OwnLL w base (.slice A n c) a.next ∧ n = a.next.length ∧ w.ownsRow base 4 1 (.slice A' n' c') n' (bools a.acc) ∧ n' = a.acc.length
theorem AutOwn.ext {w w' : World} {base : Nat} {A : Option Addr} {n c : Nat} {A' : Option Addr} {n' c' : Nat} {a : Aut} (h : AutOwn w base A n c A' n' c' a) (hb : Ext w w') : AutOwn w' base A n c A' n' c' a :=
  ⟨h.1.ext hb, h.2.1, own_ext h.2.2.1 hb, h.2.2.2⟩
theorem AutOwn.keep {S : Nat → Prop} {w w' : World} {base : Nat} {A : Option Addr} {n c : Nat} {A' : Option Addr} {n' c' : Nat} {a : Aut} (h : AutOwn w base A n c A' n' c' a) (hb : Frm S w w') (hS : ∀ b, base ≤ b → ¬ S b) : AutOwn w' base A n c A' n' c' a :=
  ⟨h.1.keep hb hS, h.2.1, own_keep h.2.2.1 hb hS, h.2.2.2⟩
theorem AutOwn.less {w : World} {base base' : Nat} {A : Option Addr} {n c : Nat} {A' : Option Addr} {n' c' : Nat} {a : Aut} (h : AutOwn w base A n c A' n' c' a) (hb : base' ≤ base) : AutOwn w base' A n c A' n' c' a :=
  ⟨h.1.less hb, h.2.1, own_less h.2.2.1 hb, h.2.2.2⟩
theorem AutOwn.reads {w : World} {base : Nat} {A : Option Addr} {n c : Nat} {A' : Option Addr} {n' c' : Nat} {a : Aut} (h : AutOwn w base A n c A' n' c' a) : AutAt w base w.heap.size A n A' n' a :=
  ⟨h.1.reads h.2.1, h.2.2.2, Reads.of_own h.2.2.1⟩
def RetAut (w : World) (a : Aut) (e : Ending) (w' : World) : Prop :=
  ∃ A n c A' n' c', e = .returned (.agg #[.int .i64 a.al, .slice A n c, .slice A' n' c']) ∧ AutOwn w' w.heap.size A n c A' n' c' a ∧ Ext w w'

end Go.Proofs.Ytcmgkekaeafgaaa

namespace Go.Proofs.Ytcmgkekaeafgaaa
open Go Go.RowKit Go.ChangeShapes Go.WideShapes Go.Deep

theorem map_choose {α : Type} (f : α → Value) (V : Nat → Value) : ∀ len : Nat, (∀ r, r < len → ∃ n, V r = f n) → ∃ l : List α, l.length = len ∧ (List.range len).map V = l.map f
  | 0, _ => ⟨[], rfl, rfl⟩
  | len + 1, h => by
    obtain ⟨l, hl, he⟩ := map_choose f V len fun r hr => h r (by omega)
    obtain ⟨n, hn⟩ := h len (by omega)
    exact ⟨l ++ [n], by simp [hl], by rw [List.range_succ, List.map_append, he]; simp [hn]⟩

section
variable {H : Type} {enc : TypeId × Value → H} {P : Program} {w : World} {spare : Nat → Bool} {held : Bool}

theorem open_one {t e : TypeId} {fuel : Nat} {cs : List Value} {x : DataW H × List MemPlace} (ht : P.underlying t = some (.slice e)) (hc : P.cellsOf e = 1) (h : DataW.trod enc P w 0 spare held fuel t cs = some x) :
    ∃ (A : Option Addr) (n c : Nat) (V : Nat → Value) (k : Nat), cs = [.slice A n c] ∧ Reads w 0 w.heap.size 1 A n ((List.range n).map V) ∧ ∀ i, i < n → ∃ y, DataW.trod enc P w 0 spare held k e [V i] = some y := by
  rcases open_slice1 ht hc h with ⟨rfl, _⟩ | ⟨a, len, cap, m, n, V, D, Pl, rfl, hb, hl, hm, hmm, _, hx⟩
  · exact ⟨none, 0, 0, fun _ => undef, 0, rfl, Reads.nil, fun i hi => by omega⟩
  · have hlm : len ≤ m := by rw [hmm]; split <;> omega
    refine ⟨some a, len, cap, V, n, rfl, ⟨by simp, by unfold maxLen at hm; omega, fun h0 => ?_⟩, fun i hi => ⟨_, (hx i (by omega)).2⟩⟩
    have hblk : a.block < w.heap.size := by
      have := World.block_lt_of_cell? w _ (hx 0 (by omega)).1
      rwa [addr_block] at this
    refine ⟨a, rfl, Nat.zero_le _, hblk, fun j u hu => ?_⟩
    have hj : j < len := by
      have := (List.getElem?_eq_some_iff.1 hu).1
      simpa using this
    rw [(hx j (by omega)).1]
    simpa [hj] using hu

theorem open_ints_ {t e : TypeId} {fuel : Nat} {cs : List Value} {x : DataW H × List MemPlace} (ht : P.underlying t = some (.slice e)) (he : P.underlying e = some (.int .i64)) (hc : P.cellsOf e = 1) (h : DataW.trod enc P w 0 spare held fuel t cs = some x) :
    ∃ (A : Option Addr) (c : Nat) (l : List Int), cs = [.slice A l.length c] ∧ Reads w 0 w.heap.size 1 A l.length (ints l) := by
  obtain ⟨A, n, c, V, k, rfl, hr, hV⟩ := open_one ht hc h
  obtain ⟨l, hl, hm⟩ := map_choose (Value.int .i64) V n fun r hr => by
    obtain ⟨y, hy⟩ := hV r hr
    obtain ⟨m, hm, _⟩ := DataW.trod_int he hy
    exact ⟨m, by simpa using hm⟩
  subst hl
  rw [hm] at hr
  exact ⟨A, c, l, rfl, hr⟩

theorem open_bools_ {t e : TypeId} {fuel : Nat} {cs : List Value} {x : DataW H × List MemPlace} (ht : P.underlying t = some (.slice e)) (he : P.underlying e = some .bool) (hc : P.cellsOf e = 1) (h : DataW.trod enc P w 0 spare held fuel t cs = some x) :
    ∃ (A : Option Addr) (c : Nat) (l : List Bool), cs = [.slice A l.length c] ∧ Reads w 0 w.heap.size 1 A l.length (bools l) := by
  obtain ⟨A, n, c, V, k, rfl, hr, hV⟩ := open_one ht hc h
  obtain ⟨l, hl, hm⟩ := map_choose Value.bool V n fun r hr => by
    obtain ⟨y, hy⟩ := hV r hr
    obtain ⟨m, hm, _⟩ := DataW.trod_bool he hy
    exact ⟨m, by simpa using hm⟩
  subst hl
  rw [hm] at hr
  exact ⟨A, c, l, rfl, hr⟩

theorem rows_choose {w : World} (V : Nat → Value) : ∀ n : Nat, (∀ i, i < n → ∃ (A : Option Addr) (c : Nat) (l : List Int), V i = .slice A l.length c ∧ Reads w 0 w.heap.size 1 A l.length (ints l)) → ∃ ls : List (List Int), ls.length = n ∧ RowsAt w 0 w.heap.size ((List.range n).map V) ls
  | 0, _ => ⟨[], rfl, rfl, fun i row l h => by simp at h⟩
  | n + 1, h => by
    obtain ⟨ls, hl, hr⟩ := rows_choose V n fun i hi => h i (by omega)
    obtain ⟨A, c, l, hv, hx⟩ := h n (by omega)
    refine ⟨ls ++ [l], by simp [hl], by simp [hl], fun i row m hrow hm => ?_⟩
    have hi : i < n + 1 := by
      have := (List.getElem?_eq_some_iff.1 hrow).1
      simpa using this
    rcases Nat.lt_or_eq_of_le (Nat.le_of_lt_succ hi) with h1 | h1
    · refine hr.2 i row m ?_ ?_
      · simp only [List.getElem?_map] at hrow ⊢
        rw [List.getElem?_range (by omega)] at hrow
        rw [List.getElem?_range h1]
        exact hrow
      · rwa [List.getElem?_append_left (by omega)] at hm
    · subst h1
      simp at hrow
      rw [List.getElem?_append_right (by omega), hl, Nat.sub_self] at hm
      simp at hm
      subst hm; subst hrow
      exact ⟨A, c, hv, hx⟩

theorem open_intss_ {t e q : TypeId} {fuel : Nat} {cs : List Value} {x : DataW H × List MemPlace} (ht : P.underlying t = some (.slice e)) (he : P.underlying e = some (.slice q)) (hq : P.underlying q = some (.int .i64)) (hc : P.cellsOf e = 1) (hcq : P.cellsOf q = 1)
    (h : DataW.trod enc P w 0 spare held fuel t cs = some x) :
    ∃ (A : Option Addr) (n c : Nat) (ls : List (List Int)), cs = [.slice A n c] ∧ ReadsLL w 0 w.heap.size A n ls := by
  obtain ⟨A, n, c, V, k, rfl, hr, hV⟩ := open_one ht hc h
  obtain ⟨ls, hl, hm⟩ := rows_choose (w := w) V n fun i hi => by
    obtain ⟨y, hy⟩ := hV i hi
    obtain ⟨A, c, l, hl, hr⟩ := open_ints_ he hq hcq hy
    exact ⟨A, c, l, by simpa using hl, hr⟩
  exact ⟨A, n, c, ls, rfl, hl.symm, _, hr, hm⟩

/-- An automaton that came in, as the cells of a struct. -/
theorem open_aut {t e q b : TypeId} {f0 f1 f2 : Field} {fuel : Nat} {cs : List Value} {x : DataW H × List MemPlace} (ht : P.underlying t = some (.struct #[f0, f1, f2])) (hC : P.cellsOf t = 3)
    (o0 : f0.offset = 0) (o1 : f1.offset = 1) (o2 : f2.offset = 2) (c0 : P.cellsOf f0.type = 1) (c1 : P.cellsOf f1.type = 1) (c2 : P.cellsOf f2.type = 1)
    (u0 : P.underlying f0.type = some (.int .i64)) (u1 : P.underlying f1.type = some (.slice e)) (ue : P.underlying e = some (.slice q)) (uq : P.underlying q = some (.int .i64)) (ce : P.cellsOf e = 1) (cq : P.cellsOf q = 1)
    (u2 : P.underlying f2.type = some (.slice b)) (ub : P.underlying b = some .bool) (cb : P.cellsOf b = 1)
    (h : DataW.trod enc P w 0 spare held fuel t cs = some x) :
    ∃ (a : Aut) (A : Option Addr) (n c : Nat) (A' : Option Addr) (n' c' : Nat), cs = [.int .i64 a.al, .slice A n c, .slice A' n' c'] ∧ AutAt w 0 w.heap.size A n A' n' a := by
  obtain ⟨y0, y1, y2, k, _, hl, h0, h1, h2⟩ := trod_struct3 ht h
  rw [hC] at hl
  match cs, hl with
  | [v0, v1, v2], _ =>
    rw [o0, c0] at h0
    rw [o1, c1] at h1
    rw [o2, c2] at h2
    obtain ⟨al, e0, _⟩ := DataW.trod_int u0 h0
    obtain ⟨A, n, c, ls, e1, hr1⟩ := open_intss_ u1 ue uq ce cq h1
    obtain ⟨A', c', l, e2, hr2⟩ := open_bools_ u2 ub cb h2
    simp at e0 e1 e2
    subst e0; subst e1; subst e2
    exact ⟨⟨al, ls, l⟩, A, n, c, A', _, c', rfl, hr1, rfl, hr2⟩
theorem array5 {α : Type} {cs : Array α} (h : cs.size = 5) : ∃ c0 c1 c2 c3 c4, cs = #[c0, c1, c2, c3, c4] := by
  obtain ⟨l⟩ := cs
  match l, h with
  | [c0, c1, c2, c3, c4], _ => exact ⟨c0, c1, c2, c3, c4, rfl⟩
end
end Go.Proofs.Ytcmgkekaeafgaaa

namespace Go.Proofs.Ytcmgkekaeafgaaa
open Go Go.RowKit

/-- Operations that only read. -/
def quietOp : Op → Bool
  | .move _ | .assign _ | .pick _ _ _ | .binOp _ _ _ _ _ | .unOp _ _ _ | .load _ _ | .fieldAddr _ _ _ | .field _ _ _ | .indexAddr _ _ _ | .index _ _ _ | .extract _ _ | .build _ _ | .slice _ _ _ _ _ | .convert _ _ _ => true
  | .call { callee := .builtin .len, .. } => true
  | .call { callee := .builtin .cap, .. } => true
  | _ => false

/-- The order o of the region l is one that serves: each comes up when it may; what reads is apart from what is still to come; what does not comes up alone. -/
def okOrd (l : List Oper) : List Nat → Array Bool → Bool
  | [], listed => (Region.ready .any l.toArray listed).isEmpty
  | i :: rest, listed =>
    (match l[i]? with
      | some o => if quietOp o.op then Region.free .any l.toArray listed i && (Region.ready .any l.toArray listed).contains i else Region.ready .any l.toArray listed == [i]
      | none => false) && okOrd l rest (listed.setIfInBounds i true)

def wpSeq (P : Program) (l : List Oper) (Q : Exit → Act → World → Prop) (S : World → Prop) : List Nat → Act → World → Prop
  | [], a, w => Q .normal a w
  | i :: rest, a, w => match l[i]? with
    | some o => if quietOp o.op then ∃ v, YieldsIf P l.toArray S o v a ∧ S w ∧ wpSeq P l Q S rest (a.put o.dst v) w
      else wpOp P l.toArray Q i (fun a' w' => S w' ∧ wpSeq P l Q S rest a' w') a w
    | none => False

section
variable {P : Program} {l : List Oper} {Q : Exit → Act → World → Prop} {S : World → Prop}

theorem seq_sound (hs : Region.noSelect l.toArray = true) (hQ : ∀ (c : List PanicEntry) (a : Act) (d : Tmp) (v : Value) (w : World), Q (.panic c) (a.put (some d) v) w → Q (.panic c) a w) :
    ∀ (ord : List Nat) (listed : Array Bool) (a : Act) (w : World), okOrd l ord listed = true → wpSeq P l Q S ord a w → wpAnyH P .any l.toArray Q S ord.length listed a w
  | [], listed, a, w, hok, h => by
    simp only [okOrd, List.isEmpty_iff] at hok
    exact wpAnyH_done hok h 0
  | i :: rest, listed, a, w, hok, h => by
    cases ho : l[i]? with
    | none => simp [okOrd, ho] at hok
    | some o =>
      simp only [okOrd, ho, Bool.and_eq_true] at hok
      simp only [wpSeq, ho] at h
      by_cases hq : quietOp o.op = true
      · rw [if_pos hq] at hok h
        simp only [Bool.and_eq_true] at hok
        obtain ⟨v, hy, hS, hr⟩ := h
        exact wpAnyH_take (by simpa using ho) hs hok.1.1 hok.1.2 (fun c a w h => by cases hd : o.dst with | none => rw [hd] at h; exact h | some d => rw [hd] at h; exact hQ c a d v w h) hy hS (seq_sound hs hQ rest _ _ _ hok.2 hr)
      · rw [if_neg hq] at hok h
        refine wpAnyH_all (rs := [i]) (by simpa using hok.1) (by simp) fun j hj => ?_
        rw [List.mem_singleton.1 hj]
        exact wpOp_mono (fun a' w' h => ⟨h.1, seq_sound hs hQ rest _ _ _ hok.2 h.2⟩) h

theorem wp_region_ord {id : Nat} {a : Act} {w : World} (S : World → Prop) (ord : List Nat) (hm : P.follows .mixedOrders = true) (hlen : ord.length = l.length) (hs : Region.noSelect l.toArray = true) (hok : okOrd l ord (Array.replicate l.length false) = true)
    (hQ : ∀ (c : List PanicEntry) (a : Act) (d : Tmp) (v : Value) (w : World), Q (.panic c) (a.put (some d) v) w → Q (.panic c) a w) (hS : S w.drew) (h : S w.drew → wpSeq P l Q S ord a w.drew) : (Code.region id l.toArray true).wp P Q a w := by
  refine wp_region_held (S := S) hm ?_
  have := seq_sound hs hQ ord _ a w.drew hok (h hS)
  rw [hlen] at this
  simpa using this

theorem seq_nil {a : Act} {w : World} (h : Q .normal a w) : wpSeq P l Q S [] a w := h
/-- A step that reads. -/
theorem seq_read {i : Nat} {rest : List Nat} {o : Oper} {v : Value} {a : Act} {w : World} (ho : l[i]? = some o) (hq : quietOp o.op = true) (hw : Region.wanted o (yielded l.toArray a.tmps) = true)
    (hy : ∀ W, S W → (execOp a.eval o).run P W = .ok (.value v) W) (hS : S w) (h : wpSeq P l Q S rest (a.put o.dst v) w) : wpSeq P l Q S (i :: rest) a w := by
  simp only [wpSeq, ho, hq, if_true]
  exact ⟨v, .inl ⟨hw, hy⟩, hS, h⟩
/-- A step whose guard is off. -/
theorem seq_skip {i : Nat} {rest : List Nat} {o : Oper} {a : Act} {w : World} (ho : l[i]? = some o) (hw : Region.wanted o (yielded l.toArray a.tmps) = false)
    (hS : S w) (h : wpSeq P l Q S rest (a.put o.dst undef) w) : wpSeq P l Q S (i :: rest) a w := by
  simp only [wpSeq, ho]
  split
  · exact ⟨undef, .inr ⟨hw, rfl⟩, hS, h⟩
  · unfold wpOp
    simp only [List.getElem?_toArray, ho, hw, Bool.false_eq_true, if_false]
    exact ⟨hS, h⟩
/-- A step that makes memory, or calls. -/
theorem seq_step {i : Nat} {rest : List Nat} {o : Oper} {a : Act} {w : World} (ho : l[i]? = some o) (hq : quietOp o.op = false) (hw : Region.wanted o (yielded l.toArray a.tmps) = true)
    (h : ∀ K : Act → World → Prop, Shut (∀ a w, S w → (S w → wpSeq P l Q S rest a w) → K a w) → o.wp P a w K Q) : wpSeq P l Q S (i :: rest) a w := by
  simp only [wpSeq, ho, hq]
  unfold wpOp
  simp only [List.getElem?_toArray, ho, hw, if_true]
  exact .inl (h _ fun a w hS hW => ⟨hS, hW hS⟩)
end
end Go.Proofs.Ytcmgkekaeafgaaa
