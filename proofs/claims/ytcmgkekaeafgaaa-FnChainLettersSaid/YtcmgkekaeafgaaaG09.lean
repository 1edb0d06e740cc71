/- The reference's random source: what it draws lies between its bounds, and it turns nothing but its own place. | The reference's random source: numbers and strings out of lists; a source over some bytes. | Texts of the reference, by their shape alone: letters, alphabets, numbers. | spec.l19Num, by its shape alone, walked. | spec.l19Cut and spec.l2Parse, by their shape alone, walked. | spec.FormatSystem, by its shape alone, walked. | Systems that are drawn: what a growing list of edges behind a variable means; spec.l2Random. | spec.l2Random, walked. -/
import Derived.Test.YtcmgkekaeafgaaaG01
import Derived.Test.YtcmgkekaeafgaaaG02
import Derived.IntWalk
import Derived.Test.YtcmgkekaeafgaaaG03
import Derived.Laws.BytesArg
import Derived.Test.YtcmgkekaeafgaaaG08
namespace Go.Proofs.Ytcmgkekaeafgaaa
open Go Go.RowKit
set_option maxHeartbeats 1000000

/-- Block R is a source over these few bytes, whose place is at most M. -/
def Rd (w : World) (R M : Nat) : Prop :=
  ∃ (A : Option Addr) (n c p : Nat), p ≤ M ∧ n ≤ 2000 ∧ Blk w R 48 #[.slice A n c, .int .i64 p] ∧ (0 < n → ∃ g o, A = some ⟨g, o, none⟩ ∧ g < R ∧ ∀ j, j < n → ∃ b : Nat, b < 256 ∧ w.cell? ⟨g, o + j, none⟩ = some (.int .u8 b))
/-- Nothing old has turned but the source R. -/
def Dr (R : Nat) (w w' : World) : Prop := Frm (fun k => k = R) w w'
theorem Dr.refl (R : Nat) (w : World) : Dr R w w := Frm.refl _ _
theorem Dr.trans {R : Nat} {a b c : World} (h : Dr R a b) (k : Dr R b c) : Dr R a c := Frm.trans h k
theorem Dr.ext {R : Nat} {a b c : World} (h : Dr R a b) (k : Ext b c) : Dr R a c := Frm.ext h k
theorem Ext.dr {R : Nat} {a b : World} (h : Ext a b) : Dr R a b := h.toFrm
theorem Dr.drew {R : Nat} {a w : World} (h : Dr R a w) : Dr R a w.drew := ⟨h.os, h.tape, h.output, h.size, h.block⟩
theorem Dr.drewN {R : Nat} {a w : World} (h : Dr R a w) (n : Nat) : Dr R a (w.drewN n) := ⟨h.os, h.tape, h.output, h.size, h.block⟩
theorem Dr.alloc {R : Nat} {a w : World} (h : Dr R a w) (o : Obj) : Dr R a (w.alloc o) := h.ext ((Ext.refl _).alloc _)
theorem Dr.setNew {R : Nat} {a w : World} (h : Dr R a w) {p : Addr} (hp : a.heap.size ≤ p.block) (u : Value) : Dr R a (w.setCell p u) :=
  ⟨h.os, h.tape, h.output, by simpa [World.setCell] using h.size, fun k hk hn => (Below.heap_setCell _ _ _ _ (by omega)).trans (h.block k hk hn)⟩
theorem Dr.grown {R : Nat} {a w w' : World} {row : Option Nat} (h : Dr R a w) (hg : w.grownBy w' row) (hr : ∀ k, row = some k → a.heap.size ≤ k) : Dr R a w' :=
  ⟨hg.os.trans h.os, hg.tape.trans h.tape, hg.output.trans h.output, Nat.le_trans h.size hg.size,
    fun k hk hn => (hg.block k (Nat.lt_of_lt_of_le hk h.size) (fun e => by have := hr k e.symm; omega)).trans (h.block k hk hn)⟩
theorem Blk.dr {w w' : World} {R g : Nat} {t : TypeId} {cs : Array Value} (h : Blk w g t cs) (hb : Dr R w w') (hg : g ≠ R) : Blk w' g t cs := h.frm hb hg
theorem Dr.cell_some {R : Nat} {w w' : World} (h : Dr R w w') {p : Addr} {v : Value} (hv : w.cell? p = some v) (hp : p.block ≠ R) : w'.cell? p = some v :=
  (World.cell?_of_block (w := w) (h.block _ (World.block_lt_of_cell? w p hv) hp)).trans hv
theorem Rd.ext {w w' : World} {R M : Nat} (h : Rd w R M) (hb : Ext w w') : Rd w' R M := by
  obtain ⟨A, n, c, p, hp, hn, hB, hx⟩ := h
  refine ⟨A, n, c, p, hp, hn, hB.ext hb, fun h0 => ?_⟩
  obtain ⟨g, o, e, hg, hc⟩ := hx h0
  exact ⟨g, o, e, hg, fun j hj => by obtain ⟨b, hb1, hb2⟩ := hc j hj; exact ⟨b, hb1, hb.cell_some hb2⟩⟩
theorem Rd.more {w : World} {R M N : Nat} (h : Rd w R M) (hM : M ≤ N) : Rd w R N := by
  obtain ⟨A, n, c, p, hp, r⟩ := h
  exact ⟨A, n, c, p, Nat.le_trans hp hM, r⟩
theorem Rd.lt {w : World} {R M : Nat} (h : Rd w R M) : R < w.heap.size := by
  obtain ⟨A, n, c, p, _, _, hB, _⟩ := h
  exact hB.lt
/-- Writes elsewhere leave the source as it is. -/
theorem Rd.frm {S : Nat → Prop} {w w' : World} {R M : Nat} (h : Rd w R M) (hb : Frm S w w') (hS : ∀ k, k ≤ R → ¬ S k) : Rd w' R M := by
  obtain ⟨A, n, c, p, hp, hn, hB, hx⟩ := h
  refine ⟨A, n, c, p, hp, hn, hB.frm hb (hS R (Nat.le_refl _)), fun h0 => ?_⟩
  obtain ⟨g, o, e, hg, hc⟩ := hx h0
  exact ⟨g, o, e, hg, fun j hj => by
    obtain ⟨b, hb1, hb2⟩ := hc j hj
    exact ⟨b, hb1, (World.cell?_of_block (w := w) (hb.block g (World.block_lt_of_cell? w _ hb2) (hS g (by omega)))).trans hb2⟩⟩

/-- A number below n, or 0. -/
def RetPick (R M : Nat) (n : Int) (w : World) (e : Ending) (w' : World) : Prop := ∃ k : Nat, e = .returned (.int .i64 k) ∧ (1 ≤ n → (k : Int) < n) ∧ (n < 1 → k = 0) ∧ Rd w' R (M + 1) ∧ Dr R w w'

theorem bits_xor_nat {a b : Nat} (ha : a < 4611686018427387904) (hb : b < 4611686018427387904) : bits .xor .i64 (a : Int) (b : Int) = ((a ^^^ b : Nat) : Int) := by
  have hx : a ^^^ b < 2 ^ 62 := Nat.xor_lt_two_pow (by simpa using ha) (by simpa using hb)
  show IntKind.i64.wrap ((BitVec.ofInt 64 (a : Int) ^^^ BitVec.ofInt 64 (b : Int)).toNat : Int) = _
  rw [BitVec.toNat_xor, i64_toNat a (by omega), i64_toNat b (by omega), IntKind.wrap_i64]
  omega

theorem l19Rd_pick {R M : Nat} {n : Int} {w : World} (h : Rd w R M) (hM : M ≤ 1000000000) :
    Calls Try.prog 15 #[.pointer (some ⟨R, 0, none⟩), .int .i64 n] w (RetPick R M n w) := by
  obtain ⟨A, m, c, p, hp, hm, hB, hx⟩ := h
  have c0 := hB.cell 0
  have c1 := hB.cell 1
  have f1 := hB.frozen 1
  have hB1 := hB.set_ 1 (.int .i64 ((p : Int) + 1))
  have hfr := Frm.setCell w R 1 (.int .i64 ((p : Int) + 1))
  have hpb : (p : Int) ≤ 1000000000 := by omega
  have hRd : Hid (Rd (w.setCell ⟨R, 1, none⟩ (.int .i64 ((p : Int) + 1))) R (M + 1)) := by
    refine hide ⟨A, m, c, p + 1, by omega, hm, by simpa using hB1, fun h0 => ?_⟩
    obtain ⟨g, o, e, hg, hc⟩ := hx h0
    exact ⟨g, o, e, hg, fun j hj => by
      obtain ⟨b, hb1, hb2⟩ := hc j hj
      exact ⟨b, hb1, (World.cell?_of_block (w := w) (hfr.block g (World.block_lt_of_cell? w _ hb2) (by show ¬ g = R; omega))).trans hb2⟩⟩
  simp only [List.getElem?_toArray, List.getElem?_cons_zero, List.getElem?_cons_succ] at c0 c1
  by_cases hn : n < 1
  · go_enter Try.func15, Try.ntmps15
    go_wp2
    go_ret
    exact ⟨0, rfl, fun h => by omega, fun _ => rfl, hRd.out, hfr⟩
  · by_cases h0 : m = 0
    · subst h0
      go_enter Try.func15, Try.ntmps15
      go_wp2
      go_ret
      exact ⟨0, rfl, fun h => by omega, fun _ => rfl, hRd.out, hfr⟩
    · obtain ⟨k, rfl⟩ : ∃ k : Nat, n = k := ⟨n.toNat, by omega⟩
      have hk1 : (1 : Int) ≤ (k : Int) := by omega
      obtain ⟨g, o, rfl, hg, hc⟩ := hx (by omega)
      have hgR : ¬ g = R := by omega
      have hm0 : (0 : Int) < (m : Int) := by omega
      have hm2 : (m : Int) ≤ 2000 := by omega
      have he0 : ((m : Int) == 0) = false := by simp; omega
      have Hc := hide hc
      clear hc hx
      by_cases hpm : p < m
      · obtain ⟨b, hb, hcb⟩ := Hc.out p hpm
        have hb0 : (b : Int) < 256 := by omega
        have hpm' : (p : Int) < (m : Int) := by omega
        have hmod := hide (Int.natCast_emod b k)
        go_enter Try.func15, Try.ntmps15
        go_wp2
        go_ret
        exact ⟨b % k, ret_int hmod.out.symm, fun _ => by rw [hmod.out]; exact Int.emod_lt_of_pos _ (by omega), fun h => by omega, hRd.out, hfr⟩
      · have hq1 : p % m < m := Nat.mod_lt _ (by omega)
        have hq2 : (p * 7 + 3) % m < m := Nat.mod_lt _ (by omega)
        have hq3 : p / m ≤ p := Nat.div_le_self _ _
        obtain ⟨b1, hb1, hc1⟩ := Hc.out _ hq1
        obtain ⟨b2, hb2, hc2⟩ := Hc.out _ hq2
        have t1 : (p : Int).tmod (m : Int) = ((p % m : Nat) : Int) := by rw [Int.tmod_eq_emod_of_nonneg (by omega)]; exact (Int.natCast_emod p m).symm
        have t2 : ((p : Int) * 7 + 3).tmod (m : Int) = (((p * 7 + 3) % m : Nat) : Int) := by rw [Int.tmod_eq_emod_of_nonneg (by omega)]; rw [Int.natCast_emod]; rfl
        have t3 : (p : Int).tdiv (m : Int) = ((p / m : Nat) : Int) := by rw [Int.tdiv_eq_ediv_of_nonneg (by omega)]; exact (Int.natCast_ediv p m).symm
        have hpm' : (m : Int) ≤ (p : Int) := by omega
        have hg0 : ∀ j, (w.setCell ⟨R, 1, none⟩ (.int .i64 ((p : Int) + 1))).cell? ⟨g, j, none⟩ = w.cell? ⟨g, j, none⟩ := fun j => by
          refine World.cell?_of_block ?_
          exact Below.heap_setCell _ _ _ _ (fun h => hgR h)
        have e1 := (hg0 _).trans hc1
        have e2 := (hg0 _).trans hc2
        have d0 : (w.setCell ⟨R, 1, none⟩ (.int .i64 ((p : Int) + 1))).cell? ⟨R, 0, none⟩ = some (.slice (some ⟨g, o, none⟩) m c) := by simpa using hB1.cell 0
        have T1 := hide t1
        have T2 := hide t2
        have T3 := hide t3
        clear hg0 hc1 hc2 t1 t2 t3 hB hB1
        generalize p % m = q1 at *
        generalize (p * 7 + 3) % m = q2 at *
        generalize p / m = q3 at *
        obtain ⟨x, hx⟩ : ∃ x : Nat, x = b1 * 131 + b2 * 1117 + p * 29 + q3 * 53 := ⟨_, rfl⟩
        have hxb : x < 100000000000 := by omega
        obtain ⟨y, hy⟩ : ∃ y : Nat, Hid (x ^^^ (x / 64) = y) := ⟨_, rfl⟩
        have hxor := hide (show bits .xor .i64 (x : Int) ((x : Int) / 64) = (y : Int) by rw [← hy.out]; exact bits_xor_nat (a := x) (b := x / 64) (by omega) (by omega))
        have hyb : (y : Int) < 1099511627776 := by
          have : x ^^^ (x / 64) < 2 ^ 40 := Nat.xor_lt_two_pow (by omega) (by omega)
          rw [hy.out] at this
          omega
        have hmod := hide (Int.natCast_emod y k)
        have hX : (b1 : Int) * 131 + (b2 : Int) * 1117 + (p : Int) * 29 + (q3 : Int) * 53 = (x : Int) := by omega
        have HX := hide hX
        clear hx hX
        go_enter Try.func15, Try.ntmps15
        go_wp2
        generalize w.setCell ⟨R, 1, none⟩ (.int .i64 ((p : Int) + 1)) = w1 at *
        have t1 := T1.out
        have t2 := T2.out
        have t3 := T3.out
        have a1 : IntKind.i64.wrap ((p : Int) * 7) = (p : Int) * 7 := IntWalk.i64_in _ (by omega)
        have a2 : IntKind.i64.wrap ((p : Int) * 7 + 3) = (p : Int) * 7 + 3 := IntWalk.i64_in _ (by omega)
        have a3 : IntKind.i64.wrap ((b1 : Int) * 131) = (b1 : Int) * 131 := IntWalk.i64_in _ (by omega)
        have a4 : IntKind.i64.wrap ((b2 : Int) * 1117) = (b2 : Int) * 1117 := IntWalk.i64_in _ (by omega)
        have a5 : IntKind.i64.wrap ((b1 : Int) * 131 + (b2 : Int) * 1117) = (b1 : Int) * 131 + (b2 : Int) * 1117 := IntWalk.i64_in _ (by omega)
        have a6 : IntKind.i64.wrap ((p : Int) * 29) = (p : Int) * 29 := IntWalk.i64_in _ (by omega)
        have a7 : IntKind.i64.wrap ((b1 : Int) * 131 + (b2 : Int) * 1117 + (p : Int) * 29) = (b1 : Int) * 131 + (b2 : Int) * 1117 + (p : Int) * 29 := IntWalk.i64_in _ (by omega)
        have a8 : IntKind.i64.wrap ((q3 : Int) * 53) = (q3 : Int) * 53 := IntWalk.i64_in _ (by omega)
        have a9 : IntKind.i64.wrap ((b1 : Int) * 131 + (b2 : Int) * 1117 + (p : Int) * 29 + (q3 : Int) * 53) = (x : Int) := by rw [HX.out]; exact IntWalk.i64_in _ (by omega)
        have i1 : (q1 : Int) < (m : Int) := by omega
        have i2 : (q2 : Int) < (m : Int) := by omega
        have i3 : (0 : Int) ≤ (q1 : Int) := by omega
        have i4 : (0 : Int) ≤ (q2 : Int) := by omega
        go_quiet (fail)
        clear a1 a2 a3 a4 a5 a6 a7 a8 a9 t1 t2 t3
        have hxo := hxor.out
        have hxb' : (x : Int) < 100000000000 := by omega
        go_wp2
        go_ret
        exact ⟨y % k, ret_int hmod.out.symm, fun _ => by rw [hmod.out]; exact Int.emod_lt_of_pos _ (by omega), fun h => by omega, hRd.out, Dr.drewN hfr _⟩
end Go.Proofs.Ytcmgkekaeafgaaa

namespace Go.Proofs.Ytcmgkekaeafgaaa
open Go Go.RowKit
set_option maxHeartbeats 1000000

/-- The cells of a list of strings. -/
def strs (l : List ByteArray) : List Value := l.map Value.string
theorem strs_length (l : List ByteArray) : (strs l).length = l.length := by simp [strs]
theorem Reads.dr {w w' : World} {R lo hi size n : Nat} {A : Option Addr} {xs : List Value} (h : Reads w lo hi size A n xs) (hb : Dr R w w') (hR : R < lo) : Reads w' lo hi size A n xs :=
  h.frm hb (fun k h1 _ h2 => by omega)
/-- A number out of a list. -/
def RetNum (R M : Nat) (l : List Int) (w : World) (e : Ending) (w' : World) : Prop := ∃ x, x ∈ l ∧ e = .returned (.int .i64 x) ∧ Rd w' R (M + 1) ∧ Dr R w w'
/-- A string out of a list. -/
def RetOf (R M : Nat) (l : List ByteArray) (w : World) (e : Ending) (w' : World) : Prop := ∃ x, x ∈ l ∧ e = .returned (.string x) ∧ Rd w' R (M + 1) ∧ Dr R w w'

theorem l19Rd_num {R M lo hi n c : Nat} {A : Option Addr} {l : List Int} {w : World} (h : Rd w R M) (hM : M ≤ 1000000000) (hL : Reads w lo hi 1 A n (ints l)) (hlo : R < lo) (hn : 0 < n) :
    Calls Try.prog 32 #[.pointer (some ⟨R, 0, none⟩), .slice A n c] w (RetNum R M l w) := by
  have hlen := hL.len
  have hn1 : (1 : Int) ≤ (n : Int) := by omega
  go_enter Try.func32, Try.ntmps32
  go_wp2_with fail
  refine (l19Rd_pick h hM).mono ?_
  rintro e w1 ⟨k, rfl, hk1, _, hr, hd⟩
  have hkn := hk1 hn1
  have hkn' : k < n := by omega
  obtain ⟨ad, x, rfl, _, _, hx, hc⟩ := (hL.dr hd hlo).int hkn'
  clear hk1
  go_wp2_with fail
  go_ret
  exact ⟨x, List.mem_of_getElem? hx.out, rfl, hr, hd⟩
/-- Bytes that came in. -/
def Bytes (w : World) (A : Option Addr) (n : Nat) : Prop := 0 < n → ∃ g o, A = some ⟨g, o, none⟩ ∧ g < w.heap.size ∧ ∀ j, j < n → ∃ b : Nat, b < 256 ∧ w.cell? ⟨g, o + j, none⟩ = some (.int .u8 b)
theorem Bytes.ext {w w' : World} {A : Option Addr} {n : Nat} (h : Bytes w A n) (hb : Ext w w') : Bytes w' A n := fun h0 => by
  obtain ⟨g, o, e, hg, hc⟩ := h h0
  exact ⟨g, o, e, Nat.lt_of_lt_of_le hg hb.size, fun j hj => by obtain ⟨b, h1, h2⟩ := hc j hj; exact ⟨b, h1, hb.cell_some h2⟩⟩
/-- A new source. -/
def RetOpen (w : World) (e : Ending) (w' : World) : Prop := ∃ R, e = .returned (.pointer (some ⟨R, 0, none⟩)) ∧ w.heap.size ≤ R ∧ Rd w' R 0 ∧ Ext w w'
theorem spec_l19Open {A : Option Addr} {n c : Nat} {w : World} (h : Bytes w A n) (hn : n ≤ 9223372036854775807) (hc : n ≤ c) (hc2 : c ≤ 9223372036854775807) :
    Calls Try.prog 10 #[.slice A n c] w (RetOpen w) := by
  by_cases hb : 2000 < n
  · obtain ⟨g, o, rfl, hg, hcell⟩ := h (by omega)
    have Hcell := hide hcell
    clear hcell h
    have h1 : (2000 : Int) < (n : Int) := by omega
    have h2 : (2000 : Int) ≤ (c : Int) := by omega
    go_enter Try.func10, Try.ntmps10
    go_wp2
    go_ret
    refine ⟨w.heap.size, rfl, Nat.le_refl _, ⟨some ⟨g, o, none⟩, 2000, c, 0, by omega, by omega, Blk.new _ _ _, fun _ => ⟨g, o, rfl, hg, fun j hj => ?_⟩⟩, (Ext.refl _).alloc _⟩
    obtain ⟨b, h1, h2⟩ := Hcell.out j (by omega)
    exact ⟨b, h1, ((Ext.refl w).alloc _).cell_some h2⟩
  · have Hh := hide h
    clear h
    have h1 : (n : Int) ≤ 2000 := by omega
    go_enter Try.func10, Try.ntmps10
    go_wp2
    go_ret
    refine ⟨w.heap.size, rfl, Nat.le_refl _, ⟨A, n, c, 0, by omega, by omega, Blk.new _ _ _, fun h0 => ?_⟩, (Ext.refl _).alloc _⟩
    obtain ⟨g, o, e, hg, hc⟩ := Hh.out h0
    exact ⟨g, o, e, hg, fun j hj => by obtain ⟨b, h1, h2⟩ := hc j hj; exact ⟨b, h1, ((Ext.refl w).alloc _).cell_some h2⟩⟩
end Go.Proofs.Ytcmgkekaeafgaaa

namespace Go.Proofs.Ytcmgkekaeafgaaa
open Go Go.RowKit
set_option maxHeartbeats 1000000

/-- A string of at most L bytes; new memory alone. -/
def RetStr (L : Nat) (w : World) (e : Ending) (w' : World) : Prop := ∃ s : ByteArray, e = .returned (.string s) ∧ s.size ≤ L ∧ Ext w w'
theorem conv_one (w : World) (x : Int) : (convert 22 9 (.slice (some ⟨w.heap.size, 0, none⟩) 1 1)).run Try.prog (w.alloc (.cells #[.int .u8 x] 5)) = .ok (.string (strOfNums [x])) (w.alloc (.cells #[.int .u8 x] 5)) :=
  run_convert_bytes_arg _ _ 5 Try.underlying22 Try.underlying5 w.heap.size 0 1 1 [x] rfl (fun i hi => by
    obtain rfl : i = 0 := by omega
    rw [(Blk.new w 5 #[.int .u8 x]).cell]; rfl) _ Try.underlying9
theorem size_one (x : Int) : (strOfNums [x]).size = 1 := by simp [strOfNums]; rfl

theorem spec_l1Text {l : Int} {w : World} (h0 : 0 ≤ l) (h1 : l < 6) :
    Calls Try.prog 60 #[.int .i64 l] w (RetStr 1 w) := by
  have hc := conv_one w
  go_enter Try.func60, Try.ntmps60
  go_wp2
  go_ret
  exact ⟨_, rfl, Nat.le_of_eq (size_one _), (Ext.refl _).alloc _⟩
theorem spec_FormatAlphabet {a : Nat} {w : World} (ha : a < 64) :
    Calls Try.prog 57 #[.int .i64 a] w (RetStr 6 w) := by
  have hsm : Sm a := by unfold Sm; omega
  have hd := hide (show decide (0 ≤ (a : Int) ∧ (a : Int) ≤ 63) = true by simp; omega)
  by_cases h0 : a = 0
  · subst h0
    rw [show ((0 : Nat) : Int) = 0 from rfl]
    have hd0 := hide (show decide ((0 : Int) ≤ 0 ∧ (0 : Int) ≤ 63) = true by decide)
    go_enter Try.func57, Try.ntmps57
    go_wp2_with (go_at_call 39; refine (spec_l1Alphabet _ _).mono ?_; rw [hd0.out]; rintro e w' ⟨rfl, rfl⟩)
    go_ret
    exact ⟨_, rfl, by decide, Ext.refl _⟩
  · have h0' : ((a : Int) == 0) = false := by simp; omega
    go_enter Try.func57, Try.ntmps57
    go_wp2_with fail
    refine (spec_l1Alphabet _ _).mono ?_
    rw [hd.out]
    rintro e w' ⟨rfl, rfl⟩
    go_wp2_with fail
    refine (spec_l1Letters a hsm _).mono ?_
    rintro e w1 ⟨B, d, rfl, hown1, hx1⟩
    have hl6 := letters_length a 6
    have hlm := hide (fun k (hk : k ∈ letters a 6) => (mem_letters.1 hk).1)
    have hrd := Reads.of_own hown1
    clear hown1
    generalize letters a 6 = ls at *
    go_wp2_with fail
    go_loopw [3, 5] (fun v i wr => ∃ k : Nat, k ≤ ls.length ∧ i = .int .i64 k ∧ ∃ s : ByteArray, v = .string s ∧ s.size ≤ k ∧ Ext w1 wr) (fun _ i _ => ls.length - (intOf i).toNat)
    case atStart => exact ⟨0, Nat.zero_le _, rfl, _, rfl, Nat.le_refl _, Ext.refl _⟩
    case round =>
      obtain ⟨k, hk, rfl, s, rfl, hs, hext⟩ := hrel
      by_cases hlt : k < ls.length
      · obtain ⟨ad, l, rfl, _, _, hl, hlc⟩ := (hrd.ext hext).nat hlt
        have hl6' := hlm.out l (List.mem_of_getElem? hl.out)
        go_wp2_with fail
        refine (spec_l1Text (l := (l : Int)) (by omega) (by omega)).mono ?_
        rintro e w2 ⟨t, rfl, ht, hx2⟩
        have hst : s.size + t.size ≤ 7 := by omega
        go_wp2_with fail
        go_roundw
        case rel => exact ⟨k + 1, by omega, by go_num, _, rfl, by rw [ByteArray.size_append]; omega, hext.trans hx2⟩
        case measure => simp [intOf]; omega
      · obtain rfl : k = ls.length := by omega
        go_wp2_with fail
        go_ret
        exact ⟨s, rfl, by omega, hx1.trans hext⟩
/-- A number below 64, or none. -/
def RetAl (w : World) (e : Ending) (w' : World) : Prop := ∃ (a : Nat) (ok : Bool), e = .returned (.tuple #[.int .i64 a, .bool ok]) ∧ a < 64 ∧ Ext w w'
theorem spec_ParseAlphabet {x : ByteArray} {w : World} :
    Calls Try.prog 43 #[.string x] w (RetAl w) := by
  go_enter Try.func43, Try.ntmps43
  go_wp2_with fail
  go_loopw [4] (fun i wr => ∃ k : Nat, k ≤ 64 ∧ i = .int .i64 k ∧ Ext w wr) (fun i _ => 64 - (intOf i).toNat)
  case atStart => exact ⟨0, Nat.zero_le _, rfl, Ext.refl _⟩
  case round =>
    obtain ⟨k, hk, rfl, hext⟩ := hrel
    by_cases hlt : k < 64
    · go_wp2_with fail
      refine (spec_FormatAlphabet hlt).mono ?_
      rintro e w2 ⟨t, rfl, ht, hx2⟩
      cases hxt : t.toList == x.toList
      · go_wp2_with fail
        go_roundw
        case rel => exact ⟨k + 1, by omega, by go_num, hext.trans hx2⟩
        case measure => simp [intOf]; omega
      · go_wp2_with fail
        go_ret2
        exact ⟨k, true, rfl, hlt, hext.trans hx2⟩
    · obtain rfl : k = 64 := by omega
      go_wp2_with fail
      go_ret2
      exact ⟨0, false, rfl, by omega, hext⟩

theorem spec_l19Dec {n : Nat} {w : World} (hn : n < 100) :
    Calls Try.prog 59 #[.int .i64 n] w (RetStr 2 w) := by
  have hn1 : (n : Int) < 100 := by omega
  go_enter Try.func59, Try.ntmps59
  go_wp2_with fail
  go_loopw [0, 3] (fun n' v wr => ∃ (m : Nat) (s : ByteArray), n' = .int .i64 m ∧ v = .string s ∧ (m < 100 ∧ s.size = 0 ∨ m < 10 ∧ s.size ≤ 1) ∧ Ext w wr) (fun n' _ _ => (intOf n').toNat)
  case atStart => exact ⟨n, _, rfl, rfl, Or.inl ⟨hn, rfl⟩, Ext.refl _⟩
  case round =>
    obtain ⟨m, s, rfl, rfl, hms, hext⟩ := hrel
    have hm100 : m < 100 := by omega
    have hc := conv_one wr
    have hso := size_one
    by_cases hlt : 9 < m
    · have hs0 : s.size = 0 := by omega
      have hdiv := hide (Int.natCast_ediv m 10)
      have hm9 : (9 : Int) < (m : Int) := by omega
      have hs1 : s.size ≤ 1 := by omega
      have Hs0 := hide hs0
      clear hms hs0
      go_wp2_with fail
      go_roundw
      case rel => exact ⟨m / 10, _, by rw [hdiv.out]; rfl, rfl, Or.inr ⟨by omega, by rw [ByteArray.size_append, size_one, Hs0.out]; omega⟩, hext.alloc _⟩
      case measure => simp [intOf]; omega
    · have hm9 : (m : Int) ≤ 9 := by omega
      have hs1 : s.size ≤ 1 := by omega
      clear hms
      go_wp2_with fail
      go_ret
      exact ⟨_, rfl, by rw [ByteArray.size_append, size_one]; omega, hext.alloc _⟩
end Go.Proofs.Ytcmgkekaeafgaaa

namespace Go.Proofs.Ytcmgkekaeafgaaa
open Go Go.RowKit
set_option maxHeartbeats 2000000

/-- A number and whether it is one. -/
def RetNumS (w : World) (e : Ending) (w' : World) : Prop := ∃ (n : Int) (ok : Bool), e = .returned (.tuple #[.int .i64 n, .bool ok]) ∧ w = w'

set_option maxRecDepth 100000 in
theorem spec_l19Num {s : ByteArray} {w : World} (hs : s.size ≤ 1000000) :
    Calls Try.prog 44 #[.string s] w (RetNumS w) := by
  by_cases h0 : s.size = 0
  · have h0' : ¬ 0 < s.size := by omega
    go_enter Try.func44, Try.ntmps44
    go_wp2
    go_ret2
    exact ⟨0, false, rfl, rfl⟩
  have h0' : 0 < s.size := by omega
  cases hm : ((s[0].toNat : Int) == 45)
  · have hq0 : 0 < s.size := h0'
    by_cases z0 : s.size = 0
    · go_enter Try.func44, Try.ntmps44
      go_wp2
      go_ret2
      exact ⟨0, false, rfl, rfl⟩
    have z1 : 0 < s.size := by omega
    have z1' : ((s.size : Int) == 0) = false := by rw [beq_eq_false_iff_ne]; omega
    by_cases z2 : 17 < s.size
    · have z2' : (17 : Int) < (s.size : Int) := by omega
      go_enter Try.func44, Try.ntmps44
      go_wp2
      go_ret2
      exact ⟨0, false, rfl, rfl⟩
    have z2' : (s.size : Int) ≤ 17 := by omega
    cases z3 : ((s[0].toNat : Int) == 48)
    · go_enter Try.func44, Try.ntmps44
      go_wp2_with fail
      go_loop [5, 6] (fun v i => ∃ (k : Nat) (n : Int), k ≤ s.size ∧ i = .int .i64 k ∧ v = .int .i64 n) (fun _ i => s.size - (intOf i).toNat)
      case atStart => exact ⟨0, 0, Nat.zero_le _, rfl, rfl⟩
      case round =>
        obtain ⟨k, n, hk, rfl, rfl⟩ := hrel
        by_cases hlt : k < s.size
        · have hb := byte_lt s k hlt
          by_cases c0 : (s[k].toNat : Int) < 48
          · go_wp2_with fail
            go_ret2
            exact ⟨0, false, rfl, rfl⟩
          · by_cases c1 : 57 < (s[k].toNat : Int)
            · go_wp2_with fail
              go_ret2
              exact ⟨0, false, rfl, rfl⟩
            · go_wp2_with fail
              go_round
              case rel => exact ⟨k + 1, _, by omega, by go_num, rfl⟩
              case measure => simp [intOf]; omega
        · obtain rfl : k = s.size := by omega
          go_wp2_with fail
          go_ret2
          exact ⟨_, true, rfl, rfl⟩
    · by_cases z4 : 1 < s.size
      · have z4' : (1 : Int) < (s.size : Int) := by omega
        go_enter Try.func44, Try.ntmps44
        go_wp2
        go_ret2
        exact ⟨0, false, rfl, rfl⟩
      · have z4' : (s.size : Int) ≤ 1 := by omega
        go_enter Try.func44, Try.ntmps44
        go_wp2_with fail
        go_loop [5, 6] (fun v i => ∃ (k : Nat) (n : Int), k ≤ s.size ∧ i = .int .i64 k ∧ v = .int .i64 n) (fun _ i => s.size - (intOf i).toNat)
        case atStart => exact ⟨0, 0, Nat.zero_le _, rfl, rfl⟩
        case round =>
          obtain ⟨k, n, hk, rfl, rfl⟩ := hrel
          by_cases hlt : k < s.size
          · have hb := byte_lt s k hlt
            by_cases c0 : (s[k].toNat : Int) < 48
            · go_wp2_with fail
              go_ret2
              exact ⟨0, false, rfl, rfl⟩
            · by_cases c1 : 57 < (s[k].toNat : Int)
              · go_wp2_with fail
                go_ret2
                exact ⟨0, false, rfl, rfl⟩
              · go_wp2_with fail
                go_round
                case rel => exact ⟨k + 1, _, by omega, by go_num, rfl⟩
                case measure => simp [intOf]; omega
          · obtain rfl : k = s.size := by omega
            go_wp2_with fail
            go_ret2
            exact ⟨_, true, rfl, rfl⟩
  · obtain ⟨y, hy⟩ : ∃ y, s.extract 1 s.size = y := ⟨_, rfl⟩
    have hyl : y.size = s.size - 1 := by rw [← hy, ByteArray.size_extract]; omega
    have hyb : y.size ≤ 1000000 := by omega
    have Hyl := hide hyl
    clear hyl
    have h01 : (1 : Int) ≤ (s.size : Int) := by omega
    by_cases z0 : y.size = 0
    · go_enter Try.func44, Try.ntmps44
      go_wp2
      go_ret2
      exact ⟨0, false, rfl, rfl⟩
    have z1 : 0 < y.size := by omega
    have z1' : ((y.size : Int) == 0) = false := by rw [beq_eq_false_iff_ne]; omega
    by_cases z2 : 17 < y.size
    · have z2' : (17 : Int) < (y.size : Int) := by omega
      go_enter Try.func44, Try.ntmps44
      go_wp2
      go_ret2
      exact ⟨0, false, rfl, rfl⟩
    have z2' : (y.size : Int) ≤ 17 := by omega
    cases z3 : ((y[0].toNat : Int) == 48)
    · go_enter Try.func44, Try.ntmps44
      go_wp2_with fail
      go_loop [5, 6] (fun v i => ∃ (k : Nat) (n : Int), k ≤ y.size ∧ i = .int .i64 k ∧ v = .int .i64 n) (fun _ i => y.size - (intOf i).toNat)
      case atStart => exact ⟨0, 0, Nat.zero_le _, rfl, rfl⟩
      case round =>
        obtain ⟨k, n, hk, rfl, rfl⟩ := hrel
        by_cases hlt : k < y.size
        · have hb := byte_lt y k hlt
          by_cases c0 : (y[k].toNat : Int) < 48
          · go_wp2_with fail
            go_ret2
            exact ⟨0, false, rfl, rfl⟩
          · by_cases c1 : 57 < (y[k].toNat : Int)
            · go_wp2_with fail
              go_ret2
              exact ⟨0, false, rfl, rfl⟩
            · go_wp2_with fail
              go_round
              case rel => exact ⟨k + 1, _, by omega, by go_num, rfl⟩
              case measure => simp [intOf]; omega
        · obtain rfl : k = y.size := by omega
          go_wp2_with fail
          go_ret2
          exact ⟨_, true, rfl, rfl⟩
    · by_cases z4 : 1 < y.size
      · have z4' : (1 : Int) < (y.size : Int) := by omega
        go_enter Try.func44, Try.ntmps44
        go_wp2
        go_ret2
        exact ⟨0, false, rfl, rfl⟩
      · have z4' : (y.size : Int) ≤ 1 := by omega
        go_enter Try.func44, Try.ntmps44
        go_wp2
        go_ret2
        exact ⟨0, false, rfl, rfl⟩
end Go.Proofs.Ytcmgkekaeafgaaa

namespace Go.Proofs.Ytcmgkekaeafgaaa
open Go Go.RowKit
set_option maxHeartbeats 2000000

theorem info_str : (Try.prog.info? 9).map (fun i => (i.zero, i.size, i.bytes)) = some (some (.string ⟨#[]⟩), 1, 16) := by kernel_rfl
/-- Strings in new memory, none longer than L. -/
def RetStrs (L N : Nat) (w : World) (e : Ending) (w' : World) : Prop := ∃ (A : Option Addr) (n c : Nat) (l : List ByteArray), e = .returned (.slice A n c) ∧ n = l.length ∧ w'.ownsRow w.heap.size 9 1 (.slice A n c) n (strs l) ∧ (∀ x ∈ l, x.size ≤ L) ∧ n ≤ N ∧ Ext w w'
theorem cells_str (x : ByteArray) : ∀ u ∈ (#[Value.string x] : Array Value).toList, u.oneCell' = true := by simp [Value.oneCell']

theorem spec_l19Cut {s : ByteArray} {w : World} (hs : s.size ≤ 1000000) :
    Calls Try.prog 42 #[.string s, .int .u8 32] w (RetStrs s.size (s.size + 1) w) := by
  go_enter Try.func42, Try.ntmps42
  go_wp2_with fail
  go_loopw [5, 6, 7] (fun v f i wr => ∃ (k m : Nat) (l : List ByteArray), k ≤ s.size + 1 ∧ i = .int .i64 k ∧ m ≤ k ∧ f = .int .i64 m ∧ l.length ≤ k ∧ wr.ownsRow w.heap.size 9 1 v l.length (strs l) ∧ Hid (∀ x ∈ l, x.size ≤ s.size) ∧ Ext w wr) (fun _ _ i _ => s.size + 1 - (intOf i).toNat)
  case atStart => exact ⟨0, 0, [], Nat.zero_le _, rfl, Nat.le_refl _, rfl, Nat.le_refl _, World.ownsRow_lit w #[] 0 (Nat.le_refl _) (by unfold maxLen; omega) rfl, (fun x hx => by cases hx), (Ext.refl _).alloc _⟩
  case round =>
    obtain ⟨k, m, l, hk, rfl, hm, rfl, hl, hown, hlx, hext⟩ := hrel
    by_cases hle : k ≤ s.size
    · have hle' : (k : Int) ≤ (s.size : Int) := by omega
      have hm' : (m : Int) ≤ (k : Int) := by omega
      have hex := hide (show (s.extract m k).size ≤ s.size by rw [ByteArray.size_extract]; omega)
      have hall := hide (show ∀ x ∈ l ++ [s.extract m k], x.size ≤ s.size from fun x hx => by
        rcases List.mem_append.1 hx with h1 | h1
        · exact hlx.out x h1
        · rw [List.mem_singleton.1 h1]; exact hex.out)
      by_cases he : k = s.size
      · have heq : ((k : Int) == (s.size : Int)) = true := by simp [he]
        have He := hide he
        clear he
        go_wp2_with (at_builtin; refine wpList_push w wr rfl _ _ _ rfl 9 _ 1 16 Try.underlying56 info_str rfl (by decide) u5 _ _ _ _ rfl rfl hext hown rfl (cells_str _) (by unfold maxLen; omega) (by omega) ?_; intro v' w1 hext1 hown1 hg1 hat1)
        go_roundw
        case rel => exact ⟨k + 1, k + 1, l ++ [s.extract m k], by omega, by go_num, by omega, by go_num, by simp; omega, by simpa [strs] using hown1, hall.out, by assumption⟩
        case measure => simp [intOf]; omega
      · have heq : ((k : Int) == (s.size : Int)) = false := by rw [beq_eq_false_iff_ne]; omega
        have hlt : k < s.size := by omega
        have hb := byte_lt s k hlt
        cases hc : ((s[k].toNat : Int) == 32)
        · go_wp2_with fail
          go_roundw
          case rel => exact ⟨k + 1, m, l, by omega, by go_num, by omega, rfl, by omega, hown, hlx, hext⟩
          case measure => simp [intOf]; omega
        · go_wp2_with (at_builtin; refine wpList_push w wr rfl _ _ _ rfl 9 _ 1 16 Try.underlying56 info_str rfl (by decide) u5 _ _ _ _ rfl rfl hext hown rfl (cells_str _) (by unfold maxLen; omega) (by omega) ?_; intro v' w1 hext1 hown1 hg1 hat1)
          go_roundw
          case rel => exact ⟨k + 1, k + 1, l ++ [s.extract m k], by omega, by go_num, by omega, by go_num, by simp; omega, by simpa [strs] using hown1, hall.out, by assumption⟩
          case measure => simp [intOf]; omega
    · obtain rfl : k = s.size + 1 := by omega
      obtain ⟨A, c, rfl⟩ := own_form hown
      go_wp2_with fail
      go_ret
      exact ⟨A, _, c, l, rfl, rfl, hown, hlx.out, by omega, hext⟩

/-- An edge and whether it is one. -/
def RetEdgeS (w : World) (e : Ending) (w' : World) : Prop := ∃ (x : Edg) (ok : Bool), e = .returned (.tuple #[.agg #[.int .i64 x.fr, .int .i64 x.le, .int .i64 x.to], .bool ok]) ∧ Ext w w'
set_option maxRecDepth 100000 in
theorem spec_l2Parse {s : ByteArray} {w : World} (hs : s.size ≤ 1000000) :
    Calls Try.prog 45 #[.string s] w (RetEdgeS w) := by
  have hx1 := (Ext.refl w).alloc (.cells #[.int .i64 0, .int .i64 0, .int .i64 0] 65)
  have hbz := Blk.new w 65 #[.int .i64 0, .int .i64 0, .int .i64 0]
  go_enter Try.func45, Try.ntmps45
  go_wp2_with fail
  generalize w.alloc (.cells #[.int .i64 0, .int .i64 0, .int .i64 0] 65) = w1 at *
  go_loop [4] (fun i => ∃ k : Nat, k ≤ s.size ∧ i = .int .i64 k) (fun i => s.size - (intOf i).toNat)
  case atStart => exact ⟨0, Nat.zero_le _, rfl⟩
  case round =>
    obtain ⟨k, hk, rfl⟩ := hrel
    have cz := hbz.cell
    have fz := hbz.frozen
    by_cases hlt : k < s.size
    · have hb := byte_lt s k hlt
      by_cases c0 : (97 : Int) ≤ (s[k].toNat : Int)
      · by_cases c1 : (s[k].toNat : Int) ≤ 102
        · have he1 := hide (show (s.extract 0 k).size ≤ 1000000 by rw [ByteArray.size_extract]; omega)
          have he2 := hide (show (s.extract (k + 1) s.size).size ≤ 1000000 by rw [ByteArray.size_extract]; omega)
          have hk1 : (k : Int) + 1 ≤ (s.size : Int) := by omega
          go_wp2_with fail
          refine (spec_l19Num he1.out).mono ?_
          rintro e w2 ⟨n1, ok1, rfl, rfl⟩
          go_wp2_with fail
          refine (spec_l19Num he2.out).mono ?_
          rintro e w2 ⟨n2, ok2, rfl, rfl⟩
          go_wp2_with fail
          refine (spec_l1At s k hlt _).mono ?_
          rintro e w2 ⟨rfl, rfl⟩
          have hfin : ∀ u0 u1 u2, Ext w (((w1.setCell ⟨w.heap.size, 0, none⟩ u0).setCell ⟨w.heap.size, 1, none⟩ u1).setCell ⟨w.heap.size, 2, none⟩ u2) := fun u0 u1 u2 => ((hx1.setCell (Nat.le_refl _) u0).setCell (Nat.le_refl _) u1).setCell (Nat.le_refl _) u2
          have Hfin := hide hfin
          clear hfin
          cases ok1
          · go_wp2_with fail
            exact bodyPost_ret (v := .tuple #[.agg #[.int .i64 n1, .int .i64 ((s[k].toNat : Int) - 97), .int .i64 n2], .bool false]) (by simp [results, Try.results45, go_sem, cz]) rfl ⟨⟨n1, (s[k].toNat : Int) - 97, n2⟩, false, rfl, Hfin.out _ _ _⟩
          · go_wp2_with fail
            exact bodyPost_ret (v := .tuple #[.agg #[.int .i64 n1, .int .i64 ((s[k].toNat : Int) - 97), .int .i64 n2], .bool ok2]) (by simp [results, Try.results45, go_sem, cz]) rfl ⟨⟨n1, (s[k].toNat : Int) - 97, n2⟩, ok2, rfl, Hfin.out _ _ _⟩
        · go_wp2_with fail
          go_round
          case rel => exact ⟨k + 1, by omega, by go_num⟩
          case measure => simp [intOf]; omega
      · go_wp2_with fail
        go_round
        case rel => exact ⟨k + 1, by omega, by go_num⟩
        case measure => simp [intOf]; omega
    · obtain rfl : k = s.size := by omega
      go_wp2_with fail
      refine bodyPost_ret (v := .tuple #[.agg #[.int .i64 0, .int .i64 0, .int .i64 0], .bool false]) (by simp [results, Try.results45, go_sem, cz]) rfl ⟨⟨0, 0, 0⟩, false, rfl, ?_⟩
      exact ((hx1.setCell (p := ⟨w.heap.size, 0, none⟩) (Nat.le_refl _) _).setCell (p := ⟨w.heap.size, 1, none⟩) (Nat.le_refl _) _).setCell (p := ⟨w.heap.size, 2, none⟩) (Nat.le_refl _) _
end Go.Proofs.Ytcmgkekaeafgaaa

namespace Go.Proofs.Ytcmgkekaeafgaaa
open Go Go.RowKit
set_option maxHeartbeats 2000000

/-- A text; empty, if the system is not valid. -/
def RetFmt (s : Sys) (w : World) (e : Ending) (w' : World) : Prop := ∃ t : ByteArray, e = .returned (.string t) ∧ (sysValid s = false → t.size = 0) ∧ Ext w w'
theorem valid_al {s : Sys} (h : sysValid s = true) : ∃ a : Nat, s.al = a ∧ a < 64 := by
  simp only [sysValid, Bool.and_eq_true, decide_eq_true_eq] at h
  exact ⟨s.al.toNat, by omega, by omega⟩

set_option maxRecDepth 100000 in
theorem spec_FormatSystem {lo hi : Nat} {A : Option Addr} {n c : Nat} {s : Sys} {w : World} (h : SysAt w lo hi A n s) (hn : n ≤ 1000000) :
    Calls Try.prog 46 #[.agg #[.int .i64 s.al, .int .i64 s.st, .slice A n c]] w (RetFmt s w) := by
  have HS := hide (fun W (hW : Ext w W) => h.ext hW)
  clear h
  cases h1 : sysValid s
  · have H1 := hide h1
    clear h1
    go_enter Try.func46, Try.ntmps46
    go_wp2_with (go_at_call 38; refine (spec_SystemValid (HS.out _ ((Ext.refl _).alloc _))).mono ?_; rw [H1.out]; rintro e w1 ⟨rfl, hx⟩)
    go_ret
    exact ⟨_, rfl, fun _ => rfl, ((Ext.refl _).alloc _).trans hx⟩
  · obtain ⟨p, hp, hp1, hp2, hf⟩ := valid_few h1
    obtain ⟨a, ha, ha2⟩ := valid_al h1
    have H1 := hide h1
    have Hf := hide hf
    have Hp := hide hp
    have Ha := hide ha
    clear h1 hf hp ha
    go_enter Try.func46, Try.ntmps46
    go_wp2_with fail
    refine (spec_SystemValid (HS.out _ ((Ext.refl _).alloc _))).mono ?_
    rw [H1.out]
    rintro e w1 ⟨rfl, hx⟩
    have b1 := ext_blk1 hx
    rw [Ha.out, Hp.out] at b1
    have hw1 := ((Ext.refl w).alloc _).trans hx
    have cb : ∀ W, Ext w1 W → ∀ q, W.cell? ⟨w.heap.size, q, none⟩ = #[Value.int .i64 a, .int .i64 p, .slice A n c][q]? := fun W hW => (b1.ext hW).cell
    go_wp2_with fail
    refine wp_region_tail (fun X => Ext w1 X) [] (Ord.of [0, 1, 4, 5, 2, 3, 6, 7, 8]) (by kernel_rfl) rfl (by kernel_rfl) (by kernel_rfl) (by kernel_rfl) (fun _ _ _ _ _ h => h) (by first | assumption | exact (Ext.refl _).drew | exact (Dr.refl _ _).drew | (refine Ext.drew ?_; assumption)) ?_
    repeat (first | (refine tseq_skip rfl rfl (by assumption) ?_; simp only [Act.put, List.setIfInBounds_toArray, List.set_cons_zero, List.set_cons_succ]) | (refine tseq_pure (v := ?_) rfl rfl rfl rfl (fun X => ?_) ?_; rotate_left; (focus (go_simp <;> with_reducible rfl)); simp only [Act.put, List.setIfInBounds_toArray, List.set_cons_zero, List.set_cons_succ]) | (refine tseq_read (v := ?_) rfl rfl rfl rfl (fun X hX => ?_) ?_; rotate_left; (focus (go_simp <;> with_reducible rfl)); simp only [Act.put, List.setIfInBounds_toArray, List.set_cons_zero, List.set_cons_succ]))
    (refine tseq_step rfl rfl rfl (fun K hK => ?_); go_simp)
    refine (spec_FormatAlphabet ha2).mono ?_
    rintro e w2 ⟨t2, rfl, ht2, hx2⟩
    have hx12 := ((Ext.refl w1).drew).trans hx2
    have q1 : ¬ 9223372036854775807 < t2.size + 1 := by omega
    refine hK.out _ _ hx12 ?_
    (try simp only [Act.put, List.setIfInBounds_toArray, List.set_cons_zero, List.set_cons_succ])
    repeat (first | (refine tseq_skip rfl rfl (by assumption) ?_; simp only [Act.put, List.setIfInBounds_toArray, List.set_cons_zero, List.set_cons_succ]) | (refine tseq_pure (v := ?_) rfl rfl rfl rfl (fun X => ?_) ?_; rotate_left; (focus (go_simp <;> with_reducible rfl)); simp only [Act.put, List.setIfInBounds_toArray, List.set_cons_zero, List.set_cons_succ]) | (refine tseq_read (v := ?_) rfl rfl rfl rfl (fun X hX => ?_) ?_; rotate_left; (focus (go_simp <;> with_reducible rfl)); simp only [Act.put, List.setIfInBounds_toArray, List.set_cons_zero, List.set_cons_succ]))
    (refine tseq_step rfl rfl rfl (fun K hK => ?_); go_simp)
    refine (spec_l19Dec (n := p) (by omega)).mono ?_
    rintro e w3 ⟨t3, rfl, ht3, hx3⟩
    have hx13 := hx12.trans hx3
    have q2 : ¬ 9223372036854775807 < t2.size + 1 + t3.size := by omega
    refine hK.out _ _ hx13 ?_
    (try simp only [Act.put, List.setIfInBounds_toArray, List.set_cons_zero, List.set_cons_succ])
    repeat (first | (refine tseq_skip rfl rfl (by assumption) ?_; simp only [Act.put, List.setIfInBounds_toArray, List.set_cons_zero, List.set_cons_succ]) | (refine tseq_pure (v := ?_) rfl rfl rfl rfl (fun X => ?_) ?_; rotate_left; (focus (go_simp <;> with_reducible rfl)); simp only [Act.put, List.setIfInBounds_toArray, List.set_cons_zero, List.set_cons_succ]) | (refine tseq_read (v := ?_) rfl rfl rfl rfl (fun X hX => ?_) ?_; rotate_left; (focus (go_simp <;> with_reducible rfl)); simp only [Act.put, List.setIfInBounds_toArray, List.set_cons_zero, List.set_cons_succ]))
    refine tseq_nil ?_
    obtain ⟨t4, ht4⟩ : ∃ t4 : ByteArray, t4 = t2 ++ { data := #[32] } ++ t3 := ⟨_, rfl⟩
    have hs4 : t4.size ≤ 20 := by rw [ht4, ByteArray.size_append, ByteArray.size_append]; show t2.size + 1 + t3.size ≤ 20; omega
    rw [← ht4]
    clear ht4 q1 q2 ht2 ht3 hx2 hx3 hx12
    have hext0 := hx13
    go_wp2_with fail
    go_loopw [3, 4] (fun v i wr => ∃ (k : Nat) (t : ByteArray), k ≤ n ∧ i = .int .i64 k ∧ v = .string t ∧ t.size ≤ 20 + 20 * k ∧ Ext w1 wr) (fun _ i _ => n - (intOf i).toNat)
    case atStart => exact ⟨0, t4, Nat.zero_le _, rfl, rfl, hs4, hext0⟩
    case round =>
      clear hext0 hx13 hs4
      obtain ⟨k, t, hk, rfl, rfl, ht, hext⟩ := hrel
      have cb0 := cb wr hext
      by_cases hlt : k < n
      · obtain ⟨b, o, x, rfl, _, _, hx0, c0, c1, c2⟩ := (HS.out wr (hw1.trans hext)).2.edge hlt
        obtain ⟨⟨f0, f1⟩, ⟨g0, g1⟩, ⟨t0, t1⟩⟩ := Hf.out x (List.mem_of_getElem? hx0.out)
        obtain ⟨u, hue⟩ : ∃ u : Nat, x.fr = u := ⟨x.fr.toNat, by omega⟩
        obtain ⟨v, hve⟩ : ∃ v : Nat, x.to = v := ⟨x.to.toNat, by omega⟩
        rw [hue] at c0 f0 f1
        rw [hve] at c2 t0 t1
        clear hue hve
        go_wp2_with fail
        have hxq := (Ext.refl wr).alloc (.cells #[.int .i64 u, .int .i64 x.le, .int .i64 v] 65)
        have hbq := Blk.new wr 65 #[.int .i64 u, .int .i64 x.le, .int .i64 v]
        generalize wr.alloc (.cells #[.int .i64 u, .int .i64 x.le, .int .i64 v] 65) = wq at *
        have cq : ∀ W, Ext wq W → ∀ q, W.cell? ⟨wr.heap.size, q, none⟩ = #[Value.int .i64 u, .int .i64 x.le, .int .i64 v][q]? := fun W hW => (hbq.ext hW).cell
        have q0 : ¬ 9223372036854775807 < t.size + 1 := by omega
        refine wp_region_tail (fun X => Ext wq X) [] (Ord.of [0, 1, 2, 3, 6, 7, 10, 11, 4, 5, 8, 9, 12, 13, 14]) (by kernel_rfl) rfl (by kernel_rfl) (by kernel_rfl) (by kernel_rfl) (fun _ _ _ _ _ h => h) (by first | assumption | exact (Ext.refl _).drew | exact (Dr.refl _ _).drew | (refine Ext.drew ?_; assumption)) ?_
        repeat (first | (refine tseq_skip rfl rfl (by assumption) ?_; simp only [Act.put, List.setIfInBounds_toArray, List.set_cons_zero, List.set_cons_succ]) | (refine tseq_pure (v := ?_) rfl rfl rfl rfl (fun X => ?_) ?_; rotate_left; (focus (go_simp <;> with_reducible rfl)); simp only [Act.put, List.setIfInBounds_toArray, List.set_cons_zero, List.set_cons_succ]) | (refine tseq_read (v := ?_) rfl rfl rfl rfl (fun X hX => ?_) ?_; rotate_left; (focus (go_simp <;> with_reducible rfl)); simp only [Act.put, List.setIfInBounds_toArray, List.set_cons_zero, List.set_cons_succ]))
        (refine tseq_step rfl rfl rfl (fun K hK => ?_); go_simp)
        refine (spec_l19Dec (n := u) (by omega)).mono ?_
        rintro e w2 ⟨t2, rfl, ht2, hx2⟩
        have hy2 := ((Ext.refl wq).drew).trans hx2
        have q1 : ¬ 9223372036854775807 < t.size + 1 + t2.size := by omega
        refine hK.out _ _ hy2 ?_
        (try simp only [Act.put, List.setIfInBounds_toArray, List.set_cons_zero, List.set_cons_succ])
        repeat (first | (refine tseq_skip rfl rfl (by assumption) ?_; simp only [Act.put, List.setIfInBounds_toArray, List.set_cons_zero, List.set_cons_succ]) | (refine tseq_pure (v := ?_) rfl rfl rfl rfl (fun X => ?_) ?_; rotate_left; (focus (go_simp <;> with_reducible rfl)); simp only [Act.put, List.setIfInBounds_toArray, List.set_cons_zero, List.set_cons_succ]) | (refine tseq_read (v := ?_) rfl rfl rfl rfl (fun X hX => ?_) ?_; rotate_left; (focus (go_simp <;> with_reducible rfl)); simp only [Act.put, List.setIfInBounds_toArray, List.set_cons_zero, List.set_cons_succ]))
        (refine tseq_step rfl rfl rfl (fun K hK => ?_); go_simp)
        refine (spec_l1Text (l := x.le) g0 g1).mono ?_
        rintro e w3 ⟨t3, rfl, ht3, hx3⟩
        have hy3 := hy2.trans hx3
        have q2 : ¬ 9223372036854775807 < t.size + 1 + t2.size + t3.size := by omega
        refine hK.out _ _ hy3 ?_
        (try simp only [Act.put, List.setIfInBounds_toArray, List.set_cons_zero, List.set_cons_succ])
        repeat (first | (refine tseq_skip rfl rfl (by assumption) ?_; simp only [Act.put, List.setIfInBounds_toArray, List.set_cons_zero, List.set_cons_succ]) | (refine tseq_pure (v := ?_) rfl rfl rfl rfl (fun X => ?_) ?_; rotate_left; (focus (go_simp <;> with_reducible rfl)); simp only [Act.put, List.setIfInBounds_toArray, List.set_cons_zero, List.set_cons_succ]) | (refine tseq_read (v := ?_) rfl rfl rfl rfl (fun X hX => ?_) ?_; rotate_left; (focus (go_simp <;> with_reducible rfl)); simp only [Act.put, List.setIfInBounds_toArray, List.set_cons_zero, List.set_cons_succ]))
        (refine tseq_step rfl rfl rfl (fun K hK => ?_); go_simp)
        refine (spec_l19Dec (n := v) (by omega)).mono ?_
        rintro e w5 ⟨t5, rfl, ht5, hx5⟩
        have hy5 := hy3.trans hx5
        have q3 : ¬ 9223372036854775807 < t.size + 1 + t2.size + t3.size + t5.size := by omega
        refine hK.out _ _ hy5 ?_
        (try simp only [Act.put, List.setIfInBounds_toArray, List.set_cons_zero, List.set_cons_succ])
        repeat (first | (refine tseq_skip rfl rfl (by assumption) ?_; simp only [Act.put, List.setIfInBounds_toArray, List.set_cons_zero, List.set_cons_succ]) | (refine tseq_pure (v := ?_) rfl rfl rfl rfl (fun X => ?_) ?_; rotate_left; (focus (go_simp <;> with_reducible rfl)); simp only [Act.put, List.setIfInBounds_toArray, List.set_cons_zero, List.set_cons_succ]) | (refine tseq_read (v := ?_) rfl rfl rfl rfl (fun X hX => ?_) ?_; rotate_left; (focus (go_simp <;> with_reducible rfl)); simp only [Act.put, List.setIfInBounds_toArray, List.set_cons_zero, List.set_cons_succ]))
        refine tseq_nil ?_
        have hs6 : (t ++ { data := #[32] } ++ t2 ++ t3 ++ t5).size ≤ 20 + 20 * (k + 1) := by
          simp only [ByteArray.size_append]
          show t.size + 1 + t2.size + t3.size + t5.size ≤ _
          omega
        clear q0 q1 q2 q3
        go_wp2_with fail
        go_roundw
        case rel => exact ⟨k + 1, _, by omega, by go_num, rfl, hs6, (hext.trans hxq).trans hy5⟩
        case measure => simp [intOf]; omega
      · obtain rfl : n = k := by omega
        go_wp2_with fail
        go_ret
        have hv := H1.out
        exact ⟨t, rfl, fun h => absurd (hv.symm.trans h) (by decide), hw1.trans hext⟩
end Go.Proofs.Ytcmgkekaeafgaaa

namespace Go.Proofs.Ytcmgkekaeafgaaa
open Go Go.RowKit
set_option maxHeartbeats 2000000

/-- A system with few letters and few states, whose edges lie among them. -/
def Good (s : Sys) : Prop := ∃ a p : Nat, s.al = a ∧ a < 64 ∧ s.st = p ∧ 1 ≤ p ∧ p ≤ 16 ∧ Few p s.edges
/-- The edges of a system lie behind the source R, in a block of edges. -/
def SysIn (w : World) (R : Nat) (A : Option Addr) (n : Nat) (s : Sys) : Prop :=
  n = s.edges.length ∧ n ≤ 9223372036854775807 ∧ (0 < n → ∃ (g o : Nat) (cs : Array Value), A = some ⟨g, o, none⟩ ∧ R < g ∧ w.heap[g]? = some (.cells cs 65 (0, 0)) ∧ ∀ j u, (edgeCells s.edges)[j]? = some u → w.cell? ⟨g, o + j, none⟩ = some u)
theorem SysIn.at_ {w : World} {R n : Nat} {A : Option Addr} {s : Sys} (h : SysIn w R A n s) : SysAt w (R + 1) w.heap.size A n s := by
  refine ⟨h.1, by rw [edgeCells_length, ← h.1], h.2.1, fun h0 => ?_⟩
  obtain ⟨g, o, cs, e, hR, hh, hc⟩ := h.2.2 h0
  exact ⟨⟨g, o, none⟩, e, hR, (Array.getElem?_eq_some_iff.1 hh).1, fun j u hu => by rw [addr_lit]; exact hc j u hu⟩
/-- What turns other blocks alone leaves it as it is. -/
theorem SysIn.frm {S : Nat → Prop} {w w' : World} {R n : Nat} {A : Option Addr} {s : Sys} (h : SysIn w R A n s) (hb : Frm S w w') (hS : ∀ k, S k → R < k → ∀ cs, w.heap[k]? ≠ some (.cells cs 65 (0, 0))) : SysIn w' R A n s := by
  refine ⟨h.1, h.2.1, fun h0 => ?_⟩
  obtain ⟨g, o, cs, e, hR, hh, hc⟩ := h.2.2 h0
  have hlt := (Array.getElem?_eq_some_iff.1 hh).1
  have hn : ¬ S g := fun hs => hS g hs hR cs hh
  exact ⟨g, o, cs, e, hR, (hb.block g hlt hn).trans hh, fun j u hu => (World.cell?_of_block (w := w) (hb.block g hlt hn)).trans (hc j u hu)⟩
theorem SysIn.ext {w w' : World} {R n : Nat} {A : Option Addr} {s : Sys} (h : SysIn w R A n s) (hb : Ext w w') : SysIn w' R A n s := h.frm (S := fun _ => False) hb (fun _ hk => hk.elim)
theorem SysIn.dr {w w' : World} {R n : Nat} {A : Option Addr} {s : Sys} (h : SysIn w R A n s) (hb : Dr R w w') : SysIn w' R A n s := h.frm hb (fun k hk hR => by omega)
/-- A store into a variable of another type. -/
theorem SysIn.far {w w' : World} {R n Z : Nat} {A : Option Addr} {s : Sys} {cs : Array Value} {t : TypeId} (h : SysIn w R A n s) (hB : Blk w Z t cs) (ht : t ≠ 65) (hb : Frm (fun k => k = Z) w w') : SysIn w' R A n s := h.frm hb (fun k hk _ cs' hh => by
  subst hk
  unfold Blk at hB
  rw [hB] at hh
  injection hh with hh
  injection hh with _ h2
  exact ht h2)
theorem SysIn.own {w : World} {R base n c : Nat} {A : Option Addr} {s : Sys} (h : w.ownsRow base 65 3 (.slice A n c) n (edgeCells s.edges)) (hR : R < base) : SysIn w R A n s := by
  have hl : n = s.edges.length := by have := h.1; rw [edgeCells_length] at this; omega
  refine ⟨hl, (Reads.of_own h).len, fun h0 => ?_⟩
  rcases h.2 with ⟨_, h1⟩ | ⟨g, cap, cur, hv, hb, hh, _⟩
  · omega
  · have hA : A = some ⟨g, 0, none⟩ := by injection hv
    subst hA
    exact ⟨g, 0, cur, rfl, by omega, hh, fun j u hu => by
      have := h.cells (g := g) rfl j u hu
      rwa [addr_lit] at this⟩
theorem own_cap {w : World} {base : Nat} {e : TypeId} {size n c : Nat} {A : Option Addr} {xs : List Value} (h : w.ownsRow base e size (.slice A n c) n xs) : n ≤ c := by
  rcases h.2 with ⟨hv, h0⟩ | ⟨g, cap, cur, hv, _, _, hnc, _⟩
  · omega
  · injection hv with _ _ h3
    omega
/-- A system that was drawn. -/
def RetG (R M L : Nat) (w : World) (e : Ending) (w' : World) : Prop :=
  ∃ (s : Sys) (A : Option Addr) (n c : Nat), e = .returned (.agg #[.int .i64 s.al, .int .i64 s.st, .slice A n c]) ∧ SysIn w' R A n s ∧ Good s ∧ (n ≤ L ∧ n ≤ c) ∧ Rd w' R M ∧ Dr R w w'
/-- A system that was drawn, of whatever values. -/
def RetA (R M L : Nat) (w : World) (e : Ending) (w' : World) : Prop :=
  ∃ (s : Sys) (A : Option Addr) (n c : Nat), e = .returned (.agg #[.int .i64 s.al, .int .i64 s.st, .slice A n c]) ∧ SysIn w' R A n s ∧ (n ≤ L ∧ n ≤ c) ∧ Rd w' R M ∧ Dr R w w'
/-- The variable G holds a system that grows: its edges lie in memory that is newer than the world wB. -/
structure Acc (w0 wB W : World) (R G M : Nat) (al st : Int) (v : Value) (es : List Edg) : Prop where
  blk : Blk W G 35 #[.int .i64 al, .int .i64 st, v]
  own : W.ownsRow wB.heap.size 65 3 v es.length (edgeCells es)
  rd : Rd W R M
  dr : Dr R w0 W
  fr : Frm (fun k => k = R ∨ k = G) wB W
  hR : R < w0.heap.size
  hB : w0.heap.size ≤ wB.heap.size
  hG : w0.heap.size ≤ G
section
variable {w0 wB W W' : World} {R G M N : Nat} {al st : Int} {v : Value} {es : List Edg}
theorem Acc.more (h : Acc w0 wB W R G M al st v es) (hM : M ≤ N) : Acc w0 wB W R G N al st v es := { h with rd := h.rd.more hM }
theorem Acc.ext (h : Acc w0 wB W R G M al st v es) (hb : Ext W W') : Acc w0 wB W' R G M al st v es := ⟨h.blk.ext hb, own_ext h.own hb, h.rd.ext hb, h.dr.ext hb, h.fr.ext hb, h.hR, h.hB, h.hG⟩
theorem Acc.drawn (h : Acc w0 wB W R G M al st v es) (hb : Dr R W W') (hr : Rd W' R N) : Acc w0 wB W' R G N al st v es :=
  ⟨h.blk.dr hb (by have := h.hR; have := h.hG; omega), own_frm h.own hb (fun b hv hS => by have := (h.own.lt b hv).1; have := h.hR; have := h.hB; omega), hr, h.dr.trans hb, h.fr.trans (hb.mono fun k _ hk => Or.inl hk), h.hR, h.hB, h.hG⟩
theorem Acc.far (h : Acc w0 wB W R G M al st v es) {b : Nat} (hv : v.ownBlock = some b) : b ≠ G := by
  rintro rfl
  have hB := h.blk
  rcases h.own.2 with ⟨rfl, _⟩ | ⟨g, cap, cur, rfl, _, hh, _⟩
  · simp [Value.ownBlock] at hv
  · have hg : g = b := by simpa [Value.ownBlock] using hv
    subst hg
    unfold Blk at hB
    rw [hh] at hB
    injection hB with hB
    injection hB with _ ht
    exact absurd ht (by decide)
/-- The variable's other cells may be turned. -/
theorem Acc.setAl (h : Acc w0 wB W R G M al st v es) (x : Int) : Acc w0 wB (W.setCell ⟨G, 0, none⟩ (.int .i64 x)) R G M x st v es :=
  ⟨by simpa using h.blk.set_ 0 _, own_frm h.own (Frm.setCell W G 0 _) (fun b hv hS => h.far hv hS), h.rd.frm (Frm.setCell W G 0 _) (fun k hk hS => by have := h.hR; have := h.hG; omega), h.dr.setNew h.hG _, h.fr.cell (Or.inr rfl) _, h.hR, h.hB, h.hG⟩
theorem Acc.setSt (h : Acc w0 wB W R G M al st v es) (x : Int) : Acc w0 wB (W.setCell ⟨G, 1, none⟩ (.int .i64 x)) R G M al x v es :=
  ⟨by simpa using h.blk.set_ 1 _, own_frm h.own (Frm.setCell W G 1 _) (fun b hv hS => h.far hv hS), h.rd.frm (Frm.setCell W G 1 _) (fun k hk hS => by have := h.hR; have := h.hG; omega), h.dr.setNew h.hG _, h.fr.cell (Or.inr rfl) _, h.hR, h.hB, h.hG⟩
/-- One edge more: what 'append' left, and its store into the variable. -/
theorem Acc.push {g cap : Nat} {e : Edg} (h : Acc w0 wB W R G M al st v es) (hown : W'.ownsRow wB.heap.size 65 3 (.slice (some ⟨g, 0, none⟩) (es.length + 1) cap) (es.length + 1) (edgeCells es ++ [.int .i64 e.fr, .int .i64 e.le, .int .i64 e.to]))
    (hg : W.grownBy W' v.ownBlock) (hat : v.ownBlock = some g ∨ g = W.heap.size + 1) :
    Hid (W'.cell? ⟨G, 2, none⟩ = some v) ∧ W'.frozen? ⟨G, 2, none⟩ = false ∧ Acc w0 wB (W'.setCell ⟨G, 2, none⟩ (.slice (some ⟨g, 0, none⟩) (es.length + 1) cap)) R G M al st (.slice (some ⟨g, 0, none⟩) (es.length + 1) cap) (es ++ [e]) := by
  have hB : Blk W' G 35 #[.int .i64 al, .int .i64 st, v] := (hg.block G h.blk.lt (fun e => h.far e.symm rfl)).trans h.blk
  have hgG : g ≠ G := by
    rcases hat with h1 | h1
    · exact h.far h1
    · have := h.blk.lt; omega
  have hd : Dr R w0 W' := h.dr.grown hg (fun k hk => Nat.le_trans h.hB (h.own.lt k hk).1)
  have hr : Rd W' R M := h.rd.frm (Frm.of_grown hg) (fun k hk hS => by have := (h.own.lt k hS).1; have := h.hR; have := h.hB; omega)
  have hf : Frm (fun k => k = R ∨ k = G) wB W' :=
    ⟨hg.os.trans h.fr.os, hg.tape.trans h.fr.tape, hg.output.trans h.fr.output, Nat.le_trans h.fr.size hg.size,
      fun k hk hn => (hg.block k (Nat.lt_of_lt_of_le hk h.fr.size) (fun e => by have := (h.own.lt k e.symm).1; omega)).trans (h.fr.block k hk hn)⟩
  refine ⟨hB.cell 2, hB.frozen 2, ⟨by simpa using hB.set_ 2 _, ?_, hr.frm (Frm.setCell W' G 2 _) (fun k hk hS => by have := h.hR; have := h.hG; omega), hd.setNew h.hG _, hf.cell (Or.inr rfl) _, h.hR, h.hB, h.hG⟩⟩
  have := own_frm hown (Frm.setCell W' G 2 (.slice (some ⟨g, 0, none⟩) (es.length + 1) cap)) (fun b hv hS => by
    have : g = b := by simpa [Value.ownBlock] using hv
    omega)
  rw [edgeCells_append]
  simpa [edgeCells] using this
theorem Acc.reads {A : Option Addr} {n c : Nat} (h : Acc w0 wB W R G M al st (.slice A n c) es) : n = es.length ∧ SysAt W wB.heap.size W.heap.size A n ⟨al, st, es⟩ := by
  have hn : n = es.length := by
    rcases h.own.2 with ⟨hv, h0⟩ | ⟨g, cap, cur, hv, _⟩
    · injection hv with _ h2 _; omega
    · injection hv
  have ho := h.own
  rw [← hn] at ho
  exact ⟨hn, hn, Reads.of_own ho⟩
theorem Acc.form (h : Acc w0 wB W R G M al st v es) : ∃ A n c, v = .slice A n c := by
  obtain ⟨A, c, e⟩ := own_form h.own
  exact ⟨A, _, c, e⟩
/-- What is older than wB, and neither the source nor the variable, reads as it did. -/
theorem Acc.old (h : Acc w0 wB W R G M al st v es) {lo hi size n : Nat} {A : Option Addr} {xs : List Value} (hx : Reads wB lo hi size A n xs) (h1 : ∀ k, lo ≤ k → k < hi → k ≠ R ∧ k ≠ G) : Reads W lo hi size A n xs :=
  hx.frm h.fr (fun k a b hS => by have := h1 k a b; omega)
end
/-- The result's cells are filled. -/
theorem frm_fill (W : World) (Z : Nat) (u0 u1 u2 : Value) : Frm (fun k => k = Z) W (((W.setCell ⟨Z, 0, none⟩ u0).setCell ⟨Z, 1, none⟩ u1).setCell ⟨Z, 2, none⟩ u2) :=
  ((Frm.setCell W Z 0 u0).trans (Frm.setCell _ Z 1 u1)).trans (Frm.setCell _ Z 2 u2)
/-- What a function that builds a system hands back. -/
theorem Acc.fin {w0 wB W : World} {R G M Z : Nat} {al st : Int} {A : Option Addr} {n c : Nat} {es : List Edg} (h : Acc w0 wB W R G M al st (.slice A n c) es) (hZ : w0.heap.size ≤ Z) (hZ2 : Z < wB.heap.size) (u0 u1 u2 : Value) :
    SysIn (((W.setCell ⟨Z, 0, none⟩ u0).setCell ⟨Z, 1, none⟩ u1).setCell ⟨Z, 2, none⟩ u2) R A n ⟨al, st, es⟩ ∧
    Rd (((W.setCell ⟨Z, 0, none⟩ u0).setCell ⟨Z, 1, none⟩ u1).setCell ⟨Z, 2, none⟩ u2) R M ∧ Dr R w0 (((W.setCell ⟨Z, 0, none⟩ u0).setCell ⟨Z, 1, none⟩ u1).setCell ⟨Z, 2, none⟩ u2) := by
  have hf := frm_fill W Z u0 u1 u2
  obtain ⟨hn, _⟩ := h.reads
  have hR := h.hR
  have hB := h.hB
  have ho := h.own
  rw [← hn] at ho
  refine ⟨SysIn.own (s := ⟨al, st, es⟩) (own_frm ho hf (fun b hv hS => by have := (h.own.lt b hv).1; omega)) (by omega), h.rd.frm hf (fun k h1 h2 => by omega), ?_⟩
  exact ((h.dr.setNew (p := ⟨Z, 0, none⟩) hZ u0).setNew (p := ⟨Z, 1, none⟩) hZ u1).setNew (p := ⟨Z, 2, none⟩) hZ u2
end Go.Proofs.Ytcmgkekaeafgaaa

namespace Go.Proofs.Ytcmgkekaeafgaaa
open Go Go.RowKit
set_option maxHeartbeats 2000000

theorem few_snoc {p : Nat} {es : List Edg} {e : Edg} (h : Few p es) (he : (0 ≤ e.fr ∧ e.fr < p) ∧ (0 ≤ e.le ∧ e.le < 6) ∧ (0 ≤ e.to ∧ e.to < p)) : Few p (es ++ [e]) := fun x hx => by
  rcases List.mem_append.1 hx with h1 | h1
  · exact h x h1
  · rw [List.mem_singleton.1 h1]; exact he
theorem few_nil (p : Nat) : Few p [] := fun x hx => by cases hx

set_option maxRecDepth 100000 in
theorem spec_l2Random {R M a p : Nat} {few : Int} {w : World} (h : Rd w R M) (hM : M ≤ 900000000) (ha : a < 64) (hp1 : 1 ≤ p) (hp : p ≤ 16) :
    Calls Try.prog 31 #[.pointer (some ⟨R, 0, none⟩), .int .i64 a, .int .i64 p, .int .i64 few] w (RetG R (M + 20000) 20000 w) := by
  have hsm : Sm a := by unfold Sm; omega
  have hRl := h.lt
  go_enter Try.func31, Try.ntmps31
  go_wp2_with fail
  refine (spec_l1Letters a hsm _).mono ?_
  rintro e w1 ⟨B, d, rfl, hown1, hx1⟩
  obtain ⟨bz, bG⟩ := ext_blk2 hx1
  have hw1 := (((Ext.refl w).alloc _).alloc _).trans hx1
  have hl6 := letters_length a 6
  have hlm := hide (fun k (hk : k ∈ letters a 6) => (mem_letters.1 hk).1)
  have hrd1 := (Reads.of_own hown1).more (lo' := w.heap.size + 2) (hi' := w1.heap.size) (by simp) (Nat.le_refl _)
  have hacc : Acc w w1 w1 R (w.heap.size + 1) M a p (.slice none 0 0) [] := ⟨bG, World.ownsRow_nil _ _ _ _, h.ext hw1, hw1.dr, Frm.refl _ _, hRl, hw1.size, by omega⟩
  have bz1 : Blk w1 w.heap.size 35 #[.int .i64 0, .int .i64 0, .slice none 0 0] := bz
  clear hown1 bG hx1 bz
  generalize letters a 6 = ls at *
  have hz1 := hw1.size
  go_wp2_with fail
  go_loopw [11] (fun i wr => ∃ k : Nat, k ≤ p ∧ i = .int .i64 k ∧ ∃ (v : Value) (es : List Edg), Acc w w1 wr R (w.heap.size + 1) (M + k * 1000) a p v es ∧ es.length ≤ k * 1000 ∧ Hid (Few p es)) (fun i _ => p - (intOf i).toNat)
  case atStart => exact ⟨0, Nat.zero_le _, rfl, _, [], hacc.more (Nat.le_add_right _ _), Nat.zero_le _, few_nil p⟩
  case round =>
    clear hacc
    obtain ⟨k, hk, rfl, v, es, hacc, hel, hfew⟩ := hrel
    by_cases hlt : k < p
    · go_wp2_with fail
      go_loopw [12] (fun i wr => ∃ j : Nat, j ≤ ls.length ∧ i = .int .i64 j ∧ ∃ (v : Value) (es : List Edg), Acc w w1 wr R (w.heap.size + 1) (M + k * 1000 + j * 100) a p v es ∧ es.length ≤ k * 1000 + j * 100 ∧ Hid (Few p es)) (fun i _ => ls.length - (intOf i).toNat)
      case atStart => exact ⟨0, Nat.zero_le _, rfl, v, es, hacc.more (Nat.le_add_right _ _), Nat.le_trans hel (Nat.le_add_right _ _), hfew⟩
      case round =>
        clear hacc hel hfew
        obtain ⟨j, hj, rfl, v, es, hacc, hel, hfew⟩ := hrel
        by_cases hlj : j < ls.length
        · go_wp2_with fail
          go_loopw [13] (fun i wr => ∃ x : Nat, x ≤ p ∧ i = .int .i64 x ∧ ∃ (v : Value) (es : List Edg), Acc w w1 wr R (w.heap.size + 1) (M + k * 1000 + j * 100 + x) a p v es ∧ es.length ≤ k * 1000 + j * 100 + x ∧ Hid (Few p es)) (fun i _ => p - (intOf i).toNat)
          case atStart => exact ⟨0, Nat.zero_le _, rfl, v, es, hacc.more (Nat.le_add_right _ _), Nat.le_trans hel (Nat.le_add_right _ _), hfew⟩
          case round =>
            clear hacc hel hfew
            obtain ⟨x, hx, rfl, v, es, hacc, hel, hfew⟩ := hrel
            by_cases hlx : x < p
            · go_wp2_with fail
              refine (l19Rd_pick hacc.rd (by omega)).mono ?_
              rintro e w2 ⟨y, rfl, _, _, hr2, hd2⟩
              have hacc2 := hacc.drawn hd2 hr2
              obtain ⟨ad, l, rfl, _, hadhi, hl, hlc⟩ := (hacc2.old hrd1 (by omega)).nat hlj
              have hl6' := hlm.out l (List.mem_of_getElem? hl.out)
              by_cases hy : y = 0
              · subst hy
                have cG : ∀ W, Ext w2 W → ∀ q, W.cell? ⟨w.heap.size + 1, q, none⟩ = #[Value.int .i64 a, .int .i64 p, v][q]? := fun W hW => (hacc2.blk.ext hW).cell
                have cL : ∀ W, Ext w2 W → W.cell? (ad.add j) = some (.int .i64 (l : Nat)) := fun W hW => hW.cell_some hlc
                have hj0 : (0 : Int) ≤ (j : Int) := by omega
                have hj1 : (j : Int) < (ls.length : Int) := by omega
                go_wp2_with fail
                refine wp_region_tail (fun X => Ext w2 X) [10, 12] (Ord.of [0, 1, 2, 3, 4, 5, 6, 7, 8, 9, 10, 11, 12]) (by kernel_rfl) rfl (by kernel_rfl) (by kernel_rfl) (by kernel_rfl) (fun _ _ _ _ _ h => h) (by first | assumption | exact (Ext.refl _).drew | exact (Dr.refl _ _).drew | (refine Ext.drew ?_; assumption)) ?_
                repeat (first | (refine tseq_skip rfl rfl (by assumption) ?_; simp only [Act.put, List.setIfInBounds_toArray, List.set_cons_zero, List.set_cons_succ]) | (refine tseq_pure (v := ?_) rfl rfl rfl rfl (fun X => ?_) ?_; rotate_left; (focus (go_simp <;> with_reducible rfl)); simp only [Act.put, List.setIfInBounds_toArray, List.set_cons_zero, List.set_cons_succ]) | (refine tseq_read (v := ?_) rfl rfl rfl rfl (fun X hX => ?_) ?_; rotate_left; (focus (go_simp <;> with_reducible rfl)); simp only [Act.put, List.setIfInBounds_toArray, List.set_cons_zero, List.set_cons_succ]))
                (refine tseq_step rfl rfl rfl (fun K hK => ?_); go_simp)
                refine hK.out _ _ ((Ext.refl _).drew.alloc _) ?_
                (try simp only [Act.put, List.setIfInBounds_toArray, List.set_cons_zero, List.set_cons_succ])
                (refine tseq_last rfl rfl rfl rfl (fun K hK => ?_))
                refine wp_push w1 w2.drew _ _ _ rfl 65 _ 3 24 Try.underlying33 info_edge rfl (by decide) v es.length (edgeCells es) _ _ rfl rfl hacc2.fr.size hacc2.own rfl (by simp [Value.oneCell']) (by unfold maxLen; omega) (by omega) ?_
                intro g cap w3 hown3 hg3 hat3 hlt3
                refine hK.out _ _ ?_
                (try simp only [Act.put, List.setIfInBounds_toArray, List.set_cons_zero, List.set_cons_succ])
                repeat (first | (refine tseq_skip rfl rfl (by assumption) ?_; simp only [Act.put, List.setIfInBounds_toArray, List.set_cons_zero, List.set_cons_succ]) | (refine tseq_pure (v := ?_) rfl rfl rfl rfl (fun X => ?_) ?_; rotate_left; (focus (go_simp <;> with_reducible rfl)); simp only [Act.put, List.setIfInBounds_toArray, List.set_cons_zero, List.set_cons_succ]) | (refine tseq_read (v := ?_) rfl rfl rfl rfl (fun X hX => ?_) ?_; rotate_left; (focus (go_simp <;> with_reducible rfl)); simp only [Act.put, List.setIfInBounds_toArray, List.set_cons_zero, List.set_cons_succ]))
                obtain ⟨h1, h2, h3⟩ := (hacc2.ext ((Ext.refl _).drew)).push (e := ⟨k, l, x⟩) (W' := w3) hown3 hg3 hat3
                have h1' := h1.out
                (refine tseq_last rfl rfl rfl rfl (fun K hK => ?_))
                go_simp
                refine hK.out _ _ ?_
                refine tseq_nil ?_
                go_wp2_with fail
                go_roundw
                case rel => exact ⟨x + 1, by omega, by go_num, _, _, h3.more (by omega), by simp; omega, few_snoc hfew.out (by simp; omega)⟩
                case measure => simp [intOf]; omega
              · have hy' : ((y : Int) == 0) = false := by simp; omega
                go_wp2_with fail
                go_roundw
                case rel => exact ⟨x + 1, by omega, by go_num, v, es, hacc2.more (by omega), by omega, hfew⟩
                case measure => simp [intOf]; omega
            · obtain rfl : p = x := by omega
              have e1 : es.length ≤ k * 1000 + (j + 1) * 100 := by omega
              have e2 : M + k * 1000 + j * 100 + p ≤ M + k * 1000 + (j + 1) * 100 := by omega
              go_wp2_with fail
              go_roundw
              case rel => exact ⟨j + 1, by omega, by go_num, v, es, hacc.more e2, e1, hfew⟩
              case measure => simp [intOf]; omega
        · obtain rfl : j = ls.length := by omega
          have e1 : es.length ≤ (k + 1) * 1000 := by omega
          have e2 : M + k * 1000 + ls.length * 100 ≤ M + (k + 1) * 1000 := by omega
          go_wp2_with fail
          go_roundw
          case rel => exact ⟨k + 1, by omega, by go_num, v, es, hacc.more e2, e1, hfew⟩
          case measure => simp [intOf]; omega
    · obtain rfl : p = k := by omega
      obtain ⟨A, n, c, rfl⟩ := hacc.form
      obtain ⟨rfl, _⟩ := hacc.reads
      have hcap := own_cap hacc.own
      have cG := hacc.blk.cell
      have bz2 := bz1.frm hacc.fr (by omega)
      have cz := bz2.cell
      have hzz := bz1.lt
      have fz := bz2.frozen
      obtain ⟨f1, f2, f3⟩ := hacc.fin (Z := w.heap.size) (Nat.le_refl _) (by omega) (.int .i64 a) (.int .i64 p) (.slice A es.length c)
      have Hfin := hide (show RetG R (M + 20000) 20000 w (.returned (.agg #[.int .i64 a, .int .i64 p, .slice A es.length c])) _ from ⟨⟨a, p, es⟩, A, es.length, c, rfl, f1, ⟨a, p, rfl, ha, rfl, hp1, hp, hfew.out⟩, by omega, f2.more (by omega), f3⟩)
      clear bz1 hrd1 hlm f1 f2 f3
      go_wp2_with fail
      exact bodyPost_ret (v := .agg #[.int .i64 a, .int .i64 p, .slice A es.length c]) (by simp [results, Try.results31, go_sem, cz]) rfl Hfin.out
end Go.Proofs.Ytcmgkekaeafgaaa
