/- The reference's random source: what it draws lies between its bounds, and it turns nothing but its own place. | The reference's random source: numbers and strings out of lists; a source over some bytes. | Texts of the reference, by their shape alone: letters, alphabets, numbers. -/
import Derived.Test.YtplllipekeomiaaGreatDoorG01
import Derived.Test.YtplllipekeomiaaGreatDoorG05
import Derived.IntWalk
import Derived.Test.YtplllipekeomiaaGreatDoorG03
import Derived.Laws.BytesArg
namespace Go.Proofs.YtplllipekeomiaaGreatDoor
open Go Go.RowKit
set_option maxHeartbeats 1000000

/-- Nothing old has turned but the source R. -/
def Dr (R : Nat) (w w' : World) : Prop := Frm (fun k => k = R) w w'
theorem Dr.refl (R : Nat) (w : World) : Dr R w w := Frm.refl _ _
theorem Dr.trans {R : Nat} {a b c : World} (h : Dr R a b) (k : Dr R b c) : Dr R a c := Frm.trans h k
theorem Dr.ext {R : Nat} {a b c : World} (h : Dr R a b) (k : Ext b c) : Dr R a c := Frm.ext h k
theorem Ext.dr {R : Nat} {a b : World} (h : Ext a b) : Dr R a b := h.toFrm
theorem Dr.drew {R : Nat} {a w : World} (h : Dr R a w) : Dr R a w.drew := ⟨h.os, h.tape, h.output, h.size, h.block⟩
theorem Dr.drewN {R : Nat} {a w : World} (h : Dr R a w) (n : Nat) : Dr R a (w.drewN n) := ⟨h.os, h.tape, h.output, h.size, h.block⟩
theorem Dr.alloc {R : Nat} {a w : World} (h : Dr R a w) (o : Obj) : Dr R a (w.alloc o) := h.ext ((Ext.refl _).alloc _)
theorem Dr.setNew {R : Nat} {a w : World} (h : Dr R a w) {p : Addr} (hp : a.heap.size ≤ p.block) (u : Value) : Dr R a (w.setCell p u) :=
  ⟨h.os, h.tape, h.output, by simpa [World.setCell] using h.size, fun k hk hn => (Below.heap_setCell _ _ _ _ (by omega)).trans (h.block k hk hn)⟩
theorem Dr.grown {R : Nat} {a w w' : World} {row : Option Nat} (h : Dr R a w) (hg : w.grownBy w' row) (hr : ∀ k, row = some k → a.heap.size ≤ k) : Dr R a w' :=
  ⟨hg.os.trans h.os, hg.tape.trans h.tape, hg.output.trans h.output, Nat.le_trans h.size hg.size,
    fun k hk hn => (hg.block k (Nat.lt_of_lt_of_le hk h.size) (fun e => by have := hr k e.symm; omega)).trans (h.block k hk hn)⟩
theorem Blk.dr {w w' : World} {R g : Nat} {t : TypeId} {cs : Array Value} (h : Blk w g t cs) (hb : Dr R w w') (hg : g ≠ R) : Blk w' g t cs := h.frm hb hg
theorem Dr.cell_some {R : Nat} {w w' : World} (h : Dr R w w') {p : Addr} {v : Value} (hv : w.cell? p = some v) (hp : p.block ≠ R) : w'.cell? p = some v :=
  (World.cell?_of_block (w := w) (h.block _ (World.block_lt_of_cell? w p hv) hp)).trans hv
theorem bits_xor_nat {a b : Nat} (ha : a < 4611686018427387904) (hb : b < 4611686018427387904) : bits .xor .i64 (a : Int) (b : Int) = ((a ^^^ b : Nat) : Int) := by
  have hx : a ^^^ b < 2 ^ 62 := Nat.xor_lt_two_pow (by simpa using ha) (by simpa using hb)
  show IntKind.i64.wrap ((BitVec.ofInt 64 (a : Int) ^^^ BitVec.ofInt 64 (b : Int)).toNat : Int) = _
  rw [BitVec.toNat_xor, i64_toNat a (by omega), i64_toNat b (by omega), IntKind.wrap_i64]
  omega

end Go.Proofs.YtplllipekeomiaaGreatDoor

namespace Go.Proofs.YtplllipekeomiaaGreatDoor
open Go Go.RowKit
set_option maxHeartbeats 1000000

/-- The cells of a list of strings. -/
def strs (l : List ByteArray) : List Value := l.map Value.string
theorem strs_length (l : List ByteArray) : (strs l).length = l.length := by simp [strs]
theorem Reads.dr {w w' : World} {R lo hi size n : Nat} {A : Option Addr} {xs : List Value} (h : Reads w lo hi size A n xs) (hb : Dr R w w') (hR : R < lo) : Reads w' lo hi size A n xs :=
  h.frm hb (fun k h1 _ h2 => by omega)
/-- Bytes that came in. -/
def Bytes (w : World) (A : Option Addr) (n : Nat) : Prop := 0 < n → ∃ g o, A = some ⟨g, o, none⟩ ∧ g < w.heap.size ∧ ∀ j, j < n → ∃ b : Nat, b < 256 ∧ w.cell? ⟨g, o + j, none⟩ = some (.int .u8 b)
theorem Bytes.ext {w w' : World} {A : Option Addr} {n : Nat} (h : Bytes w A n) (hb : Ext w w') : Bytes w' A n := fun h0 => by
  obtain ⟨g, o, e, hg, hc⟩ := h h0
  exact ⟨g, o, e, Nat.lt_of_lt_of_le hg hb.size, fun j hj => by obtain ⟨b, h1, h2⟩ := hc j hj; exact ⟨b, h1, hb.cell_some h2⟩⟩
end Go.Proofs.YtplllipekeomiaaGreatDoor

namespace Go.Proofs.YtplllipekeomiaaGreatDoor
open Go Go.RowKit
set_option maxHeartbeats 1000000

/-- A string of at most L bytes; new memory alone. -/
def RetStr (L : Nat) (w : World) (e : Ending) (w' : World) : Prop := ∃ s : ByteArray, e = .returned (.string s) ∧ s.size ≤ L ∧ Ext w w'
theorem conv_one (w : World) (x : Int) : (convert 121 9 (.slice (some ⟨w.heap.size, 0, none⟩) 1 1)).run Tryz.prog (w.alloc (.cells #[.int .u8 x] 5)) = .ok (.string (strOfNums [x])) (w.alloc (.cells #[.int .u8 x] 5)) :=
  run_convert_bytes_arg _ _ 5 Tryz.underlying121 Tryz.underlying5 w.heap.size 0 1 1 [x] rfl (fun i hi => by
    obtain rfl : i = 0 := by omega
    rw [(Blk.new w 5 #[.int .u8 x]).cell]; rfl) _ Tryz.underlying9
theorem size_one (x : Int) : (strOfNums [x]).size = 1 := by simp [strOfNums]; rfl

theorem spec_l1Text {l : Int} {w : World} (h0 : 0 ≤ l) (h1 : l < 6) :
    Calls Tryz.prog 109 #[.int .i64 l] w (RetStr 1 w) := by
  have hc := conv_one w
  go_enter Tryz.func109, Tryz.ntmps109
  go_wp2
  go_ret
  exact ⟨_, rfl, Nat.le_of_eq (size_one _), (Ext.refl _).alloc _⟩
/-- A number below 64, or none. -/
def RetAl (w : World) (e : Ending) (w' : World) : Prop := ∃ (a : Nat) (ok : Bool), e = .returned (.tuple #[.int .i64 a, .bool ok]) ∧ a < 64 ∧ Ext w w'
end Go.Proofs.YtplllipekeomiaaGreatDoor
