/- math/bits.OnesCount of a small set; impl.rank. | Plain: what a closed set of states is; edges that rise with no two neighbours alike lead to one state. No program in sight. | impl.ReachableStates and impl.IsDeterministic, walked. | impl.subSystem and impl.TrimSystem, walked. | impl.QuotientSystem, walked. | Plain: bisimilarity goes on; quotients and trimmed systems stand for their systems. No program in sight. | Bytes, as a row's argument. | spec.QuotientSystem, walked. -/
import Derived.Test.YtmlembcpamchjaaDoorG11
import Derived.Test.YtmlembcpamchjaaDoorG01
import Derived.Test.YtmlembcpamchjaaDoorG06
import Derived.Test.YtmlembcpamchjaaDoorG05
import Derived.Test.YtmlembcpamchjaaDoorG04
import Derived.Test.YtmlembcpamchjaaDoorG07
import Derived.Deep.DeepCutAuto
import Derived.Test.YtmlembcpamchjaaDoorG09
import Derived.Test.YtmlembcpamchjaaDoorG02
import Derived.Test.YtmlembcpamchjaaDoorG08
import Derived.Test.YtmlembcpamchjaaDoorG03
namespace Go.Proofs.YtmlembcpamchjaaDoor
open Go Go.RowKit
set_option maxHeartbeats 1000000

/-- The bits of a number, counted as the library does. -/
def onesN (x : Nat) : Nat :=
  let a := ((x / 2) &&& 6148914691236517205) + (x &&& 6148914691236517205)
  let b := ((a / 4) &&& 3689348814741910323) + (a &&& 3689348814741910323)
  let c := ((b / 16) + b) &&& 1085102592571150095
  let d := c + c / 256
  let e := d + d / 65536
  let f := e + e / 4294967296
  f &&& 127
def c8 (x : Nat) : Nat := x % 2 + x / 2 % 2 + x / 4 % 2 + x / 8 % 2 + x / 16 % 2 + x / 32 % 2 + x / 64 % 2 + x / 128 % 2
set_option maxRecDepth 100000 in
theorem onesN_c8 : ∀ a : Fin 256, ∀ b : Fin 256, onesN (a.val * 256 + b.val) = c8 a.val + c8 b.val := by decide +kernel
theorem c8_rk : ∀ a : Fin 256, c8 a.val = (letters a.val 8).length := by decide +kernel
theorem rk_hi (x k : Nat) : rk x (8 + k) = rk x 8 + rk (x / 256) k := by
  induction k with
  | zero => rfl
  | succ k ih =>
    have e : (x / 256).testBit k = x.testBit (8 + k) := by rw [show (256 : Nat) = 2 ^ 8 from rfl, Nat.testBit_div_two_pow, Nat.add_comm]
    rw [← Nat.add_assoc, rk_succ x (8 + k), rk_succ (x / 256) k, ih, e]
    omega
theorem rk_lo (x : Nat) : ∀ k, k ≤ 8 → rk (x % 256) k = rk x k
  | 0, _ => rfl
  | k + 1, h => by
    rw [rk_succ, rk_succ, rk_lo x k (by omega), show (256 : Nat) = 2 ^ 8 from rfl, Nat.testBit_mod_two_pow]
    simp [show k < 8 by omega]
theorem rk_top {x n : Nat} (h : x < 2 ^ n) : ∀ d, rk x (n + d) = rk x n
  | 0 => rfl
  | d + 1 => by
    rw [← Nat.add_assoc, rk_succ, rk_top h d, Nat.testBit_lt_two_pow (Nat.lt_of_lt_of_le h (Nat.pow_le_pow_right (by omega) (by omega)))]
    rfl
theorem onesN_rk {x : Nat} (h : x < 65536) : onesN x = rk x 32 := by
  have e := onesN_c8 ⟨x / 256, by omega⟩ ⟨x % 256, by omega⟩
  have e1 : c8 (x / 256) = rk (x / 256) 8 := c8_rk ⟨x / 256, by omega⟩
  have e2 : c8 (x % 256) = rk (x % 256) 8 := c8_rk ⟨x % 256, by omega⟩
  simp only at e
  rw [show x / 256 * 256 + x % 256 = x by omega] at e
  have h1 : rk x 32 = rk x 16 := rk_top (n := 16) h 16
  have h2 : rk x 16 = rk x 8 + rk (x / 256) 8 := rk_hi x 8
  have h3 := rk_lo x 8 (Nat.le_refl _)
  omega
theorem and_u64 {a b : Nat} (ha : a < 18446744073709551616) (hb : b < 18446744073709551616) : bits .and .u64 (a : Int) (b : Int) = ((a &&& b : Nat) : Int) := by
  have hx : a &&& b ≤ a := Nat.and_le_left
  show IntKind.u64.wrap ((BitVec.ofInt 64 (a : Int) &&& BitVec.ofInt 64 (b : Int)).toNat : Int) = _
  rw [BitVec.toNat_and, BitVec.ofInt_natCast, BitVec.ofInt_natCast, BitVec.toNat_ofNat, BitVec.toNat_ofNat, Nat.mod_eq_of_lt (by omega), Nat.mod_eq_of_lt (by omega), IntKind.wrap_u64]
  omega
theorem and_u64c {a : Nat} (ha : a < 18446744073709551616) (C : Nat) (hb : C < 18446744073709551616) (I : Int) (hI : I = (C : Int)) : bits .and .u64 (a : Int) I = ((a &&& C : Nat) : Int) := by
  subst hI
  exact and_u64 ha hb
theorem ones64 {x : Nat} (hx : x < 65536) (w : World) : Calls Tryd.prog 100 #[.int .u64 (x : Nat)] w fun e w' => e = .returned (.int .i64 (rk x 32 : Nat)) ∧ w = w' := by
  have hr0 := onesN_rk hx
  dsimp only [onesN] at hr0
  have hres := hide hr0
  clear hr0
  have wr : ∀ y : Nat, y < 18446744073709551616 → IntKind.u64.wrap (y : Int) = (y : Int) := fun y hy => by rw [IntKind.wrap_u64]; omega
  have l1 : x / 2 &&& 6148914691236517205 ≤ x / 2 := Nat.and_le_left
  have l2 : x &&& 6148914691236517205 ≤ x := Nat.and_le_left
  have a1 : bits .and .u64 ((x : Int) / 2) 6148914691236517205 = ((x / 2 &&& 6148914691236517205 : Nat) : Int) := and_u64c (a := x / 2) (by omega) 6148914691236517205 (by omega) _ rfl
  have a2 : bits .and .u64 (x : Int) 6148914691236517205 = ((x &&& 6148914691236517205 : Nat) : Int) := and_u64c (a := x) (by omega) 6148914691236517205 (by omega) _ rfl
  generalize x / 2 &&& 6148914691236517205 = u1 at *
  generalize x &&& 6148914691236517205 = u2 at *
  have a3 : IntKind.u64.wrap ((u1 : Int) + (u2 : Int)) = ((u1 + u2 : Nat) : Int) := by rw [← Int.natCast_add]; exact wr _ (by omega)
  obtain ⟨a, ha⟩ : ∃ a, a = u1 + u2 := ⟨_, rfl⟩
  rw [← ha] at a3 hres
  have l3 : a / 4 &&& 3689348814741910323 ≤ a / 4 := Nat.and_le_left
  have l4 : a &&& 3689348814741910323 ≤ a := Nat.and_le_left
  have b1 : bits .and .u64 ((a : Int) / 4) 3689348814741910323 = ((a / 4 &&& 3689348814741910323 : Nat) : Int) := and_u64c (a := a / 4) (by omega) 3689348814741910323 (by omega) _ rfl
  have b2 : bits .and .u64 (a : Int) 3689348814741910323 = ((a &&& 3689348814741910323 : Nat) : Int) := and_u64c (a := a) (by omega) 3689348814741910323 (by omega) _ rfl
  generalize a / 4 &&& 3689348814741910323 = v1 at *
  generalize a &&& 3689348814741910323 = v2 at *
  have b3 : IntKind.u64.wrap ((v1 : Int) + (v2 : Int)) = ((v1 + v2 : Nat) : Int) := by rw [← Int.natCast_add]; exact wr _ (by omega)
  obtain ⟨b, hb⟩ : ∃ b, b = v1 + v2 := ⟨_, rfl⟩
  rw [← hb] at b3 hres
  have d1 : IntKind.u64.wrap ((b : Int) / 16 + (b : Int)) = ((b / 16 + b : Nat) : Int) := by rw [show (b : Int) / 16 + (b : Int) = ((b / 16 + b : Nat) : Int) by omega]; exact wr _ (by omega)
  obtain ⟨k, hk⟩ : ∃ k, k = b / 16 + b := ⟨_, rfl⟩
  rw [← hk] at d1 hres
  have l5 : k &&& 1085102592571150095 ≤ k := Nat.and_le_left
  have d2 : bits .and .u64 (k : Int) 1085102592571150095 = ((k &&& 1085102592571150095 : Nat) : Int) := and_u64c (a := k) (by omega) 1085102592571150095 (by omega) _ rfl
  generalize k &&& 1085102592571150095 = c at *
  have e1 : IntKind.u64.wrap ((c : Int) + (c : Int) / 256) = ((c + c / 256 : Nat) : Int) := by rw [show (c : Int) + (c : Int) / 256 = ((c + c / 256 : Nat) : Int) by omega]; exact wr _ (by omega)
  obtain ⟨d, hd⟩ : ∃ d, d = c + c / 256 := ⟨_, rfl⟩
  rw [← hd] at e1 hres
  have e2 : IntKind.u64.wrap ((d : Int) + (d : Int) / 65536) = ((d + d / 65536 : Nat) : Int) := by rw [show (d : Int) + (d : Int) / 65536 = ((d + d / 65536 : Nat) : Int) by omega]; exact wr _ (by omega)
  obtain ⟨e, he⟩ : ∃ e, e = d + d / 65536 := ⟨_, rfl⟩
  rw [← he] at e2 hres
  have e3 : IntKind.u64.wrap ((e : Int) + (e : Int) / 4294967296) = ((e + e / 4294967296 : Nat) : Int) := by rw [show (e : Int) + (e : Int) / 4294967296 = ((e + e / 4294967296 : Nat) : Int) by omega]; exact wr _ (by omega)
  obtain ⟨f, hf⟩ : ∃ f, f = e + e / 4294967296 := ⟨_, rfl⟩
  rw [← hf] at e3 hres
  have hfs : f < 4294967296 := by omega
  have f1 := hide (bits_and (a := f) (b := 127) hfs (by unfold Sm; omega))
  have f2 : IntKind.i64.wrap (f : Int) = (f : Int) := IntWalk.i64_in _ (by omega)
  clear ha hb hk hd he hf l1 l2 l3 l4 l5 wr
  go_enter Tryd.func100, Tryd.ntmps100
  go_wp2
  go_ret
  exact ⟨ret_int (by rw [← hres.out]; exact f1.out), rfl⟩
theorem ones {x : Nat} (hx : x < 65536) (w : World) : Calls Tryd.prog 76 #[.int .u64 (x : Nat)] w fun e w' => e = .returned (.int .i64 (rk x 32 : Nat)) ∧ w = w' := by
  go_enter Tryd.func76, Tryd.ntmps76
  go_wp2_with (go_at_call 100; refine (ones64 hx _).mono ?_; rintro e w' ⟨rfl, rfl⟩)
  go_ret
  exact ⟨rfl, rfl⟩
theorem rk_mask (R : Nat) {n : Nat} (hn : n ≤ 32) : rk (R &&& (2 ^ n - 1)) 32 = rk R n := by
  have key : ∀ k, rk (R &&& (2 ^ n - 1)) k = rk R (min k n) := by
    intro k
    induction k with
    | zero => simp [rk, letters_zero]
    | succ k ih =>
      rw [rk_succ, ih, Nat.testBit_and, Nat.testBit_two_pow_sub_one]
      by_cases h : k < n
      · rw [show min (k + 1) n = min k n + 1 by omega, show min k n = k by omega, rk_succ]
        simp [h]
      · rw [show min (k + 1) n = min k n by omega]
        simp [h]
  rw [key, show min 32 n = n by omega]
theorem impl_rank {R n : Nat} (hR : R < 65536) (hn : n < 32) (w : World) : Calls Tryd.prog 77 #[.int .i64 (R : Nat), .int .i64 (n : Nat)] w fun e w' => e = .returned (.int .i64 (rk R n : Nat)) ∧ w = w' := by
  have hp := (Sm.bit hn).lt
  have h1 := Nat.two_pow_pos n
  have hw := wrap_pow hn
  have hm := hide (rk_mask R (n := n) (by omega))
  generalize 2 ^ n = q at *
  have hb := bits_and (a := R) (b := q - 1) (by unfold Sm; omega) (by unfold Sm; omega)
  rw [show ((q - 1 : Nat) : Int) = (q : Int) - 1 by omega] at hb
  have hle : R &&& (q - 1) < 65536 := Nat.lt_of_le_of_lt Nat.and_le_left hR
  generalize R &&& (q - 1) = m at *
  have hu : IntKind.u64.wrap (m : Int) = (m : Int) := by rw [IntKind.wrap_u64]; omega
  have ho := hide (fun W => ones hle W)
  rw [← hm.out]
  clear hm
  generalize rk m 32 = r at *
  go_enter Tryd.func77, Tryd.ntmps77
  go_wp2_with (go_at_call 76; refine (ho.out _).mono ?_; rintro e w' ⟨rfl, rfl⟩)
  go_ret
  exact ⟨rfl, rfl⟩
end Go.Proofs.YtmlembcpamchjaaDoor

namespace Go.Proofs.YtmlembcpamchjaaDoor
open Go Go.RowKit

section
variable {es : List Edg} {p : Nat}
/-- Up to n, no neighbours leave one reachable state by one letter. -/
def NoTwin (es : List Edg) (R n : Nat) : Prop := ∀ (k : Nat) (x y : Edg), es[k]? = some x → es[k + 1]? = some y → k + 1 < n → ¬ (hasB R x.fr = true ∧ x.fr = y.fr ∧ x.le = y.le)
theorem NoTwin.det {R : Nat} (hr : Rising es) (hR : RchSet es p R) (h : NoTwin es R es.length) : Det es := by
  have key : ∀ (a b : Nat) (x y : Edg), es[a]? = some x → es[b]? = some y → a < b → x.fr = y.fr → x.le = y.le → hasB R x.fr = true → False := by
    intro a b x y hx hy hab h1 h2 h3
    have hb := (List.getElem?_eq_some_iff.1 hy).1
    obtain ⟨z, hz⟩ : ∃ z, es[a + 1]? = some z := ⟨_, List.getElem?_eq_getElem (by omega)⟩
    have e1 := hr a (a + 1) x z hx hz (by omega)
    have e2 : z.fr = x.fr ∧ z.le = x.le := by
      rcases Nat.lt_or_ge (a + 1) b with h4 | h4
      · have e3 := hr (a + 1) b z y hz hy h4
        unfold ltE at e1 e3
        (repeat' split at e1) <;> (repeat' split at e3) <;> simp only [decide_eq_true_eq] at e1 e3 <;> omega
      · obtain rfl : b = a + 1 := by omega
        rw [hz] at hy
        obtain rfl := Option.some.inj hy
        exact ⟨h1.symm, h2.symm⟩
    exact h a x z hx hz (by omega) ⟨h3, e2.1.symm, e2.2.symm⟩
  intro i l k k' hi hk hk'
  obtain ⟨e, he, e1, e2, e3⟩ := hk
  obtain ⟨f, hf', f1, f2, f3⟩ := hk'
  obtain ⟨a, ha⟩ := List.getElem?_of_mem he
  obtain ⟨b, hb⟩ := List.getElem?_of_mem hf'
  have hi' : hasB R e.fr = true := by
    simp only [hasB, Bool.and_eq_true, decide_eq_true_eq]
    rw [e1]
    exact ⟨by omega, (hR.2 i).2 hi⟩
  rcases Nat.lt_trichotomy a b with h1 | h1 | h1
  · exact (key a b e f ha hb h1 (by omega) (by omega) hi').elim
  · subst h1
    rw [ha] at hb
    obtain rfl := Option.some.inj hb
    omega
  · exact (key b a f e hb ha h1 (by omega) (by omega) (by rw [f1, ← e1]; exact hi')).elim
/-- A set of reachable states, the first among them. -/
def RIn (es : List Edg) (p R : Nat) : Prop := R < 2 ^ p ∧ R.testBit 0 = true ∧ ∀ i, R.testBit i = true → Rch es i
/-- The states that a set leads to by letters below j, and the set. -/
def More (es : List Edg) (R j M : Nat) : Prop := ∀ k, M.testBit k = true ↔ R.testBit k = true ∨ ∃ l, l < j ∧ (stepB es R (l : Nat)).testBit k = true
theorem More.zero (R : Nat) : More es R 0 R := fun k => ⟨Or.inl, fun h => h.elim id (fun ⟨_, h, _⟩ => by omega)⟩
theorem More.succ {R j M : Nat} (h : More es R j M) : More es R (j + 1) (M ||| stepB es R (j : Nat)) := fun k => by
  rw [Nat.testBit_or, Bool.or_eq_true, h k]
  constructor
  · rintro ((h1 | ⟨l, h1, h2⟩) | h1)
    · exact Or.inl h1
    · exact Or.inr ⟨l, by omega, h2⟩
    · exact Or.inr ⟨j, by omega, h1⟩
  · rintro (h1 | ⟨l, h1, h2⟩)
    · exact Or.inl (Or.inl h1)
    · rcases Nat.lt_or_ge l j with h3 | h3
      · exact Or.inl (Or.inr ⟨l, h3, h2⟩)
      · obtain rfl : l = j := by omega
        exact Or.inr h2
theorem More.lt (hf : Few p es) {R j M : Nat} (hR : R < 2 ^ p) (h : More es R j M) : M < 2 ^ p := by
  apply Nat.lt_pow_two_of_testBit
  intro k hk
  rw [Bool.eq_false_iff]
  intro hb
  rcases (h k).1 hb with h1 | ⟨l, _, h1⟩
  · rw [Nat.testBit_lt_two_pow (Nat.lt_of_lt_of_le hR (Nat.pow_le_pow_right (by omega) hk))] at h1; cases h1
  · rw [Nat.testBit_lt_two_pow (Nat.lt_of_lt_of_le (stepB_lt hf R l) (Nat.pow_le_pow_right (by omega) hk))] at h1; cases h1
theorem More.in_ (hf : Few p es) {R j M : Nat} (hR : RIn es p R) (h : More es R j M) : RIn es p M := by
  refine ⟨h.lt hf hR.1, (h 0).2 (Or.inl hR.2.1), fun k hk => ?_⟩
  rcases (h k).1 hk with h1 | ⟨l, _, h1⟩
  · exact hR.2.2 k h1
  · obtain ⟨e, he, ⟨e1, e2⟩, e3⟩ := (stepB_bit es R l k).1 h1
    have := hf e he
    exact (hR.2.2 _ e2).step ⟨e, he, by omega, e1, by omega⟩
theorem le_of_bits {a b : Nat} (h : ∀ k, a.testBit k = true → b.testBit k = true) : a ≤ b := by
  have e : a ||| b = b := or_same h
  rw [← e]
  exact Nat.left_le_or
theorem More.le {R j M : Nat} (h : More es R j M) : R ≤ M := le_of_bits fun k hk => (h k).2 (Or.inl hk)
theorem More.done (hf : Few p es) {R : Nat} (hR : RIn es p R) (h : More es R 6 R) : RchSet es p R := by
  refine ⟨hR.1, fun i => ⟨hR.2.2 i, fun hi => ?_⟩⟩
  induction hi with
  | zero => exact hR.2.1
  | @step i l k _ hk ih =>
    obtain ⟨e, he, e1, e2, e3⟩ := hk
    have := hf e he
    refine (h k).2 (Or.inr ⟨l, by omega, (stepB_bit es R l k).2 ⟨e, he, ⟨e2, ?_⟩, by omega⟩⟩)
    rw [show e.fr.toNat = i by omega]
    exact ih
theorem RIn.start (hp : 1 ≤ p) : RIn es p 1 := by
  refine ⟨?_, rfl, fun i hi => ?_⟩
  · have := Nat.pow_le_pow_right (n := 2) (by omega) hp
    omega
  · have : i = 0 := by
      rcases Nat.eq_zero_or_pos i with h | h
      · exact h
      · obtain ⟨j, rfl⟩ : ∃ j, i = j + 1 := ⟨i - 1, by omega⟩
        rw [Nat.testBit_succ] at hi
        simp at hi
    subst this
    exact .zero
end
end Go.Proofs.YtmlembcpamchjaaDoor

namespace Go.Proofs.YtmlembcpamchjaaDoor
open Go Go.RowKit
set_option maxHeartbeats 2000000

theorem pow16 {x p : Nat} (h : x < 2 ^ p) (hp : p ≤ 16) : x < 65536 := Nat.lt_of_lt_of_le h (by rw [show (65536 : Nat) = 2 ^ 16 from rfl]; exact Nat.pow_le_pow_right (by omega) hp)
theorem impl_ReachableStates {lo hi : Nat} {A : Option Addr} {n c p : Nat} {s : Sys} {w : World} (h : SysAt w lo hi A n s) (hT : Tab w) (hv : sysValid s = true) (hp : s.st = p) :
    Calls Tryd.prog 53 #[.agg #[.int .i64 s.al, .int .i64 s.st, .slice A n c]] w fun e w' => ∃ R : Nat, e = .returned (.int .i64 R) ∧ Hid (RchSet s.edges p R) ∧ Ext w w' := by
  obtain ⟨p', hp', hp1, hp2, hf⟩ := valid_few hv
  obtain rfl : p' = p := by omega
  have HS := hide (fun W (hW : Ext w W) => h.ext hW)
  have HTab := hide (fun W (hW : Ext w W) => hT.ext hW)
  have Hf := hide hf
  have Hv := hide hv
  clear hf hv h hT hp hp'
  go_enter Tryd.func53, Tryd.ntmps53
  go_wp2_with fail
  refine (impl_SystemValid (HS.out _ ((Ext.refl _).alloc _))).mono ?_
  rw [Hv.out]
  rintro e w1 ⟨rfl, hx1⟩
  have b1 := (Blk.new w 28 #[.int .i64 s.al, .int .i64 s.st, .slice A n c]).ext hx1
  have k1 := b1.cell
  have hw1 := ((Ext.refl w).alloc (.cells #[.int .i64 s.al, .int .i64 s.st, .slice A n c] 28)).trans hx1
  go_wp2_with fail
  refine (impl_movesOf (HS.out _ hw1) (fun e he => by have := Hf.out e he; omega)).mono ?_
  rintro e w2 ⟨b, rfl, hb, hM, hx2⟩
  have hw2 := hw1.trans hx2
  have HM := hide (fun W (hW : Ext w2 W) => (hM.ext hW).at_)
  clear hM k1 b1 hx1 hx2 hw1
  go_wp2_with fail
  go_loopw [4, 5, 6] (fun v _ _ wr => ∃ x : Nat, v = .int .i64 x ∧ x < 65536 ∧ Hid (RIn s.edges p' x) ∧ Ext w2 wr) (fun v _ _ _ => 65536 - (intOf v).toNat)
  case atStart => exact ⟨1, rfl, by omega, RIn.start hp1, Ext.refl _⟩
  case round =>
    obtain ⟨x, rfl, hx, hR, hxr⟩ := hrel
    go_wp2_with fail
    go_loopw [5, 6, 13] (fun v _ i wr => ∃ j M : Nat, i = .int .i64 j ∧ j ≤ 6 ∧ v = .int .i64 M ∧ M < 65536 ∧ Hid (More s.edges x j M) ∧ Ext w2 wr) (fun _ _ i _ => 6 - (intOf i).toNat)
    case atStart => exact ⟨0, x, rfl, by omega, rfl, hx, More.zero x, hxr⟩
    case round =>
      clear hxr
      obtain ⟨j, M, rfl, hj, rfl, hMl, hMo, hxr⟩ := hrel
      by_cases hj6 : j < 6
      · have hst := hide (impl_step (HM.out _ hxr) (HTab.out _ (hw2.trans hxr)) (show x < 2 ^ 16 from hx) hj6 Hf.out hp2)
        have hsm := stepB_sm Hf.out hp2 x j
        have hor := hide (bits_or (a := M) (by unfold Sm; omega) hsm)
        have hmo := hide hMo.out.succ
        have hlt := pow16 (hmo.out.lt Hf.out hR.out.1) hp2
        clear hMo
        generalize stepB s.edges x (j : Nat) = y at *
        go_wp2_with fail
        refine hst.out.mono ?_
        rintro e w4 ⟨rfl, hx4⟩
        go_wp2_with fail
        go_roundw
        case rel => exact ⟨j + 1, M ||| y, by go_num, by omega, by rw [hor.out], hlt, hmo, hxr.trans hx4⟩
        case measure => simp [intOf]; omega
      · obtain rfl : j = 6 := by omega
        by_cases hMx : M = x
        · subst hMx
          have hres := hide (hMo.out.done Hf.out hR.out)
          have hfin := hw2.trans hxr
          go_wp2_with fail
          go_ret
          exact ⟨M, rfl, hres, hfin⟩
        · have hne : ((M : Int) == (x : Int)) = false := by simp; omega
          have hle := hMo.out.le
          have hin := hide (hMo.out.in_ Hf.out hR.out)
          go_wp2_with fail
          go_roundw
          case rel => exact ⟨M, rfl, hMl, hin, hxr⟩
          case measure => simp [intOf]; omega

theorem fill_frm (W : World) (Z : Nat) (u0 u1 u2 : Value) : Frm (fun k => k = Z) W (((W.setCell ⟨Z, 0, none⟩ u0).setCell ⟨Z, 1, none⟩ u1).setCell ⟨Z, 2, none⟩ u2) :=
  ((Frm.setCell W Z 0 u0).trans (Frm.setCell _ Z 1 u1)).trans (Frm.setCell _ Z 2 u2)
theorem fill_blk {w : World} {Z : Nat} {cs : Array Value} {t : TypeId} (h : Blk w Z t cs) (hc : cs.size = 3) (u0 u1 u2 : Value) : Blk (((w.setCell ⟨Z, 0, none⟩ u0).setCell ⟨Z, 1, none⟩ u1).setCell ⟨Z, 2, none⟩ u2) Z t #[u0, u1, u2] := by
  obtain ⟨l⟩ := cs
  match l, hc with
  | [a, b, c], _ => simpa using ((h.set_ 0 u0).set_ 1 u1).set_ 2 u2
/-- Two new variables that hold edges. -/
def TwoE (w W : World) (g h : Nat) (x y : Edg) : Prop := Ext w W ∧ Blk W g 52 #[.int .i64 x.fr, .int .i64 x.le, .int .i64 x.to] ∧ Blk W h 52 #[.int .i64 y.fr, .int .i64 y.le, .int .i64 y.to]
/-- What IsDeterministic answers. -/
def RetDet (w : World) (s : Sys) (e : Ending) (w' : World) : Prop := ∃ b : Bool, e = .returned (.bool b) ∧ Hid (b = true ↔ sysValid s = true ∧ Det s.edges) ∧ Ext w w'
set_option maxRecDepth 100000 in
theorem impl_IsDeterministic {lo hi : Nat} {A : Option Addr} {n c : Nat} {s : Sys} {w : World} (h : SysAt w lo hi A n s) (hT : Tab w) :
    Calls Tryd.prog 24 #[.agg #[.int .i64 s.al, .int .i64 s.st, .slice A n c]] w (RetDet w s) := by
  have HS := hide (fun W (hW : Ext w W) => h.ext hW)
  have hL := hide h.1
  have hnm := h.2.len
  have HTab := hide (fun W (hW : Ext w W) => hT.ext hW)
  clear h hT
  cases hv : sysValid s
  · have Hv := hide hv
    clear hv
    go_enter Tryd.func24, Tryd.ntmps24
    go_wp2_with fail
    refine (impl_SystemValid (HS.out _ ((Ext.refl _).alloc _))).mono ?_
    rw [Hv.out]
    rintro e w1 ⟨rfl, hx1⟩
    have hw1 := ((Ext.refl w).alloc (.cells #[.int .i64 s.al, .int .i64 s.st, .slice A n c] 28)).trans hx1
    go_wp2_with fail
    go_ret
    exact ⟨false, rfl, (show Hid _ from ⟨fun h => (by cases h), fun h => absurd h.1 (by rw [Hv.out]; decide)⟩), hw1⟩
  · obtain ⟨p, hp, hp1, hp2, hf⟩ := valid_few hv
    have Hf := hide hf
    have Hv := hide hv
    have Hp := hide hp
    clear hf hv hp
    go_enter Tryd.func24, Tryd.ntmps24
    go_wp2_with fail
    refine (impl_SystemValid (HS.out _ ((Ext.refl _).alloc _))).mono ?_
    rw [Hv.out]
    rintro e w1 ⟨rfl, hx1⟩
    have b1 := (Blk.new w 28 #[.int .i64 s.al, .int .i64 s.st, .slice A n c]).ext hx1
    have k1 := b1.cell
    have hw1 := ((Ext.refl w).alloc (.cells #[.int .i64 s.al, .int .i64 s.st, .slice A n c] 28)).trans hx1
    go_wp2_with fail
    refine (impl_ReachableStates (HS.out _ hw1) (HTab.out _ hw1) Hv.out Hp.out).mono ?_
    rintro e w2 ⟨R, rfl, hR, hx2⟩
    have hw2 := hw1.trans hx2
    have b2 := b1.ext hx2
    have hRs : R < 65536 := pow16 hR.out.1 hp2
    clear k1 b1 hx1 hx2 hw1
    go_wp2_with fail
    go_loopw [4, 5, 6] (fun i _ _ wr => ∃ k : Nat, i = .int .i64 ((k : Int) + 1) ∧ (k + 1 ≤ n ∨ k = 0) ∧ Hid (NoTwin s.edges R (k + 1)) ∧ Ext w2 wr) (fun i _ _ _ => n + 1 - (intOf i).toNat)
    case atStart => exact ⟨0, rfl, Or.inr rfl, (show NoTwin s.edges R (0 + 1) from fun k x y _ _ h => by omega), Ext.refl _⟩
    case round =>
      obtain ⟨k, rfl, hk, hNo, hxr⟩ := hrel
      have k1 := (b2.ext hxr).cell
      by_cases hlt : k + 1 < n
      · obtain ⟨g, o, x, rfl, hlo, hhi, hx, c0, c1, c2⟩ := (HS.out wr (hw2.trans hxr)).2.edge (show k < n by omega)
        obtain ⟨y, hy⟩ : ∃ y, Hid (s.edges[k + 1]? = some y) := ⟨_, List.getElem?_eq_getElem (by have := hL.out; omega)⟩
        obtain ⟨d0, d1, d2⟩ := (HS.out wr (hw2.trans hxr)).2.edge2 hy.out
        have hxb := Hf.out x (List.mem_of_getElem? hx.out)
        have C0 : ∀ W, Ext wr W → W.cell? ⟨g, o + k * 3, none⟩ = some (.int .i64 x.fr) := fun W hW => hW.cell_some c0
        have C1 : ∀ W, Ext wr W → W.cell? ⟨g, o + k * 3 + 1, none⟩ = some (.int .i64 x.le) := fun W hW => hW.cell_some c1
        have C2 : ∀ W, Ext wr W → W.cell? ⟨g, o + k * 3 + 2, none⟩ = some (.int .i64 x.to) := fun W hW => hW.cell_some c2
        have D0 : ∀ W, Ext wr W → W.cell? ⟨g, o + (k + 1) * 3, none⟩ = some (.int .i64 y.fr) := fun W hW => hW.cell_some d0
        have D1 : ∀ W, Ext wr W → W.cell? ⟨g, o + (k + 1) * 3 + 1, none⟩ = some (.int .i64 y.le) := fun W hW => hW.cell_some d1
        have D2 : ∀ W, Ext wr W → W.cell? ⟨g, o + (k + 1) * 3 + 2, none⟩ = some (.int .i64 y.to) := fun W hW => hW.cell_some d2
        have K1 : ∀ W, Ext wr W → ∀ q, W.cell? ⟨w.heap.size, q, none⟩ = #[Value.int .i64 s.al, .int .i64 s.st, .slice (some ⟨g, o, none⟩) n c][q]? := fun W hW => ((b2.ext hxr).ext hW).cell
        have hcast : (k : Int) + 1 < (n : Int) := by omega
        have hk0 : 0 ≤ (k : Int) := by omega
        have hkn : (k : Int) < (n : Int) := by omega
        have hk1 : 0 ≤ (k : Int) + 1 := by omega
        have htn : ((k : Int) + 1).toNat = k + 1 := by omega
        have hww := Ext.refl wr
        clear c0 c1 c2 d0 d1 d2 k1
        have hwr : IntKind.i64.wrap (k : Int) = k := IntWalk.i64_in _ (by omega)
        have hsz := hxr.size
        go_upto_region 7 with fail
        go_cut [5, 6] (fun v5 v6 wx => ∃ g5 g6 : Nat, v5 = .pointer (some ⟨g5, 0, none⟩) ∧ v6 = .pointer (some ⟨g6, 0, none⟩) ∧ TwoE wr wx g5 g6 x y)
        case first =>
          refine wp_region_tailU (fun X => Ext wr X) [14] (OrdU.app [0, 1, 2, 3, 4, 5, 6, 7, 8, 9, 10] (OrdU.two 11 (OrdU.of [12, 13, 14]) 12 (OrdU.of [11, 13, 14]))) (by kernel_rfl) (by kernel_rfl) (by kernel_rfl) (by kernel_rfl) (by kernel_rfl) (fun _ _ _ _ _ h => h) (by first | assumption | exact (Ext.refl _).drew | (refine Ext.drew ?_; assumption)) ?_
          repeat (first | (refine useq_skip rfl rfl (by assumption) ?_; simp only [Act.put, List.setIfInBounds_toArray, List.set_cons_zero, List.set_cons_succ]) | (refine useq_pure (v := ?_) rfl rfl rfl rfl (fun X => ?_) ?_; rotate_left; (focus (go_simp <;> with_reducible rfl)); simp only [Act.put, List.setIfInBounds_toArray, List.set_cons_zero, List.set_cons_succ]) | (refine useq_read (v := ?_) rfl rfl rfl rfl (fun X hX => ?_) ?_; rotate_left; (focus (go_simp <;> with_reducible rfl)); simp only [Act.put, List.setIfInBounds_toArray, List.set_cons_zero, List.set_cons_succ]))
          refine useq_both rfl rfl rfl rfl (fun K hK => ?_) (fun K hK => ?_)
          · go_simp
            have hx2 : Ext wr (wr.alloc (.cells #[.int .i64 0, .int .i64 0, .int .i64 0] 52)).drew := ((Ext.refl wr).alloc _).drew
            have hb2 : Blk (wr.alloc (.cells #[.int .i64 0, .int .i64 0, .int .i64 0] 52)).drew wr.heap.size 52 #[.int .i64 0, .int .i64 0, .int .i64 0] := Blk.new wr _ _
            have hz2 : (wr.alloc (.cells #[.int .i64 0, .int .i64 0, .int .i64 0] 52)).drew.heap.size = wr.heap.size + 1 := by simp
            refine hK.out _ _ hx2 ?_
            generalize (wr.alloc (.cells #[.int .i64 0, .int .i64 0, .int .i64 0] 52)).drew = w7 at *
            (try simp only [Act.put, List.setIfInBounds_toArray, List.set_cons_zero, List.set_cons_succ])
            (refine useq_step rfl rfl rfl (fun K hK => ?_); go_simp)
            have hx3 := hx2.alloc (.cells #[.int .i64 0, .int .i64 0, .int .i64 0] 52)
            have hb3 := hb2.ext ((Ext.refl w7).alloc (.cells #[.int .i64 0, .int .i64 0, .int .i64 0] 52))
            have hb4 := Blk.new w7 52 #[.int .i64 0, .int .i64 0, .int .i64 0]
            refine hK.out _ _ hx3 ?_
            rw [hz2] at hb4
            generalize w7.alloc (.cells #[.int .i64 0, .int .i64 0, .int .i64 0] 52) = w8 at *
            (try simp only [Act.put, List.setIfInBounds_toArray, List.set_cons_zero, List.set_cons_succ])
            have cA := hb3.cell
            have fA := hb3.frozen
            refine useq_step rfl rfl rfl (fun K hK => ?_)
            go_simp
            have hf9 := fill_frm w8 wr.heap.size (.int .i64 x.fr) (.int .i64 x.le) (.int .i64 x.to)
            have hA9 := fill_blk hb3 rfl (.int .i64 x.fr) (.int .i64 x.le) (.int .i64 x.to)
            have hB9 := hb4.frm hf9 (by omega)
            have hx9 := hx3.frm hf9 (fun k hk e => by omega)
            refine hK.out _ _ hx9 ?_
            clear cA fA
            generalize ((w8.setCell ⟨wr.heap.size, 0, none⟩ (.int .i64 x.fr)).setCell ⟨wr.heap.size, 1, none⟩ (.int .i64 x.le)).setCell ⟨wr.heap.size, 2, none⟩ (.int .i64 x.to) = w9 at *
            (try simp only [Act.put, List.setIfInBounds_toArray, List.set_cons_zero, List.set_cons_succ])
            have cB := hB9.cell
            have fB := hB9.frozen
            (refine useq_last rfl rfl rfl rfl (fun K hK => ?_))
            go_simp
            refine hK.out _ _ ?_
            refine useq_nil ?_
            have hf10 := fill_frm w9 (wr.heap.size + 1) (.int .i64 y.fr) (.int .i64 y.le) (.int .i64 y.to)
            have hE : TwoE wr _ wr.heap.size (wr.heap.size + 1) x y := ⟨hx9.frm hf10 (fun k hk e => by omega), hA9.frm hf10 (by omega), fill_blk hB9 rfl (.int .i64 y.fr) (.int .i64 y.le) (.int .i64 y.to)⟩
            clear cB fB
            generalize ((w9.setCell ⟨(wr.heap.size + 1), 0, none⟩ (.int .i64 y.fr)).setCell ⟨(wr.heap.size + 1), 1, none⟩ (.int .i64 y.le)).setCell ⟨(wr.heap.size + 1), 2, none⟩ (.int .i64 y.to) = w10 at *
            go_wp2_with fail
            go_meet
            exact ⟨_, _, rfl, rfl, hE⟩
          · go_simp
            have hx2 : Ext wr (wr.alloc (.cells #[.int .i64 0, .int .i64 0, .int .i64 0] 52)).drew := ((Ext.refl wr).alloc _).drew
            have hb2 : Blk (wr.alloc (.cells #[.int .i64 0, .int .i64 0, .int .i64 0] 52)).drew wr.heap.size 52 #[.int .i64 0, .int .i64 0, .int .i64 0] := Blk.new wr _ _
            have hz2 : (wr.alloc (.cells #[.int .i64 0, .int .i64 0, .int .i64 0] 52)).drew.heap.size = wr.heap.size + 1 := by simp
            refine hK.out _ _ hx2 ?_
            generalize (wr.alloc (.cells #[.int .i64 0, .int .i64 0, .int .i64 0] 52)).drew = w7 at *
            (try simp only [Act.put, List.setIfInBounds_toArray, List.set_cons_zero, List.set_cons_succ])
            (refine useq_step rfl rfl rfl (fun K hK => ?_); go_simp)
            have hx3 := hx2.alloc (.cells #[.int .i64 0, .int .i64 0, .int .i64 0] 52)
            have hb3 := hb2.ext ((Ext.refl w7).alloc (.cells #[.int .i64 0, .int .i64 0, .int .i64 0] 52))
            have hb4 := Blk.new w7 52 #[.int .i64 0, .int .i64 0, .int .i64 0]
            refine hK.out _ _ hx3 ?_
            rw [hz2] at hb4
            generalize w7.alloc (.cells #[.int .i64 0, .int .i64 0, .int .i64 0] 52) = w8 at *
            (try simp only [Act.put, List.setIfInBounds_toArray, List.set_cons_zero, List.set_cons_succ])
            have cA := hb4.cell
            have fA := hb4.frozen
            refine useq_step rfl rfl rfl (fun K hK => ?_)
            go_simp
            have hf9 := fill_frm w8 (wr.heap.size + 1) (.int .i64 x.fr) (.int .i64 x.le) (.int .i64 x.to)
            have hA9 := fill_blk hb4 rfl (.int .i64 x.fr) (.int .i64 x.le) (.int .i64 x.to)
            have hB9 := hb3.frm hf9 (by omega)
            have hx9 := hx3.frm hf9 (fun k hk e => by omega)
            refine hK.out _ _ hx9 ?_
            clear cA fA
            generalize ((w8.setCell ⟨(wr.heap.size + 1), 0, none⟩ (.int .i64 x.fr)).setCell ⟨(wr.heap.size + 1), 1, none⟩ (.int .i64 x.le)).setCell ⟨(wr.heap.size + 1), 2, none⟩ (.int .i64 x.to) = w9 at *
            (try simp only [Act.put, List.setIfInBounds_toArray, List.set_cons_zero, List.set_cons_succ])
            have cB := hB9.cell
            have fB := hB9.frozen
            (refine useq_last rfl rfl rfl rfl (fun K hK => ?_))
            go_simp
            refine hK.out _ _ ?_
            refine useq_nil ?_
            have hf10 := fill_frm w9 wr.heap.size (.int .i64 y.fr) (.int .i64 y.le) (.int .i64 y.to)
            have hE : TwoE wr _ (wr.heap.size + 1) wr.heap.size x y := ⟨hx9.frm hf10 (fun k hk e => by omega), hA9.frm hf10 (by omega), fill_blk hB9 rfl (.int .i64 y.fr) (.int .i64 y.le) (.int .i64 y.to)⟩
            clear cB fB
            generalize ((w9.setCell ⟨wr.heap.size, 0, none⟩ (.int .i64 y.fr)).setCell ⟨wr.heap.size, 1, none⟩ (.int .i64 y.le)).setCell ⟨wr.heap.size, 2, none⟩ (.int .i64 y.to) = w10 at *
            go_wp2_with fail
            go_meet
            exact ⟨_, _, rfl, rfl, hE⟩
        case rest =>
          obtain ⟨g5, g6, rfl, rfl, hx9, hb5, hb6⟩ := hcut
          have c5 := hb5.cell
          have c6 := hb6.cell
          have hxc := hxr.trans hx9
          have hmk := hide (show NoTwin s.edges R (k + 1 + 1) ∨ (hasB R x.fr = true ∧ x.fr = y.fr ∧ x.le = y.le) by
            by_cases h : hasB R x.fr = true ∧ x.fr = y.fr ∧ x.le = y.le
            · exact Or.inr h
            · refine Or.inl fun i x' y' hx' hy' hi => ?_
              rcases Nat.lt_or_ge (i + 1) (k + 1) with h1 | h1
              · exact hNo.out i x' y' hx' hy' h1
              · obtain rfl : i = k := by omega
                rw [hx.out] at hx'
                rw [hy.out] at hy'
                obtain rfl := Option.some.inj hx'
                obtain rfl := Option.some.inj hy'
                exact h)
          have Has := hide (impl_has R x.fr (by unfold Sm; omega))
          clear C0 C1 C2 D0 D1 D2 K1 hwr htn
          cases h1 : hasB R x.fr
          · have H1 := hide h1
            have hno := hide (show NoTwin s.edges R (k + 1 + 1) from hmk.out.resolve_right fun h => by rw [h1] at h; cases h.1)
            clear h1
            go_wp2_with (go_at_call 45; refine (Has.out _).mono ?_; rw [H1.out]; rintro e w' ⟨rfl, rfl⟩)
            go_roundw
            case rel => exact ⟨k + 1, by first | go_num | (congr 1; omega), by omega, hno, hxc⟩
            case measure => simp [intOf]; omega
          · have H1 := hide h1
            clear h1
            cases h2 : (x.fr == y.fr)
            · have e2 := hide (show x.fr ≠ y.fr from fun h => by rw [h] at h2; simp at h2)
              have hno := hide (show NoTwin s.edges R (k + 1 + 1) from hmk.out.resolve_right fun h => by exact e2.out h.2.1)
              go_wp2_with (go_at_call 45; refine (Has.out _).mono ?_; rw [H1.out]; rintro e w' ⟨rfl, rfl⟩)
              go_roundw
              case rel => exact ⟨k + 1, by first | go_num | (congr 1; omega), by omega, hno, hxc⟩
              case measure => simp [intOf]; omega
            · cases h3 : (x.le == y.le)
              · have e3 := hide (show x.le ≠ y.le from fun h => by rw [h] at h3; simp at h3)
                have hno := hide (show NoTwin s.edges R (k + 1 + 1) from hmk.out.resolve_right fun h => by exact e3.out h.2.2)
                go_wp2_with (go_at_call 45; refine (Has.out _).mono ?_; rw [H1.out]; rintro e w' ⟨rfl, rfl⟩)
                go_roundw
                case rel => exact ⟨k + 1, by first | go_num | (congr 1; omega), by omega, hno, hxc⟩
                case measure => simp [intOf]; omega
              · have hfin := hw2.trans hxc
                have hnd := hide (show ¬ Det s.edges from fun hD => by
                  have e2 : x.fr = y.fr := by simpa using h2
                  have e3 : x.le = y.le := by simpa using h3
                  have hyb := Hf.out y (List.mem_of_getElem? hy.out)
                  have hrc : Rch s.edges x.fr.toNat := (hR.out.2 _).1 (by have := H1.out; unfold hasB at this; rw [Bool.and_eq_true] at this; exact this.2)
                  have e4 := hD x.fr.toNat x.le.toNat x.to.toNat y.to.toNat hrc ⟨x, List.mem_of_getElem? hx.out, by omega, by omega, by omega⟩ ⟨y, List.mem_of_getElem? hy.out, by omega, by omega, by omega⟩
                  have e5 := ltE_iff.1 ((valid_iff.1 Hv.out).2.2.2 k (k + 1) x y hx.out hy.out (by omega))
                  omega)
                go_wp2_with (go_at_call 45; refine (Has.out _).mono ?_; rw [H1.out]; rintro e w' ⟨rfl, rfl⟩)
                go_ret
                exact ⟨false, rfl, (show Hid _ from ⟨fun h => (by cases h), fun h => absurd h.2 hnd.out⟩), hfin⟩
      · have hdet := hide (show NoTwin s.edges R s.edges.length from fun i x y hx hy hi => hNo.out i x y hx hy (by have := hL.out; omega))
        have hD := hide (hdet.out.det (valid_iff.1 Hv.out).2.2.2 hR.out)
        have hfin := hw2.trans hxr
        have hcast : ¬ ((k : Int) + 1 < (n : Int)) := by omega
        go_wp2_with fail
        go_ret
        exact ⟨true, rfl, (show Hid _ from ⟨fun _ => ⟨Hv.out, hD.out⟩, fun _ => rfl⟩), hfin⟩
end Go.Proofs.YtmlembcpamchjaaDoor

namespace Go.Proofs.YtmlembcpamchjaaDoor
open Go Go.RowKit
set_option maxHeartbeats 2000000

/-- The variable G holds a system that grows: its edges lie in memory that is newer than w0. -/
structure Grw (w0 W : World) (G : Nat) (al st : Int) (v : Value) (es : List Edg) : Prop where
  blk : Blk W G 28 #[.int .i64 al, .int .i64 st, v]
  own : W.ownsRow w0.heap.size 52 3 v es.length (edgeCells es)
  ext : Ext w0 W
  hG : w0.heap.size ≤ G
section
variable {w0 W W' : World} {G : Nat} {al st : Int} {v : Value} {es : List Edg}
theorem Grw.ext_ (h : Grw w0 W G al st v es) (hb : Ext W W') : Grw w0 W' G al st v es := ⟨h.blk.ext hb, own_ext h.own hb, h.ext.trans hb, h.hG⟩
theorem Grw.far (h : Grw w0 W G al st v es) {b : Nat} (hv : v.ownBlock = some b) : b ≠ G := by
  rintro rfl
  have hB := h.blk
  rcases h.own.2 with ⟨rfl, _⟩ | ⟨g, cap, cur, rfl, _, hh, _⟩
  · simp [Value.ownBlock] at hv
  · have hg : g = b := by simpa [Value.ownBlock] using hv
    subst hg
    unfold Blk at hB
    rw [hh] at hB
    injection hB with hB
    injection hB with _ ht
    exact absurd ht (by decide)
/-- One edge more: what 'append' left, and its store into the variable. -/
theorem Grw.push {g cap : Nat} {e : Edg} (h : Grw w0 W G al st v es) (hown : W'.ownsRow w0.heap.size 52 3 (.slice (some ⟨g, 0, none⟩) (es.length + 1) cap) (es.length + 1) (edgeCells es ++ [.int .i64 e.fr, .int .i64 e.le, .int .i64 e.to]))
    (hg : W.grownBy W' v.ownBlock) (hat : v.ownBlock = some g ∨ g = W.heap.size + 1) :
    Hid (W'.cell? ⟨G, 2, none⟩ = some v) ∧ W'.frozen? ⟨G, 2, none⟩ = false ∧ Grw w0 (W'.setCell ⟨G, 2, none⟩ (.slice (some ⟨g, 0, none⟩) (es.length + 1) cap)) G al st (.slice (some ⟨g, 0, none⟩) (es.length + 1) cap) (es ++ [e]) := by
  have hB : Blk W' G 28 #[.int .i64 al, .int .i64 st, v] := (hg.block G h.blk.lt (fun e => h.far e.symm rfl)).trans h.blk
  have hgG : g ≠ G := by
    rcases hat with h1 | h1
    · exact h.far h1
    · have := h.blk.lt; omega
  have hx : Ext w0 W' := h.ext.grown hg (fun k hk => (h.own.lt k hk).1)
  refine ⟨hB.cell 2, hB.frozen 2, ⟨by simpa using hB.set_ 2 _, ?_, hx.setCell (p := ⟨G, 2, none⟩) h.hG _, h.hG⟩⟩
  have := own_frm hown (Frm.setCell W' G 2 (.slice (some ⟨g, 0, none⟩) (es.length + 1) cap)) (fun b hv hS => by
    have : g = b := by simpa [Value.ownBlock] using hv
    omega)
  rw [edgeCells_append]
  simpa [edgeCells] using this
end
/-- A new system. -/
def RetS (w : World) (s : Sys) (e : Ending) (w' : World) : Prop :=
  ∃ (A : Option Addr) (n c : Nat), e = .returned (.agg #[.int .i64 s.al, .int .i64 s.st, .slice A n c]) ∧ SysAt w' w.heap.size w'.heap.size A n s ∧ Ext w w'
set_option maxRecDepth 100000 in
theorem impl_subSystem {lo hi : Nat} {A : Option Addr} {n c p R : Nat} {s : Sys} {w : World} (h : SysAt w lo hi A n s) (hf : Few p s.edges) (hp : p ≤ 16) (hR : R < 65536) (hn4 : n ≤ 1000000) :
    Calls Tryd.prog 52 #[.agg #[.int .i64 s.al, .int .i64 s.st, .slice A n c], .int .i64 (R : Nat)] w (RetS w (subS s R)) := by
  have HS := hide (fun W (hW : Ext w W) => h.ext hW)
  have hL := hide h.1
  have hn := h.2.len
  have Hf := hide hf
  clear h hf
  have ho := hide (fun W => ones hR W)
  have hst := hide (show (subS s R).st = (rk R 32 : Nat) from rfl)
  have hu : IntKind.u64.wrap (R : Int) = (R : Int) := by rw [IntKind.wrap_u64]; omega
  generalize hr32 : rk R 32 = r at *
  have Hr32 := hide hr32
  clear hr32
  go_enter Tryd.func52, Tryd.ntmps52
  obtain ⟨b1, bz⟩ := ext_blk2 (Ext.refl ((w.alloc (.cells #[.int .i64 s.al, .int .i64 s.st, .slice A n c] 28)).alloc (.cells #[.int .i64 0, .int .i64 0, .slice none 0 0] 28)))
  have hw2 : Ext w ((w.alloc (.cells #[.int .i64 s.al, .int .i64 s.st, .slice A n c] 28)).alloc (.cells #[.int .i64 0, .int .i64 0, .slice none 0 0] 28)) := ((Ext.refl w).alloc _).alloc _
  have hsz2 : w.heap.size + 2 = ((w.alloc (.cells #[.int .i64 s.al, .int .i64 s.st, .slice A n c] 28)).alloc (.cells #[.int .i64 0, .int .i64 0, .slice none 0 0] 28)).heap.size := by simp
  go_upto_region 1 with fail
  generalize (w.alloc (.cells #[.int .i64 s.al, .int .i64 s.st, .slice A n c] 28)).alloc (.cells #[.int .i64 0, .int .i64 0, .slice none 0 0] 28) = w2 at *
  go_cut [5] (fun v wx => ∃ G : Nat, v = .pointer (some ⟨G, 0, none⟩) ∧ Grw w2 wx G s.al r (.slice none 0 0) [])
  case first =>
    have c1 := fun W (hW : Ext w2 W) => (b1.ext hW).cell
    have hww := Ext.refl w2
    refine wp_region_tailU (fun X => Ext w2 X) [7] (OrdU.app [0, 1, 2, 3] (OrdU.two 4 (OrdU.of [5, 6, 7]) 6 (OrdU.of [4, 5, 7]))) (by kernel_rfl) (by kernel_rfl) (by kernel_rfl) (by kernel_rfl) (by kernel_rfl) (fun _ _ _ _ _ h => h) (by first | assumption | exact (Ext.refl _).drew | (refine Ext.drew ?_; assumption)) ?_
    repeat (first | (refine useq_skip rfl rfl (by assumption) ?_; simp only [Act.put, List.setIfInBounds_toArray, List.set_cons_zero, List.set_cons_succ]) | (refine useq_pure (v := ?_) rfl rfl rfl rfl (fun X => ?_) ?_; rotate_left; (focus (go_simp <;> with_reducible rfl)); simp only [Act.put, List.setIfInBounds_toArray, List.set_cons_zero, List.set_cons_succ]) | (refine useq_read (v := ?_) rfl rfl rfl rfl (fun X hX => ?_) ?_; rotate_left; (focus (go_simp <;> with_reducible rfl)); simp only [Act.put, List.setIfInBounds_toArray, List.set_cons_zero, List.set_cons_succ]))
    have hx0 : Ext w2 w2.drew := hww.drew
    generalize w2.drew = wd at *
    refine useq_both rfl rfl rfl rfl (fun K hK => ?_) (fun K hK => ?_)
    · go_simp
      refine (ho.out _).mono ?_
      rintro e w' ⟨rfl, rfl⟩
      refine hK.out _ _ hx0 ?_
      (try simp only [Act.put, List.setIfInBounds_toArray, List.set_cons_zero, List.set_cons_succ])
      repeat (first | (refine useq_skip rfl rfl (by assumption) ?_; simp only [Act.put, List.setIfInBounds_toArray, List.set_cons_zero, List.set_cons_succ]) | (refine useq_pure (v := ?_) rfl rfl rfl rfl (fun X => ?_) ?_; rotate_left; (focus (go_simp <;> with_reducible rfl)); simp only [Act.put, List.setIfInBounds_toArray, List.set_cons_zero, List.set_cons_succ]) | (refine useq_read (v := ?_) rfl rfl rfl rfl (fun X hX => ?_) ?_; rotate_left; (focus (go_simp <;> with_reducible rfl)); simp only [Act.put, List.setIfInBounds_toArray, List.set_cons_zero, List.set_cons_succ]))
      (refine useq_step rfl rfl rfl (fun K hK => ?_); go_simp)
      have hx1 := (Ext.refl wd).alloc (.cells #[.int .i64 0, .int .i64 0, .slice none 0 0] 28)
      have hb := Blk.new wd 28 #[.int .i64 0, .int .i64 0, .slice none 0 0]
      have hG := hx0.size
      replace hx0 := hx0.trans hx1
      refine hK.out _ _ hx0 ?_
      generalize wd.alloc (.cells #[.int .i64 0, .int .i64 0, .slice none 0 0] 28) = w3 at *
      generalize wd.heap.size = G at *
      (try simp only [Act.put, List.setIfInBounds_toArray, List.set_cons_zero, List.set_cons_succ])
      repeat (first | (refine useq_skip rfl rfl (by assumption) ?_; simp only [Act.put, List.setIfInBounds_toArray, List.set_cons_zero, List.set_cons_succ]) | (refine useq_pure (v := ?_) rfl rfl rfl rfl (fun X => ?_) ?_; rotate_left; (focus (go_simp <;> with_reducible rfl)); simp only [Act.put, List.setIfInBounds_toArray, List.set_cons_zero, List.set_cons_succ]) | (refine useq_read (v := ?_) rfl rfl rfl rfl (fun X hX => ?_) ?_; rotate_left; (focus (go_simp <;> with_reducible rfl)); simp only [Act.put, List.setIfInBounds_toArray, List.set_cons_zero, List.set_cons_succ]))
      have cG := hb.cell
      have fG := hb.frozen
      (refine useq_last rfl rfl rfl rfl (fun K hK => ?_))
      go_simp
      refine hK.out _ _ ?_
      refine useq_nil ?_
      have hfin : Grw w2 (((w3.setCell ⟨G, 0, none⟩ (.int .i64 s.al)).setCell ⟨G, 1, none⟩ (.int .i64 r)).setCell ⟨G, 2, none⟩ (.slice none 0 0)) G s.al r (.slice none 0 0) [] := ⟨fill_blk hb rfl _ _ _, World.ownsRow_nil _ _ _ _, hx0.frm (fill_frm w3 G _ _ _) (fun k hk e => by omega), hG⟩
      go_wp2_with fail
      go_meet
      exact ⟨G, rfl, hfin⟩
    · go_simp
      have hx1 := (Ext.refl wd).alloc (.cells #[.int .i64 0, .int .i64 0, .slice none 0 0] 28)
      have hb := Blk.new wd 28 #[.int .i64 0, .int .i64 0, .slice none 0 0]
      have hG := hx0.size
      replace hx0 := hx0.trans hx1
      refine hK.out _ _ hx0 ?_
      generalize wd.alloc (.cells #[.int .i64 0, .int .i64 0, .slice none 0 0] 28) = w3 at *
      generalize wd.heap.size = G at *
      (try simp only [Act.put, List.setIfInBounds_toArray, List.set_cons_zero, List.set_cons_succ])
      (refine useq_step rfl rfl rfl (fun K hK => ?_); go_simp)
      refine (ho.out _).mono ?_
      rintro e w' ⟨rfl, rfl⟩
      refine hK.out _ _ hx0 ?_
      (try simp only [Act.put, List.setIfInBounds_toArray, List.set_cons_zero, List.set_cons_succ])
      repeat (first | (refine useq_skip rfl rfl (by assumption) ?_; simp only [Act.put, List.setIfInBounds_toArray, List.set_cons_zero, List.set_cons_succ]) | (refine useq_pure (v := ?_) rfl rfl rfl rfl (fun X => ?_) ?_; rotate_left; (focus (go_simp <;> with_reducible rfl)); simp only [Act.put, List.setIfInBounds_toArray, List.set_cons_zero, List.set_cons_succ]) | (refine useq_read (v := ?_) rfl rfl rfl rfl (fun X hX => ?_) ?_; rotate_left; (focus (go_simp <;> with_reducible rfl)); simp only [Act.put, List.setIfInBounds_toArray, List.set_cons_zero, List.set_cons_succ]))
      have cG := hb.cell
      have fG := hb.frozen
      (refine useq_last rfl rfl rfl rfl (fun K hK => ?_))
      go_simp
      refine hK.out _ _ ?_
      refine useq_nil ?_
      have hfin : Grw w2 (((w3.setCell ⟨G, 0, none⟩ (.int .i64 s.al)).setCell ⟨G, 1, none⟩ (.int .i64 r)).setCell ⟨G, 2, none⟩ (.slice none 0 0)) G s.al r (.slice none 0 0) [] := ⟨fill_blk hb rfl _ _ _, World.ownsRow_nil _ _ _ _, hx0.frm (fill_frm w3 G _ _ _) (fun k hk e => by omega), hG⟩
      go_wp2_with fail
      go_meet
      exact ⟨G, rfl, hfin⟩
  case rest =>
    obtain ⟨G, rfl, hgr⟩ := hcut
    have k1 := (b1.ext hgr.ext).cell
    go_wp2_with fail
    go_loopw [7, 17] (fun _ i wr => ∃ (k : Nat) (v : Value) (es : List Edg), k ≤ n ∧ i = .int .i64 k ∧ Grw w2 wr G s.al r v es ∧ Hid (es = subE R (s.edges.take k)) ∧ es.length ≤ k) (fun _ i _ => n - (intOf i).toNat)
    case atStart => exact ⟨0, _, [], Nat.zero_le _, rfl, hgr, rfl, Nat.zero_le _⟩
    case round =>
      clear hgr k1
      obtain ⟨k, v, es, hk, rfl, hgr, hes, hel⟩ := hrel
      by_cases hlt : k < n
      · obtain ⟨g, o, x, rfl, _, _, hx, c0, c1, c2⟩ := (HS.out wr (hw2.trans hgr.ext)).2.edge hlt
        obtain ⟨⟨f0, f1⟩, ⟨g0, g1⟩, ⟨t0, t1⟩⟩ := Hf.out x (List.mem_of_getElem? hx.out)
        have Htk := hide (show s.edges.take (k + 1) = s.edges.take k ++ [x] by rw [List.take_add_one, hx.out]; rfl)
        obtain ⟨f, hfe⟩ : ∃ f : Nat, x.fr = f := ⟨x.fr.toNat, by omega⟩
        obtain ⟨t, hte⟩ : ∃ t : Nat, x.to = t := ⟨x.to.toNat, by omega⟩
        have hI := hide (show subI R x = (hasB R f && hasB R t) by unfold subI; rw [hfe, hte])
        have hJ := hide (show subJ R x = ⟨(rk R f : Nat), x.le, (rk R t : Nat)⟩ by unfold subJ; rw [hfe, hte]; rfl)
        have hrf := hide (fun W => impl_rank (n := f) hR (by omega) W)
        have hrt := hide (fun W => impl_rank (n := t) hR (by omega) W)
        have hsf := hide (fun W => impl_has R (f : Int) (by unfold Sm; omega) W)
        have hsT := hide (fun W => impl_has R (t : Int) (by unfold Sm; omega) W)
        rw [hfe] at c0 f0 f1
        rw [hte] at c2 t0 t1
        have hbx : Blk (wr.alloc (.cells #[.int .i64 f, .int .i64 x.le, .int .i64 t] 52)) wr.heap.size 52 #[.int .i64 f, .int .i64 x.le, .int .i64 t] := Blk.new _ _ _
        have hgr2 := hgr.ext_ ((Ext.refl wr).alloc (.cells #[.int .i64 f, .int .i64 x.le, .int .i64 t] 52))
        have hx := hide hfe
        have hx' := hide hte
        clear hfe hte hgr
        generalize rk R f = rf at *
        generalize rk R t = rt at *
        cases hif : hasB R f
        · have Hif := hide hif
          have hno := hide (show subI R x = false by rw [hI.out, hif]; rfl)
          clear hif
          go_upto_region 5 with fail
          generalize wr.alloc (.cells #[.int .i64 f, .int .i64 x.le, .int .i64 t] 52) = w3 at *
          have c7 := hbx.cell
          go_wp2_with (go_at_call 45; refine (hsf.out _).mono ?_; rw [Hif.out]; rintro e w' ⟨rfl, rfl⟩)
          go_roundw
          case rel => exact ⟨k + 1, v, es, by omega, by go_num, hgr2, (show Hid _ from by rw [hes.out, Htk.out, subE_snoc, hno.out]; rfl), by omega⟩
          case measure => simp [intOf]; omega
        · have Hif := hide hif
          cases hit : hasB R t
          · have Hit := hide hit
            have hno := hide (show subI R x = false by rw [hI.out, hit, Bool.and_false])
            clear hif hit
            go_upto_region 5 with fail
            generalize wr.alloc (.cells #[.int .i64 f, .int .i64 x.le, .int .i64 t] 52) = w3 at *
            have c7 := hbx.cell
            go_wp2_with fail
            refine (hsf.out _).mono ?_
            rw [Hif.out]
            rintro e w' ⟨rfl, rfl⟩
            go_wp2_with fail
            refine (hsT.out _).mono ?_
            rw [Hit.out]
            rintro e w' ⟨rfl, rfl⟩
            go_wp2_with fail
            go_roundw
            case rel => exact ⟨k + 1, v, es, by omega, by go_num, hgr2, (show Hid _ from by rw [hes.out, Htk.out, subE_snoc, hno.out]; rfl), by omega⟩
            case measure => simp [intOf]; omega
          · have Hit := hide hit
            have hyes := hide (show subI R x = true by rw [hI.out, hif, hit]; rfl)
            clear hif hit
            go_upto_region 5 with fail
            generalize wr.alloc (.cells #[.int .i64 f, .int .i64 x.le, .int .i64 t] 52) = w3 at *
            have c7 := hbx.cell
            go_wp2_with fail
            refine (hsf.out _).mono ?_
            rw [Hif.out]
            rintro e w' ⟨rfl, rfl⟩
            go_wp2_with fail
            refine (hsT.out _).mono ?_
            rw [Hit.out]
            rintro e w' ⟨rfl, rfl⟩
            go_upto_region 6 with fail
            clear c7
            have c7 : ∀ W, Ext w3 W → ∀ q, W.cell? ⟨wr.heap.size, q, none⟩ = #[Value.int .i64 f, .int .i64 x.le, .int .i64 t][q]? := fun W hW => (hbx.ext hW).cell
            have cG : ∀ W, Ext w3 W → ∀ q, W.cell? ⟨G, q, none⟩ = #[Value.int .i64 s.al, .int .i64 r, v][q]? := fun W hW => (hgr2.blk.ext hW).cell
            have hww3 := Ext.refl w3
            refine wp_region_tailU (fun X => Ext w3 X) [14, 16] (OrdU.of [0, 1, 2, 3, 4, 6, 7, 8, 9, 10, 5, 11, 12, 13, 14, 15, 16]) (by kernel_rfl) (by kernel_rfl) (by kernel_rfl) (by kernel_rfl) (by kernel_rfl) (fun _ _ _ _ _ h => h) (by first | assumption | exact (Ext.refl _).drew | (refine Ext.drew ?_; assumption)) ?_
            repeat (first | (refine useq_skip rfl rfl (by assumption) ?_; simp only [Act.put, List.setIfInBounds_toArray, List.set_cons_zero, List.set_cons_succ]) | (refine useq_pure (v := ?_) rfl rfl rfl rfl (fun X => ?_) ?_; rotate_left; (focus (go_simp <;> with_reducible rfl)); simp only [Act.put, List.setIfInBounds_toArray, List.set_cons_zero, List.set_cons_succ]) | (refine useq_read (v := ?_) rfl rfl rfl rfl (fun X hX => ?_) ?_; rotate_left; (focus (go_simp <;> with_reducible rfl)); simp only [Act.put, List.setIfInBounds_toArray, List.set_cons_zero, List.set_cons_succ]))
            (refine useq_step rfl rfl rfl (fun K hK => ?_); go_simp)
            refine (hrf.out _).mono ?_
            rintro e w' ⟨rfl, rfl⟩
            refine hK.out _ _ hww3.drew ?_
            (try simp only [Act.put, List.setIfInBounds_toArray, List.set_cons_zero, List.set_cons_succ])
            (refine useq_step rfl rfl rfl (fun K hK => ?_); go_simp)
            refine (hrt.out _).mono ?_
            rintro e w' ⟨rfl, rfl⟩
            refine hK.out _ _ hww3.drew ?_
            (try simp only [Act.put, List.setIfInBounds_toArray, List.set_cons_zero, List.set_cons_succ])
            repeat (first | (refine useq_skip rfl rfl (by assumption) ?_; simp only [Act.put, List.setIfInBounds_toArray, List.set_cons_zero, List.set_cons_succ]) | (refine useq_pure (v := ?_) rfl rfl rfl rfl (fun X => ?_) ?_; rotate_left; (focus (go_simp <;> with_reducible rfl)); simp only [Act.put, List.setIfInBounds_toArray, List.set_cons_zero, List.set_cons_succ]) | (refine useq_read (v := ?_) rfl rfl rfl rfl (fun X hX => ?_) ?_; rotate_left; (focus (go_simp <;> with_reducible rfl)); simp only [Act.put, List.setIfInBounds_toArray, List.set_cons_zero, List.set_cons_succ]))
            (refine useq_step rfl rfl rfl (fun K hK => ?_); go_simp)
            refine hK.out _ _ (hww3.drew.alloc _) ?_
            (try simp only [Act.put, List.setIfInBounds_toArray, List.set_cons_zero, List.set_cons_succ])
            (refine useq_last rfl rfl rfl rfl (fun K hK => ?_))
            refine wp_push w2 w3.drew _ _ _ rfl 52 _ 3 24 Tryd.underlying26 info_edge rfl (by decide) v es.length (edgeCells es) _ _ rfl rfl hgr2.ext.size hgr2.own rfl (by simp [Value.oneCell']) (by unfold maxLen; omega) (by omega) ?_
            intro g5 cap5 w5 hown5 hg5 hat5 hlt5
            refine hK.out _ _ ?_
            (try simp only [Act.put, List.setIfInBounds_toArray, List.set_cons_zero, List.set_cons_succ])
            repeat (first | (refine useq_skip rfl rfl (by assumption) ?_; simp only [Act.put, List.setIfInBounds_toArray, List.set_cons_zero, List.set_cons_succ]) | (refine useq_pure (v := ?_) rfl rfl rfl rfl (fun X => ?_) ?_; rotate_left; (focus (go_simp <;> with_reducible rfl)); simp only [Act.put, List.setIfInBounds_toArray, List.set_cons_zero, List.set_cons_succ]) | (refine useq_read (v := ?_) rfl rfl rfl rfl (fun X hX => ?_) ?_; rotate_left; (focus (go_simp <;> with_reducible rfl)); simp only [Act.put, List.setIfInBounds_toArray, List.set_cons_zero, List.set_cons_succ]))
            obtain ⟨h1, h2, h3⟩ := (hgr2.ext_ ((Ext.refl _).drew)).push (e := ⟨rf, x.le, rt⟩) (W' := w5) hown5 hg5 hat5
            have h1' := h1.out
            (refine useq_last rfl rfl rfl rfl (fun K hK => ?_))
            go_simp
            refine hK.out _ _ ?_
            refine useq_nil ?_
            go_wp2_with fail
            go_roundw
            case rel => exact ⟨k + 1, _, _, by omega, by go_num, h3, (show Hid _ from by rw [hes.out, Htk.out, subE_snoc, hyes.out, hJ.out]; rfl), by simp; omega⟩
            case measure => simp [intOf]; omega
      · obtain rfl : k = n := by omega
        obtain ⟨A5, c5, rfl⟩ := own_form hgr.own
        have cG := hgr.blk.cell
        have hbz := bz.ext hgr.ext
        have cZ := hbz.cell
        have fZ := hbz.frozen
        have htk : s.edges.take k = s.edges := List.take_of_length_le (by have := hL.out; omega)
        have hfl := fill_frm wr (w.heap.size + 1) (.int .i64 s.al) (.int .i64 r) (.slice A5 es.length c5)
        have hbf := fill_blk hbz rfl (.int .i64 s.al) (.int .i64 r) (.slice A5 es.length c5)
        have hxf := (hw2.trans hgr.ext).frm hfl (fun k hk e => by omega)
        have hof := own_frm hgr.own hfl (fun b hv e => by have := (hgr.own.lt b hv).1; omega)
        have hfin := hide (show RetS w (subS s R) (.returned (.agg #[.int .i64 s.al, .int .i64 r, .slice A5 es.length c5])) (((wr.setCell ⟨w.heap.size + 1, 0, none⟩ (.int .i64 s.al)).setCell ⟨w.heap.size + 1, 1, none⟩ (.int .i64 r)).setCell ⟨w.heap.size + 1, 2, none⟩ (.slice A5 es.length c5)) from by
          have he : es = (subS s R).edges := by rw [hes.out, htk]; rfl
          refine ⟨A5, es.length, c5, by rw [hst.out]; rfl, ⟨by rw [he], ?_⟩, hxf⟩
          rw [← he]
          exact Reads.of_own (own_less hof (by omega)))
        go_wp2_with fail
        generalize ((wr.setCell ⟨w.heap.size + 1, 0, none⟩ (.int .i64 s.al)).setCell ⟨w.heap.size + 1, 1, none⟩ (.int .i64 r)).setCell ⟨w.heap.size + 1, 2, none⟩ (.slice A5 es.length c5) = wf at *
        have cf := hbf.cell
        exact bodyPost_ret (v := .agg #[.int .i64 s.al, .int .i64 r, .slice A5 es.length c5]) (by simp [results, Tryd.results52, go_sem, cf]) rfl hfin.out
set_option maxRecDepth 100000 in
theorem impl_TrimSystem {lo hi : Nat} {A : Option Addr} {n c p : Nat} {s : Sys} {w : World} (h : SysAt w lo hi A n s) (hT : Tab w) (hv : sysValid s = true) (hp : s.st = p) (hn4 : n ≤ 1000000) :
    Calls Tryd.prog 22 #[.agg #[.int .i64 s.al, .int .i64 s.st, .slice A n c]] w fun e w' => ∃ (R : Nat) (A' : Option Addr) (n' c' : Nat), e = .returned (.tuple #[.agg #[.int .i64 (subS s R).al, .int .i64 (subS s R).st, .slice A' n' c'], .bool true]) ∧ Hid (RchSet s.edges p R) ∧ SysAt w' w.heap.size w'.heap.size A' n' (subS s R) ∧ Ext w w' := by
  obtain ⟨p', hp', hp1, hp2, hf⟩ := valid_few hv
  obtain rfl : p' = p := by omega
  have HS := hide (fun W (hW : Ext w W) => h.ext hW)
  have HTab := hide (fun W (hW : Ext w W) => hT.ext hW)
  have Hf := hide hf
  have Hv := hide hv
  have Hp := hide hp
  clear hf hv h hT hp hp'
  go_enter Tryd.func22, Tryd.ntmps22
  obtain ⟨b1, bz⟩ := ext_blk2 (Ext.refl ((w.alloc (.cells #[.int .i64 s.al, .int .i64 s.st, .slice A n c] 28)).alloc (.cells #[.int .i64 0, .int .i64 0, .slice none 0 0] 28)))
  have hw2 : Ext w ((w.alloc (.cells #[.int .i64 s.al, .int .i64 s.st, .slice A n c] 28)).alloc (.cells #[.int .i64 0, .int .i64 0, .slice none 0 0] 28)) := ((Ext.refl w).alloc _).alloc _
  have k1 := b1.cell
  go_upto_region 1 with fail
  generalize (w.alloc (.cells #[.int .i64 s.al, .int .i64 s.st, .slice A n c] 28)).alloc (.cells #[.int .i64 0, .int .i64 0, .slice none 0 0] 28) = w2 at *
  go_wp2_with fail
  refine (impl_SystemValid (HS.out _ hw2)).mono ?_
  rw [Hv.out]
  rintro e w3 ⟨rfl, hx3⟩
  have c1 : ∀ W, Ext w3 W → ∀ q, W.cell? ⟨w.heap.size, q, none⟩ = #[Value.int .i64 s.al, .int .i64 s.st, .slice A n c][q]? := fun W hW => (b1.ext (hx3.trans hW)).cell
  have hww := Ext.refl w3
  have hw3 := hw2.trans hx3
  clear k1
  go_upto_region 3 with fail
  refine wp_region_tailU (fun X => Ext w3 X) [3, 4] (OrdU.of [0, 1, 2, 3, 4, 5]) (by kernel_rfl) (by kernel_rfl) (by kernel_rfl) (by kernel_rfl) (by kernel_rfl) (fun _ _ _ _ _ h => h) (by first | assumption | exact (Ext.refl _).drew | (refine Ext.drew ?_; assumption)) ?_
  repeat (first | (refine useq_skip rfl rfl (by assumption) ?_; simp only [Act.put, List.setIfInBounds_toArray, List.set_cons_zero, List.set_cons_succ]) | (refine useq_pure (v := ?_) rfl rfl rfl rfl (fun X => ?_) ?_; rotate_left; (focus (go_simp <;> with_reducible rfl)); simp only [Act.put, List.setIfInBounds_toArray, List.set_cons_zero, List.set_cons_succ]) | (refine useq_read (v := ?_) rfl rfl rfl rfl (fun X hX => ?_) ?_; rotate_left; (focus (go_simp <;> with_reducible rfl)); simp only [Act.put, List.setIfInBounds_toArray, List.set_cons_zero, List.set_cons_succ]))
  (refine useq_step rfl rfl rfl (fun K hK => ?_); go_simp)
  refine (impl_ReachableStates (HS.out _ hw3.drew) (HTab.out _ hw3.drew) Hv.out Hp.out).mono ?_
  rintro e w4 ⟨R, rfl, hR, hx4⟩
  have hw4 := hw3.drew.trans hx4
  have hx34 := hww.drew.trans hx4
  refine hK.out _ _ hx34 ?_
  (try simp only [Act.put, List.setIfInBounds_toArray, List.set_cons_zero, List.set_cons_succ])
  (refine useq_step rfl rfl rfl (fun K hK => ?_); go_simp)
  refine (impl_subSystem (HS.out _ hw4) Hf.out hp2 (pow16 hR.out.1 hp2) hn4).mono ?_
  rintro e w5 ⟨A5, n5, c5, rfl, h5, hx5⟩
  refine hK.out _ _ (hx34.trans hx5) ?_
  (try simp only [Act.put, List.setIfInBounds_toArray, List.set_cons_zero, List.set_cons_succ])
  have hbz := bz.ext ((hx3.trans hx34).trans hx5)
  have cZ := hbz.cell
  have fZ := hbz.frozen
  generalize hsu : subS s R = u at *
  have Hsu := hide hsu
  clear hsu
  have hfl := fill_frm w5 (w.heap.size + 1) (.int .i64 u.al) (.int .i64 u.st) (.slice A5 n5 c5)
  have hbf := fill_blk hbz rfl (.int .i64 u.al) (.int .i64 u.st) (.slice A5 n5 c5)
  have hxf := (hw4.trans hx5).frm hfl (fun k hk e => by omega)
  have hz4 := hw4.size
  have h2z := hw2.size
  have hwz : w.heap.size + 1 < w4.heap.size := by have := (bz.ext (hx3.trans hx34)).lt; omega
  have hsf : SysAt (((w5.setCell ⟨w.heap.size + 1, 0, none⟩ (.int .i64 u.al)).setCell ⟨w.heap.size + 1, 1, none⟩ (.int .i64 u.st)).setCell ⟨w.heap.size + 1, 2, none⟩ (.slice A5 n5 c5)) w.heap.size (((w5.setCell ⟨w.heap.size + 1, 0, none⟩ (.int .i64 u.al)).setCell ⟨w.heap.size + 1, 1, none⟩ (.int .i64 u.st)).setCell ⟨w.heap.size + 1, 2, none⟩ (.slice A5 n5 c5)).heap.size A5 n5 u :=
    ⟨h5.1, (h5.2.frm hfl (fun k h1 h2 e => by omega)).more (by omega) hfl.size⟩
  (refine useq_last rfl rfl rfl rfl (fun K hK => ?_))
  go_simp
  refine hK.out _ _ ?_
  generalize ((w5.setCell ⟨w.heap.size + 1, 0, none⟩ (.int .i64 u.al)).setCell ⟨w.heap.size + 1, 1, none⟩ (.int .i64 u.st)).setCell ⟨w.heap.size + 1, 2, none⟩ (.slice A5 n5 c5) = wf at *
  (try simp only [Act.put, List.setIfInBounds_toArray, List.set_cons_zero, List.set_cons_succ])
  repeat (first | (refine useq_skip rfl rfl (by assumption) ?_; simp only [Act.put, List.setIfInBounds_toArray, List.set_cons_zero, List.set_cons_succ]) | (refine useq_pure (v := ?_) rfl rfl rfl rfl (fun X => ?_) ?_; rotate_left; (focus (go_simp <;> with_reducible rfl)); simp only [Act.put, List.setIfInBounds_toArray, List.set_cons_zero, List.set_cons_succ]) | (refine useq_read (v := ?_) rfl rfl rfl rfl (fun X hX => ?_) ?_; rotate_left; (focus (go_simp <;> with_reducible rfl)); simp only [Act.put, List.setIfInBounds_toArray, List.set_cons_zero, List.set_cons_succ]))
  refine useq_nil ?_
  have cf := hbf.cell
  have hfin := hide (show ∃ (R : Nat) (A' : Option Addr) (n' c' : Nat), Ending.returned (.tuple #[.agg #[.int .i64 u.al, .int .i64 u.st, .slice A5 n5 c5], .bool true]) = .returned (.tuple #[.agg #[.int .i64 (subS s R).al, .int .i64 (subS s R).st, .slice A' n' c'], .bool true]) ∧ Hid (RchSet s.edges p' R) ∧ SysAt wf w.heap.size wf.heap.size A' n' (subS s R) ∧ Ext w wf from ⟨R, A5, n5, c5, by rw [Hsu.out], hR, by rw [Hsu.out]; exact hsf, hxf⟩)
  go_wp2_with fail
  exact bodyPost_ret (v := .tuple #[.agg #[.int .i64 u.al, .int .i64 u.st, .slice A5 n5 c5], .bool true]) (by simp [results, Tryd.results22, go_sem, cf]) rfl hfin.out
end Go.Proofs.YtmlembcpamchjaaDoor

namespace Go.Proofs.YtmlembcpamchjaaDoor
open Go Go.RowKit Go.Lib
set_option maxHeartbeats 8000000

theorem comp_none (w : World) : Calls Tryd.prog 37 #[.slice none 0 0] w fun e w' => e = .returned (.slice none 0 0) ∧ w = w' := by
  go_enter Tryd.func37, Tryd.ntmps37
  go_wp2
  go_ret
  exact ⟨rfl, rfl⟩
theorem sort_none (w : World) : Calls Tryd.prog 35 #[.slice none 0 0, .func (.func 36) #[] #[]] w fun e w' => e = .returned (.tuple #[]) ∧ w = w' := by
  have hcon := AnyF.slices_SortFunc_none sortEdge none 0 (.func (.func 36) #[] #[]) w
  change Calls Tryd.prog 35 _ _ _ at hcon
  exact hcon.mono fun e w' ⟨h1, h2⟩ => ⟨h1, h2.symm⟩
/-- What QuotientSystem answers of a valid system. -/
def RetQ (w : World) (s : Sys) (e : Ending) (w' : World) : Prop := ∃ (A : Option Addr) (n c : Nat), e = .returned (.tuple #[.agg #[.int .i64 (quoS s).al, .int .i64 (quoS s).st, .slice A n c], .bool true]) ∧ SysAt w' w.heap.size w'.heap.size A n (quoS s) ∧ (n ≤ s.edges.length ∧ n ≤ c) ∧ Ext w w'
/-- The same, and the edges are the call's own. -/
def RetQo (w : World) (s : Sys) (e : Ending) (w' : World) : Prop := ∃ (A : Option Addr) (n c : Nat), e = .returned (.tuple #[.agg #[.int .i64 (quoS s).al, .int .i64 (quoS s).st, .slice A n c], .bool true]) ∧ OwnE w' w.heap.size A n c (quoS s).edges ∧ (n ≤ s.edges.length ∧ n ≤ c) ∧ Ext w w'
set_option maxRecDepth 100000 in
theorem impl_QuotientSystem_own {lo hi : Nat} {A : Option Addr} {n c : Nat} {s : Sys} {w : World} (h : SysAt w lo hi A n s) (hT : Tab w) (hv : sysValid s = true) (hn4 : n ≤ 1048576) :
    Calls Tryd.prog 10 #[.agg #[.int .i64 s.al, .int .i64 s.st, .slice A n c]] w (RetQo w s) := by
  obtain ⟨p, hp, hp1, hp2, hf⟩ := valid_few hv
  have hQ := hide (quo_spec hv hp)
  have hcl := hide (show clsR s = (clsOf (gfp true s s) p).1 by unfold clsR; rw [if_pos hv, hp]; rfl)
  generalize gfp true s s = R at *
  obtain ⟨N, hN⟩ : ∃ N, Hid (N = (clsOf R p).2) := ⟨_, rfl⟩
  rw [← hN.out] at hQ
  have hclen := hide (show (clsR s).length = p by rw [hcl.out, clsOf_length])
  have hcget := hide (show ∀ i, i < p → (clsR s)[i]? = some (cl R i) from fun i hi => by
    have h1 := clsOf_get (R := R) hi
    rw [← hcl.out, List.getD_eq_getElem?_getD, List.getElem?_eq_getElem (by rw [hclen.out]; exact hi)] at h1
    rw [List.getElem?_eq_getElem (by rw [hclen.out]; exact hi)]
    exact congrArg some h1)
  have hcs := hide (show ∀ x ∈ clsR s, x < 4294967296 from fun x hx => by
    obtain ⟨i, hi⟩ := List.getElem?_of_mem hx
    have hip : i < p := by rw [← hclen.out]; exact (List.getElem?_eq_some_iff.1 hi).1
    rw [hcget.out i hip] at hi
    have := cl_lt hQ.out.eqv (by omega) hip
    have := Option.some.inj hi
    omega)
  have hmaxN := hide (show ∀ m, Great (clsR s) m → m + 1 = N from fun m hm => by
    obtain ⟨i, hi⟩ := List.getElem?_of_mem hm.1
    have hip : i < p := by rw [← hclen.out]; exact (List.getElem?_eq_some_iff.1 hi).1
    rw [hcget.out i hip] at hi
    have h1 := hQ.out.eqv.cl_num (by omega) hip
    have h2 := Option.some.inj hi
    have h3 := hQ.out.one
    obtain ⟨j, hj, hjc⟩ := hQ.out.eqv.cl_onto (by omega) p (Nat.le_refl _) (N - 1) (by rw [← hN.out]; omega)
    have h4 := hm.2 (cl R j) (List.mem_of_getElem? (hcget.out j hj))
    rw [hN.out] at *
    omega)
  have hqal := hide hQ.out.al
  have hqst := hide hQ.out.st
  have hNp := hQ.out.le
  have HS := hide (fun W (hW : Ext w W) => h.ext hW)
  have HTab := hide (fun W (hW : Ext w W) => hT.ext hW)
  have hL := hide h.1
  have Hf := hide hf
  have Hv := hide hv
  clear h hT hv hp hf
  go_enter Tryd.func10, Tryd.ntmps10
  obtain ⟨b1, bz⟩ := ext_blk2 (Ext.refl ((w.alloc (.cells #[.int .i64 s.al, .int .i64 s.st, .slice A n c] 28)).alloc (.cells #[.int .i64 0, .int .i64 0, .slice none 0 0] 28)))
  have hw2 : Ext w ((w.alloc (.cells #[.int .i64 s.al, .int .i64 s.st, .slice A n c] 28)).alloc (.cells #[.int .i64 0, .int .i64 0, .slice none 0 0] 28)) := ((Ext.refl w).alloc _).alloc _
  have hsz2 : w.heap.size + 2 = ((w.alloc (.cells #[.int .i64 s.al, .int .i64 s.st, .slice A n c] 28)).alloc (.cells #[.int .i64 0, .int .i64 0, .slice none 0 0] 28)).heap.size := by simp
  have k1 := b1.cell
  go_upto_region 1 with fail
  generalize (w.alloc (.cells #[.int .i64 s.al, .int .i64 s.st, .slice A n c] 28)).alloc (.cells #[.int .i64 0, .int .i64 0, .slice none 0 0] 28) = w2 at *
  go_wp2_with fail
  refine (impl_SystemValid (HS.out _ hw2)).mono ?_
  rw [Hv.out]
  rintro e w3 ⟨rfl, hx3⟩
  clear k1
  have k1 := (b1.ext hx3).cell
  go_wp2_with fail
  refine (impl_BisimClasses (HS.out _ (hw2.trans hx3)) (HTab.out _ (hw2.trans hx3))).mono ?_
  rintro e w4 ⟨Ac, nc, cc, rfl, ⟨hnc, hownc⟩, hx4⟩
  have hx24 := hx3.trans hx4
  obtain rfl : nc = p := by rw [hnc, hclen.out]
  clear hnc
  obtain ⟨gc, rfl⟩ : ∃ gc, Ac = some ⟨gc, 0, none⟩ := by
    rcases hownc.2 with ⟨_, hh⟩ | ⟨g, cap, cur, hv, _⟩
    · omega
    · exact ⟨g, by injection hv⟩
  have hmx := hide (fun W (hW : Ext w4 W) => max_any (own_ext hownc hW) (by omega) hcs.out)
  have hcc := hide (fun (i : Nat) (hi : i < nc) => (show w4.cell? ⟨gc, i, none⟩ = some (.int .i64 (cl R i : Nat)) by
    rw [hownc.cellAt i (by omega)]
    simp [nats, hcget.out i hi]))
  have c1 : ∀ W, Ext w4 W → ∀ q, W.cell? ⟨w.heap.size, q, none⟩ = #[Value.int .i64 s.al, .int .i64 s.st, .slice A n c][q]? := fun W hW => (b1.ext (hx24.trans hW)).cell
  have hww := Ext.refl w4
  have hNN : (N : Int) ≤ 16 := by omega
  clear k1 hx3 hx4
  go_upto_region 4 with fail
  go_cut [5] (fun v wx => ∃ G : Nat, v = .pointer (some ⟨G, 0, none⟩) ∧ Grw w4 wx G s.al N (.slice none 0 0) [])
  case first =>
    refine wp_region_tailU (fun X => Ext w4 X) [7] (OrdU.app [0, 1, 2] (OrdU.two 3 (OrdU.of [4, 5, 6, 7]) 6 (OrdU.of [3, 4, 5, 7]))) (by kernel_rfl) (by kernel_rfl) (by kernel_rfl) (by kernel_rfl) (by kernel_rfl) (fun _ _ _ _ _ h => h) (by first | assumption | exact (Ext.refl _).drew | (refine Ext.drew ?_; assumption)) ?_
    repeat (first | (refine useq_skip rfl rfl (by assumption) ?_; simp only [Act.put, List.setIfInBounds_toArray, List.set_cons_zero, List.set_cons_succ]) | (refine useq_pure (v := ?_) rfl rfl rfl rfl (fun X => ?_) ?_; rotate_left; (focus (go_simp <;> with_reducible rfl)); simp only [Act.put, List.setIfInBounds_toArray, List.set_cons_zero, List.set_cons_succ]) | (refine useq_read (v := ?_) rfl rfl rfl rfl (fun X hX => ?_) ?_; rotate_left; (focus (go_simp <;> with_reducible rfl)); simp only [Act.put, List.setIfInBounds_toArray, List.set_cons_zero, List.set_cons_succ]))
    have hx0 : Ext w4 w4.drew := hww.drew
    generalize w4.drew = wd at *
    refine useq_both rfl rfl rfl rfl (fun K hK => ?_) (fun K hK => ?_)
    · go_simp
      refine (hmx.out _ hx0).mono ?_
      rintro e w' ⟨m, rfl, hm, rfl⟩
      obtain hmN := hmaxN.out m hm.out
      have hmi : IntKind.i64.wrap ((m : Int) + 1) = (N : Int) := by rw [show (m : Int) + 1 = (N : Int) by omega]; exact IntWalk.i64_in _ (by omega)
      refine hK.out _ _ hx0 ?_
      (try simp only [Act.put, List.setIfInBounds_toArray, List.set_cons_zero, List.set_cons_succ])
      repeat (first | (refine useq_skip rfl rfl (by assumption) ?_; simp only [Act.put, List.setIfInBounds_toArray, List.set_cons_zero, List.set_cons_succ]) | (refine useq_pure (v := ?_) rfl rfl rfl rfl (fun X => ?_) ?_; rotate_left; (focus (go_simp <;> with_reducible rfl)); simp only [Act.put, List.setIfInBounds_toArray, List.set_cons_zero, List.set_cons_succ]) | (refine useq_read (v := ?_) rfl rfl rfl rfl (fun X hX => ?_) ?_; rotate_left; (focus (go_simp <;> with_reducible rfl)); simp only [Act.put, List.setIfInBounds_toArray, List.set_cons_zero, List.set_cons_succ]))
      (refine useq_step rfl rfl rfl (fun K hK => ?_); go_simp)
      have hx1 := (Ext.refl wd).alloc (.cells #[.int .i64 0, .int .i64 0, .slice none 0 0] 28)
      have hb := Blk.new wd 28 #[.int .i64 0, .int .i64 0, .slice none 0 0]
      have hG := hx0.size
      replace hx0 := hx0.trans hx1
      refine hK.out _ _ hx0 ?_
      generalize wd.alloc (.cells #[.int .i64 0, .int .i64 0, .slice none 0 0] 28) = w6 at *
      generalize wd.heap.size = G at *
      (try simp only [Act.put, List.setIfInBounds_toArray, List.set_cons_zero, List.set_cons_succ])
      repeat (first | (refine useq_skip rfl rfl (by assumption) ?_; simp only [Act.put, List.setIfInBounds_toArray, List.set_cons_zero, List.set_cons_succ]) | (refine useq_pure (v := ?_) rfl rfl rfl rfl (fun X => ?_) ?_; rotate_left; (focus (go_simp <;> with_reducible rfl)); simp only [Act.put, List.setIfInBounds_toArray, List.set_cons_zero, List.set_cons_succ]) | (refine useq_read (v := ?_) rfl rfl rfl rfl (fun X hX => ?_) ?_; rotate_left; (focus (go_simp <;> with_reducible rfl)); simp only [Act.put, List.setIfInBounds_toArray, List.set_cons_zero, List.set_cons_succ]))
      have cG := hb.cell
      have fG := hb.frozen
      (refine useq_last rfl rfl rfl rfl (fun K hK => ?_))
      go_simp
      refine hK.out _ _ ?_
      refine useq_nil ?_
      have hfin : Grw w4 (((w6.setCell ⟨G, 0, none⟩ (.int .i64 s.al)).setCell ⟨G, 1, none⟩ (.int .i64 N)).setCell ⟨G, 2, none⟩ (.slice none 0 0)) G s.al N (.slice none 0 0) [] := ⟨fill_blk hb rfl _ _ _, World.ownsRow_nil _ _ _ _, hx0.frm (fill_frm w6 G _ _ _) (fun k hk e => by omega), hG⟩
      go_wp2_with fail
      go_meet
      exact ⟨G, rfl, hfin⟩
    · go_simp
      have hx1 := (Ext.refl wd).alloc (.cells #[.int .i64 0, .int .i64 0, .slice none 0 0] 28)
      have hb := Blk.new wd 28 #[.int .i64 0, .int .i64 0, .slice none 0 0]
      have hG := hx0.size
      replace hx0 := hx0.trans hx1
      refine hK.out _ _ hx0 ?_
      generalize wd.alloc (.cells #[.int .i64 0, .int .i64 0, .slice none 0 0] 28) = w6 at *
      generalize wd.heap.size = G at *
      (try simp only [Act.put, List.setIfInBounds_toArray, List.set_cons_zero, List.set_cons_succ])
      (refine useq_step rfl rfl rfl (fun K hK => ?_); go_simp)
      refine (hmx.out _ hx0).mono ?_
      rintro e w' ⟨m, rfl, hm, rfl⟩
      obtain hmN := hmaxN.out m hm.out
      have hmi : IntKind.i64.wrap ((m : Int) + 1) = (N : Int) := by rw [show (m : Int) + 1 = (N : Int) by omega]; exact IntWalk.i64_in _ (by omega)
      refine hK.out _ _ hx0 ?_
      (try simp only [Act.put, List.setIfInBounds_toArray, List.set_cons_zero, List.set_cons_succ])
      repeat (first | (refine useq_skip rfl rfl (by assumption) ?_; simp only [Act.put, List.setIfInBounds_toArray, List.set_cons_zero, List.set_cons_succ]) | (refine useq_pure (v := ?_) rfl rfl rfl rfl (fun X => ?_) ?_; rotate_left; (focus (go_simp <;> with_reducible rfl)); simp only [Act.put, List.setIfInBounds_toArray, List.set_cons_zero, List.set_cons_succ]) | (refine useq_read (v := ?_) rfl rfl rfl rfl (fun X hX => ?_) ?_; rotate_left; (focus (go_simp <;> with_reducible rfl)); simp only [Act.put, List.setIfInBounds_toArray, List.set_cons_zero, List.set_cons_succ]))
      have cG := hb.cell
      have fG := hb.frozen
      (refine useq_last rfl rfl rfl rfl (fun K hK => ?_))
      go_simp
      refine hK.out _ _ ?_
      refine useq_nil ?_
      have hfin : Grw w4 (((w6.setCell ⟨G, 0, none⟩ (.int .i64 s.al)).setCell ⟨G, 1, none⟩ (.int .i64 N)).setCell ⟨G, 2, none⟩ (.slice none 0 0)) G s.al N (.slice none 0 0) [] := ⟨fill_blk hb rfl _ _ _, World.ownsRow_nil _ _ _ _, hx0.frm (fill_frm w6 G _ _ _) (fun k hk e => by omega), hG⟩
      go_wp2_with fail
      go_meet
      exact ⟨G, rfl, hfin⟩
  case rest =>
    obtain ⟨G, rfl, hgr⟩ := hcut
    have k1 := c1 _ hgr.ext
    go_wp2_with fail
    go_loopw [7, 23] (fun _ i wr => ∃ (k : Nat) (v : Value) (es : List Edg), k ≤ n ∧ i = .int .i64 k ∧ Grw w4 wr G s.al N v es ∧ Hid (es = (s.edges.take k).map (quJ R)) ∧ Hid (es.length = k) ∧ es.length ≤ 1048576 ∧ Hid (k = 0 → v = .slice none 0 0)) (fun _ i _ => n - (intOf i).toNat)
    case atStart => exact ⟨0, _, [], Nat.zero_le _, rfl, hgr, rfl, rfl, by simp, (show Hid _ from fun _ => rfl)⟩
    case round =>
      clear hgr k1
      obtain ⟨k, v, es, hk, rfl, hgr, hes, hel, hel2, hv0⟩ := hrel
      by_cases hlt : k < n
      · obtain ⟨g, o, x, rfl, _, _, hx, d0, d1, d2⟩ := (HS.out wr ((hw2.trans hx24).trans hgr.ext)).2.edge hlt
        obtain ⟨⟨f0, f1⟩, ⟨g0, g1⟩, ⟨t0, t1⟩⟩ := Hf.out x (List.mem_of_getElem? hx.out)
        have Htk := hide (show s.edges.take (k + 1) = s.edges.take k ++ [x] by rw [List.take_add_one, hx.out]; rfl)
        obtain ⟨f, hfe⟩ : ∃ f : Nat, x.fr = f := ⟨x.fr.toNat, by omega⟩
        obtain ⟨t, hte⟩ : ∃ t : Nat, x.to = t := ⟨x.to.toNat, by omega⟩
        have hJ := hide (show quJ R x = ⟨(cl R f : Nat), x.le, (cl R t : Nat)⟩ by unfold quJ; rw [hfe, hte]; rfl)
        rw [hfe] at d0 f0 f1
        rw [hte] at d2 t0 t1
        have cf0 := hcc.out f (by omega)
        have ct0 := hcc.out t (by omega)
        clear hfe hte
        generalize cl R f = cf at *
        generalize cl R t = ct at *
        go_upto_region 8 with fail
        have hbx : Blk (wr.alloc (.cells #[.int .i64 f, .int .i64 x.le, .int .i64 t] 52)) wr.heap.size 52 #[.int .i64 f, .int .i64 x.le, .int .i64 t] := Blk.new _ _ _
        have hgr2 := hgr.ext_ ((Ext.refl wr).alloc (.cells #[.int .i64 f, .int .i64 x.le, .int .i64 t] 52))
        clear hgr
        generalize wr.alloc (.cells #[.int .i64 f, .int .i64 x.le, .int .i64 t] 52) = w6 at *
        have c7 : ∀ W, Ext w6 W → ∀ q, W.cell? ⟨wr.heap.size, q, none⟩ = #[Value.int .i64 f, .int .i64 x.le, .int .i64 t][q]? := fun W hW => (hbx.ext hW).cell
        have cG : ∀ W, Ext w6 W → ∀ q, W.cell? ⟨G, q, none⟩ = #[Value.int .i64 s.al, .int .i64 N, v][q]? := fun W hW => (hgr2.blk.ext hW).cell
        have cF : ∀ W, Ext w6 W → W.cell? ⟨gc, f, none⟩ = some (.int .i64 (cf : Nat)) := fun W hW => (hgr2.ext.trans hW).cell_some cf0
        have cT : ∀ W, Ext w6 W → W.cell? ⟨gc, t, none⟩ = some (.int .i64 (ct : Nat)) := fun W hW => (hgr2.ext.trans hW).cell_some ct0
        have hww6 := Ext.refl w6
        refine wp_region_tailU (fun X => Ext w6 X) [16, 18] (OrdU.of [0, 1, 2, 3, 4, 5, 6, 7, 8, 9, 10, 11, 12, 13, 14, 15, 16, 17, 18]) (by kernel_rfl) (by kernel_rfl) (by kernel_rfl) (by kernel_rfl) (by kernel_rfl) (fun _ _ _ _ _ h => h) (by first | assumption | exact (Ext.refl _).drew | (refine Ext.drew ?_; assumption)) ?_
        repeat (first | (refine useq_skip rfl rfl (by assumption) ?_; simp only [Act.put, List.setIfInBounds_toArray, List.set_cons_zero, List.set_cons_succ]) | (refine useq_pure (v := ?_) rfl rfl rfl rfl (fun X => ?_) ?_; rotate_left; (focus (go_simp <;> with_reducible rfl)); simp only [Act.put, List.setIfInBounds_toArray, List.set_cons_zero, List.set_cons_succ]) | (refine useq_read (v := ?_) rfl rfl rfl rfl (fun X hX => ?_) ?_; rotate_left; (focus (go_simp <;> with_reducible rfl)); simp only [Act.put, List.setIfInBounds_toArray, List.set_cons_zero, List.set_cons_succ]))
        (refine useq_step rfl rfl rfl (fun K hK => ?_); go_simp)
        refine hK.out _ _ (hww6.drew.alloc _) ?_
        (try simp only [Act.put, List.setIfInBounds_toArray, List.set_cons_zero, List.set_cons_succ])
        (refine useq_last rfl rfl rfl rfl (fun K hK => ?_))
        refine wp_push w4 w6.drew _ _ _ rfl 52 _ 3 24 Tryd.underlying26 info_edge rfl (by decide) v es.length (edgeCells es) _ _ rfl rfl hgr2.ext.size hgr2.own rfl (by simp [Value.oneCell']) (by unfold maxLen; omega) (by omega) ?_
        intro g5 cap5 w5 hown5 hg5 hat5 hlt5
        refine hK.out _ _ ?_
        (try simp only [Act.put, List.setIfInBounds_toArray, List.set_cons_zero, List.set_cons_succ])
        repeat (first | (refine useq_skip rfl rfl (by assumption) ?_; simp only [Act.put, List.setIfInBounds_toArray, List.set_cons_zero, List.set_cons_succ]) | (refine useq_pure (v := ?_) rfl rfl rfl rfl (fun X => ?_) ?_; rotate_left; (focus (go_simp <;> with_reducible rfl)); simp only [Act.put, List.setIfInBounds_toArray, List.set_cons_zero, List.set_cons_succ]) | (refine useq_read (v := ?_) rfl rfl rfl rfl (fun X hX => ?_) ?_; rotate_left; (focus (go_simp <;> with_reducible rfl)); simp only [Act.put, List.setIfInBounds_toArray, List.set_cons_zero, List.set_cons_succ]))
        obtain ⟨h1, h2, h3⟩ := (hgr2.ext_ ((Ext.refl _).drew)).push (e := ⟨cf, x.le, ct⟩) (W' := w5) hown5 hg5 hat5
        have h1' := h1.out
        (refine useq_last rfl rfl rfl rfl (fun K hK => ?_))
        go_simp
        refine hK.out _ _ ?_
        refine useq_nil ?_
        have hes3 := hide (show es ++ [⟨(cf : Nat), x.le, (ct : Nat)⟩] = (s.edges.take (k + 1)).map (quJ R) by rw [Htk.out, List.map_append, List.map_singleton, hJ.out, ← hes.out])
        have hel3 := hide (show (es ++ [(⟨(cf : Nat), x.le, (ct : Nat)⟩ : Edg)]).length = k + 1 by rw [List.length_append, hel.out]; rfl)
        go_wp2_with fail
        go_roundw
        case rel => exact ⟨k + 1, _, _, by omega, by go_num, h3, hes3, hel3, by rw [hel3.out]; omega, (show Hid _ from fun h => by omega)⟩
        case measure => simp [intOf]; omega
      · obtain rfl : k = n := by omega
        have htk : s.edges.take k = s.edges := List.take_of_length_le (by have := hL.out; omega)
        have hes2 := hide (show es = s.edges.map (quJ R) by rw [hes.out, htk])
        clear hes htk
        have hZl := hw2.size
        have hz24 := hx24.size
        have hbz := bz.ext (hx24.trans hgr.ext)
        have hzlt : w.heap.size + 1 < w4.heap.size := (bz.ext hx24).lt
        have hxw := (hw2.trans hx24).trans hgr.ext
        have hGZ : G ≠ w.heap.size + 1 := by have := hgr.hG; omega
        by_cases hk0 : k = 0
        · have hvn := hv0.out hk0
          subst hvn
          have hsE : s.edges = [] := List.eq_nil_of_length_eq_zero (by rw [← hL.out]; exact hk0)
          have hqE := hide (show (quoS s).edges = [] from List.eq_nil_iff_forall_not_mem.2 fun x hx => by
            obtain ⟨e, he, _⟩ := (hQ.out.mem x).1 hx
            rw [hsE] at he; cases he)
          have cG := hgr.blk.cell
          have fG := hgr.blk.frozen
          clear hsE hQ
          go_upto_region 11 with (go_at_call 35; refine (sort_none _).mono ?_; rintro e w' ⟨rfl, rfl⟩)
          go_upto_region 12 with (go_at_call 37; refine (comp_none _).mono ?_; rintro e w' ⟨rfl, rfl⟩)
          have hf9 := Frm.setCell wr G 2 (.slice none 0 0)
          have bG9 : Blk (wr.setCell ⟨G, 2, none⟩ (.slice none 0 0)) G 28 #[.int .i64 s.al, .int .i64 N, .slice none 0 0] := by simpa using hgr.blk.set_ 2 (.slice none 0 0)
          have bZ9 := hbz.frm hf9 (fun e => hGZ e.symm)
          have hx9 := hxw.setCell (p := ⟨G, 2, none⟩) (by have := hgr.hG; show w.heap.size ≤ G; omega) (.slice none 0 0)
          clear cG fG
          generalize wr.setCell ⟨G, 2, none⟩ (.slice none 0 0) = w9 at *
          have cG := bG9.cell
          have cZ := bZ9.cell
          have fZ := bZ9.frozen
          have hfl := fill_frm w9 (w.heap.size + 1) (.int .i64 s.al) (.int .i64 N) (.slice none 0 0)
          have hbf := fill_blk bZ9 rfl (.int .i64 s.al) (.int .i64 N) (.slice none 0 0)
          have hxf := hx9.frm hfl (fun k hk e => by omega)
          have hfin := hide (show RetQo w s (.returned (.tuple #[.agg #[.int .i64 s.al, .int .i64 N, .slice none 0 0], .bool true])) (((w9.setCell ⟨w.heap.size + 1, 0, none⟩ (.int .i64 s.al)).setCell ⟨w.heap.size + 1, 1, none⟩ (.int .i64 N)).setCell ⟨w.heap.size + 1, 2, none⟩ (.slice none 0 0)) from
            ⟨none, 0, 0, by rw [hqal.out, hqst.out], ⟨by rw [hqE.out]; rfl, by rw [hqE.out]; exact ⟨rfl, .inl ⟨rfl, rfl⟩⟩⟩, ⟨Nat.zero_le _, Nat.le_refl _⟩, hxf⟩)
          go_wp2_with fail
          generalize ((w9.setCell ⟨w.heap.size + 1, 0, none⟩ (.int .i64 s.al)).setCell ⟨w.heap.size + 1, 1, none⟩ (.int .i64 N)).setCell ⟨w.heap.size + 1, 2, none⟩ (.slice none 0 0) = wf at *
          have cf := hbf.cell
          exact bodyPost_ret (v := .tuple #[.agg #[.int .i64 s.al, .int .i64 N, .slice none 0 0], .bool true]) (by simp [results, Tryd.results10, go_sem, cf]) rfl hfin.out
        · have hown0 := hgr.own
          rw [hel.out] at hown0
          obtain ⟨A5, c5, rfl⟩ := own_form hown0
          obtain ⟨g, rfl⟩ : ∃ g, A5 = some ⟨g, 0, none⟩ := by
            rcases hown0.2 with ⟨_, hh⟩ | ⟨g, cap, cur, hv, _⟩
            · omega
            · exact ⟨g, by injection hv⟩
          have hcap5 := own_capE hown0
          have hg4 := (hown0.lt g rfl).1
          have hGg : G ≠ g := fun e => hgr.far (b := g) rfl e.symm
          have hgG := hgr.hG
          have hsort := hide (sort_any hown0 (by omega))
          have cG := hgr.blk.cell
          go_upto_region 11 with (go_at_call 35; refine hsort.out.mono ?_; rintro e w7 ⟨rfl, es', hes', hown7, hf7⟩)
          have hbG7 := hgr.blk.frm hf7 hGg
          have hbZ7 := hbz.frm hf7 (by omega)
          have hx7 := hxw.frm hf7 (fun k hk e => by omega)
          have hcomp := hide (comp_any hown7 (by omega))
          have hm := hide (show (compactUpTo es'.toArray es'.length).length ≤ k by
            have h1 : (compactUpTo es'.toArray es'.length).length ≤ es'.length := by
              unfold compactUpTo
              rw [List.length_map]
              exact Nat.le_trans (List.length_filter_le _ _) (by simp)
            rw [hes'.out.1, hel.out] at h1
            rw [hes'.out.1, hel.out]
            exact h1)
          have hqE := hide (show (quoS s).edges = compactUpTo es'.toArray es'.length from by
            obtain ⟨s1, s2⟩ := cpt_spec hes'.out.2.1
            refine rising_ext hQ.out.ris s1 fun x => ?_
            rw [hQ.out.mem, s2, hes'.out.2.2, hes2.out, List.mem_map]
            exact ⟨fun ⟨e, he, h⟩ => ⟨e, he, h.symm⟩, fun ⟨e, he, h⟩ => ⟨e, he, h.symm⟩⟩)
          have hgw7 := (hown7.lt g rfl).2
          clear cG hgr hown0 hown7 hsort hQ hes2
          have cG := hbG7.cell
          have fG := hbG7.frozen
          unfold RetC at hcomp
          generalize compactUpTo es'.toArray es'.length = ce at *
          obtain ⟨m, hmm⟩ : ∃ m, Hid (m = ce.length) := ⟨_, rfl⟩
          rw [← hmm.out] at hcomp
          go_upto_region 12 with (go_at_call 37; refine hcomp.out.mono ?_; rintro e w8 ⟨rfl, hf8, hce⟩; have cG := (hbG7.frm hf8 hGg).cell; have fG := (hbG7.frm hf8 hGg).frozen)
          have hlt8 : g < w8.heap.size := Nat.lt_of_lt_of_le hgw7 hf8.size
          have hf9 := Frm.setCell w8 G 2 (.slice (some ⟨g, 0, none⟩) m c5)
          have bG9 : Blk (w8.setCell ⟨G, 2, none⟩ (.slice (some ⟨g, 0, none⟩) m c5)) G 28 #[.int .i64 s.al, .int .i64 N, .slice (some ⟨g, 0, none⟩) m c5] := by simpa using (hbG7.frm hf8 hGg).set_ 2 (.slice (some ⟨g, 0, none⟩) m c5)
          have bZ9 := (hbZ7.frm hf8 (by omega)).frm hf9 (fun e => hGZ e.symm)
          have hx8 := hx7.frm hf8 (fun k hk e => by omega)
          have hx9 := hx8.setCell (p := ⟨G, 2, none⟩) (by show w.heap.size ≤ G; omega) (.slice (some ⟨g, 0, none⟩) m c5)
          have hc9 := hide (own_frm hce hf9 (fun b hb => by injection hb with hb; have hb' : g = b := hb; show ¬ (b = G); omega))
          have hlt9 : g < (w8.setCell ⟨G, 2, none⟩ (.slice (some ⟨g, 0, none⟩) m c5)).heap.size := Nat.lt_of_lt_of_le hlt8 hf9.size
          clear cG fG
          generalize w8.setCell ⟨G, 2, none⟩ (.slice (some ⟨g, 0, none⟩) m c5) = w9 at *
          have cG := bG9.cell
          have cZ := bZ9.cell
          have fZ := bZ9.frozen
          have hfl := fill_frm w9 (w.heap.size + 1) (.int .i64 s.al) (.int .i64 N) (.slice (some ⟨g, 0, none⟩) m c5)
          have hbf := fill_blk bZ9 rfl (.int .i64 s.al) (.int .i64 N) (.slice (some ⟨g, 0, none⟩) m c5)
          have hxf := hx9.frm hfl (fun k hk e => by omega)
          have hm' := hm.out
          rw [← hmm.out] at hm'
          have hfin := hide (show RetQo w s (.returned (.tuple #[.agg #[.int .i64 s.al, .int .i64 N, .slice (some ⟨g, 0, none⟩) m c5], .bool true])) (((w9.setCell ⟨w.heap.size + 1, 0, none⟩ (.int .i64 s.al)).setCell ⟨w.heap.size + 1, 1, none⟩ (.int .i64 N)).setCell ⟨w.heap.size + 1, 2, none⟩ (.slice (some ⟨g, 0, none⟩) m c5)) from by
            refine ⟨some ⟨g, 0, none⟩, m, c5, by rw [hqal.out, hqst.out], ⟨by rw [hqE.out, ← hmm.out], ?_⟩, ⟨by rw [← hL.out]; omega, by omega⟩, hxf⟩
            rw [hqE.out]
            exact own_less (own_frm hc9.out hfl (fun b hb => by injection hb with hb; have hb' : g = b := hb; show ¬ (b = _); omega)) (by omega))
          go_wp2_with fail
          generalize ((w9.setCell ⟨w.heap.size + 1, 0, none⟩ (.int .i64 s.al)).setCell ⟨w.heap.size + 1, 1, none⟩ (.int .i64 N)).setCell ⟨w.heap.size + 1, 2, none⟩ (.slice (some ⟨g, 0, none⟩) m c5) = wf at *
          have cf := hbf.cell
          exact bodyPost_ret (v := .tuple #[.agg #[.int .i64 s.al, .int .i64 N, .slice (some ⟨g, 0, none⟩) m c5], .bool true]) (by simp [results, Tryd.results10, go_sem, cf]) rfl hfin.out
theorem impl_QuotientSystem {lo hi : Nat} {A : Option Addr} {n c : Nat} {s : Sys} {w : World} (h : SysAt w lo hi A n s) (hT : Tab w) (hv : sysValid s = true) (hn4 : n ≤ 1048576) :
    Calls Tryd.prog 10 #[.agg #[.int .i64 s.al, .int .i64 s.st, .slice A n c]] w (RetQ w s) := by
  refine (impl_QuotientSystem_own h hT hv hn4).mono ?_
  rintro e w' ⟨A', n', c', rfl, hown, hle, hx⟩
  exact ⟨A', n', c', rfl, hown.reads, hle, hx⟩
end Go.Proofs.YtmlembcpamchjaaDoor

namespace Go.Proofs.YtmlembcpamchjaaDoor
open Go Go.RowKit

theorem simB_same {both : Bool} {s t : Sys} (h : simB both s t = true) : sameB s t = true := by
  unfold simB at h
  cases hh : sameB s t <;> simp_all
theorem bis_trans {s t u : Sys} (h : simB true s t = true) (h' : simB true t u = true) : simB true s u = true := by
  have a := simB_same h
  have b := simB_same h'
  obtain ⟨v1, v2, e1⟩ := same_valid a
  obtain ⟨_, v3, e2⟩ := same_valid b
  obtain ⟨p, hp, _⟩ := valid_few v1
  obtain ⟨q, hq, _⟩ := valid_few v2
  obtain ⟨r, hr, _⟩ := valid_few v3
  have c : sameB s u = true := by simp only [sameB, v1, v3, Bool.true_and, beq_iff_eq]; omega
  exact (simB_rel2 c).2 ((gfp_at hp hq).trans (gfp_at hq hr) (gfp_at hp hr) ((simB_rel2 a).1 h) ((simB_rel2 b).1 h'))
theorem bis_congr {s t x y : Sys} (hx : simB true s x = true) (hy : simB true t y = true) : simB true x y = simB true s t := by
  rw [Bool.eq_iff_iff]
  exact ⟨fun h => bis_trans (bis_trans hx h) (bis_symm hy), fun h => bis_trans (bis_trans (bis_symm hx) h) hy⟩
theorem quo_bis_eq {s t : Sys} (h : sameB s t = true) : simB true (quoS s) (quoS t) = simB true s t := by
  obtain ⟨v1, v2, _⟩ := same_valid h
  exact bis_congr (quo_bis v1) (quo_bis v2)
theorem trim_bis_self {s : Sys} {p R : Nat} (hv : sysValid s = true) (hp : s.st = p) (hR : RchSet s.edges p R) : simB true s (subS s R) = true := by
  have w1 := sub_valid hv hp hR
  have h : sameB s (subS s R) = true := by
    simp only [sameB, hv, w1, Bool.true_and, beq_iff_eq]
    rfl
  obtain ⟨p', hp', p1, p2, hf⟩ := valid_few hv
  obtain rfl : p' = p := by omega
  exact (simB_rel2 h).2 (trim_bis (by omega) hR (gfp_at (both := true) hp' (show (subS s R).st = (rk R 32 : Nat) from rfl)))
theorem trim_bis_eq {s t : Sys} {p R : Nat} (h : sameB s t = true) (hp : s.st = p) (hR : RchSet s.edges p R) : simB true (subS s R) t = simB true s t := by
  obtain ⟨v1, v2, _⟩ := same_valid h
  exact bis_congr (trim_bis_self v1 hp hR) (sim_self v2)
end Go.Proofs.YtmlembcpamchjaaDoor

namespace Go.Proofs.YtmlembcpamchjaaDoor
open Go Go.ChangeShapes Go.WideShapes Go.ChangeAt Go.RowKit Go.Deep

/-- A slice of bytes that came in. -/
def BytesAt (w : World) (A : Option Addr) (n c : Nat) : Prop := Bytes w A n ∧ n ≤ 9223372036854775807 ∧ n ≤ c ∧ c ≤ 9223372036854775807
set_option maxRecDepth 100000 in
theorem arg_bytes {H : Type} {enc : TypeId × Value → H} {w : World} {spare : Nat → Bool} {held : Bool} {r : Reach} {b0 : Nat} {v : Value} {d : DataW H} {p : List MemPlace} (hv : Value.okWide Tryd.prog w r b0 35 v) (h : DataW.Trod enc Tryd.prog w 0 spare held 35 v d p) :
    ∃ (A : Option Addr) (n c : Nat), v = .slice A n c ∧ BytesAt w A n c := by
  obtain ⟨a, l, k, rfl⟩ := okWide_slice Tryd.underlying35 hv
  obtain ⟨fuel, hf⟩ := h
  rcases open_slice1 Tryd.underlying35 (by kernel_rfl) hf with ⟨h0, _⟩ | ⟨ad, len, cap, m, n, V, D, Pl, h0, hb, hl, hm, hmm, _, hx⟩
  · simp [Value.cells] at h0
    obtain ⟨rfl, rfl, rfl⟩ := h0
    exact ⟨_, _, _, rfl, fun h => absurd h (by omega), by omega, Nat.le_refl _, by omega⟩
  · simp [Value.cells] at h0
    obtain ⟨rfl, rfl, rfl⟩ := h0
    unfold maxLen at hm
    have hlm : l ≤ m := by rw [hmm]; split <;> omega
    refine ⟨_, _, _, rfl, fun hn => ?_, by omega, hl, by omega⟩
    have h1 := (hx 0 (by omega)).1
    have hs := addr_spot h1
    have hlt := World.block_lt_of_cell? w _ h1
    rw [addr_block] at hlt
    refine ⟨ad.block, ad.off, by rw [← hs], hlt, fun j hj => ?_⟩
    obtain ⟨h2, h3⟩ := hx j (by omega)
    obtain ⟨b, hb1, _, hb3⟩ := DataW.trod_int Tryd.underlying5 h3
    have hV : V j = .int .u8 b := by simpa using hb1
    rw [hV, hs, addr_lit] at h2
    have hw : 0 ≤ b ∧ b < 256 := by
      simp only [Lit.wf, Bool.and_eq_true, decide_eq_true_eq] at hb3
      have h4 : IntKind.u8.min = 0 := rfl
      have h5 : IntKind.u8.max = 255 := rfl
      omega
    refine ⟨b.toNat, by omega, ?_⟩
    rw [h2]
    have : ((b.toNat : Nat) : Int) = b := by omega
    rw [this]
end Go.Proofs.YtmlembcpamchjaaDoor

namespace Go.Proofs.YtmlembcpamchjaaDoor
open Go Go.RowKit
set_option maxHeartbeats 8000000

theorem spec_l5Index {w : World} {base n c v : Nat} {A : Option Addr} {xs : List Nat} (h : w.ownsRow base 3 1 (.slice A n c) n (nats xs)) (hv : v ∈ xs) :
    Calls Tryd.prog 30 #[.slice A n c, .int .i64 (v : Nat)] w fun e w' => ∃ i : Nat, e = .returned (.int .i64 i) ∧ Hid (xs[i]? = some v) ∧ w = w' := by
  have hl := hide (show xs.length = n by have := h.1; rw [nats_length] at this; omega)
  have hnm := (Reads.of_own h).len
  obtain ⟨k0, hk0⟩ := List.getElem?_of_mem hv
  have hk0n : k0 < n := by rw [← hl.out]; exact (List.getElem?_eq_some_iff.1 hk0).1
  obtain ⟨g, rfl⟩ : ∃ g, A = some ⟨g, 0, none⟩ := by
    rcases h.2 with ⟨_, hh⟩ | ⟨g, cap, cur, hv, _⟩
    · omega
    · exact ⟨g, by injection hv⟩
  have Hc := hide (fun (k : Nat) (x : Nat) (hk : xs[k]? = some x) => (show w.cell? ⟨g, k, none⟩ = some (.int .i64 (x : Nat)) by
    have := (List.getElem?_eq_some_iff.1 hk).1
    rw [h.cellAt k (by have := hl.out; omega)]; simp [nats, hk]))
  have Hk0 := hide hk0
  clear h hv hk0
  go_enter Tryd.func30, Tryd.ntmps30
  go_wp2
  go_loopw [5] (fun i wr => ∃ k : Nat, k ≤ k0 ∧ i = .int .i64 k ∧ w = wr) (fun i _ => k0 - (intOf i).toNat)
  case atStart => exact ⟨0, by omega, rfl, rfl⟩
  case round =>
    obtain ⟨k, hk, rfl, rfl⟩ := hrel
    obtain ⟨x, hx⟩ : ∃ x, Hid (xs[k]? = some x) := ⟨_, hide (List.getElem?_eq_getElem (by rw [hl.out]; omega))⟩
    have c1 := Hc.out k x hx.out
    have hkc : (k : Int) < (n : Int) := by omega
    by_cases hxv : x = v
    · subst hxv
      have hfin := hide hx.out
      go_wp2
      go_ret
      exact ⟨k, rfl, hfin, by first | trivial | rfl⟩
    · have hne : ((x : Int) != (v : Int)) = true := by simp; omega
      have hkk : k ≠ k0 := by
        rintro rfl
        have h1 := hx.out
        rw [Hk0.out] at h1
        exact hxv (Option.some.inj h1).symm
      go_wp2
      go_roundw
      case rel => exact ⟨k + 1, by omega, by go_num, by first | trivial | rfl⟩
      case measure => simp [intOf]; omega
/-- The reference's test is the quotient's edge. -/
theorem Quo.test {s q : Sys} {p N : Nat} {R : List Nat} (h : Quo s p R N q) {i c l d : Nat} (hi : i < p) (hc : cl R i = c) : ((List.range p).any fun j => (stepB s.edges (2 ^ i) (l : Nat)).testBit j && cl R j == d) = quB R s.edges c l d := by
  have hp := h.hp2
  rw [Bool.eq_iff_iff, List.any_eq_true]
  unfold quB
  rw [List.any_eq_true]
  constructor
  · rintro ⟨j, hj, hb⟩
    rw [Bool.and_eq_true, beq_iff_eq, stepB_one h.few] at hb
    obtain ⟨e, he, h1, h2, h3⟩ := (E_iff h.few i l j).2 hb.1
    refine ⟨e, he, decide_eq_true ⟨?_, h2, ?_⟩⟩
    · rw [h1]; exact hc
    · rw [h3]; exact hb.2
  · rintro ⟨e, he, hd⟩
    rw [decide_eq_true_eq] at hd
    have hb := h.few e he
    have hrel := (h.eqv.cl_iff (by omega) (i := e.fr.toNat) (j := i) (by omega) hi).1 (by rw [hd.1, hc])
    obtain ⟨k, hk, hr⟩ := (h.gfp.post _ _ hrel).1 l e.to.toNat ⟨e, he, by omega, hd.2.1, by omega⟩
    refine ⟨k, List.mem_range.2 (E_lt h.few hk).2, ?_⟩
    rw [Bool.and_eq_true, beq_iff_eq, stepB_one h.few]
    refine ⟨(E_iff h.few i l k).1 hk, ?_⟩
    rw [← hd.2.2]
    exact ((h.eqv.cl_iff (by omega) (by omega) (E_lt h.few hk).2).2 hr).symm
/-- The variable G, which is older, holds a system that grows in memory newer than w0. -/
structure Gr2 (w0 W : World) (G : Nat) (al st : Int) (v : Value) (es : List Edg) : Prop where
  blk : Blk W G 28 #[.int .i64 al, .int .i64 st, v]
  own : W.ownsRow w0.heap.size 52 3 v es.length (edgeCells es)
  fr : Frm (fun k => k = G) w0 W
  hG : G < w0.heap.size
theorem Gr2.ext_ {w0 W W' : World} {G : Nat} {al st : Int} {v : Value} {es : List Edg} (h : Gr2 w0 W G al st v es) (hb : Ext W W') : Gr2 w0 W' G al st v es := ⟨h.blk.ext hb, own_ext h.own hb, h.fr.ext hb, h.hG⟩
theorem Gr2.push {w0 W W' : World} {G : Nat} {al st : Int} {v : Value} {es : List Edg} {g cap : Nat} {e : Edg} (h : Gr2 w0 W G al st v es) (hown : W'.ownsRow w0.heap.size 52 3 (.slice (some ⟨g, 0, none⟩) (es.length + 1) cap) (es.length + 1) (edgeCells es ++ [.int .i64 e.fr, .int .i64 e.le, .int .i64 e.to]))
    (hg : W.grownBy W' v.ownBlock) :
    Hid (W'.cell? ⟨G, 2, none⟩ = some v) ∧ W'.frozen? ⟨G, 2, none⟩ = false ∧ Gr2 w0 (W'.setCell ⟨G, 2, none⟩ (.slice (some ⟨g, 0, none⟩) (es.length + 1) cap)) G al st (.slice (some ⟨g, 0, none⟩) (es.length + 1) cap) (es ++ [e]) := by
  have hB : Blk W' G 28 #[.int .i64 al, .int .i64 st, v] := (hg.block G h.blk.lt (fun e => by have := (h.own.lt G e.symm).1; have := h.hG; omega)).trans h.blk
  have hgG := (hown.lt g rfl).1
  have hG := h.hG
  have hf : Frm (fun k => k = G) w0 W' := h.fr.grown_ hg (fun k hk => (h.own.lt k hk).1)
  refine ⟨hB.cell 2, hB.frozen 2, ⟨by simpa using hB.set_ 2 _, ?_, hf.cell rfl _, hG⟩⟩
  have := own_frm hown (Frm.setCell W' G 2 (.slice (some ⟨g, 0, none⟩) (es.length + 1) cap)) (fun b hv hS => by
    have : g = b := by simpa [Value.ownBlock] using hv
    omega)
  rw [edgeCells_append]
  simpa [edgeCells] using this
/-- What the reference's QuotientSystem answers of a valid system. -/
def RetQs (w : World) (s : Sys) (e : Ending) (w' : World) : Prop := ∃ (A : Option Addr) (n c : Nat), e = .returned (.tuple #[.agg #[.int .i64 (quoS s).al, .int .i64 (quoS s).st, .slice A n c], .bool true]) ∧ SysAt w' w.heap.size w'.heap.size A n (quoS s) ∧ Ext w w'
set_option maxRecDepth 100000 in
theorem spec_QuotientSystem {lo hi : Nat} {A : Option Addr} {n c : Nat} {s : Sys} {w : World} (h : SysAt w lo hi A n s) (hv : sysValid s = true) :
    Calls Tryd.prog 8 #[.agg #[.int .i64 s.al, .int .i64 s.st, .slice A n c]] w (RetQs w s) := by
  obtain ⟨p, hp, hp1, hp2, hf⟩ := valid_few hv
  have hQ := hide (quo_spec hv hp)
  have HS := hide (fun W (hW : Ext w W) => h.ext hW)
  have hcls := hide (fun W (hW : Ext w W) => spec_l15Classes (c := c) (HS.out W hW) hp hp1 hp2 hf)
  have hquo := hide (show quoS s = ⟨s.al, ((clsOf (gfp true s s) p).2 : Nat), quE (gfp true s s) s.edges (clsOf (gfp true s s) p).2 (letters s.al.toNat 6)⟩ by unfold quoS; rw [hp]; rfl)
  obtain ⟨al, hal, hal2⟩ : ∃ al : Nat, s.al = al ∧ al < 64 := ⟨s.al.toNat, by have := (valid_iff.1 hv).1; omega, by have := (valid_iff.1 hv).1; omega⟩
  generalize gfp true s s = R at *
  have hlen := hide (clsOf_length R p)
  have hget := hide (show ∀ i, i < p → (clsOf R p).1[i]? = some (cl R i) from fun i hi => by
    have h1 := clsOf_get (R := R) hi
    rw [List.getD_eq_getElem?_getD, List.getElem?_eq_getElem (by rw [hlen.out]; exact hi)] at h1
    rw [List.getElem?_eq_getElem (by rw [hlen.out]; exact hi)]
    exact congrArg some h1)
  have honto := hide (fun x (hx : x < (clsOf R p).2) => hQ.out.eqv.cl_onto (by omega) p (Nat.le_refl _) x hx)
  have hclN := hide (fun i (hi : i < p) => hQ.out.eqv.cl_num (by omega) hi)
  have hNp := hQ.out.le
  generalize clsOf R p = xn at *
  obtain ⟨xs, N⟩ := xn
  dsimp only at hQ hcls hquo hlen hget honto hclN hNp
  have Hv := hide hv
  have Hf := hide hf
  have Hp := hide hp
  have Hal := hide hal
  clear h hv hf hp hal
  go_enter Tryd.func8, Tryd.ntmps8
  obtain ⟨b1, bz⟩ := ext_blk2 (Ext.refl ((w.alloc (.cells #[.int .i64 s.al, .int .i64 s.st, .slice A n c] 28)).alloc (.cells #[.int .i64 0, .int .i64 0, .slice none 0 0] 28)))
  have hw2 : Ext w ((w.alloc (.cells #[.int .i64 s.al, .int .i64 s.st, .slice A n c] 28)).alloc (.cells #[.int .i64 0, .int .i64 0, .slice none 0 0] 28)) := ((Ext.refl w).alloc _).alloc _
  have k1 := b1.cell
  go_upto_region 1 with fail
  generalize (w.alloc (.cells #[.int .i64 s.al, .int .i64 s.st, .slice A n c] 28)).alloc (.cells #[.int .i64 0, .int .i64 0, .slice none 0 0] 28) = w2 at *
  go_wp2_with fail
  refine (spec_SystemValid (HS.out _ hw2)).mono ?_
  rw [Hv.out]
  rintro e w3 ⟨rfl, hx3⟩
  clear k1
  have k1 := (b1.ext hx3).cell
  go_wp2_with fail
  refine (hcls.out _ (hw2.trans hx3)).mono ?_
  rintro e w4 ⟨Bc, nc, cc, rfl, ⟨hnc, hownc⟩, hx4⟩
  obtain rfl : nc = p := by rw [hnc]; exact hlen.out
  clear hnc k1
  dsimp only at hownc ⊢
  have hx24 := hx3.trans hx4
  have b14 := b1.ext hx24
  have k1 := b14.cell
  rw [Hal.out, Hp.out] at b14
  go_upto_region 5 with fail
  have hb6 := Blk.new w4 28 #[.int .i64 s.al, .int .i64 N, .slice none 0 0]
  have hxa := (Ext.refl w4).alloc (.cells #[.int .i64 s.al, .int .i64 N, .slice none 0 0] 28)
  have hownc5 := own_ext hownc hxa
  have b15 := b14.ext hxa
  have bz5 := bz.ext (hx24.trans hxa)
  have hx25 := hx24.trans hxa
  have hgw4 := (b14).lt
  have hG4 : w.heap.size + 1 < w4.heap.size := (bz.ext hx24).lt
  clear k1 hxa hx3 hx4 hownc b14
  generalize w4.alloc (.cells #[.int .i64 s.al, .int .i64 N, .slice none 0 0] 28) = w5 at *
  have hGl := hb6.lt
  have hncl : ∀ b, (Value.slice Bc nc cc).ownBlock = some b → b < w5.heap.size ∧ b ≠ w4.heap.size := fun b hb => ⟨(hownc5.lt b hb).2, fun e => by
    subst e
    rcases hownc5.2 with ⟨h0, _⟩ | ⟨g, cap, cur, h0, _, hh, _⟩
    · rw [h0] at hb; simp [Value.ownBlock] at hb
    · rw [h0] at hb
      have hg : g = w4.heap.size := by simpa [Value.ownBlock] using hb
      subst hg
      unfold Blk at hb6
      rw [hh] at hb6
      injection hb6 with hb6
      injection hb6 with _ ht
      exact absurd ht (by decide)⟩
  generalize w4.heap.size = G at *
  have k1 := b15.cell
  go_wp2_with fail
  refine (spec_l1Letters al (by unfold Sm; omega) _).mono ?_
  rintro e w6 ⟨AL, cL, rfl, hownL, hx6⟩
  obtain ⟨q, hq⟩ : ∃ q, Hid (q = (letters al 6).length) := ⟨_, rfl⟩
  have hq6 : q ≤ 6 := by rw [hq.out]; exact letters_length _ _
  rw [← hq.out] at hownL ⊢
  have hl6 := hide (fun l (hl : l ∈ letters al 6) => (mem_letters.1 hl).1)
  have hGr : Gr2 w6 w6 G s.al N (.slice none 0 0) [] := ⟨hb6.ext hx6, World.ownsRow_nil _ _ _ _, Frm.refl _ _, Nat.lt_of_lt_of_le hGl hx6.size⟩
  have hB1 := hide (fun W (hW : Frm (fun k => k = G) w6 W) => (b15.ext hx6).frm hW (by omega))
  have hBz := hide (fun W (hW : Frm (fun k => k = G) w6 W) => (bz5.ext hx6).frm hW (by omega))
  have hCl := hide (fun W (hW : Frm (fun k => k = G) w6 W) => own_frm (own_ext hownc5 hx6) hW (fun b hb e => (hncl b hb).2 e))
  have hLe := hide (fun W (hW : Frm (fun k => k = G) w6 W) => own_frm hownL hW (fun b hb e => by have := (hownL.lt b hb).1; omega))
  have hx26 := hx25.trans hx6
  have hxw6 := hw2.trans hx26
  have hlw := hide (show letters s.al.toNat 6 = letters al 6 by rw [Hal.out]; rfl)
  clear k1 hncl hownc5 hb6 b15 bz5 hownL hx6 hx25 hx24
  generalize letters al 6 = L at *
  go_wp2_with fail
  go_loopw [8, 9, 10, 11, 12, 13, 14] (fun vc _ _ _ _ _ _ wr => ∃ (x : Nat) (v : Value) (es : List Edg), x ≤ N ∧ vc = .int .i64 x ∧ Gr2 w6 wr G s.al N v es ∧ Hid (es = (List.range x).flatMap (quC R s.edges N L)) ∧ es.length ≤ x * 1000) (fun vc _ _ _ _ _ _ _ => N - (intOf vc).toNat)
  case atStart => exact ⟨0, _, [], Nat.zero_le _, rfl, hGr, rfl, by simp⟩
  case round =>
    clear hGr
    obtain ⟨x, v, es, hx, rfl, hgr, hes, hel⟩ := hrel
    by_cases hlt : x < N
    · obtain ⟨ci, hci, hcc⟩ := honto.out x hlt
      have hmem := List.mem_of_getElem? (hget.out ci hci)
      rw [hcc] at hmem
      have hidx := hide (spec_l5Index (hCl.out _ hgr.fr) hmem)
      go_wp2_with fail
      refine hidx.out.mono ?_
      rintro e w' ⟨i, rfl, hi, rfl⟩
      have hip : i < nc := by rw [← hlen.out]; exact (List.getElem?_eq_some_iff.1 hi.out).1
      have hic := hide (show cl R i = x by
        have h1 := hget.out i hip
        rw [hi.out] at h1
        exact (Option.some.inj h1).symm)
      clear hmem hcc hidx hi
      go_wp2_with fail
      refine (spec_l1Bit i (by omega) _).mono ?_
      rintro e w' ⟨rfl, rfl⟩
      have hGw : w.heap.size ≤ G := by omega
      go_wp2_with fail
      go_loopw [10, 11, 12, 13, 14] (fun vk _ _ _ _ wr => ∃ (k : Nat) (v : Value) (es' : List Edg), k ≤ q ∧ vk = .int .i64 k ∧ Gr2 w6 wr G s.al N v es' ∧ Hid (es' = es ++ (L.take k).flatMap (quD R s.edges N x)) ∧ es'.length ≤ x * 1000 + k * 100) (fun vk _ _ _ _ _ => q - (intOf vk).toNat)
      case atStart => exact ⟨0, v, es, Nat.zero_le _, rfl, hgr, (show Hid _ from by simp [Hid]), by omega⟩
      case round =>
        clear hgr
        rename World => wk
        obtain ⟨k, v, es', hk, rfl, hgr, hes', hel'⟩ := hrel
        by_cases hlk : k < q
        · obtain ⟨ga, oa, l, rfl, hl, hcl⟩ := (IntsAt.own (hLe.out _ hgr.fr)).at_ hlk
          have hl66 := hl6.out l (List.mem_of_getElem? hl.out)
          have htk := hide (show L.take (k + 1) = L.take k ++ [l] by rw [List.take_add_one, hl.out]; rfl)
          have hst := spec_l2Step (c := c) (l := (l : Nat)) (HS.out _ ((hxw6.frm hgr.fr (fun b hb e => by omega)).drew)) Hf.out hp2 (Sm.bit (show i < 32 by omega))
          rw [Hal.out, Hp.out] at hst
          have Hst := hide hst
          have hYs := stepB_sm Hf.out hp2 (2 ^ i) (l : Nat)
          have hqt := hide (fun d => hQ.out.test (l := l) (d := d) hip hic.out)
          clear hst
          generalize stepB s.edges (2 ^ i) (l : Nat) = Y at *
          have K1 : ∀ W, Ext wk W → ∀ j, W.cell? ⟨w.heap.size, j, none⟩ = #[Value.int .i64 al, .int .i64 nc, .slice A n c][j]? := fun W hW => ((hB1.out _ hgr.fr).ext hW).cell
          have KL : ∀ W, Ext wk W → W.cell? ⟨ga, oa + k, none⟩ = some (.int .i64 (l : Nat)) := fun W hW => hW.cell_some hcl
          have hkc : (k : Int) < (q : Int) := by omega
          have hk0 : 0 ≤ (k : Int) := by omega
          have hww := Ext.refl wk
          clear hcl
          go_upto_region 13 with fail
          refine wp_region_tailU (fun X => Ext wk X) [6] (OrdU.of [0, 1, 2, 3, 4, 5, 6, 7]) (by kernel_rfl) (by kernel_rfl) (by kernel_rfl) (by kernel_rfl) (by kernel_rfl) (fun _ _ _ _ _ h => h) (by first | assumption | exact (Ext.refl _).drew | (refine Ext.drew ?_; assumption)) ?_
          repeat (first | (refine useq_skip rfl rfl (by assumption) ?_; simp only [Act.put, List.setIfInBounds_toArray, List.set_cons_zero, List.set_cons_succ]) | (refine useq_pure (v := ?_) rfl rfl rfl rfl (fun X => ?_) ?_; rotate_left; (focus (go_simp <;> with_reducible rfl)); simp only [Act.put, List.setIfInBounds_toArray, List.set_cons_zero, List.set_cons_succ]) | (refine useq_read (v := ?_) rfl rfl rfl rfl (fun X hX => ?_) ?_; rotate_left; (focus (go_simp <;> with_reducible rfl)); simp only [Act.put, List.setIfInBounds_toArray, List.set_cons_zero, List.set_cons_succ]))
          (refine useq_step rfl rfl rfl (fun K hK => ?_); go_simp)
          refine Hst.out.mono ?_
          rintro e w7 ⟨rfl, hx7⟩
          have hx7' := hww.drew.trans hx7
          refine hK.out _ _ hx7' ?_
          (try simp only [Act.put, List.setIfInBounds_toArray, List.set_cons_zero, List.set_cons_succ])
          repeat (first | (refine useq_skip rfl rfl (by assumption) ?_; simp only [Act.put, List.setIfInBounds_toArray, List.set_cons_zero, List.set_cons_succ]) | (refine useq_pure (v := ?_) rfl rfl rfl rfl (fun X => ?_) ?_; rotate_left; (focus (go_simp <;> with_reducible rfl)); simp only [Act.put, List.setIfInBounds_toArray, List.set_cons_zero, List.set_cons_succ]) | (refine useq_read (v := ?_) rfl rfl rfl rfl (fun X hX => ?_) ?_; rotate_left; (focus (go_simp <;> with_reducible rfl)); simp only [Act.put, List.setIfInBounds_toArray, List.set_cons_zero, List.set_cons_succ]))
          refine useq_nil ?_
          replace hgr := hgr.ext_ hx7'
          clear K1 KL hww hx7 hx7'
          go_wp2_with fail
          go_loopw [12, 13, 14] (fun vd _ _ wr => ∃ (d : Nat) (v : Value) (es'' : List Edg), d ≤ N ∧ vd = .int .i64 d ∧ Gr2 w6 wr G s.al N v es'' ∧ Hid (es'' = es' ++ ((List.range d).filter fun d => quB R s.edges x l d).map fun d => (⟨(x : Nat), (l : Nat), (d : Nat)⟩ : Edg)) ∧ es''.length ≤ x * 1000 + k * 100 + d) (fun vd _ _ _ => N - (intOf vd).toNat)
          case atStart => exact ⟨0, v, es', Nat.zero_le _, rfl, hgr, (show Hid _ from by simp [Hid]), by omega⟩
          case round =>
            clear hgr
            rename World => wd
            obtain ⟨d, v, es'', hd, rfl, hgr, hes'', hel''⟩ := hrel
            by_cases hld : d < N
            · go_wp2_with fail
              go_loopw [13, 14] (fun vf vi wr => ∃ y : Nat, y ≤ nc ∧ vi = .int .i64 y ∧ vf = .bool ((List.range y).any fun j => Y.testBit j && cl R j == d) ∧ Ext wd wr) (fun _ vi _ => nc - (intOf vi).toNat)
              case atStart => exact ⟨0, Nat.zero_le _, rfl, rfl, Ext.refl _⟩
              case round =>
                obtain ⟨y, hy, rfl, rfl, hxr⟩ := hrel
                have hgr3 := hgr.ext_ hxr
                have k1 := (hB1.out _ hgr3.fr).cell
                by_cases hly : y < nc
                · have hrs := hide (show ((List.range (y + 1)).any fun j => Y.testBit j && cl R j == d) = (((List.range y).any fun j => Y.testBit j && cl R j == d) || (Y.testBit y && cl R y == d)) by rw [List.range_succ, List.any_append]; simp)
                  obtain ⟨gb, ob, z, rfl, hz, hcz⟩ := (IntsAt.own (hCl.out _ hgr3.fr)).at_ hly
                  have hzc := hide (show z = cl R y by
                    have h1 := hz.out
                    rw [hget.out y hly] at h1
                    exact (Option.some.inj h1).symm)
                  have hyc : (y : Int) < (nc : Int) := by omega
                  cases hfb : (List.range y).any fun j => Y.testBit j && cl R j == d
                  · have Hfb := hide hfb
                    clear hfb
                    cases hbb : Y.testBit y
                    · have Hbb := hide hbb
                      have hnew := hide (show ((List.range (y + 1)).any fun j => Y.testBit j && cl R j == d) = false by rw [hrs.out, Hfb.out, hbb]; rfl)
                      clear hbb hcz
                      go_wp2_with (go_at_call 32; refine (spec_l1Has Y y hYs _ (by omega)).mono ?_; rw [Hbb.out]; rintro e w' ⟨rfl, rfl⟩)
                      go_roundw
                      case rel => exact ⟨y + 1, by omega, by go_num, by rw [hnew.out], hxr⟩
                      case measure => simp [intOf]; omega
                    · have Hbb := hide hbb
                      clear hbb
                      by_cases hzd : z = d
                      · have hnew := hide (show ((List.range (y + 1)).any fun j => Y.testBit j && cl R j == d) = true by rw [hrs.out, Hfb.out, Hbb.out, ← hzc.out, hzd]; simp)
                        have heq : ((z : Int) == (d : Int)) = true := by simp; omega
                        clear hzd
                        go_wp2_with (go_at_call 32; refine (spec_l1Has Y y hYs _ (by omega)).mono ?_; rw [Hbb.out]; rintro e w' ⟨rfl, rfl⟩)
                        go_roundw
                        case rel => exact ⟨y + 1, by omega, by go_num, by rw [hnew.out], hxr⟩
                        case measure => simp [intOf]; omega
                      · have hnew := hide (show ((List.range (y + 1)).any fun j => Y.testBit j && cl R j == d) = false by rw [hrs.out, Hfb.out, Hbb.out, ← hzc.out]; simpa using hzd)
                        have heq : ((z : Int) == (d : Int)) = false := by simp; omega
                        go_wp2_with (go_at_call 32; refine (spec_l1Has Y y hYs _ (by omega)).mono ?_; rw [Hbb.out]; rintro e w' ⟨rfl, rfl⟩)
                        go_roundw
                        case rel => exact ⟨y + 1, by omega, by go_num, by rw [hnew.out], hxr⟩
                        case measure => simp [intOf]; omega
                  · have Hfb := hide hfb
                    have hnew := hide (show ((List.range (y + 1)).any fun j => Y.testBit j && cl R j == d) = true by rw [hrs.out, hfb]; rfl)
                    clear hfb hcz
                    go_wp2_with fail
                    go_roundw
                    case rel => exact ⟨y + 1, by omega, by go_num, by rw [hnew.out], hxr⟩
                    case measure => simp [intOf]; omega
                · obtain rfl : y = nc := by omega
                  have hrd := hide (show ((List.range (d + 1)).filter fun d => quB R s.edges x l d) = ((List.range d).filter fun d => quB R s.edges x l d) ++ if quB R s.edges x l d then [d] else [] by rw [List.range_succ, List.filter_append]; cases hq' : quB R s.edges x l d <;> simp [hq'])
                  have hqd := hqt.out d
                  cases hb : quB R s.edges x l d
                  · rw [hb] at hqd
                    rw [hqd]
                    have hes3 := hide (show es'' = es' ++ ((List.range (d + 1)).filter fun d => quB R s.edges x l d).map fun d => (⟨(x : Nat), (l : Nat), (d : Nat)⟩ : Edg) by rw [hrd.out, hb]; simpa using hes''.out)
                    clear hb hqd
                    go_wp2_with fail
                    go_roundw
                    case rel => exact ⟨d + 1, v, es'', by omega, by go_num, hgr3, hes3, by omega⟩
                    case measure => simp [intOf]; omega
                  · rw [hb] at hqd
                    rw [hqd]
                    have hes3 := hide (show es'' ++ [(⟨(x : Nat), (l : Nat), (d : Nat)⟩ : Edg)] = es' ++ ((List.range (d + 1)).filter fun d => quB R s.edges x l d).map fun d => (⟨(x : Nat), (l : Nat), (d : Nat)⟩ : Edg) by rw [hrd.out, hb, hes''.out]; simp)
                    clear hb hqd
                    obtain ⟨ga', oa', l', hAL', hl', hcl'⟩ := (IntsAt.own (hLe.out _ hgr3.fr)).at_ hlk
                    obtain ⟨rfl, rfl⟩ : ga = ga' ∧ oa = oa' := by injection hAL' with e; injection e with e1 e2; exact ⟨e1, e2⟩
                    obtain rfl : l = l' := by
                      have h1 := hl'.out
                      rw [hl.out] at h1
                      exact Option.some.inj h1
                    have KL : ∀ W, Ext wr W → W.cell? ⟨ga, oa + k, none⟩ = some (.int .i64 (l : Nat)) := fun W hW => hW.cell_some hcl'
                    have cG : ∀ W, Ext wr W → ∀ j, W.cell? ⟨G, j, none⟩ = #[Value.int .i64 s.al, .int .i64 N, v][j]? := fun W hW => (hgr3.blk.ext hW).cell
                    have hkc : (k : Int) < (q : Int) := by omega
                    have hk0 : 0 ≤ (k : Int) := by omega
                    have hww := Ext.refl wr
                    clear hcl' hAL'
                    go_upto_region 23 with fail
                    clear k1
                    refine wp_region_tailU (fun X => Ext wr X) [10, 12] (OrdU.of [0, 1, 2, 3, 4, 5, 6, 7, 8, 9, 10, 11, 12]) (by kernel_rfl) (by kernel_rfl) (by kernel_rfl) (by kernel_rfl) (by kernel_rfl) (fun _ _ _ _ _ h => h) (by first | assumption | exact (Ext.refl _).drew | (refine Ext.drew ?_; assumption)) ?_
                    repeat (first | (refine useq_skip rfl rfl (by assumption) ?_; simp only [Act.put, List.setIfInBounds_toArray, List.set_cons_zero, List.set_cons_succ]) | (refine useq_pure (v := ?_) rfl rfl rfl rfl (fun X => ?_) ?_; rotate_left; (focus (go_simp <;> with_reducible rfl)); simp only [Act.put, List.setIfInBounds_toArray, List.set_cons_zero, List.set_cons_succ]) | (refine useq_read (v := ?_) rfl rfl rfl rfl (fun X hX => ?_) ?_; rotate_left; (focus (go_simp <;> with_reducible rfl)); simp only [Act.put, List.setIfInBounds_toArray, List.set_cons_zero, List.set_cons_succ]))
                    (refine useq_step rfl rfl rfl (fun K hK => ?_); go_simp)
                    refine hK.out _ _ (hww.drew.alloc _) ?_
                    (try simp only [Act.put, List.setIfInBounds_toArray, List.set_cons_zero, List.set_cons_succ])
                    (refine useq_last rfl rfl rfl rfl (fun K hK => ?_))
                    refine wp_push w6 wr.drew _ _ _ rfl 52 _ 3 24 Tryd.underlying26 info_edge rfl (by decide) v es''.length (edgeCells es'') _ _ rfl rfl hgr3.fr.size hgr3.own rfl (by simp [Value.oneCell']) (by unfold maxLen; omega) (by omega) ?_
                    intro g5 cap5 w5 hown5 hg5 hat5 hlt5
                    refine hK.out _ _ ?_
                    (try simp only [Act.put, List.setIfInBounds_toArray, List.set_cons_zero, List.set_cons_succ])
                    repeat (first | (refine useq_skip rfl rfl (by assumption) ?_; simp only [Act.put, List.setIfInBounds_toArray, List.set_cons_zero, List.set_cons_succ]) | (refine useq_pure (v := ?_) rfl rfl rfl rfl (fun X => ?_) ?_; rotate_left; (focus (go_simp <;> with_reducible rfl)); simp only [Act.put, List.setIfInBounds_toArray, List.set_cons_zero, List.set_cons_succ]) | (refine useq_read (v := ?_) rfl rfl rfl rfl (fun X hX => ?_) ?_; rotate_left; (focus (go_simp <;> with_reducible rfl)); simp only [Act.put, List.setIfInBounds_toArray, List.set_cons_zero, List.set_cons_succ]))
                    obtain ⟨h1, h2, h3⟩ := (hgr3.ext_ ((Ext.refl _).drew)).push (e := ⟨x, l, d⟩) (W' := w5) hown5 hg5
                    have h1' := h1.out
                    (refine useq_last rfl rfl rfl rfl (fun K hK => ?_))
                    go_simp
                    refine hK.out _ _ ?_
                    refine useq_nil ?_
                    go_wp2_with fail
                    go_roundw
                    case rel => exact ⟨d + 1, _, _, by omega, by go_num, h3, hes3, by simp; omega⟩
                    case measure => simp [intOf]; omega
            · obtain rfl : d = N := by omega
              have hes3 := hide (show es'' = es ++ (L.take (k + 1)).flatMap (quD R s.edges d x) by
                rw [htk.out, List.flatMap_append, hes''.out, hes'.out]
                simp [quD])
              go_wp2_with fail
              go_roundw
              case rel => exact ⟨k + 1, v, es'', by omega, by go_num, hgr, hes3, by omega⟩
              case measure => simp [intOf]; omega
        · obtain rfl : k = q := by omega
          have htk : L.take k = L := List.take_of_length_le (by have := hq.out; omega)
          have hes3 := hide (show es' = (List.range (x + 1)).flatMap (quC R s.edges N L) by
            rw [List.range_succ, List.flatMap_append, hes'.out, hes.out, htk]
            simp [quC])
          clear htk
          go_wp2_with fail
          go_roundw
          case rel => exact ⟨x + 1, v, es', by omega, by go_num, hgr, hes3, by omega⟩
          case measure => simp [intOf]; omega
    · obtain rfl : x = N := by omega
      obtain ⟨A5, c5, rfl⟩ := own_form hgr.own
      have cG := hgr.blk.cell
      have hbz := hBz.out _ hgr.fr
      have cZ := hbz.cell
      have fZ := hbz.frozen
      have hxw := hxw6.frm hgr.fr (fun b hb e => by omega)
      have h6s := hxw6.size
      have hz6 : w.heap.size + 1 < w6.heap.size := by have := hgr.hG; omega
      have hfl := fill_frm wr (w.heap.size + 1) (.int .i64 s.al) (.int .i64 x) (.slice A5 es.length c5)
      have hbf := fill_blk hbz rfl (.int .i64 s.al) (.int .i64 x) (.slice A5 es.length c5)
      have hxf := hxw.frm hfl (fun k hk e => by omega)
      have hof := own_frm hgr.own hfl (fun b hv e => by have := (hgr.own.lt b hv).1; omega)
      have hfin := hide (show RetQs w s (.returned (.tuple #[.agg #[.int .i64 s.al, .int .i64 x, .slice A5 es.length c5], .bool true])) (((wr.setCell ⟨w.heap.size + 1, 0, none⟩ (.int .i64 s.al)).setCell ⟨w.heap.size + 1, 1, none⟩ (.int .i64 x)).setCell ⟨w.heap.size + 1, 2, none⟩ (.slice A5 es.length c5)) from by
        have he : es = (quoS s).edges := by rw [hquo.out, hes.out, hlw.out]; rfl
        refine ⟨A5, es.length, c5, by rw [hquo.out], ⟨by rw [he], ?_⟩, hxf⟩
        rw [← he]
        exact Reads.of_own (own_less hof (by omega)))
      go_wp2_with fail
      generalize ((wr.setCell ⟨w.heap.size + 1, 0, none⟩ (.int .i64 s.al)).setCell ⟨w.heap.size + 1, 1, none⟩ (.int .i64 x)).setCell ⟨w.heap.size + 1, 2, none⟩ (.slice A5 es.length c5) = wf at *
      have cf := hbf.cell
      exact bodyPost_ret (v := .tuple #[.agg #[.int .i64 s.al, .int .i64 x, .slice A5 es.length c5], .bool true]) (by simp [results, Tryd.results8, go_sem, cf]) rfl hfin.out
end Go.Proofs.YtmlembcpamchjaaDoor
