/- impl.(*moves).step, walked; what a set of states goes to. -/
import Derived.Test.YtplllipekeomiaaGreatDoorG03
namespace Go.Proofs.YtplllipekeomiaaGreatDoor
open Go Go.RowKit
set_option maxHeartbeats 2000000

theorem stepB_low {es : List Edg} {k0 x j : Nat} (hf : Few k0 es) (hb : x.testBit j = true) (hl : ∀ i, i < j → x.testBit i = false) (l : Int) : stepB es x l = succ es j l ||| stepB es (x - 2 ^ j) l := by
  apply Nat.eq_of_testBit_eq
  intro k
  rw [Nat.testBit_or, Bool.eq_iff_iff, Bool.or_eq_true, stepB_bit, stepB_bit, succ_bit]
  constructor
  · rintro ⟨e, he, ⟨h1, h2⟩, h3⟩
    have := hf e he
    by_cases e1 : e.fr.toNat = j
    · exact Or.inl ⟨e, he, ⟨by omega, h1⟩, h3⟩
    · refine Or.inr ⟨e, he, ⟨h1, ?_⟩, h3⟩
      rw [testBit_sub_low hb hl, h2]
      simp [e1]
  · rintro (⟨e, he, ⟨h1, h2⟩, h3⟩ | ⟨e, he, ⟨h1, h2⟩, h3⟩)
    · exact ⟨e, he, ⟨h2, by rw [h1]; exact hb⟩, h3⟩
    · rw [testBit_sub_low hb hl] at h2
      simp only [Bool.and_eq_true] at h2
      exact ⟨e, he, ⟨h1, h2.1⟩, h3⟩
theorem stepB_zero (es : List Edg) (l : Int) : stepB es 0 l = 0 := by
  apply Nat.eq_of_testBit_eq
  intro k
  rw [Nat.zero_testBit, Bool.eq_false_iff]
  intro h
  obtain ⟨e, _, ⟨_, h2⟩, _⟩ := (stepB_bit es 0 l k).1 h
  simp at h2
theorem stepB_sm {es : List Edg} {k0 : Nat} (hf : Few k0 es) (h : k0 ≤ 16) (x : Nat) (l : Int) : Sm (stepB es x l) :=
  Nat.lt_of_lt_of_le (stepB_lt hf x l) (by rw [show (4294967296 : Nat) = 2 ^ 32 from rfl]; exact Nat.pow_le_pow_right (by omega) (by omega))
theorem impl_step {es : List Edg} {bm k0 set l : Nat} {w : World} (hm : MovAt w bm es) (hT : Tab w) (hset : set < 2 ^ 16) (hl : l < 6) (hf : Few k0 es) (hk0 : k0 ≤ 16) :
    Calls Tryz.prog 123 #[.pointer (some ⟨bm, 0, none⟩), .int .i64 set, .int .i64 l] w fun e w' => e = .returned (.int .i64 (stepB es set l : Nat)) ∧ Ext w w' := by
  have hset' : set < 65536 := by simpa using hset
  have Hf := hide hf
  clear hf
  go_enter Tryz.func123, Tryz.ntmps123
  go_wp2
  go_loopw [1, 7] (fun s v wr => ∃ x : Nat, s = .int .i64 x ∧ x < 65536 ∧ ∃ y : Nat, v = .int .i64 y ∧ Sm y ∧ Hid (stepB es set l = y ||| stepB es x l) ∧ Ext w wr) (fun s _ _ => (intOf s).toNat)
  case atStart => exact ⟨set, rfl, hset', 0, rfl, by unfold Sm; omega, by simp [Hid], Ext.refl _⟩
  case round =>
    obtain ⟨x, rfl, hx, y, rfl, hy, hyo, hext⟩ := hrel
    by_cases h0 : x = 0
    · subst h0
      go_wp2
      go_ret
      have h1 := hyo.out
      rw [stepB_zero, Nat.or_zero] at h1
      exact ⟨ret_int (by rw [h1]), hext⟩
    · have hxs : Sm x := by unfold Sm; omega
      obtain ⟨j, hj, hj32, hjb, hjl, hand, hle⟩ := lowest h0 hxs
      have hj16 : j < 16 := by
        rcases Nat.lt_or_ge j 16 with h | h
        · exact h
        · have := Nat.pow_le_pow_right (n := 2) (by omega) h
          omega
      have hp := Nat.two_pow_pos j
      have hlow := hide (stepB_low Hf.out hjb hjl l)
      have c1 := hm j l hj16 hl
      have cM : ∀ W, Ext wr W → W.cell? ⟨bm, j * 6 + l, none⟩ = some (.int .i64 (succ es j l : Nat)) := fun W hW => (hext.trans hW).cell_some c1
      have hTs := hide (fun W (hW : Ext wr W) => hT.ext (hext.trans hW))
      have s1 := succ_sm Hf.out hk0 j l
      have bo := hide (bits_or hy s1)
      have hne : ((x : Int) != 0) = true := by simp; omega
      have hb := hide (bits_and (a := x) (b := x - 1) hxs (by unfold Sm; omega))
      have hi := hide (show ((x : Int) - 1) = ((x - 1 : Nat) : Int) by omega)
      have ux : IntKind.u64.wrap (x : Int) = x := by rw [IntKind.wrap_u64]; omega
      have htz := hide (fun W (hW : Ext wr W) => (show Calls Tryz.prog 134 #[.int .u64 x] W fun e w' => e = .returned (.int .i64 j) ∧ W = w' by rw [← hj]; exact tz x (by omega) h0 W (hTs.out W hW)))
      have hww := Ext.refl wr
      have hx1 : x - 2 ^ j < x := by omega
      have hx2 : x &&& (x - 1) = x - 2 ^ j := hand
      have Hx2 := hide hx2
      have hl6 : (l : Int) < 6 := by omega
      have hj16' : (j : Int) < 16 := by omega
      clear hj hjb hjl hand hx2 h0 hle c1
      generalize succ es j l = z at *
      go_wp2_with fail
      go_region_held3 (fun W => Ext wr W) (first | assumption | (refine Ext.drew ?_; assumption) | (refine Ext.trans ?_ (by assumption); assumption) | (refine Ext.trans ?_ (by assumption); refine Ext.drew ?_; assumption)) ((go_at_call 134; refine (htz.out _ ?_).mono ?_; (first | assumption | (refine Ext.drew ?_; assumption)); rintro e w' ⟨rfl, rfl⟩))
      go_wp2_with fail
      go_roundw
      case rel => exact ⟨x &&& (x - 1), by rw [hi.out, hb.out], by rw [Hx2.out]; omega, y ||| z, by rw [bo.out], hy.or s1, by unfold Hid; rw [hyo.out, hlow.out, Hx2.out, Nat.or_assoc], hext.trans (by assumption)⟩
      case measure =>
        have := hb.out
        rw [← hi.out] at this
        have h3 := Hx2.out
        simp [intOf]
        omega
end Go.Proofs.YtplllipekeomiaaGreatDoor
