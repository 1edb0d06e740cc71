/- spec.l1Bit, spec.l2Step, walked. -/
import Derived.Test.YtdeopnjheeekcaaDoorSucc
import Derived.Test.YtdeopnjheeekcaaDoorSys2
namespace Go.Proofs.YtdeopnjheeekcaaDoor
open Go Go.RowKit
set_option maxHeartbeats 1000000

theorem wrap_pow2 {t : Nat} (ht : t < 32) : wrap64 ((2 : Int) ^ t) = ((2 ^ t : Nat) : Int) := by
  have hp := (Sm.bit ht).lt
  have e : (2 : Int) ^ t = ((2 ^ t : Nat) : Int) := by simp
  rw [e]
  generalize (2 : Nat) ^ t = p at *
  unfold wrap64
  omega
theorem spec_l1Bit (n : Nat) (hn : n < 32) (w : World) :
    Calls Tryd.prog 36 #[.int .i64 n] w fun e w' => e = .returned (.int .i64 (2 ^ n : Nat)) ∧ w = w' := by
  have hu : IntKind.u64.wrap (n : Int) = n := by rw [IntKind.wrap_u64]; omega
  have h64 : (n : Int) ≤ 64 := by omega
  have hw := hide (wrap_pow2 hn)
  go_enter Tryd.func36, Tryd.ntmps36
  go_wp2
  go_ret
  exact ⟨ret_int (by rw [← hw.out]), rfl⟩

/-- The set that a letter leads to from a set. -/
def stepB (es : List Edg) (set : Nat) (l : Int) : Nat := es.foldl (fun m e => if e.le = l ∧ set.testBit e.fr.toNat = true then m ||| 2 ^ e.to.toNat else m) 0
theorem stepB_snoc (es : List Edg) (e : Edg) (set : Nat) (l : Int) : stepB (es ++ [e]) set l = if e.le = l ∧ set.testBit e.fr.toNat = true then stepB es set l ||| 2 ^ e.to.toNat else stepB es set l := by simp [stepB]
theorem stepB_bit (es : List Edg) (set : Nat) (l : Int) (k : Nat) : (stepB es set l).testBit k = true ↔ ∃ e ∈ es, (e.le = l ∧ set.testBit e.fr.toNat = true) ∧ e.to.toNat = k := by
  have := foldl_bit es (fun e => e.le = l ∧ set.testBit e.fr.toNat = true) 0 k
  simpa [stepB] using this
theorem stepB_lt {n : Nat} {es : List Edg} (h : Few n es) (set : Nat) (l : Int) : stepB es set l < 2 ^ n := by
  apply Nat.lt_pow_two_of_testBit
  intro k hk
  rw [Bool.eq_false_iff]
  intro hb
  obtain ⟨e, he, _, h3⟩ := (stepB_bit es set l k).1 hb
  have := h e he
  omega
theorem stepB_one {n : Nat} {es : List Edg} (h : Few n es) (j : Nat) (l : Int) : stepB es (2 ^ j) l = succ es j l := by
  apply Nat.eq_of_testBit_eq
  intro k
  rw [Bool.eq_iff_iff, stepB_bit, succ_bit]
  constructor
  · rintro ⟨e, he, ⟨h1, h2⟩, h3⟩
    have := h e he
    rw [Nat.testBit_two_pow, decide_eq_true_eq] at h2
    exact ⟨e, he, ⟨by omega, h1⟩, h3⟩
  · rintro ⟨e, he, ⟨h1, h2⟩, h3⟩
    exact ⟨e, he, ⟨h2, by rw [Nat.testBit_two_pow, decide_eq_true_eq]; omega⟩, h3⟩

theorem spec_l2Step {lo hi : Nat} {A : Option Addr} {n c : Nat} {s : Sys} {set : Nat} {l : Int} {k0 : Nat} {w : World} (h : SysAt w lo hi A n s) (hf : Few k0 s.edges) (hk0 : k0 ≤ 16) (hset : Sm set) :
    Calls Tryd.prog 51 #[.agg #[.int .i64 s.al, .int .i64 s.st, .slice A n c], .int .i64 set, .int .i64 l] w fun e w' => e = .returned (.int .i64 (stepB s.edges set l : Nat)) ∧ Ext w w' := by
  have hn := h.2.len
  have hL := hide h.1
  have HR := hide (fun W (hW : Ext w W) => h.2.ext hW)
  have Hf := hide hf
  clear hf
  go_enter Tryd.func51, Tryd.ntmps51
  go_wp2
  go_loopw [7, 8] (fun v i wr => ∃ k : Nat, k ≤ n ∧ i = .int .i64 k ∧ ∃ y : Nat, v = .int .i64 y ∧ Sm y ∧ Hid (y = stepB (s.edges.take k) set l) ∧ Ext w wr ∧ Ext (w.alloc (.cells #[.int .i64 s.al, .int .i64 s.st, .slice A n c] 29)) wr) (fun _ i _ => n - (intOf i).toNat)
  case atStart => exact ⟨0, Nat.zero_le _, rfl, 0, rfl, by unfold Sm; omega, rfl, (Ext.refl _).alloc _, Ext.refl _⟩
  case round =>
    obtain ⟨k, hk, rfl, y, rfl, hy, hyo, hext, hexb⟩ := hrel
    have cb := fun j => ext_box (j := j) hexb
    by_cases hlt : k < n
    · obtain ⟨b, o, x, rfl, _, _, hx, c0, c1, c2⟩ := (HR.out wr hext).edge hlt
      obtain ⟨⟨f0, f1⟩, ⟨g0, g1⟩, ⟨t0, t1⟩⟩ := Hf.out x (List.mem_of_getElem? hx.out)
      have Htk := hide (show s.edges.take (k + 1) = s.edges.take k ++ [x] by rw [List.take_add_one, hx.out]; rfl)
      obtain ⟨f, hfe⟩ : ∃ f : Nat, x.fr = f := ⟨x.fr.toNat, by omega⟩
      obtain ⟨t, hte⟩ : ∃ t : Nat, x.to = t := ⟨x.to.toNat, by omega⟩
      rw [hfe] at c0 f0 f1
      rw [hte] at c2 t0 t1
      have hs1 := hide (stepB_snoc (s.edges.take k) x set l)
      by_cases hle : x.le = l
      · have hle' : (x.le == l) = true := by simp [hle]
        have Hle := hide hle
        clear hle
        cases hb : set.testBit f
        · have Hb := hide hb
          clear hb
          go_wp2_with (go_at_call 24; refine (spec_l1Has set f hset _ (by omega)).mono ?_; rw [Hb.out]; rintro e w' ⟨rfl, rfl⟩)
          go_roundw
          case rel => exact ⟨k + 1, by omega, by go_num, y, rfl, hy, by unfold Hid; rw [Htk.out, hs1.out, if_neg (by rintro ⟨_, h2⟩; rw [hfe] at h2; simp [Hb.out] at h2)]; exact hyo.out, hext, hexb⟩
          case measure => simp [intOf]; omega
        · have Hb := hide hb
          clear hb
          have hor := hide (show bits .or .i64 (y : Nat) ((2 : Int) ^ t) = ((y ||| 2 ^ t : Nat) : Int) by have := bits_or hy (Sm.bit (n := t) (by omega)); rw [show (((2 : Nat) ^ t : Nat) : Int) = (2 : Int) ^ t by simp] at this; exact this)
          go_wp2_with (first
            | (go_at_call 24; refine (spec_l1Has set f hset _ (by omega)).mono ?_; rw [Hb.out]; rintro e w' ⟨rfl, rfl⟩)
            | (go_at_call 36; refine (spec_l1Bit t (by omega) _).mono ?_; rintro e w' ⟨rfl, rfl⟩))
          go_roundw
          case rel => exact ⟨k + 1, by omega, by go_num, y ||| 2 ^ t, by rw [hor.out], hy.or (Sm.bit (by omega)), by unfold Hid; rw [Htk.out, hs1.out, if_pos ⟨Hle.out, by rw [hfe]; simpa using Hb.out⟩, ← hyo.out, hte]; rfl, hext, hexb⟩
          case measure => simp [intOf]; omega
      · have hle' : (x.le == l) = false := by simp [hle]
        have Hle := hide hle
        clear hle
        go_wp2
        go_roundw
        case rel => exact ⟨k + 1, by omega, by go_num, y, rfl, hy, by unfold Hid; rw [Htk.out, hs1.out, if_neg (by rintro ⟨h2, _⟩; exact Hle.out h2)]; exact hyo.out, hext, hexb⟩
        case measure => simp [intOf]; omega
    · obtain rfl : n = k := by omega
      go_wp2
      go_ret
      exact ⟨ret_int (by rw [hyo.out, hL.out, List.take_length]), hext⟩
end Go.Proofs.YtdeopnjheeekcaaDoor
