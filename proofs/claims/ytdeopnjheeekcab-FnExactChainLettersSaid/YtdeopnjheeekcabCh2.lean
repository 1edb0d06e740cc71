/- The letters of a chain: both models. -/
import Derived.Test.YtdeopnjheeekcabCh
import Derived.Test.YtdeopnjheeekcabAV2
namespace Go.Proofs.Ytdeopnjheeekcab
open Go Go.RowKit
set_option maxHeartbeats 1000000

/-- The union of the alphabets. -/
def unionA (ss : List Sys) : Nat := ss.foldl (fun a s => a ||| s.al.toNat) 0
theorem unionA_succ {ss : List Sys} {k : Nat} {s : Sys} (h : ss[k]? = some s) : unionA (ss.take (k + 1)) = unionA (ss.take k) ||| s.al.toNat := by
  rw [List.take_add_one, h]
  simp [unionA]
theorem sysValid_al {s : Sys} (h : sysValid s = true) : 0 ≤ s.al ∧ s.al ≤ 63 := by
  simp only [sysValid, Bool.and_eq_true, decide_eq_true_eq] at h
  exact h.1
/-- What PartsAlphabet returns. -/
def partsA (ss : List Sys) : Int := if areParts ss then (unionA ss : Int) else -1

theorem spec_PartsAlphabet {lo hi : Nat} {A : Option Addr} {n c : Nat} {ss : List Sys} {w : World} (h : SLAt w lo hi A n ss) :
    Calls Try.prog 26 #[.slice A n c] w fun e w' => e = .returned (.int .i64 (partsA ss)) ∧ Ext w w' := by
  have hn := h.len
  have hL := hide h.1
  by_cases h1 : n < 1
  · go_enter Try.func26, Try.ntmps26
    go_wp2
    go_ret
    exact ⟨ret_int (by have := hL.out; unfold partsA areParts; rw [decide_eq_false (by omega)]; simp), Ext.refl _⟩
  by_cases h3 : n > 3
  · go_enter Try.func26, Try.ntmps26
    go_wp2
    go_ret
    exact ⟨ret_int (by have := hL.out; unfold partsA areParts; rw [decide_eq_false (by omega : ¬ ss.length ≤ 3)]; simp), Ext.refl _⟩
  go_enter Try.func26, Try.ntmps26
  go_wp2
  go_loopw [3, 4] (fun v i wr => ∃ k : Nat, k ≤ n ∧ i = .int .i64 k ∧ ∃ u : Nat, v = .int .i64 u ∧ u ≤ 63 ∧ Hid (u = unionA (ss.take k)) ∧ Hid ((ss.take k).all sysValid = true) ∧ Ext w wr) (fun _ i _ => n - (intOf i).toNat)
  case atStart => exact ⟨0, Nat.zero_le _, rfl, 0, rfl, by omega, rfl, rfl, Ext.refl _⟩
  case round =>
    obtain ⟨k, hk, rfl, u, rfl, hu, huA, hall, hext⟩ := hrel
    by_cases hlt : k < n
    · obtain ⟨b, o, s, B, q, d, rfl, hlo, hhi, hs, c0, c1, c2, hsy⟩ := (h.ext hext).sys hlt
      cases hb : sysValid s
      · have Hb := hide hb
        clear hb
        go_wp2_with (go_at_call 37; refine (spec_SystemValid hsy).mono ?_; rw [Hb.out]; rintro e w' ⟨rfl, hx⟩)
        go_ret
        exact ⟨ret_int (by unfold partsA; rw [if_neg]; unfold areParts; simp; intro _ _; exact ⟨s, List.mem_of_getElem? hs.out, Hb.out⟩), hext.trans hx⟩
      · obtain ⟨ha0, ha1⟩ := sysValid_al hb
        have Hb := hide hb
        clear hb
        have Hu := hide (unionA_succ hs.out)
        have Ho := hide (bits_or (a := u) (b := s.al.toNat) (by unfold Sm; omega) (by unfold Sm; omega))
        have Hc := hide (show ((s.al.toNat : Nat) : Int) = s.al by omega)
        go_wp2_with (go_at_call 37; refine (spec_SystemValid hsy).mono ?_; rw [Hb.out]; rintro e w' ⟨rfl, hx⟩; have c0' := hx.cell_some c0)
        go_roundw
        case rel => exact ⟨k + 1, by omega, by go_num, u ||| s.al.toNat, by have := Ho.out; rw [Hc.out] at this; rw [← this], by have := Nat.or_lt_two_pow (n := 6) (x := u) (y := s.al.toNat) (by omega) (by omega); omega, by unfold Hid; rw [Hu.out, huA.out], by unfold Hid; rw [List.take_add_one, hs.out, List.all_append, hall.out]; simp [Hb.out], hext.trans hx⟩
        case measure => simp [intOf]; omega
    · obtain rfl : k = n := by omega
      go_wp2
      go_ret
      exact ⟨ret_int (by have := hL.out; have h1 := huA.out; have h2 := hall.out; rw [this, List.take_length] at h1 h2; unfold partsA areParts; rw [decide_eq_true (by omega), decide_eq_true (by omega), h2, h1]; rfl), hext⟩

end Go.Proofs.Ytdeopnjheeekcab
