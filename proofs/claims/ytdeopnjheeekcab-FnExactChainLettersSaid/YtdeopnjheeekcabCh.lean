/- The letters of a chain. -/
import Derived.Test.YtdeopnjheeekcabSL2
import Derived.Test.YtdeopnjheeekcabSV
import Derived.Test.YtdeopnjheeekcabSV2
import Derived.Test.YtdeopnjheeekcabSV3
namespace Go.Proofs.Ytdeopnjheeekcab
open Go Go.RowKit
set_option maxHeartbeats 1000000

theorem areParts_1 {lo hi : Nat} {A : Option Addr} {n c : Nat} {s : Sys} {w : World} (h : SysAt w lo hi A n s) :
    Calls Try.prog 31 #[.agg #[.int .i64 s.al, .int .i64 s.st, .slice A n c]] w fun e w' => e = .returned (.bool (!sysValid s)) ∧ Ext w w' := by
  go_enter Try.func31, Try.ntmps31
  go_wp2_with (go_at_call 32; refine (impl_SystemValid (h.ext ?_)).mono ?_; exact (Ext.refl _).alloc _; rintro e w' ⟨rfl, hx⟩)
  go_ret
  exact ⟨rfl, ((Ext.refl _).alloc _).trans hx⟩

theorem indexFunc_parts {lo hi : Nat} {A : Option Addr} {n c : Nat} {ss : List Sys} {w : World} (h : SLAt w lo hi A n ss) :
    Calls Try.prog 42 #[.slice A n c, .func (.func 31) #[] #[]] w fun e w' => ∃ r : Int, e = .returned (.int .i64 r) ∧ decide (0 ≤ r) = ss.any (fun s => !sysValid s) ∧ -1 ≤ r ∧ Ext w w' := by
  have hn := h.len
  have hL := hide h.1
  go_enter Try.func42, Try.ntmps42
  go_wp2
  go_loopw [8] (fun i wr => ∃ k : Nat, k ≤ n ∧ i = .int .i64 k ∧ Hid ((ss.take k).any (fun s => !sysValid s) = false) ∧ Ext w wr) (fun i _ => n - (intOf i).toNat)
  case atStart => exact ⟨0, Nat.zero_le _, rfl, rfl, Ext.refl _⟩
  case round =>
    obtain ⟨k, hk, rfl, hany, hext⟩ := hrel
    by_cases hlt : k < n
    · obtain ⟨b, o, s, B, q, d, rfl, hlo, hhi, hs, c0, c1, c2, hsy⟩ := (h.ext hext).sys hlt
      cases hb : sysValid s
      all_goals
        have Hb := hide hb
        clear hb
        go_wp2_with (go_at_call 31; refine (areParts_1 hsy).mono ?_; rw [Hb.out]; rintro e w' ⟨rfl, hx⟩)
      · go_ret
        exact ⟨k, rfl, by rw [List.any_eq_true.2 ⟨s, List.mem_of_getElem? hs.out, by rw [Hb.out]; rfl⟩]; simp, by omega, hext.trans hx⟩
      · go_roundw
        case rel => exact ⟨k + 1, by omega, by go_num, by unfold Hid; rw [List.take_add_one, hs.out, List.any_append, hany.out]; simp [Hb.out], hext.trans hx⟩
        case measure => simp [intOf]; omega
    · obtain rfl : k = n := by omega
      go_wp2
      go_ret
      have := hany.out
      rw [hL.out, List.take_length] at this
      exact ⟨-1, rfl, by rw [this]; decide, by omega, hext⟩

theorem containsFunc_parts {lo hi : Nat} {A : Option Addr} {n c : Nat} {ss : List Sys} {w : World} (h : SLAt w lo hi A n ss) :
    Calls Try.prog 30 #[.slice A n c, .func (.func 31) #[] #[]] w fun e w' => e = .returned (.bool (ss.any (fun s => !sysValid s))) ∧ Ext w w' := by
  go_enter Try.func30, Try.ntmps30
  cases hb : ss.any (fun s => !sysValid s)
  all_goals
    have Hb := hide hb
    clear hb
    go_wp2_with (go_at_call 42; refine (indexFunc_parts h).mono ?_; rw [Hb.out]; rintro e w' ⟨r, rfl, hr, hr1, hx⟩)
    go_ret
    exact ⟨ret_bool (by have hr' := hr; simp at hr'; simp <;> omega), hx⟩

/-- The systems are parts. -/
def areParts (ss : List Sys) : Bool := decide (1 ≤ ss.length) && (decide (ss.length ≤ 3) && ss.all sysValid)
theorem impl_areParts {lo hi : Nat} {A : Option Addr} {n c : Nat} {ss : List Sys} {w : World} (h : SLAt w lo hi A n ss) :
    Calls Try.prog 19 #[.slice A n c] w fun e w' => e = .returned (.bool (areParts ss)) ∧ Ext w w' := by
  have hn := h.len
  have hL := hide h.1
  have hA : ss.any (fun s => !sysValid s) = !ss.all sysValid := by rw [Bool.eq_iff_iff]; simp
  have HA := hide hA
  clear hA
  by_cases h1 : 1 ≤ n
  · by_cases h3 : n ≤ 3
    · go_enter Try.func19, Try.ntmps19
      go_wp2_with (go_at_call 30; refine (containsFunc_parts h).mono ?_; rw [HA.out]; rintro e w' ⟨rfl, hx⟩)
      go_ret
      exact ⟨ret_bool (by have := hL.out; unfold areParts; rw [decide_eq_true (by omega), decide_eq_true (by omega)]; simp), hx⟩
    · go_enter Try.func19, Try.ntmps19
      go_wp2
      go_ret
      exact ⟨ret_bool (by have := hL.out; unfold areParts; rw [decide_eq_false (by omega : ¬ ss.length ≤ 3)]; simp), Ext.refl _⟩
  · go_enter Try.func19, Try.ntmps19
    go_wp2
    go_ret
    exact ⟨ret_bool (by have := hL.out; unfold areParts; rw [decide_eq_false (by omega : ¬ 1 ≤ ss.length)]; simp), Ext.refl _⟩
end Go.Proofs.Ytdeopnjheeekcab
