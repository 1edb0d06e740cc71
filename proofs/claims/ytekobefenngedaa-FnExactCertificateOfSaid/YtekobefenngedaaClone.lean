/- slices.Clone at numbers and at truth values, walked: it copies into memory of its own. -/
import Derived.Test.YtekobefenngedaaOnto
import Derived.Test.YtekobefenngedaaTo
import Derived.Lib.SliceRun
namespace Go.Proofs.Ytekobefenngedaa
open Go Go.RowKit
set_option maxHeartbeats 1000000

theorem ints_one (l : List Int) : ∀ u ∈ ints l, u.oneCell' = true := by
  intro u hu
  obtain ⟨x, _, rfl⟩ := List.mem_map.1 hu
  rfl
theorem bools_one (l : List Bool) : ∀ u ∈ bools l, u.oneCell' = true := by
  intro u hu
  obtain ⟨x, _, rfl⟩ := List.mem_map.1 hu
  rfl
theorem grown_new {w w1 : World} {cs : Array Value} {t : TypeId} {n c : Nat} (hg : (w.alloc (.cells cs t)).grownBy w1 (Value.slice (some ⟨w.heap.size, 0, none⟩) n c).ownBlock) : Ext w w1 :=
  ((Ext.refl w).alloc _).grown hg (fun k hk => by
    have hk' : w.heap.size = k := by simpa [Value.ownBlock] using hk
    omega)
theorem clone_int {lo hi : Nat} {A : Option Addr} {n c : Nat} {l : List Int} {w : World} (h : Reads w lo hi 1 A n (ints l)) (hn : n ≤ 1048576) :
    Calls Try.prog 30 #[.slice A n c] w fun e w' => ∃ v', e = .returned v' ∧ w'.ownsRow w.heap.size 3 1 v' n (ints l) ∧ Ext w w' := by
  cases A with
  | none =>
    obtain rfl : n = 0 := by
      rcases Nat.eq_zero_or_pos n with h0 | h0
      · exact h0
      · obtain ⟨_, h1, _⟩ := h.2.2 h0
        cases h1
    have hl := h.length
    obtain rfl : l = [] := List.eq_nil_of_length_eq_zero (by rw [ints_length] at hl; omega)
    clear h
    have hq := fun (w : World) (a : Option Addr) (n c n' c' : Nat) => Lib.run_eql_slice_nil (P := Try.prog) w 50 _ a n c n' c' Try.underlying50
    go_enter Try.func30, Try.ntmps30
    go_wp2
    go_ret
    exact ⟨_, rfl, World.ownsRow_nil _ _ _ _, Ext.refl _⟩
  | some ad =>
    have H := hide (h.ext ((Ext.refl w).alloc (.cells #[] 3)))
    clear h
    have hq := fun (w : World) (a : Option Addr) (n c n' c' : Nat) => Lib.run_eql_slice_nil (P := Try.prog) w 50 _ a n c n' c' Try.underlying50
    go_enter Try.func30, Try.ntmps30
    go_wp2_with (at_builtin; refine wpList_onto _ rfl _ _ 50 rfl w.heap.size 3 _ 1 8 Try.underlying50 info_int rfl (by decide) _ 0 [] rfl (World.ownsRow_made w #[] 0 (Nat.le_refl _) (Nat.zero_le _) rfl) _ _ (some ad) n c (ints l) rfl H.out (ints_one l) (by unfold maxLen; omega) (by omega) (by simp) ?_; intro v' w1 hown hg hat)
    have hx := grown_new hg
    rw [Nat.zero_add, List.nil_append] at hown
    go_ret
    exact ⟨_, rfl, hown, hx⟩
theorem clone_bool {lo hi : Nat} {A : Option Addr} {n c : Nat} {l : List Bool} {w : World} (h : Reads w lo hi 1 A n (bools l)) (hn : n ≤ 1048576) :
    Calls Try.prog 29 #[.slice A n c] w fun e w' => ∃ v', e = .returned v' ∧ w'.ownsRow w.heap.size 4 1 v' n (bools l) ∧ Ext w w' := by
  cases A with
  | none =>
    obtain rfl : n = 0 := by
      rcases Nat.eq_zero_or_pos n with h0 | h0
      · exact h0
      · obtain ⟨_, h1, _⟩ := h.2.2 h0
        cases h1
    have hl := h.length
    obtain rfl : l = [] := List.eq_nil_of_length_eq_zero (by rw [bools_length] at hl; omega)
    clear h
    have hq := fun (w : World) (a : Option Addr) (n c n' c' : Nat) => Lib.run_eql_slice_nil (P := Try.prog) w 23 _ a n c n' c' Try.underlying23
    go_enter Try.func29, Try.ntmps29
    go_wp2
    go_ret
    exact ⟨_, rfl, World.ownsRow_nil _ _ _ _, Ext.refl _⟩
  | some ad =>
    have H := hide (h.ext ((Ext.refl w).alloc (.cells #[] 4)))
    clear h
    have hq := fun (w : World) (a : Option Addr) (n c n' c' : Nat) => Lib.run_eql_slice_nil (P := Try.prog) w 23 _ a n c n' c' Try.underlying23
    go_enter Try.func29, Try.ntmps29
    go_wp2_with (at_builtin; refine wpList_onto _ rfl _ _ 23 rfl w.heap.size 4 _ 1 1 Try.underlying23 info_bool rfl (by decide) _ 0 [] rfl (World.ownsRow_made w #[] 0 (Nat.le_refl _) (Nat.zero_le _) rfl) _ _ (some ad) n c (bools l) rfl H.out (bools_one l) (by unfold maxLen; omega) (by omega) (by simp) ?_; intro v' w1 hown hg hat)
    have hx := grown_new hg
    rw [Nat.zero_add, List.nil_append] at hown
    go_ret
    exact ⟨_, rfl, hown, hx⟩
end Go.Proofs.Ytekobefenngedaa
