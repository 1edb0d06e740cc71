/- Validity of systems: what it calls. -/
import Derived.Test.YtdeopnjheeekcaaDoorSys2
import Derived.Test.YtdeopnjheeekcaaDoorWord
namespace Go.Proofs.YtdeopnjheeekcaaDoor
open Go Go.RowKit
set_option maxHeartbeats 400000

def cmpI (x y : Int) : Int := if x < y then -1 else if y < x then 1 else 0
theorem cmp_isNaN (x : Int) (w : World) : Calls Tryd.prog 56 #[.int .i64 x] w fun e w' => e = .returned (.bool false) ∧ w = w' := by
  have h : (x != x) = false := by simp
  go_enter Tryd.func56, Tryd.ntmps56
  go_wp2
  go_ret
  exact ⟨ret_bool (by simp), rfl⟩
theorem cmp_Compare (x y : Int) (w : World) : Calls Tryd.prog 53 #[.int .i64 x, .int .i64 y] w fun e w' => e = .returned (.int .i64 (cmpI x y)) ∧ w = w' := by
  by_cases h : x < y
  · go_enter Tryd.func53, Tryd.ntmps53
    go_wp2_with (go_at_call 56; refine (cmp_isNaN _ _).mono ?_; rintro e w' ⟨rfl, rfl⟩)
    go_ret
    exact ⟨ret_int (by unfold cmpI; split <;> omega), rfl⟩
  · by_cases h' : y < x
    all_goals
      go_enter Tryd.func53, Tryd.ntmps53
      go_wp2_with (go_at_call 56; refine (cmp_isNaN _ _).mono ?_; rintro e w' ⟨rfl, rfl⟩)
      go_ret
      exact ⟨ret_int (by unfold cmpI; (repeat' split) <;> omega), rfl⟩

/-- The first number that is not 0. -/
def orI : List Int → Int
  | [] => 0
  | x :: r => if x = 0 then orI r else x
theorem orI_stop {l : List Int} {k : Nat} {x : Int} (h : l[k]? = some x) (hk : ∀ y ∈ l.take k, y = 0) (hx : x ≠ 0) : orI l = x := by
  induction l generalizing k with
  | nil => simp at h
  | cons a r ih =>
    cases k with
    | zero => simp at h; subst h; rw [orI, if_neg hx]
    | succ k =>
      have ha : a = 0 := hk a (by simp)
      rw [orI, if_pos ha]
      exact ih (by simpa using h) (fun y hy => hk y (by simp [hy]))
theorem orI_end {l : List Int} (hk : ∀ y ∈ l, y = 0) : orI l = 0 := by
  induction l with
  | nil => rfl
  | cons a r ih => rw [orI, if_pos (hk a (by simp)), ih fun y hy => hk y (by simp [hy])]

theorem cmp_Or {lo hi : Nat} {A : Option Addr} {n c : Nat} {l : List Int} {w : World} (h : Reads w lo hi 1 A n (ints l)) :
    Calls Tryd.prog 52 #[.slice A n c] w fun e w' => e = .returned (.int .i64 (orI l)) ∧ w = w' := by
  have hn := h.len
  have Hl := hide (show l.length = n by have := h.length; rw [ints_length] at this; omega)
  go_enter Tryd.func52, Tryd.ntmps52
  go_wp2
  go_loop [8] (fun i => ∃ k : Nat, k ≤ n ∧ i = .int .i64 k ∧ Hid (∀ y ∈ l.take k, y = 0)) (fun i => n - (intOf i).toNat)
  case atStart => exact ⟨0, Nat.zero_le _, rfl, hide (by simp)⟩
  case round =>
    obtain ⟨k, hk, rfl, hz⟩ := hrel
    by_cases hlt : k < n
    · obtain ⟨ad, x, rfl, _, _, hx, hc⟩ := h.int hlt
      by_cases h0 : x = 0
      · have hb : ((x : Int) != 0) = false := by simp [h0]
        have H0 := hide h0
        clear h0
        go_wp2
        go_round
        case rel => exact ⟨k + 1, by omega, by go_num, hide (by rw [List.take_add_one, hx.out]; intro y hy; simp at hy; rcases hy with hy | hy; exact hz.out y hy; rw [hy, H0.out])⟩
        case measure => simp [intOf]; omega
      · have hb : ((x : Int) != 0) = true := by simp [h0]
        go_wp2
        go_ret
        exact ⟨ret_int (orI_stop hx.out hz.out h0).symm, rfl⟩
    · obtain rfl : k = n := by omega
      go_wp2
      go_ret
      have := hz.out
      rw [List.take_of_length_le (by have := Hl.out; omega)] at this
      exact ⟨ret_int (orI_end this).symm, rfl⟩

/-- The order of edges, as a number. -/
def cmpE (a b : Edg) : Int := orI [cmpI a.fr b.fr, cmpI a.le b.le, cmpI a.to b.to]
/-- The order of edges. -/
def ltE (a b : Edg) : Bool := if a.fr = b.fr then if a.le = b.le then decide (a.to < b.to) else decide (a.le < b.le) else decide (a.fr < b.fr)
theorem cmpE_lt (a b : Edg) : cmpE a b < 0 ↔ ltE a b = true := by
  have hc : ∀ x y : Int, (cmpI x y = 0 ↔ x = y) ∧ (cmpI x y < 0 ↔ x < y) := fun x y => by unfold cmpI; constructor <;> (repeat' split) <;> omega
  have h1 := hc a.fr b.fr
  have h2 := hc a.le b.le
  have h3 := hc a.to b.to
  have hv : cmpE a b = if cmpI a.fr b.fr = 0 then if cmpI a.le b.le = 0 then if cmpI a.to b.to = 0 then 0 else cmpI a.to b.to else cmpI a.le b.le else cmpI a.fr b.fr := rfl
  rw [hv, ltE]
  by_cases e1 : a.fr = b.fr
  · rw [if_pos (h1.1.2 e1), if_pos e1]
    by_cases e2 : a.le = b.le
    · rw [if_pos (h2.1.2 e2), if_pos e2]
      by_cases e3 : cmpI a.to b.to = 0
      · rw [if_pos e3]; have := h3.1.1 e3; simp; omega
      · rw [if_neg e3, h3.2]; simp
    · rw [if_neg (fun h => e2 (h2.1.1 h)), if_neg e2, h2.2]; simp
  · rw [if_neg (fun h => e1 (h1.1.1 h)), if_neg e1, h1.2]; simp

/-- A slice that a literal has just laid. -/
theorem reads_lit {w w' : World} {cs : Array Value} {t : TypeId} (n : Nat) (l : List Int) (hc : cs.toList = ints l) (hl : l.length = n) (hn : n ≤ 1000) (h : Ext (w.alloc (.cells cs t)) w') : Reads w' 0 w'.heap.size 1 (some ⟨w.heap.size, 0, none⟩) n (ints l) := by
  have hb := ext_blk1 h
  refine ⟨by rw [ints_length]; omega, by omega, fun _ => ⟨_, rfl, Nat.zero_le _, hb.lt, fun j u hu => ?_⟩⟩
  rw [addr_lit, Nat.zero_add, hb.cell, ← Array.getElem?_toList, hc]
  exact hu

theorem impl_compareEdges {a b : Edg} {w : World} :
    Calls Tryd.prog 49 #[.agg #[.int .i64 a.fr, .int .i64 a.le, .int .i64 a.to], .agg #[.int .i64 b.fr, .int .i64 b.le, .int .i64 b.to]] w fun e w' => e = .returned (.int .i64 (cmpE a b)) ∧ Ext w w' := by
  go_enter Tryd.func49, Tryd.ntmps49
  go_wp2_with fail
  obtain ⟨W, hW⟩ : ∃ W : World, W = (w.alloc (.cells #[Value.int .i64 a.fr, .int .i64 a.le, .int .i64 a.to] 53)).alloc (.cells #[Value.int .i64 b.fr, .int .i64 b.le, .int .i64 b.to] 53) := ⟨_, rfl⟩
  have hx : Ext w W := by rw [hW]; exact ((Ext.refl _).alloc _).alloc _
  have h2 := ext_blk2 (show Ext ((w.alloc (.cells #[Value.int .i64 a.fr, .int .i64 a.le, .int .i64 a.to] 53)).alloc (.cells #[Value.int .i64 b.fr, .int .i64 b.le, .int .i64 b.to] 53)) W by rw [hW]; exact Ext.refl _)
  have e0 : ∀ X, Ext W X → ∀ j, X.cell? ⟨w.heap.size, j, none⟩ = #[Value.int .i64 a.fr, .int .i64 a.le, .int .i64 a.to][j]? := fun X hX => (h2.1.ext hX).cell
  have e1 : ∀ X, Ext W X → ∀ j, X.cell? ⟨w.heap.size + 1, j, none⟩ = #[Value.int .i64 b.fr, .int .i64 b.le, .int .i64 b.to][j]? := fun X hX => (h2.2.ext hX).cell
  rw [← hW]
  have hr := Ext.refl W
  clear hW h2
  go_region_held3 (fun X => Ext W X) (first | assumption | (refine Ext.drew ?_; assumption) | (refine Ext.alloc ?_ _; assumption) | (refine Ext.drew ?_; refine Ext.alloc ?_ _; assumption) | (refine Ext.trans ?_ (by assumption); assumption)) (first | (go_at_call 53; refine (cmp_Compare _ _ _).mono ?_; rintro e w' ⟨rfl, rfl⟩) | (go_at_call 52; refine (cmp_Or (reads_lit 3 [cmpI a.fr b.fr, cmpI a.le b.le, cmpI a.to b.to] rfl rfl (by omega) ((Ext.refl _).drew))).mono ?_; rintro e w' ⟨rfl, rfl⟩))
  all_goals (go_wp2_with fail; go_ret; exact ⟨rfl, hx.trans (by first | assumption | (refine Ext.drew ?_; assumption) | (refine Ext.alloc ?_ _; assumption) | (refine Ext.drew ?_; refine Ext.alloc ?_ _; assumption))⟩)
end Go.Proofs.YtdeopnjheeekcaaDoor
