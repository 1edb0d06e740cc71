/- The laws' own marks on the edges of a system, walked. -/
import Derived.Test.YtdeopnjheeekcaaDoorMark
import Derived.Test.YtdeopnjheeekcaaDoorSys2
namespace Go.Proofs.YtdeopnjheeekcaaDoor
open Go Go.RowKit
set_option maxHeartbeats 1000000

theorem markEdgeS_any {base : Nat} {A : Option Addr} {n c : Nat} {xs : List Value} {k : Nat} {w : World} (h : w.ownsRow base 53 3 (.slice A n c) n xs) (hk : k + n * 3 ≤ 4611686018427387904) :
    Calls Tryd.prog 31 #[.slice A n c, .int .i64 k] w fun e w' => e = .returned (.int .i64 (k + n * 3 : Nat)) ∧ Frm (blk A) w w' := by
  go_enter Tryd.func31, Tryd.ntmps31
  go_wp2
  go_loopw [1, 5] (fun v i wr => ∃ j : Nat, j ≤ n ∧ i = .int .i64 j ∧ v = .int .i64 (k + j * 3 : Nat) ∧ ∃ xs : List Value, wr.ownsRow base 53 3 (.slice A n c) n xs ∧ Frm (blk A) w wr) (fun _ i _ => n - (intOf i).toNat)
  case atStart => exact ⟨0, Nat.zero_le _, rfl, rfl, xs, h, Frm.refl _ _⟩
  case round =>
    obtain ⟨j, hj, rfl, rfl, ys, hown, hf⟩ := hrel
    by_cases hlt : j < n
    · obtain ⟨g, rfl, hg, _⟩ := own_some' hown (by omega)
      obtain ⟨o0, g0⟩ := own_cell hown (j * 3) (by omega)
      obtain ⟨o1, g1⟩ := own_cell hown (j * 3 + 1) (by omega)
      obtain ⟨o2, g2⟩ := own_cell hown (j * 3 + 2) (by omega)
      have f0 := hown.frozenAt (j * 3)
      have f1 := hown.frozenAt (j * 3 + 1)
      have f2 := hown.frozenAt (j * 3 + 2)
      have hst := own_store3 hown (j * 3) (.int .i64 ((k : Int) + j * 3)) (.int .i64 ((k : Int) + j * 3 + 1)) (.int .i64 ((k : Int) + j * 3 + 1 + 1))
      have h1 : (k : Int) + (j : Int) * 3 + 3 ≤ 4611686018427387904 := by omega
      have h0 : (0 : Int) ≤ (k : Int) + (j : Int) * 3 := by omega
      go_wp2
      go_roundw
      case rel => exact ⟨j + 1, by omega, by go_num, by go_num, _, hst, ((hf.cell (p := ⟨g, j * 3, none⟩) ⟨⟨g, 0, none⟩, rfl, rfl⟩ _).cell (p := ⟨g, j * 3 + 1, none⟩) ⟨⟨g, 0, none⟩, rfl, rfl⟩ _).cell (p := ⟨g, j * 3 + 2, none⟩) ⟨⟨g, 0, none⟩, rfl, rfl⟩ _⟩
      case measure => simp [intOf]; omega
    · obtain rfl : n = j := by omega
      go_wp2
      go_ret
      exact ⟨rfl, hf⟩
theorem markSystem_any {base : Nat} {A : Option Addr} {n c : Nat} {al st : Int} {xs : List Value} {k : Nat} {w : World} (h : w.ownsRow base 53 3 (.slice A n c) n xs) (hk : k + n * 3 ≤ 4611686018427387904) :
    Calls Tryd.prog 17 #[.agg #[.int .i64 al, .int .i64 st, .slice A n c], .int .i64 k] w fun e w' => e = .returned (.int .i64 (k + n * 3 : Nat)) ∧ Frm (blk A) w w' := by
  have h' := own_ext h ((Ext.refl w).alloc (.cells #[.int .i64 al, .int .i64 st, .slice A n c] 29))
  go_enter Tryd.func17, Tryd.ntmps17
  go_wp2_with (go_at_call 31; refine (markEdgeS_any h' hk).mono ?_; rintro e w1 ⟨rfl, hf⟩)
  go_ret
  exact ⟨rfl, (((Ext.refl w).alloc _).toFrm).trans hf⟩
end Go.Proofs.YtdeopnjheeekcaaDoor
