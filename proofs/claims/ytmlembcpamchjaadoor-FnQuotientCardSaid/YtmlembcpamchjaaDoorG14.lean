/- QuotientSystem of the program and of the reference, at a system that is not valid, walked. | laws.agSystems of one system twice, walked. | The laws' own marks on the edges of a system, and what is held of them, walked. -/
import Derived.Test.YtmlembcpamchjaaDoorG04
import Derived.Test.YtmlembcpamchjaaDoorG13
import Derived.Test.YtmlembcpamchjaaDoorG07
import Derived.Deep.DeepCutAuto
import Derived.Test.YtmlembcpamchjaaDoorG09
namespace Go.Proofs.YtmlembcpamchjaaDoor
open Go Go.RowKit
set_option maxHeartbeats 2000000

/-- What QuotientSystem answers of a system that is not valid. -/
def RetI (w : World) (e : Ending) (w' : World) : Prop := e = .returned (.tuple #[.agg #[.int .i64 0, .int .i64 0, .slice none 0 0], .bool false]) ∧ Ext w w'
set_option maxRecDepth 100000 in
theorem impl_QuotientSystem_not {lo hi : Nat} {A : Option Addr} {n c : Nat} {s : Sys} {w : World} (h : SysAt w lo hi A n s) (hv : sysValid s = false) :
    Calls Tryd.prog 10 #[.agg #[.int .i64 s.al, .int .i64 s.st, .slice A n c]] w (RetI w) := by
  have HS := hide (fun W (hW : Ext w W) => h.ext hW)
  have Hv := hide hv
  clear h hv
  go_enter Tryd.func10, Tryd.ntmps10
  obtain ⟨b1, bz⟩ := ext_blk2 (Ext.refl ((w.alloc (.cells #[.int .i64 s.al, .int .i64 s.st, .slice A n c] 28)).alloc (.cells #[.int .i64 0, .int .i64 0, .slice none 0 0] 28)))
  have hw2 : Ext w ((w.alloc (.cells #[.int .i64 s.al, .int .i64 s.st, .slice A n c] 28)).alloc (.cells #[.int .i64 0, .int .i64 0, .slice none 0 0] 28)) := ((Ext.refl w).alloc _).alloc _
  have k1 := b1.cell
  go_upto_region 1 with fail
  generalize (w.alloc (.cells #[.int .i64 s.al, .int .i64 s.st, .slice A n c] 28)).alloc (.cells #[.int .i64 0, .int .i64 0, .slice none 0 0] 28) = w2 at *
  go_wp2_with fail
  refine (impl_SystemValid (HS.out _ hw2)).mono ?_
  rw [Hv.out]
  rintro e w3 ⟨rfl, hx3⟩
  have bz3 := bz.ext hx3
  have cZ := bz3.cell
  have fZ := bz3.frozen
  have hfl := fill_frm w3 (w.heap.size + 1) (.int .i64 0) (.int .i64 0) (.slice none 0 0)
  have hbf := fill_blk bz3 rfl (.int .i64 0) (.int .i64 0) (.slice none 0 0)
  have hxf := (hw2.trans hx3).frm hfl (fun k hk e => by omega)
  have hfin := hide (show RetI w (.returned (.tuple #[.agg #[.int .i64 0, .int .i64 0, .slice none 0 0], .bool false])) (((w3.setCell ⟨w.heap.size + 1, 0, none⟩ (.int .i64 0)).setCell ⟨w.heap.size + 1, 1, none⟩ (.int .i64 0)).setCell ⟨w.heap.size + 1, 2, none⟩ (.slice none 0 0)) from ⟨rfl, hxf⟩)
  clear k1
  go_wp2_with fail
  generalize ((w3.setCell ⟨w.heap.size + 1, 0, none⟩ (.int .i64 0)).setCell ⟨w.heap.size + 1, 1, none⟩ (.int .i64 0)).setCell ⟨w.heap.size + 1, 2, none⟩ (.slice none 0 0) = wf at *
  have cf := hbf.cell
  exact bodyPost_ret (v := .tuple #[.agg #[.int .i64 0, .int .i64 0, .slice none 0 0], .bool false]) (by simp [results, Tryd.results10, go_sem, cf]) rfl hfin.out
set_option maxRecDepth 100000 in
theorem spec_QuotientSystem_not {lo hi : Nat} {A : Option Addr} {n c : Nat} {s : Sys} {w : World} (h : SysAt w lo hi A n s) (hv : sysValid s = false) :
    Calls Tryd.prog 8 #[.agg #[.int .i64 s.al, .int .i64 s.st, .slice A n c]] w (RetI w) := by
  have HS := hide (fun W (hW : Ext w W) => h.ext hW)
  have Hv := hide hv
  clear h hv
  go_enter Tryd.func8, Tryd.ntmps8
  obtain ⟨b1, bz⟩ := ext_blk2 (Ext.refl ((w.alloc (.cells #[.int .i64 s.al, .int .i64 s.st, .slice A n c] 28)).alloc (.cells #[.int .i64 0, .int .i64 0, .slice none 0 0] 28)))
  have hw2 : Ext w ((w.alloc (.cells #[.int .i64 s.al, .int .i64 s.st, .slice A n c] 28)).alloc (.cells #[.int .i64 0, .int .i64 0, .slice none 0 0] 28)) := ((Ext.refl w).alloc _).alloc _
  have k1 := b1.cell
  go_upto_region 1 with fail
  generalize (w.alloc (.cells #[.int .i64 s.al, .int .i64 s.st, .slice A n c] 28)).alloc (.cells #[.int .i64 0, .int .i64 0, .slice none 0 0] 28) = w2 at *
  go_wp2_with fail
  refine (spec_SystemValid (HS.out _ hw2)).mono ?_
  rw [Hv.out]
  rintro e w3 ⟨rfl, hx3⟩
  have bz3 := bz.ext hx3
  have cZ := bz3.cell
  have fZ := bz3.frozen
  have hfl := fill_frm w3 (w.heap.size + 1) (.int .i64 0) (.int .i64 0) (.slice none 0 0)
  have hbf := fill_blk bz3 rfl (.int .i64 0) (.int .i64 0) (.slice none 0 0)
  have hxf := (hw2.trans hx3).frm hfl (fun k hk e => by omega)
  have hfin := hide (show RetI w (.returned (.tuple #[.agg #[.int .i64 0, .int .i64 0, .slice none 0 0], .bool false])) (((w3.setCell ⟨w.heap.size + 1, 0, none⟩ (.int .i64 0)).setCell ⟨w.heap.size + 1, 1, none⟩ (.int .i64 0)).setCell ⟨w.heap.size + 1, 2, none⟩ (.slice none 0 0)) from ⟨rfl, hxf⟩)
  clear k1
  go_wp2_with fail
  generalize ((w3.setCell ⟨w.heap.size + 1, 0, none⟩ (.int .i64 0)).setCell ⟨w.heap.size + 1, 1, none⟩ (.int .i64 0)).setCell ⟨w.heap.size + 1, 2, none⟩ (.slice none 0 0) = wf at *
  have cf := hbf.cell
  exact bodyPost_ret (v := .tuple #[.agg #[.int .i64 0, .int .i64 0, .slice none 0 0], .bool false]) (by simp [results, Tryd.results8, go_sem, cf]) rfl hfin.out
end Go.Proofs.YtmlembcpamchjaaDoor

namespace Go.Proofs.YtmlembcpamchjaaDoor
open Go Go.RowKit
set_option maxHeartbeats 2000000

set_option maxRecDepth 100000 in
theorem agSystems_same {lo hi lo' hi' : Nat} {A : Option Addr} {n c : Nat} {B : Option Addr} {m d : Nat} {s : Sys} {w : World} (h : SysAt w lo hi A n s) (h' : SysAt w lo' hi' B m s) :
    Calls Tryd.prog 15 #[.agg #[.int .i64 s.al, .int .i64 s.st, .slice A n c], .agg #[.int .i64 s.al, .int .i64 s.st, .slice B m d]] w fun e w' => e = .returned (.bool true) ∧ Ext w w' := by
  have HS := hide (fun W (hW : Ext w W) => h.ext hW)
  have HT := hide (fun W (hW : Ext w W) => h'.ext hW)
  have hL := hide h.1
  have hnm := h.2.len
  obtain rfl : m = n := by rw [h.1, h'.1]
  clear h h'
  go_enter Tryd.func15, Tryd.ntmps15
  obtain ⟨b1, b2⟩ := ext_blk2 (Ext.refl ((w.alloc (.cells #[.int .i64 s.al, .int .i64 s.st, .slice A m c] 28)).alloc (.cells #[.int .i64 s.al, .int .i64 s.st, .slice B m d] 28)))
  have hw2 : Ext w ((w.alloc (.cells #[.int .i64 s.al, .int .i64 s.st, .slice A m c] 28)).alloc (.cells #[.int .i64 s.al, .int .i64 s.st, .slice B m d] 28)) := ((Ext.refl w).alloc _).alloc _
  have k1 := b1.cell
  have k2 := b2.cell
  go_upto_region 1 with fail
  generalize (w.alloc (.cells #[.int .i64 s.al, .int .i64 s.st, .slice A m c] 28)).alloc (.cells #[.int .i64 s.al, .int .i64 s.st, .slice B m d] 28) = w2 at *
  go_wp2_with fail
  go_loopw [5] (fun i wr => ∃ k : Nat, k ≤ m ∧ i = .int .i64 k ∧ Ext w2 wr) (fun i _ => m - (intOf i).toNat)
  case atStart => exact ⟨0, Nat.zero_le _, rfl, Ext.refl _⟩
  case round =>
    clear k1 k2
    obtain ⟨k, hk, rfl, hxr⟩ := hrel
    have k1 := (b1.ext hxr).cell
    have k2 := (b2.ext hxr).cell
    by_cases hlt : k < m
    · obtain ⟨g, o, x, rfl, _, _, hx, c0, c1, c2⟩ := (HS.out wr (hw2.trans hxr)).2.edge hlt
      obtain ⟨g', o', x', rfl, _, _, hx', d0, d1, d2⟩ := (HT.out wr (hw2.trans hxr)).2.edge hlt
      obtain rfl : x = x' := by
        have h1 := hx.out
        rw [hx'.out] at h1
        exact (Option.some.inj h1).symm
      have C0 : ∀ W, Ext wr W → W.cell? ⟨g, o + k * 3, none⟩ = some (.int .i64 x.fr) := fun W hW => hW.cell_some c0
      have C1 : ∀ W, Ext wr W → W.cell? ⟨g, o + k * 3 + 1, none⟩ = some (.int .i64 x.le) := fun W hW => hW.cell_some c1
      have C2 : ∀ W, Ext wr W → W.cell? ⟨g, o + k * 3 + 2, none⟩ = some (.int .i64 x.to) := fun W hW => hW.cell_some c2
      have D0 : ∀ W, Ext wr W → W.cell? ⟨g', o' + k * 3, none⟩ = some (.int .i64 x.fr) := fun W hW => hW.cell_some d0
      have D1 : ∀ W, Ext wr W → W.cell? ⟨g', o' + k * 3 + 1, none⟩ = some (.int .i64 x.le) := fun W hW => hW.cell_some d1
      have D2 : ∀ W, Ext wr W → W.cell? ⟨g', o' + k * 3 + 2, none⟩ = some (.int .i64 x.to) := fun W hW => hW.cell_some d2
      have K1 : ∀ W, Ext wr W → ∀ q, W.cell? ⟨w.heap.size, q, none⟩ = #[Value.int .i64 s.al, .int .i64 s.st, .slice (some ⟨g, o, none⟩) m c][q]? := fun W hW => ((b1.ext hxr).ext hW).cell
      have K2 : ∀ W, Ext wr W → ∀ q, W.cell? ⟨w.heap.size + 1, q, none⟩ = #[Value.int .i64 s.al, .int .i64 s.st, .slice (some ⟨g', o', none⟩) m d][q]? := fun W hW => ((b2.ext hxr).ext hW).cell
      have hkc : (k : Int) < (m : Int) := by omega
      have hk0 : 0 ≤ (k : Int) := by omega
      have hww := Ext.refl wr
      clear c0 c1 c2 d0 d1 d2
      go_upto_region 6 with fail
      clear k1 k2
      refine wp_region_tailU (fun X => Ext wr X) [] (OrdU.of [0, 1, 2, 3, 4, 5, 6, 7, 8, 9, 10]) (by kernel_rfl) (by kernel_rfl) (by kernel_rfl) (by kernel_rfl) (by kernel_rfl) (fun _ _ _ _ _ h => h) (by first | assumption | exact (Ext.refl _).drew | (refine Ext.drew ?_; assumption)) ?_
      repeat (first | (refine useq_skip rfl rfl (by assumption) ?_; simp only [Act.put, List.setIfInBounds_toArray, List.set_cons_zero, List.set_cons_succ]) | (refine useq_pure (v := ?_) rfl rfl rfl rfl (fun X => ?_) ?_; rotate_left; (focus (go_simp <;> with_reducible rfl)); simp only [Act.put, List.setIfInBounds_toArray, List.set_cons_zero, List.set_cons_succ]) | (refine useq_read (v := ?_) rfl rfl rfl rfl (fun X hX => ?_) ?_; rotate_left; (focus (go_simp <;> with_reducible rfl)); simp only [Act.put, List.setIfInBounds_toArray, List.set_cons_zero, List.set_cons_succ]))
      refine useq_nil ?_
      go_wp2_with fail
      go_roundw
      case rel => exact ⟨k + 1, by omega, by go_num, hxr.drew⟩
      case measure => simp [intOf]; omega
    · obtain rfl : k = m := by omega
      have hfin := hw2.trans hxr
      go_wp2_with fail
      go_ret
      exact ⟨rfl, hfin⟩
end Go.Proofs.YtmlembcpamchjaaDoor

namespace Go.Proofs.YtmlembcpamchjaaDoor
open Go Go.RowKit
set_option maxHeartbeats 1000000

/-- The marks on n edges, from k on. -/
def mkE (k n : Nat) : List Edg := (List.range n).map fun j : Nat => ⟨(k + j * 3 : Nat), (k + j * 3 + 1 : Nat), (k + j * 3 + 2 : Nat)⟩
theorem mkE_length (k n : Nat) : (mkE k n).length = n := by simp [mkE]
theorem mkE_get {k n j : Nat} (h : j < n) : (mkE k n)[j]? = some ⟨(k + j * 3 : Nat), (k + j * 3 + 1 : Nat), (k + j * 3 + 2 : Nat)⟩ := by simp [mkE, h]
theorem markEdgeS_own {base : Nat} {A : Option Addr} {n c : Nat} {xs : List Value} {k : Nat} {w : World} (h : w.ownsRow base 52 3 (.slice A n c) n xs) (hk : k + n * 3 ≤ 4611686018427387904) :
    Calls Tryd.prog 39 #[.slice A n c, .int .i64 k] w fun e w' => e = .returned (.int .i64 (k + n * 3 : Nat)) ∧ w'.ownsRow base 52 3 (.slice A n c) n (edgeCells (mkE k n)) ∧ Frm (blk A) w w' := by
  have hlen := hide h.1
  go_enter Tryd.func39, Tryd.ntmps39
  go_wp2
  go_loopw [1, 5] (fun v i wr => ∃ j : Nat, j ≤ n ∧ i = .int .i64 j ∧ v = .int .i64 (k + j * 3 : Nat) ∧ ∃ rest : List Value, Hid (rest.length = (n - j) * 3) ∧ wr.ownsRow base 52 3 (.slice A n c) n (edgeCells ((mkE k n).take j) ++ rest) ∧ Frm (blk A) w wr) (fun _ i _ => n - (intOf i).toNat)
  case atStart => exact ⟨0, Nat.zero_le _, rfl, rfl, xs, by unfold Hid; rw [hlen.out]; omega, by simpa [edgeCells] using h, Frm.refl _ _⟩
  case round =>
    obtain ⟨j, hj, rfl, rfl, rest, hrest, hown, hf⟩ := hrel
    by_cases hlt : j < n
    · obtain ⟨g, rfl, hg, _⟩ := own_some' hown (by omega)
      obtain ⟨o0, g0⟩ := own_cell hown (j * 3) (by omega)
      obtain ⟨o1, g1⟩ := own_cell hown (j * 3 + 1) (by omega)
      obtain ⟨o2, g2⟩ := own_cell hown (j * 3 + 2) (by omega)
      have f0 := hown.frozenAt (j * 3)
      have f1 := hown.frozenAt (j * 3 + 1)
      have f2 := hown.frozenAt (j * 3 + 2)
      have hst := own_store3 hown (j * 3) (.int .i64 ((k + j * 3 : Nat) : Int)) (.int .i64 ((k + j * 3 + 1 : Nat) : Int)) (.int .i64 ((k + j * 3 + 2 : Nat) : Int))
      rw [set3_edges (e := ⟨(k + j * 3 : Nat), (k + j * 3 + 1 : Nat), (k + j * 3 + 2 : Nat)⟩) (mkE_get hlt) (by rw [hrest.out]; omega)] at hst
      rw [show ((k + j * 3 + 1 : Nat) : Int) = (k : Int) + j * 3 + 1 by omega, show ((k + j * 3 + 2 : Nat) : Int) = (k : Int) + j * 3 + 1 + 1 by omega, show ((k + j * 3 : Nat) : Int) = (k : Int) + j * 3 by omega] at hst
      have h1 : (k : Int) + (j : Int) * 3 + 3 ≤ 4611686018427387904 := by omega
      have h0 : (0 : Int) ≤ (k : Int) + (j : Int) * 3 := by omega
      go_wp2
      go_roundw
      case rel => exact ⟨j + 1, by omega, by go_num, by go_num, rest.drop 3, by have := hrest.out; unfold Hid; rw [List.length_drop]; omega, hst, ((hf.cell (p := ⟨g, j * 3, none⟩) ⟨⟨g, 0, none⟩, rfl, rfl⟩ _).cell (p := ⟨g, j * 3 + 1, none⟩) ⟨⟨g, 0, none⟩, rfl, rfl⟩ _).cell (p := ⟨g, j * 3 + 2, none⟩) ⟨⟨g, 0, none⟩, rfl, rfl⟩ _⟩
      case measure => simp [intOf]; omega
    · obtain rfl : n = j := by omega
      obtain rfl : rest = [] := List.eq_nil_of_length_eq_zero (by have := hrest.out; omega)
      rw [List.append_nil, List.take_of_length_le (by rw [mkE_length]; omega)] at hown
      go_wp2
      go_ret
      exact ⟨rfl, hown, hf⟩
theorem markSystem_own {base : Nat} {A : Option Addr} {n c : Nat} {al st : Int} {xs : List Value} {k : Nat} {w : World} (h : w.ownsRow base 52 3 (.slice A n c) n xs) (hk : k + n * 3 ≤ 4611686018427387904) :
    Calls Tryd.prog 12 #[.agg #[.int .i64 al, .int .i64 st, .slice A n c], .int .i64 k] w fun e w' => e = .returned (.int .i64 (k + n * 3 : Nat)) ∧ w'.ownsRow base 52 3 (.slice A n c) n (edgeCells (mkE k n)) ∧ Frm (blk A) w w' := by
  have h' := own_ext h ((Ext.refl w).alloc (.cells #[.int .i64 al, .int .i64 st, .slice A n c] 28))
  go_enter Tryd.func12, Tryd.ntmps12
  go_wp2_with (go_at_call 39; refine (markEdgeS_own h' hk).mono ?_; rintro e w1 ⟨rfl, hown, hf⟩)
  go_ret
  exact ⟨rfl, hown, (((Ext.refl w).alloc _).toFrm).trans hf⟩
theorem heldEdgeS_any {lo hi : Nat} {A : Option Addr} {n c : Nat} {k : Nat} {w : World} (h : Reads w lo hi 3 A n (edgeCells (mkE k n))) (hk : k + n * 3 ≤ 4611686018427387904) :
    Calls Tryd.prog 40 #[.slice A n c, .int .i64 k] w fun e w' => e = .returned (.int .i64 (k + n * 3 : Nat)) ∧ w = w' := by
  have hn := h.len
  go_enter Tryd.func40, Tryd.ntmps40
  go_wp2
  go_loop [1, 5] (fun v i => ∃ j : Nat, j ≤ n ∧ i = .int .i64 j ∧ v = .int .i64 (k + j * 3 : Nat)) (fun _ i => n - (intOf i).toNat)
  case atStart => exact ⟨0, Nat.zero_le _, rfl, rfl⟩
  case round =>
    obtain ⟨j, hj, rfl, rfl⟩ := hrel
    by_cases hlt : j < n
    · obtain ⟨g, o, x, rfl, _, _, hx, c0, c1, c2⟩ := h.edge hlt
      obtain rfl : x = ⟨(k + j * 3 : Nat), (k + j * 3 + 1 : Nat), (k + j * 3 + 2 : Nat)⟩ := by
        have := hx.out
        rw [mkE_get hlt] at this
        exact (Option.some.inj this).symm
      have h1 : (k : Int) + (j : Int) * 3 + 3 ≤ 4611686018427387904 := by omega
      have h0 : (0 : Int) ≤ (k : Int) + (j : Int) * 3 := by omega
      dsimp only at c0 c1 c2
      rw [show ((k + j * 3 : Nat) : Int) = (k : Int) + j * 3 by omega] at c0
      rw [show ((k + j * 3 + 1 : Nat) : Int) = (k : Int) + j * 3 + 1 by omega] at c1
      rw [show ((k + j * 3 + 2 : Nat) : Int) = (k : Int) + j * 3 + 1 + 1 by omega] at c2
      go_wp2
      go_round
      case rel => exact ⟨j + 1, by omega, by go_num, by go_num⟩
      case measure => simp [intOf]; omega
    · obtain rfl : n = j := by omega
      go_wp2
      go_ret
      exact ⟨rfl, rfl⟩
theorem heldSystem_any {lo hi : Nat} {A : Option Addr} {n c : Nat} {al st : Int} {k : Nat} {w : World} (h : Reads w lo hi 3 A n (edgeCells (mkE k n))) (hk : k + n * 3 ≤ 4611686018427387904) :
    Calls Tryd.prog 13 #[.agg #[.int .i64 al, .int .i64 st, .slice A n c], .int .i64 k] w fun e w' => e = .returned (.int .i64 (k + n * 3 : Nat)) ∧ Ext w w' := by
  have h' := h.ext ((Ext.refl w).alloc (.cells #[.int .i64 al, .int .i64 st, .slice A n c] 28))
  have hx := (Ext.refl w).alloc (.cells #[.int .i64 al, .int .i64 st, .slice A n c] 28)
  have hk0 : ¬ (((k + n * 3 : Nat) : Int) < 0) := by omega
  go_enter Tryd.func13, Tryd.ntmps13
  go_wp2_with (go_at_call 40; refine (heldEdgeS_any h' hk).mono ?_; rintro e w1 ⟨rfl, rfl⟩)
  go_ret
  exact ⟨rfl, hx⟩
end Go.Proofs.YtmlembcpamchjaaDoor
