/- The laws FnExactBisimilar and FnExactSimulates, walked: they answer true, and leave all old memory as it was. -/
import Derived.Test.YtdeopnjheeekcaaDoorSimFn
namespace Go.Proofs.YtdeopnjheeekcaaDoor
open Go Go.RowKit
set_option maxHeartbeats 1000000

theorem law_Bisimilar {lo hi lo' hi' : Nat} {A : Option Addr} {n c : Nat} {B : Option Addr} {m d : Nat} {s t : Sys} {w : World} (h : SysAt w lo hi A n s) (h' : SysAt w lo' hi' B m t) (hT : Tab w) :
    Calls Tryd.prog 3 #[.agg #[.int .i64 s.al, .int .i64 s.st, .slice A n c], .agg #[.int .i64 t.al, .int .i64 t.st, .slice B m d]] w fun e w' => e = .returned (.bool true) ∧ Ext w w' := by
  have hn := h.2.len
  have hm := h'.2.len
  have HS := hide (fun W (hW : Ext w W) => h.ext hW)
  have HT := hide (fun W (hW : Ext w W) => h'.ext hW)
  have HTab := hide (fun W (hW : Ext w W) => hT.ext hW)
  have Hse := hide (sysEq_self s)
  have Hte := hide (sysEq_self t)
  clear h h' hT
  by_cases hneg : leftOf 1048576 n < 0
  · go_enter Tryd.func3, Tryd.ntmps3
    go_wp2_with (go_at_call 7; refine (szSystem_any hn (by omega) (by omega)).mono ?_; rintro e w1 ⟨rfl, hx1⟩)
    go_ret
    exact ⟨rfl, (((Ext.refl _).alloc _).alloc _).trans hx1⟩
  have hpos : 0 ≤ leftOf 1048576 n := by omega
  have hle := leftOf_le 1048576 n (by omega)
  by_cases hneg2 : leftOf (leftOf 1048576 n) m < 0
  · go_enter Tryd.func3, Tryd.ntmps3
    go_wp2_with fail
    refine (szSystem_any hn (by omega) (by omega)).mono ?_
    rintro e w1 ⟨rfl, hx1⟩
    obtain ⟨b1, b2⟩ := ext_blk2 hx1
    have c1 := b1.cell
    have c2 := b2.cell
    go_wp2_with fail
    refine (szSystem_any hm hpos hle).mono ?_
    rintro e w2 ⟨rfl, hx2⟩
    go_wp2_with fail
    go_ret
    exact ⟨rfl, ((((Ext.refl _).alloc _).alloc _).trans hx1).trans hx2⟩
  have hs1 : n ≤ 1048576 := by unfold leftOf at hneg; split at hneg <;> omega
  have hs2 : m ≤ 1048576 := by unfold leftOf at hneg2 hneg; (repeat' split at hneg2) <;> omega
  go_enter Tryd.func3, Tryd.ntmps3
  go_wp2_with fail
  refine (szSystem_any hn (by omega) (by omega)).mono ?_
  rintro e w1 ⟨rfl, hx1⟩
  obtain ⟨b1, b2⟩ := ext_blk2 hx1
  have c1 := b1.cell
  have c2 := b2.cell
  go_wp2_with fail
  refine (szSystem_any hm hpos hle).mono ?_
  rintro e w2 ⟨rfl, hx2⟩
  clear c1 c2
  have hw2 := ((((Ext.refl w).alloc _).alloc _).trans hx1).trans hx2
  have d1 : ∀ W, Ext w2 W → ∀ j, W.cell? ⟨w.heap.size, j, none⟩ = #[Value.int .i64 s.al, .int .i64 s.st, .slice A n c][j]? := fun W hW => (b1.ext (hx2.trans hW)).cell
  have d2 : ∀ W, Ext w2 W → ∀ j, W.cell? ⟨w.heap.size + 1, j, none⟩ = #[Value.int .i64 t.al, .int .i64 t.st, .slice B m d][j]? := fun W hW => (b2.ext (hx2.trans hW)).cell
  have hr2 := Ext.refl w2
  have CS : ∀ W, Ext w2 W → Calls Tryd.prog 9 #[.agg #[.int .i64 s.al, .int .i64 s.st, .slice A n c]] W (RetSys W s) := fun W hW => toSystem_any (HS.out W (hw2.trans hW)) hs1
  have CT : ∀ W, Ext w2 W → Calls Tryd.prog 9 #[.agg #[.int .i64 t.al, .int .i64 t.st, .slice B m d]] W (RetSys W t) := fun W hW => toSystem_any (HT.out W (hw2.trans hW)) hs2
  have CS2 := hide CS
  have CT2 := hide CT
  clear CS CT
  have HS2 := hide (fun W (hW : Ext w2 W) => HS.out W (hw2.trans hW))
  have HT2 := hide (fun W (hW : Ext w2 W) => HT.out W (hw2.trans hW))
  clear b1 b2 hx1 hx2 hn hm
  go_wp2_with fail
  clear hneg hneg2 hpos hle
  go_region_held3 (fun W => Ext w2 W) (first | assumption | (refine Ext.drew ?_; assumption) | (refine Ext.trans ?_ (by assumption); assumption) | (refine Ext.trans ?_ (by assumption); refine Ext.drew ?_; assumption)) (first
    | (go_at_call 9; (with_reducible refine (CS2.out _ ?_).mono ?_); (first | assumption | (refine Ext.drew ?_; assumption)); rintro e w3 ⟨A3, n3, c3, rfl, hown3, hx3⟩)
    | (go_at_call 9; (with_reducible refine (CT2.out _ ?_).mono ?_); (first | assumption | (refine Ext.drew ?_; assumption)); rintro e w4 ⟨A4, n4, c4, rfl, hown4, hx4⟩)
    | (go_at_call 8; refine (spec_Bisimilar (hown3.reads.ext ?_) (hown4.reads.ext ?_)).mono ?_; (repeat (first | assumption | exact Ext.refl _ | (refine Ext.drew ?_) | (refine Ext.trans ?_ hx4))); (repeat (first | assumption | exact Ext.refl _ | (refine Ext.drew ?_))); rintro e w5 ⟨rfl, hx5⟩))
  have hw5 : Ext w2 w5 := by assumption
  have e1 : ∀ W, Ext w5 W → ∀ j, W.cell? ⟨w.heap.size, j, none⟩ = #[Value.int .i64 s.al, .int .i64 s.st, .slice A n c][j]? := fun W hW => d1 W (hw5.trans hW)
  have e2 : ∀ W, Ext w5 W → ∀ j, W.cell? ⟨w.heap.size + 1, j, none⟩ = #[Value.int .i64 t.al, .int .i64 t.st, .slice B m d][j]? := fun W hW => d2 W (hw5.trans hW)
  have hz2 := hide hw2.size
  clear d1 d2 hown3 hown4 hx3 hx4 hx5
  have f1 := e1 w5 (Ext.refl _)
  have f2 := e2 w5 (Ext.refl _)
  go_wp2_with fail
  refine (toSystem_any (HS2.out _ hw5) hs1).mono ?_
  rintro e w6 ⟨A6, n6, c6, rfl, hown6, hx6⟩
  clear f1 f2
  have f1 := e1 _ (hx6.alloc (.cells #[.int .i64 s.al, .int .i64 s.st, .slice A6 n6 c6] 29))
  have f2 := e2 _ (hx6.alloc (.cells #[.int .i64 s.al, .int .i64 s.st, .slice A6 n6 c6] 29))
  have hb6 := Blk.new w6 29 #[.int .i64 s.al, .int .i64 s.st, .slice A6 n6 c6]
  have hx56 := hx6.alloc (.cells #[.int .i64 s.al, .int .i64 s.st, .slice A6 n6 c6] 29)
  have hx66 := (Ext.refl w6).alloc (.cells #[.int .i64 s.al, .int .i64 s.st, .slice A6 n6 c6] 29)
  go_wp2_with fail
  refine (toSystem_any (HT2.out _ (hw5.trans hx56)) hs2).mono ?_
  rintro e w7 ⟨A7, n7, c7, rfl, hown7, hx7⟩
  clear f1 f2
  have hb7 := Blk.new w7 29 #[.int .i64 t.al, .int .i64 t.st, .slice A7 n7 c7]
  have hx77 := (Ext.refl w7).alloc (.cells #[.int .i64 t.al, .int .i64 t.st, .slice A7 n7 c7] 29)
  have f6 := ((hb6.ext hx7).ext hx77).cell
  go_wp2_with fail
  have hw7 := (hx56.trans hx7).trans hx77
  have r6 := hown6.reads.ext ((hx66.trans hx7).trans hx77)
  have r7 := hown7.reads.ext hx77
  generalize w7.alloc (.cells #[.int .i64 t.al, .int .i64 t.st, .slice A7 n7 c7] 29) = w8 at *
  refine (impl_Bisimilar r6 r7 (HTab.out _ ((hw2.trans hw5).trans hw7))).mono ?_
  rintro e w9 ⟨rfl, hx9⟩
  have hw9 : Ext w2 w9 := (hw5.trans hw7).trans hx9
  have g6 : ∀ W, Ext w9 W → ∀ j, W.cell? ⟨w6.heap.size, j, none⟩ = #[Value.int .i64 s.al, .int .i64 s.st, .slice A6 n6 c6][j]? := fun W hW => (((hb6.ext hx7).ext hx77).ext (hx9.trans hW)).cell
  have g7 : ∀ W, Ext w9 W → ∀ j, W.cell? ⟨w7.heap.size, j, none⟩ = #[Value.int .i64 t.al, .int .i64 t.st, .slice A7 n7 c7][j]? := fun W hW => (hb7.ext (hx9.trans hW)).cell
  have e19 : ∀ W, Ext w9 W → ∀ j, W.cell? ⟨w.heap.size, j, none⟩ = #[Value.int .i64 s.al, .int .i64 s.st, .slice A n c][j]? := fun W hW => e1 W ((hw7.trans hx9).trans hW)
  have e29 : ∀ W, Ext w9 W → ∀ j, W.cell? ⟨w.heap.size + 1, j, none⟩ = #[Value.int .i64 t.al, .int .i64 t.st, .slice B m d][j]? := fun W hW => e2 W ((hw7.trans hx9).trans hW)
  have R6 := hide (fun W (hW : Ext w9 W) => r6.ext (hx9.trans hW))
  have R7 := hide (fun W (hW : Ext w9 W) => r7.ext (hx9.trans hW))
  have HS9 := hide (fun W (hW : Ext w9 W) => HS2.out W (hw9.trans hW))
  have HT9 := hide (fun W (hW : Ext w9 W) => HT2.out W (hw9.trans hW))
  clear e1 e2 f6 hb6 hb7 r6 r7 hx77 hx66 hx56 hx7 hx6 hown6 hown7 hr2
  have hr9 := Ext.refl w9
  go_wp2_with fail
  go_region_held3 (fun W => Ext w9 W) (first | assumption | (refine Ext.drew ?_; assumption) | (refine Ext.trans ?_ (by assumption); assumption) | (refine Ext.trans ?_ (by assumption); refine Ext.drew ?_; assumption)) (first
    | (go_at_call 9; refine (toSystem_any (HS9.out _ ?_) hs1).mono ?_; (first | assumption | (refine Ext.drew ?_; assumption)); rintro e w10 ⟨A10, n10, c10, rfl, hown10, hx10⟩)
    | (go_at_call 11; refine (eqSystem_any (R6.out _ (by assumption)) hown10.reads).mono ?_; rw [Hse.out]; rintro e w11 ⟨rfl, hx11⟩))
  have hr11 : Ext w9 w11 := by assumption
  clear hown10 hx10
  go_wp2_with fail
  go_region_held3 (fun W => Ext w9 W) (first | assumption | (refine Ext.drew ?_; assumption) | (refine Ext.trans ?_ (by assumption); assumption) | (refine Ext.trans ?_ (by assumption); refine Ext.drew ?_; assumption)) (first
    | (go_at_call 9; refine (toSystem_any (HT9.out _ ?_) hs2).mono ?_; (first | assumption | (refine Ext.drew ?_; assumption)); rintro e w12 ⟨A12, n12, c12, rfl, hown12, hx12⟩)
    | (go_at_call 11; refine (eqSystem_any (R7.out _ (by assumption)) hown12.reads).mono ?_; rw [Hte.out]; rintro e w13 ⟨rfl, hx13⟩))
  go_wp2_with fail
  go_ret
  exact ⟨rfl, (hw2.trans hw9).trans (by assumption)⟩

theorem law_Simulates {lo hi lo' hi' : Nat} {A : Option Addr} {n c : Nat} {B : Option Addr} {m d : Nat} {s t : Sys} {w : World} (h : SysAt w lo hi A n s) (h' : SysAt w lo' hi' B m t) (hT : Tab w) :
    Calls Tryd.prog 4 #[.agg #[.int .i64 s.al, .int .i64 s.st, .slice A n c], .agg #[.int .i64 t.al, .int .i64 t.st, .slice B m d]] w fun e w' => e = .returned (.bool true) ∧ Ext w w' := by
  have hn := h.2.len
  have hm := h'.2.len
  have HS := hide (fun W (hW : Ext w W) => h.ext hW)
  have HT := hide (fun W (hW : Ext w W) => h'.ext hW)
  have HTab := hide (fun W (hW : Ext w W) => hT.ext hW)
  have Hse := hide (sysEq_self s)
  have Hte := hide (sysEq_self t)
  clear h h' hT
  by_cases hneg : leftOf 1048576 n < 0
  · go_enter Tryd.func4, Tryd.ntmps4
    go_wp2_with (go_at_call 7; refine (szSystem_any hn (by omega) (by omega)).mono ?_; rintro e w1 ⟨rfl, hx1⟩)
    go_ret
    exact ⟨rfl, (((Ext.refl _).alloc _).alloc _).trans hx1⟩
  have hpos : 0 ≤ leftOf 1048576 n := by omega
  have hle := leftOf_le 1048576 n (by omega)
  by_cases hneg2 : leftOf (leftOf 1048576 n) m < 0
  · go_enter Tryd.func4, Tryd.ntmps4
    go_wp2_with fail
    refine (szSystem_any hn (by omega) (by omega)).mono ?_
    rintro e w1 ⟨rfl, hx1⟩
    obtain ⟨b1, b2⟩ := ext_blk2 hx1
    have c1 := b1.cell
    have c2 := b2.cell
    go_wp2_with fail
    refine (szSystem_any hm hpos hle).mono ?_
    rintro e w2 ⟨rfl, hx2⟩
    go_wp2_with fail
    go_ret
    exact ⟨rfl, ((((Ext.refl _).alloc _).alloc _).trans hx1).trans hx2⟩
  have hs1 : n ≤ 1048576 := by unfold leftOf at hneg; split at hneg <;> omega
  have hs2 : m ≤ 1048576 := by unfold leftOf at hneg2 hneg; (repeat' split at hneg2) <;> omega
  go_enter Tryd.func4, Tryd.ntmps4
  go_wp2_with fail
  refine (szSystem_any hn (by omega) (by omega)).mono ?_
  rintro e w1 ⟨rfl, hx1⟩
  obtain ⟨b1, b2⟩ := ext_blk2 hx1
  have c1 := b1.cell
  have c2 := b2.cell
  go_wp2_with fail
  refine (szSystem_any hm hpos hle).mono ?_
  rintro e w2 ⟨rfl, hx2⟩
  clear c1 c2
  have hw2 := ((((Ext.refl w).alloc _).alloc _).trans hx1).trans hx2
  have d1 : ∀ W, Ext w2 W → ∀ j, W.cell? ⟨w.heap.size, j, none⟩ = #[Value.int .i64 s.al, .int .i64 s.st, .slice A n c][j]? := fun W hW => (b1.ext (hx2.trans hW)).cell
  have d2 : ∀ W, Ext w2 W → ∀ j, W.cell? ⟨w.heap.size + 1, j, none⟩ = #[Value.int .i64 t.al, .int .i64 t.st, .slice B m d][j]? := fun W hW => (b2.ext (hx2.trans hW)).cell
  have hr2 := Ext.refl w2
  have CS : ∀ W, Ext w2 W → Calls Tryd.prog 9 #[.agg #[.int .i64 s.al, .int .i64 s.st, .slice A n c]] W (RetSys W s) := fun W hW => toSystem_any (HS.out W (hw2.trans hW)) hs1
  have CT : ∀ W, Ext w2 W → Calls Tryd.prog 9 #[.agg #[.int .i64 t.al, .int .i64 t.st, .slice B m d]] W (RetSys W t) := fun W hW => toSystem_any (HT.out W (hw2.trans hW)) hs2
  have CS2 := hide CS
  have CT2 := hide CT
  clear CS CT
  have HS2 := hide (fun W (hW : Ext w2 W) => HS.out W (hw2.trans hW))
  have HT2 := hide (fun W (hW : Ext w2 W) => HT.out W (hw2.trans hW))
  clear b1 b2 hx1 hx2 hn hm
  go_wp2_with fail
  clear hneg hneg2 hpos hle
  go_region_held3 (fun W => Ext w2 W) (first | assumption | (refine Ext.drew ?_; assumption) | (refine Ext.trans ?_ (by assumption); assumption) | (refine Ext.trans ?_ (by assumption); refine Ext.drew ?_; assumption)) (first
    | (go_at_call 9; (with_reducible refine (CS2.out _ ?_).mono ?_); (first | assumption | (refine Ext.drew ?_; assumption)); rintro e w3 ⟨A3, n3, c3, rfl, hown3, hx3⟩)
    | (go_at_call 9; (with_reducible refine (CT2.out _ ?_).mono ?_); (first | assumption | (refine Ext.drew ?_; assumption)); rintro e w4 ⟨A4, n4, c4, rfl, hown4, hx4⟩)
    | (go_at_call 12; refine (spec_Simulates (hown3.reads.ext ?_) (hown4.reads.ext ?_)).mono ?_; (repeat (first | assumption | exact Ext.refl _ | (refine Ext.drew ?_) | (refine Ext.trans ?_ hx4))); (repeat (first | assumption | exact Ext.refl _ | (refine Ext.drew ?_))); rintro e w5 ⟨rfl, hx5⟩))
  have hw5 : Ext w2 w5 := by assumption
  have e1 : ∀ W, Ext w5 W → ∀ j, W.cell? ⟨w.heap.size, j, none⟩ = #[Value.int .i64 s.al, .int .i64 s.st, .slice A n c][j]? := fun W hW => d1 W (hw5.trans hW)
  have e2 : ∀ W, Ext w5 W → ∀ j, W.cell? ⟨w.heap.size + 1, j, none⟩ = #[Value.int .i64 t.al, .int .i64 t.st, .slice B m d][j]? := fun W hW => d2 W (hw5.trans hW)
  have hz2 := hide hw2.size
  clear d1 d2 hown3 hown4 hx3 hx4 hx5
  have f1 := e1 w5 (Ext.refl _)
  have f2 := e2 w5 (Ext.refl _)
  go_wp2_with fail
  refine (toSystem_any (HS2.out _ hw5) hs1).mono ?_
  rintro e w6 ⟨A6, n6, c6, rfl, hown6, hx6⟩
  clear f1 f2
  have f1 := e1 _ (hx6.alloc (.cells #[.int .i64 s.al, .int .i64 s.st, .slice A6 n6 c6] 29))
  have f2 := e2 _ (hx6.alloc (.cells #[.int .i64 s.al, .int .i64 s.st, .slice A6 n6 c6] 29))
  have hb6 := Blk.new w6 29 #[.int .i64 s.al, .int .i64 s.st, .slice A6 n6 c6]
  have hx56 := hx6.alloc (.cells #[.int .i64 s.al, .int .i64 s.st, .slice A6 n6 c6] 29)
  have hx66 := (Ext.refl w6).alloc (.cells #[.int .i64 s.al, .int .i64 s.st, .slice A6 n6 c6] 29)
  go_wp2_with fail
  refine (toSystem_any (HT2.out _ (hw5.trans hx56)) hs2).mono ?_
  rintro e w7 ⟨A7, n7, c7, rfl, hown7, hx7⟩
  clear f1 f2
  have hb7 := Blk.new w7 29 #[.int .i64 t.al, .int .i64 t.st, .slice A7 n7 c7]
  have hx77 := (Ext.refl w7).alloc (.cells #[.int .i64 t.al, .int .i64 t.st, .slice A7 n7 c7] 29)
  have f6 := ((hb6.ext hx7).ext hx77).cell
  go_wp2_with fail
  have hw7 := (hx56.trans hx7).trans hx77
  have r6 := hown6.reads.ext ((hx66.trans hx7).trans hx77)
  have r7 := hown7.reads.ext hx77
  generalize w7.alloc (.cells #[.int .i64 t.al, .int .i64 t.st, .slice A7 n7 c7] 29) = w8 at *
  refine (impl_Simulates r6 r7 (HTab.out _ ((hw2.trans hw5).trans hw7))).mono ?_
  rintro e w9 ⟨rfl, hx9⟩
  have hw9 : Ext w2 w9 := (hw5.trans hw7).trans hx9
  have g6 : ∀ W, Ext w9 W → ∀ j, W.cell? ⟨w6.heap.size, j, none⟩ = #[Value.int .i64 s.al, .int .i64 s.st, .slice A6 n6 c6][j]? := fun W hW => (((hb6.ext hx7).ext hx77).ext (hx9.trans hW)).cell
  have g7 : ∀ W, Ext w9 W → ∀ j, W.cell? ⟨w7.heap.size, j, none⟩ = #[Value.int .i64 t.al, .int .i64 t.st, .slice A7 n7 c7][j]? := fun W hW => (hb7.ext (hx9.trans hW)).cell
  have e19 : ∀ W, Ext w9 W → ∀ j, W.cell? ⟨w.heap.size, j, none⟩ = #[Value.int .i64 s.al, .int .i64 s.st, .slice A n c][j]? := fun W hW => e1 W ((hw7.trans hx9).trans hW)
  have e29 : ∀ W, Ext w9 W → ∀ j, W.cell? ⟨w.heap.size + 1, j, none⟩ = #[Value.int .i64 t.al, .int .i64 t.st, .slice B m d][j]? := fun W hW => e2 W ((hw7.trans hx9).trans hW)
  have R6 := hide (fun W (hW : Ext w9 W) => r6.ext (hx9.trans hW))
  have R7 := hide (fun W (hW : Ext w9 W) => r7.ext (hx9.trans hW))
  have HS9 := hide (fun W (hW : Ext w9 W) => HS2.out W (hw9.trans hW))
  have HT9 := hide (fun W (hW : Ext w9 W) => HT2.out W (hw9.trans hW))
  clear e1 e2 f6 hb6 hb7 r6 r7 hx77 hx66 hx56 hx7 hx6 hown6 hown7 hr2
  have hr9 := Ext.refl w9
  go_wp2_with fail
  go_region_held3 (fun W => Ext w9 W) (first | assumption | (refine Ext.drew ?_; assumption) | (refine Ext.trans ?_ (by assumption); assumption) | (refine Ext.trans ?_ (by assumption); refine Ext.drew ?_; assumption)) (first
    | (go_at_call 9; refine (toSystem_any (HS9.out _ ?_) hs1).mono ?_; (first | assumption | (refine Ext.drew ?_; assumption)); rintro e w10 ⟨A10, n10, c10, rfl, hown10, hx10⟩)
    | (go_at_call 11; refine (eqSystem_any (R6.out _ (by assumption)) hown10.reads).mono ?_; rw [Hse.out]; rintro e w11 ⟨rfl, hx11⟩))
  have hr11 : Ext w9 w11 := by assumption
  clear hown10 hx10
  go_wp2_with fail
  go_region_held3 (fun W => Ext w9 W) (first | assumption | (refine Ext.drew ?_; assumption) | (refine Ext.trans ?_ (by assumption); assumption) | (refine Ext.trans ?_ (by assumption); refine Ext.drew ?_; assumption)) (first
    | (go_at_call 9; refine (toSystem_any (HT9.out _ ?_) hs2).mono ?_; (first | assumption | (refine Ext.drew ?_; assumption)); rintro e w12 ⟨A12, n12, c12, rfl, hown12, hx12⟩)
    | (go_at_call 11; refine (eqSystem_any (R7.out _ (by assumption)) hown12.reads).mono ?_; rw [Hte.out]; rintro e w13 ⟨rfl, hx13⟩))
  go_wp2_with fail
  go_ret
  exact ⟨rfl, (hw2.trans hw9).trans (by assumption)⟩
end Go.Proofs.YtdeopnjheeekcaaDoor
