/- The law FnExactChainLetters, walked: it answers true, and leaves all old memory as it was. -/
import Derived.Test.YtdeopnjheeekcabCh4
namespace Go.Proofs.Ytdeopnjheeekcab
open Go Go.RowKit
set_option maxHeartbeats 1000000

theorem law_ChainLetters {lo hi lo' hi' : Nat} {A : Option Addr} {n c : Nat} {ss : List Sys} {B : Option Addr} {m d : Nat} {B' : Option Addr} {m' d' : Nat} {p : Aut} {w : World} (h : SLAt w lo hi A n ss) (h' : AutAt w lo' hi' B m B' m' p) :
    Calls Try.prog 3 #[.slice A n c, .agg #[.int .i64 p.al, .slice B m d, .slice B' m' d']] w fun e w' => e = .returned (.bool true) ∧ Ext w w' := by
  have hR := fun W (hW : Ext w W) => h'.ext hW
  have HR := hide hR
  clear hR h'
  have hL := fun W (hW : Ext w W) => h.ext hW
  have HL := hide hL
  clear hL h
  by_cases hneg : leftOf 1048576 (ss.length + totE ss) < 0
  · go_enter Try.func3, Try.ntmps3
    go_wp2_with (go_at_call 4; refine (szSystemS_any (HL.out _ ((Ext.refl _).alloc _)) (by omega) (by omega)).mono ?_; rintro e w1 ⟨rfl, hx1⟩)
    go_ret
    exact ⟨rfl, ((Ext.refl _).alloc _).trans hx1⟩
  have hpos : 0 ≤ leftOf 1048576 (ss.length + totE ss) := by omega
  have hle := leftOf_le 1048576 (ss.length + totE ss) (by omega)
  by_cases hneg2 : leftOf (leftOf 1048576 (ss.length + totE ss)) p.size < 0
  · go_enter Try.func3, Try.ntmps3
    go_wp2_with (first
      | (go_at_call 4; refine (szSystemS_any (HL.out _ ((Ext.refl _).alloc _)) (by omega) (by omega)).mono ?_; rintro e w1 ⟨rfl, hx1⟩; have c1 := fun j => ext_box (j := j) hx1)
      | (go_at_call 5; refine (szAutomaton_any _ _ _ _ _ _ _ _ _ _ _ (HR.out _ (((Ext.refl _).alloc _).trans hx1)) hpos hle).mono ?_; rintro e w2 ⟨rfl, hx2⟩))
    go_ret
    exact ⟨rfl, (((Ext.refl _).alloc _).trans hx1).trans hx2⟩
  have hs1 : ss.length + totE ss ≤ 1048576 := by unfold leftOf at hneg; split at hneg <;> omega
  have hs2 : p.size ≤ 1048576 := by unfold leftOf at hneg2 hneg; (repeat' split at hneg2) <;> omega
  have Hpe := hide (autEq_self p)
  go_enter Try.func3, Try.ntmps3
  go_wp2_with (first
    | (go_at_call 4; refine (szSystemS_any (HL.out _ ((Ext.refl _).alloc _)) (by omega) (by omega)).mono ?_; rintro e w1 ⟨rfl, hx1⟩; have c1 := fun j => ext_box (j := j) hx1)
    | (go_at_call 5; refine (szAutomaton_any _ _ _ _ _ _ _ _ _ _ _ (HR.out _ (((Ext.refl _).alloc _).trans hx1)) hpos hle).mono ?_; rintro e w2 ⟨rfl, hx2⟩))
  clear hneg hneg2 hpos hle
  have hw2 := (((Ext.refl w).alloc _).trans hx1).trans hx2
  have hbx : ∀ W, Ext w2 W → ∀ j, W.cell? ⟨w.heap.size, j, none⟩ = #[Value.int .i64 p.al, .slice B m d, .slice B' m' d'][j]? := fun W hW => ext_box ((hx1.trans hx2).trans hW)
  have hr2 := Ext.refl w2
  have HR2 := hide (fun W (hW : Ext w2 W) => HR.out W (hw2.trans hW))
  have HL2 := hide (fun W (hW : Ext w2 W) => HL.out W (hw2.trans hW))
  clear c1
  go_region_held3 (fun W => Ext w2 W) (first | assumption | (refine Ext.drew ?_; assumption) | (refine Ext.trans ?_ (by assumption); assumption) | (refine Ext.trans ?_ (by assumption); refine Ext.drew ?_; assumption)) (first
    | (go_at_call 7; refine (toSystemS_any (HL2.out _ ?_) hs1).mono ?_; (first | assumption | (refine Ext.drew ?_; assumption)); rintro e w3 ⟨rfl, hown3, hx3⟩)
    | (go_at_call 8; refine (toAutomaton_any _ _ _ _ _ _ _ _ _ _ (HR2.out _ ?_) hs2).mono ?_; (first | assumption | (refine Ext.drew ?_; assumption)); rintro e w4 ⟨D, x, y, D', x', y', rfl, hown4, hx4⟩)
    | (go_at_call 6; refine (spec_ChainLetters (hown3.reads.ext ?_) (hown4.reads.ext ?_)).mono ?_; (repeat (first | assumption | exact Ext.refl _ | (refine Ext.drew ?_) | (refine Ext.trans ?_ hx4))); (repeat (first | assumption | exact Ext.refl _ | (refine Ext.drew ?_))); rintro e w5 ⟨rfl, hx5⟩))
  have hw5 : Ext w w5 := hw2.trans (by assumption)
  have hbx5 : ∀ W, Ext w5 W → ∀ j, W.cell? ⟨w.heap.size, j, none⟩ = #[Value.int .i64 p.al, .slice B m d, .slice B' m' d'][j]? := fun W hW => hbx W (Ext.trans (by assumption) hW)
  clear hbx HR2 HL2
  clear hown3 hown4 hx3 hx4 hx5
  go_wp2_with fail
  refine (toSystemS_any (HL.out _ hw5) hs1).mono ?_
  rintro e w6 ⟨rfl, hown6, hx6⟩
  have hw6 := hw5.trans hx6
  have hb6 := hbx5 _ hx6
  go_wp2_with fail
  refine (toAutomaton_any _ _ _ _ _ _ _ _ _ _ (HR.out _ hw6) hs2).mono ?_
  rintro e w7 ⟨D, x, y, D', x', y', rfl, hown7, hx7⟩
  go_wp2_with fail
  refine (impl_ChainLetters (hown6.reads.ext (hx7.trans ((Ext.refl _).alloc _))) (hown7.reads.ext ((Ext.refl _).alloc _))).mono ?_
  rintro e w8 ⟨rfl, hx8⟩
  have hw8 := ((hw6.trans hx7).trans ((Ext.refl _).alloc _)).trans hx8
  have HL8 := hide (fun W (hW : Ext w8 W) => hown6.reads.ext ((hx7.trans (((Ext.refl _).alloc _).trans hx8)).trans hW))
  have HR8 := hide (fun W (hW : Ext w8 W) => hown7.reads.ext ((((Ext.refl _).alloc _).trans hx8).trans hW))
  have hby : ∀ W, Ext w8 W → ∀ j, W.cell? ⟨w7.heap.size, j, none⟩ = #[Value.int .i64 p.al, .slice D x y, .slice D' x' y'][j]? := fun W hW => ext_box (hx8.trans hW)
  have hbx8 : ∀ W, Ext w8 W → ∀ j, W.cell? ⟨w.heap.size, j, none⟩ = #[Value.int .i64 p.al, .slice B m d, .slice B' m' d'][j]? := fun W hW => hbx5 W (((hx6.trans hx7).trans (((Ext.refl _).alloc _).trans hx8)).trans hW)
  clear hbx5 hb6
  go_wp2_with fail
  refine (toSystemS_any (HL.out _ hw8) hs1).mono ?_
  rintro e w9 ⟨rfl, hown9, hx9⟩
  go_wp2_with fail
  refine (eqSystemS_any (HL8.out _ hx9) hown9.reads rfl).mono ?_
  rintro e w10 ⟨rfl, hx10⟩
  have hr8 := hx9.trans hx10
  go_wp2_with fail
  go_region_held3 (fun W => Ext w8 W) (first | assumption | (refine Ext.drew ?_; assumption) | (refine Ext.trans ?_ (by assumption); assumption) | (refine Ext.trans ?_ (by assumption); refine Ext.drew ?_; assumption)) (first
    | (go_at_call 8; refine (toAutomaton_any _ _ _ _ _ _ _ _ _ _ (HR.out _ (hw8.trans ?_)) hs2).mono ?_; (first | assumption | (refine Ext.drew ?_; assumption)); rintro e w11 ⟨E, u, v, E', u', v', rfl, hown11, hx11⟩)
    | (go_at_call 11; refine (eqAutomaton_any _ _ _ _ _ _ _ _ _ _ _ _ _ _ _ _ _ _ _ (HR8.out _ (by assumption)) hown11.reads).mono ?_; rw [Hpe.out]; rintro e w12 ⟨rfl, hx12⟩))
  go_wp2_with fail
  go_ret
  exact ⟨rfl, hw8.trans (by assumption)⟩
end Go.Proofs.Ytdeopnjheeekcab
