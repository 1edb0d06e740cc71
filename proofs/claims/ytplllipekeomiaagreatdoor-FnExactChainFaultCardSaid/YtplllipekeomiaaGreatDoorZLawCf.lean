/- The law FnExactChainFault, walked: it answers true, and leaves all old memory as it was. -/
import Derived.Test.YtplllipekeomiaaGreatDoorG18
namespace Go.Proofs.YtplllipekeomiaaGreatDoor
open Go Go.RowKit
set_option maxHeartbeats 4000000

section
variable {lo hi n c : Nat} {A : Option Addr} {ss : List Sys} {lo1 hi1 m1 d1 m1' d1' : Nat} {B B' : Option Addr} {p : Aut} {lo2 hi2 m2 d2 m2' d2' : Nat} {C C' : Option Addr} {f : Aut} {lo3 hi3 m3 d3 m3' d3' : Nat} {D D' : Option Addr} {g : Aut} {w : World}
set_option maxRecDepth 100000 in
theorem law_ExactChainFault (h : SLAt w lo hi A n ss) (hp : AutAt w lo1 hi1 B m1 B' m1' p) (hf : AutAt w lo2 hi2 C m2 C' m2' f) (hg : AutAt w lo3 hi3 D m3 D' m3' g) (hT : Tab w) :
    Calls Tryz.prog 3 #[.slice A n c, .agg #[.int .i64 p.al, .slice B m1 d1, .slice B' m1' d1'], .agg #[.int .i64 f.al, .slice C m2 d2, .slice C' m2' d2', .int .i64 g.al, .slice D m3 d3, .slice D' m3' d3']] w fun e w' => e = .returned (.bool true) ∧ Ext w w' := by
  have HS := hide (fun W (hW : Ext w W) => h.ext hW)
  have HP := hide (fun W (hW : Ext w W) => hp.ext hW)
  have HF := hide (fun W (hW : Ext w W) => hf.ext hW)
  have HG := hide (fun W (hW : Ext w W) => hg.ext hW)
  have HT := hide (fun W (hW : Ext w W) => hT.ext hW)
  clear h hp hf hg hT
  have hw1 : Ext w ((w.alloc (.cells #[.int .i64 p.al, .slice B m1 d1, .slice B' m1' d1'] 26)).alloc (.cells #[.int .i64 f.al, .slice C m2 d2, .slice C' m2' d2', .int .i64 g.al, .slice D m3 d3, .slice D' m3' d3'] 28)) := ((Ext.refl w).alloc _).alloc _
  obtain ⟨b1, b2⟩ := ext_blk2 (Ext.refl ((w.alloc (.cells #[.int .i64 p.al, .slice B m1 d1, .slice B' m1' d1'] 26)).alloc (.cells #[.int .i64 f.al, .slice C m2 d2, .slice C' m2' d2', .int .i64 g.al, .slice D m3 d3, .slice D' m3' d3'] 28)))
  by_cases hneg : leftOf 1048576 (ss.length + totE ss) < 0
  · go_enter Tryz.func3, Tryz.ntmps3
    go_upto_region 1 with fail
    generalize (w.alloc (.cells #[.int .i64 p.al, .slice B m1 d1, .slice B' m1' d1'] 26)).alloc (.cells #[.int .i64 f.al, .slice C m2 d2, .slice C' m2' d2', .int .i64 g.al, .slice D m3 d3, .slice D' m3' d3'] 28) = w1 at *
    go_wp2_with (go_at_call 5; refine (szSystemS_any (HS.out _ hw1) (by omega) (by omega)).mono ?_; rintro e w2 ⟨rfl, hx2⟩)
    go_ret
    exact ⟨rfl, hw1.trans hx2⟩
  have hpos : 0 ≤ leftOf 1048576 (ss.length + totE ss) := by omega
  have hle := leftOf_le 1048576 (ss.length + totE ss) (by omega)
  by_cases hneg2 : leftOf (leftOf 1048576 (ss.length + totE ss)) p.size < 0
  · go_enter Tryz.func3, Tryz.ntmps3
    go_upto_region 1 with fail
    generalize (w.alloc (.cells #[.int .i64 p.al, .slice B m1 d1, .slice B' m1' d1'] 26)).alloc (.cells #[.int .i64 f.al, .slice C m2 d2, .slice C' m2' d2', .int .i64 g.al, .slice D m3 d3, .slice D' m3' d3'] 28) = w1 at *
    go_wp2_with (first
      | (go_at_call 5; refine (szSystemS_any (HS.out _ hw1) (by omega) (by omega)).mono ?_; rintro e w2 ⟨rfl, hx2⟩; have hw2 := hw1.trans hx2; have c2 := (b1.ext hx2).cell)
      | (go_at_call 6; refine (szAutomaton_any _ _ _ _ _ _ _ _ _ _ _ (HP.out _ hw2) hpos hle).mono ?_; rintro e w3 ⟨rfl, hx3⟩; have hw3 := hw2.trans hx3))
    go_ret
    exact ⟨rfl, hw3⟩
  have hpos2 : 0 ≤ leftOf (leftOf 1048576 (ss.length + totE ss)) p.size := by omega
  have hle2 := leftOf_le (leftOf 1048576 (ss.length + totE ss)) p.size hle
  by_cases hneg3 : leftOf (leftOf (leftOf 1048576 (ss.length + totE ss)) p.size) (f.size + g.size) < 0
  · go_enter Tryz.func3, Tryz.ntmps3
    go_upto_region 1 with fail
    generalize (w.alloc (.cells #[.int .i64 p.al, .slice B m1 d1, .slice B' m1' d1'] 26)).alloc (.cells #[.int .i64 f.al, .slice C m2 d2, .slice C' m2' d2', .int .i64 g.al, .slice D m3 d3, .slice D' m3' d3'] 28) = w1 at *
    go_wp2_with (first
      | (go_at_call 5; refine (szSystemS_any (HS.out _ hw1) (by omega) (by omega)).mono ?_; rintro e w2 ⟨rfl, hx2⟩; have hw2 := hw1.trans hx2; have c2 := (b1.ext hx2).cell)
      | (go_at_call 6; refine (szAutomaton_any _ _ _ _ _ _ _ _ _ _ _ (HP.out _ hw2) hpos hle).mono ?_; rintro e w3 ⟨rfl, hx3⟩; have hw3 := hw2.trans hx3; have c3 := (b2.ext (hx2.trans hx3)).cell)
      | (go_at_call 7; refine (szChain_any (HF.out _ hw3) (HG.out _ hw3) hpos2 hle2).mono ?_; rintro e w4 ⟨rfl, hx4⟩; have hw4 := hw3.trans hx4))
    go_ret
    exact ⟨rfl, hw4⟩
  have hs1 : ss.length + totE ss ≤ 1048576 := by unfold leftOf at hneg; split at hneg <;> omega
  have hs2 : p.size ≤ 1048576 := by unfold leftOf at hneg2 hneg; (repeat' split at hneg2) <;> omega
  have hs34 : f.size + g.size ≤ 1048576 := by
    have h5 : leftOf (leftOf 1048576 (ss.length + totE ss)) p.size ≤ 1048576 := hle2
    unfold leftOf at hneg3
    generalize leftOf (leftOf 1048576 (ss.length + totE ss)) p.size = q at *
    split at hneg3 <;> omega
  have hs3 : f.size ≤ 1048576 := by omega
  have hs4 : g.size ≤ 1048576 := by omega
  generalize hfa : faultN ss p f g = fv
  have Hfa := hide hfa
  clear hfa hs34
  go_enter Tryz.func3, Tryz.ntmps3
  go_upto_region 1 with fail
  generalize (w.alloc (.cells #[.int .i64 p.al, .slice B m1 d1, .slice B' m1' d1'] 26)).alloc (.cells #[.int .i64 f.al, .slice C m2 d2, .slice C' m2' d2', .int .i64 g.al, .slice D m3 d3, .slice D' m3' d3'] 28) = w1 at *
  go_upto_region 11 with (first
    | (go_at_call 5; refine (szSystemS_any (HS.out _ hw1) (by omega) (by omega)).mono ?_; rintro e w2 ⟨rfl, hx2⟩; have hw2 := hw1.trans hx2; have c2 := (b1.ext hx2).cell)
    | (go_at_call 6; refine (szAutomaton_any _ _ _ _ _ _ _ _ _ _ _ (HP.out _ hw2) hpos hle).mono ?_; rintro e w3 ⟨rfl, hx3⟩; have hw3 := hw2.trans hx3; have c3 := (b2.ext (hx2.trans hx3)).cell)
    | (go_at_call 7; refine (szChain_any (HF.out _ hw3) (HG.out _ hw3) hpos2 hle2).mono ?_; rintro e w4 ⟨rfl, hx4⟩; have hw4 := hw3.trans hx4))
  have hx14 := hx2.trans (hx3.trans hx4)
  have HB1 := hide (fun W (hW : Ext w4 W) => b1.ext (hx14.trans hW))
  have HB2 := hide (fun W (hW : Ext w4 W) => b2.ext (hx14.trans hW))
  clear hneg hneg2 hneg3 hpos hpos2 hle hle2 c2 c3 b1 b2 hw1 hw2 hw3 hx2 hx3 hx4 hx14
  go_cut [8] (fun v wx => v = .int .i64 fv ∧ Ext w4 wx)
  case first =>
    have k1 : ∀ W, Ext w4 W → ∀ j, W.cell? ⟨w.heap.size, j, none⟩ = #[Value.int .i64 p.al, .slice B m1 d1, .slice B' m1' d1'][j]? := fun W hW => (HB1.out W hW).cell
    have k2 : ∀ W, Ext w4 W → ∀ j, W.cell? ⟨w.heap.size + 1, j, none⟩ = #[Value.int .i64 f.al, .slice C m2 d2, .slice C' m2' d2', .int .i64 g.al, .slice D m3 d3, .slice D' m3' d3'][j]? := fun W hW => (HB2.out W hW).cell
    have hww := Ext.refl w4
    refine wp_region_tailU (fun X => Ext w4 X) [5, 6] (OrdU.of [0, 2, 4, 1, 3, 5, 6, 7]) (by kernel_rfl) (by kernel_rfl) (by kernel_rfl) (by kernel_rfl) (by kernel_rfl) (fun _ _ _ _ _ h => h) (by first | assumption | exact (Ext.refl _).drew | (refine Ext.drew ?_; assumption)) ?_
    repeat (first | (refine useq_skip rfl rfl (by assumption) ?_; simp only [Act.put, List.setIfInBounds_toArray, List.set_cons_zero, List.set_cons_succ]) | (refine useq_pure (v := ?_) rfl rfl rfl rfl (fun X => ?_) ?_; rotate_left; (focus (go_simp <;> with_reducible rfl)); simp only [Act.put, List.setIfInBounds_toArray, List.set_cons_zero, List.set_cons_succ]) | (refine useq_read (v := ?_) rfl rfl rfl rfl (fun X hX => ?_) ?_; rotate_left; (focus (go_simp <;> with_reducible rfl)); simp only [Act.put, List.setIfInBounds_toArray, List.set_cons_zero, List.set_cons_succ]))
    (refine useq_step rfl rfl rfl (fun K hK => ?_); go_simp)
    refine (toSystemS_any (HS.out _ (hw4.trans hww.drew)) hs1).mono ?_
    rintro e w5 ⟨rfl, hown5, hx5⟩
    have hx45 := hww.drew.trans hx5
    refine hK.out _ _ hx45 ?_
    (try simp only [Act.put, List.setIfInBounds_toArray, List.set_cons_zero, List.set_cons_succ])
    repeat (first | (refine useq_skip rfl rfl (by assumption) ?_; simp only [Act.put, List.setIfInBounds_toArray, List.set_cons_zero, List.set_cons_succ]) | (refine useq_pure (v := ?_) rfl rfl rfl rfl (fun X => ?_) ?_; rotate_left; (focus (go_simp <;> with_reducible rfl)); simp only [Act.put, List.setIfInBounds_toArray, List.set_cons_zero, List.set_cons_succ]) | (refine useq_read (v := ?_) rfl rfl rfl rfl (fun X hX => ?_) ?_; rotate_left; (focus (go_simp <;> with_reducible rfl)); simp only [Act.put, List.setIfInBounds_toArray, List.set_cons_zero, List.set_cons_succ]))
    (refine useq_step rfl rfl rfl (fun K hK => ?_); go_simp)
    refine (toAutomaton_any _ _ _ _ _ _ _ _ _ _ (HP.out _ (hw4.trans hx45)) hs2).mono ?_
    rintro e w6 ⟨E, x, y, E', x', y', rfl, hown6, hx6⟩
    have hx46 := hx45.trans hx6
    refine hK.out _ _ hx46 ?_
    (try simp only [Act.put, List.setIfInBounds_toArray, List.set_cons_zero, List.set_cons_succ])
    repeat (first | (refine useq_skip rfl rfl (by assumption) ?_; simp only [Act.put, List.setIfInBounds_toArray, List.set_cons_zero, List.set_cons_succ]) | (refine useq_pure (v := ?_) rfl rfl rfl rfl (fun X => ?_) ?_; rotate_left; (focus (go_simp <;> with_reducible rfl)); simp only [Act.put, List.setIfInBounds_toArray, List.set_cons_zero, List.set_cons_succ]) | (refine useq_read (v := ?_) rfl rfl rfl rfl (fun X hX => ?_) ?_; rotate_left; (focus (go_simp <;> with_reducible rfl)); simp only [Act.put, List.setIfInBounds_toArray, List.set_cons_zero, List.set_cons_succ]))
    (refine useq_last rfl rfl rfl rfl (fun K hK => ?_))
    go_simp
    refine (toChain_any (HF.out _ (hw4.trans hx46)) (HG.out _ (hw4.trans hx46)) hs3 hs4).mono ?_
    rintro e w7 ⟨F, u, v, F', u', v', G, r, s, G', r', s', rfl, hown7, hown7', hx7⟩
    have hx47 := hx46.trans hx7
    refine hK.out _ _ ?_
    (try simp only [Act.put, List.setIfInBounds_toArray, List.set_cons_zero, List.set_cons_succ])
    repeat (first | (refine useq_skip rfl rfl (by assumption) ?_; simp only [Act.put, List.setIfInBounds_toArray, List.set_cons_zero, List.set_cons_succ]) | (refine useq_pure (v := ?_) rfl rfl rfl rfl (fun X => ?_) ?_; rotate_left; (focus (go_simp <;> with_reducible rfl)); simp only [Act.put, List.setIfInBounds_toArray, List.set_cons_zero, List.set_cons_succ]) | (refine useq_read (v := ?_) rfl rfl rfl rfl (fun X hX => ?_) ?_; rotate_left; (focus (go_simp <;> with_reducible rfl)); simp only [Act.put, List.setIfInBounds_toArray, List.set_cons_zero, List.set_cons_succ]))
    (refine useq_last rfl rfl rfl rfl (fun K hK => ?_))
    go_simp
    refine (spec_ChainFault (hown5.reads.ext (hx6.trans hx7)) (hown6.reads.ext hx7) hown7.reads hown7'.reads).mono ?_
    rw [Hfa.out]
    rintro e w8 ⟨rfl, hx8⟩
    refine hK.out _ _ ?_
    (try simp only [Act.put, List.setIfInBounds_toArray, List.set_cons_zero, List.set_cons_succ])
    repeat (first | (refine useq_skip rfl rfl (by assumption) ?_; simp only [Act.put, List.setIfInBounds_toArray, List.set_cons_zero, List.set_cons_succ]) | (refine useq_pure (v := ?_) rfl rfl rfl rfl (fun X => ?_) ?_; rotate_left; (focus (go_simp <;> with_reducible rfl)); simp only [Act.put, List.setIfInBounds_toArray, List.set_cons_zero, List.set_cons_succ]) | (refine useq_read (v := ?_) rfl rfl rfl rfl (fun X hX => ?_) ?_; rotate_left; (focus (go_simp <;> with_reducible rfl)); simp only [Act.put, List.setIfInBounds_toArray, List.set_cons_zero, List.set_cons_succ]))
    refine useq_nil ?_
    go_wp2_with fail
    go_meet
    exact ⟨rfl, hx47.trans hx8⟩
  case rest =>
    obtain ⟨rfl, hxc⟩ := hcut
    rename World => w5
    have hw5 := hw4.trans hxc
    have HB15 := hide (fun W (hW : Ext w5 W) => (HB1.out W (hxc.trans hW)).cell)
    have HB25 := hide (fun W (hW : Ext w5 W) => (HB2.out W (hxc.trans hW)).cell)
    clear HB1 HB2 hxc
    go_upto_region 13 with (go_at_call 9; refine (toSystemS_any (HS.out _ hw5) hs1).mono ?_; rintro e w6 ⟨rfl, hown6, hx6⟩)
    have c6 := HB15.out _ hx6
    have hw6 := hw5.trans hx6
    go_upto_region 14 with (go_at_call 10; refine (toAutomaton_any _ _ _ _ _ _ _ _ _ _ (HP.out _ hw6) hs2).mono ?_; rintro e w7 ⟨E, x, y, E', x', y', rfl, hown7, hx7⟩)
    have hx8 := hx7.alloc (.cells #[.int .i64 p.al, .slice E x y, .slice E' x' y'] 35)
    have hb8 := Blk.new w7 35 #[.int .i64 p.al, .slice E x y, .slice E' x' y']
    have hr7 := hown7.reads.ext ((Ext.refl w7).alloc (.cells #[.int .i64 p.al, .slice E x y, .slice E' x' y'] 35))
    generalize hg7 : w7.heap.size = g7 at *
    generalize w7.alloc (.cells #[.int .i64 p.al, .slice E x y, .slice E' x' y'] 35) = w8 at *
    have hw8 := hw6.trans hx8
    have c8 := HB25.out _ (hx6.trans hx8)
    clear c6
    go_upto_region 15 with (go_at_call 11; refine (toChain_any (HF.out _ hw8) (HG.out _ hw8) hs3 hs4).mono ?_; rintro e w9 ⟨F, u, v, F', u', v', G, r, s, G', r', s', rfl, hown9, hown9', hx9⟩)
    have hb10 := Blk.new w9 38 #[.int .i64 f.al, .slice F u v, .slice F' u' v', .int .i64 g.al, .slice G r s, .slice G' r' s']
    have hx10 := hx9.alloc (.cells #[.int .i64 f.al, .slice F u v, .slice F' u' v', .int .i64 g.al, .slice G r s, .slice G' r' s'] 38)
    have hr9 := hown9.reads.ext ((Ext.refl w9).alloc (.cells #[.int .i64 f.al, .slice F u v, .slice F' u' v', .int .i64 g.al, .slice G r s, .slice G' r' s'] 38))
    have hr9' := hown9'.reads.ext ((Ext.refl w9).alloc (.cells #[.int .i64 f.al, .slice F u v, .slice F' u' v', .int .i64 g.al, .slice G r s, .slice G' r' s'] 38))
    generalize hg9 : w9.heap.size = g9 at *
    generalize w9.alloc (.cells #[.int .i64 f.al, .slice F u v, .slice F' u' v', .int .i64 g.al, .slice G r s, .slice G' r' s'] 38) = w10 at *
    have hw10 := hw8.trans hx10
    have hk8 := hb8.ext hx10
    have c10 := hk8.cell
    have e10 := hb10.cell
    have hsl10 := hown6.reads.ext (hx8.trans hx10)
    have hp10 := hr7.ext hx10
    clear c8
    go_upto_region 16 with (go_at_call 12; refine (impl_ChainFault hsl10 hp10 hr9 hr9' (HT.out _ hw10)).mono ?_; rw [Hfa.out]; rintro e w11 ⟨rfl, hx11⟩)
    have hw11 := hw10.trans hx11
    have hx511 := (hx6.trans hx8).trans (hx10.trans hx11)
    have HSL := hide (fun W (hW : Ext w11 W) => hsl10.ext (hx11.trans hW))
    have HPP := hide (fun W (hW : Ext w11 W) => hp10.ext (hx11.trans hW))
    have HFF := hide (fun W (hW : Ext w11 W) => hr9.ext (hx11.trans hW))
    have HGG := hide (fun W (hW : Ext w11 W) => hr9'.ext (hx11.trans hW))
    have HK8 := hide (fun W (hW : Ext w11 W) => (hk8.ext (hx11.trans hW)).cell)
    have HK10 := hide (fun W (hW : Ext w11 W) => (hb10.ext (hx11.trans hW)).cell)
    clear c10 e10 hsl10 hp10 hr9 hr9' hk8 hb10 hr7 hb8 hown6 hown7 hown9 hown9'
    go_upto_region 18 with fail
    go_upto_region 20 with (first
      | (go_at_call 9; refine (toSystemS_any (HS.out _ hw11) hs1).mono ?_; rintro e w12 ⟨rfl, hown12, hx12⟩)
      | (go_at_call 13; refine (eqSystemS_any (HSL.out _ hx12) hown12.reads rfl).mono ?_; rintro e w13 ⟨rfl, hx13⟩))
    have hx1113 := hx12.trans hx13
    clear hown12
    have k1 : ∀ W, Ext w13 W → ∀ j, W.cell? ⟨w.heap.size, j, none⟩ = #[Value.int .i64 p.al, .slice B m1 d1, .slice B' m1' d1'][j]? := fun W hW => HB15.out W (hx511.trans (hx1113.trans hW))
    have k2 : ∀ W, Ext w13 W → ∀ j, W.cell? ⟨g7, j, none⟩ = #[Value.int .i64 p.al, .slice E x y, .slice E' x' y'][j]? := fun W hW => HK8.out W (hx1113.trans hW)
    have hww := Ext.refl w13
    refine wp_region_tailU (fun X => Ext w13 X) [3] (OrdU.of [0, 1, 2, 3, 4]) (by kernel_rfl) (by kernel_rfl) (by kernel_rfl) (by kernel_rfl) (by kernel_rfl) (fun _ _ _ _ _ h => h) (by first | assumption | exact (Ext.refl _).drew | (refine Ext.drew ?_; assumption)) ?_
    repeat (first | (refine useq_skip rfl rfl (by assumption) ?_; simp only [Act.put, List.setIfInBounds_toArray, List.set_cons_zero, List.set_cons_succ]) | (refine useq_pure (v := ?_) rfl rfl rfl rfl (fun X => ?_) ?_; rotate_left; (focus (go_simp <;> with_reducible rfl)); simp only [Act.put, List.setIfInBounds_toArray, List.set_cons_zero, List.set_cons_succ]) | (refine useq_read (v := ?_) rfl rfl rfl rfl (fun X hX => ?_) ?_; rotate_left; (focus (go_simp <;> with_reducible rfl)); simp only [Act.put, List.setIfInBounds_toArray, List.set_cons_zero, List.set_cons_succ]))
    (refine useq_step rfl rfl rfl (fun K hK => ?_); go_simp)
    refine (toAutomaton_any _ _ _ _ _ _ _ _ _ _ (HP.out _ (hw11.trans (hx1113.trans hww.drew))) hs2).mono ?_
    rintro e w14 ⟨H, x2, y2, H', x2', y2', rfl, hown14, hx14⟩
    have hx1314 := hww.drew.trans hx14
    refine hK.out _ _ hx1314 ?_
    (try simp only [Act.put, List.setIfInBounds_toArray, List.set_cons_zero, List.set_cons_succ])
    repeat (first | (refine useq_skip rfl rfl (by assumption) ?_; simp only [Act.put, List.setIfInBounds_toArray, List.set_cons_zero, List.set_cons_succ]) | (refine useq_pure (v := ?_) rfl rfl rfl rfl (fun X => ?_) ?_; rotate_left; (focus (go_simp <;> with_reducible rfl)); simp only [Act.put, List.setIfInBounds_toArray, List.set_cons_zero, List.set_cons_succ]) | (refine useq_read (v := ?_) rfl rfl rfl rfl (fun X hX => ?_) ?_; rotate_left; (focus (go_simp <;> with_reducible rfl)); simp only [Act.put, List.setIfInBounds_toArray, List.set_cons_zero, List.set_cons_succ]))
    (refine useq_last rfl rfl rfl rfl (fun K hK => ?_))
    go_simp
    have eqp := hide (autEq_self p)
    refine (eqAutomaton_any _ _ _ _ _ _ _ _ _ _ _ _ _ _ _ _ _ _ _ (HPP.out _ (hx1113.trans hx1314)) hown14.reads).mono ?_
    rw [eqp.out]
    rintro e w15 ⟨rfl, hx15⟩
    refine hK.out _ _ ?_
    (try simp only [Act.put, List.setIfInBounds_toArray, List.set_cons_zero, List.set_cons_succ])
    repeat (first | (refine useq_skip rfl rfl (by assumption) ?_; simp only [Act.put, List.setIfInBounds_toArray, List.set_cons_zero, List.set_cons_succ]) | (refine useq_pure (v := ?_) rfl rfl rfl rfl (fun X => ?_) ?_; rotate_left; (focus (go_simp <;> with_reducible rfl)); simp only [Act.put, List.setIfInBounds_toArray, List.set_cons_zero, List.set_cons_succ]) | (refine useq_read (v := ?_) rfl rfl rfl rfl (fun X hX => ?_) ?_; rotate_left; (focus (go_simp <;> with_reducible rfl)); simp only [Act.put, List.setIfInBounds_toArray, List.set_cons_zero, List.set_cons_succ]))
    refine useq_nil ?_
    have hx1115 := hx1113.trans (hx1314.trans hx15)
    clear k1 k2 hww hown14
    go_upto_region 22 with fail
    have k1 : ∀ W, Ext w15 W → ∀ j, W.cell? ⟨w.heap.size + 1, j, none⟩ = #[Value.int .i64 f.al, .slice C m2 d2, .slice C' m2' d2', .int .i64 g.al, .slice D m3 d3, .slice D' m3' d3'][j]? := fun W hW => HB25.out W (hx511.trans (hx1115.trans hW))
    have k2 : ∀ W, Ext w15 W → ∀ j, W.cell? ⟨g9, j, none⟩ = #[Value.int .i64 f.al, .slice F u v, .slice F' u' v', .int .i64 g.al, .slice G r s, .slice G' r' s'][j]? := fun W hW => HK10.out W (hx1115.trans hW)
    have hww := Ext.refl w15
    refine wp_region_tailU (fun X => Ext w15 X) [3] (OrdU.of [0, 1, 2, 3, 4]) (by kernel_rfl) (by kernel_rfl) (by kernel_rfl) (by kernel_rfl) (by kernel_rfl) (fun _ _ _ _ _ h => h) (by first | assumption | exact (Ext.refl _).drew | (refine Ext.drew ?_; assumption)) ?_
    repeat (first | (refine useq_skip rfl rfl (by assumption) ?_; simp only [Act.put, List.setIfInBounds_toArray, List.set_cons_zero, List.set_cons_succ]) | (refine useq_pure (v := ?_) rfl rfl rfl rfl (fun X => ?_) ?_; rotate_left; (focus (go_simp <;> with_reducible rfl)); simp only [Act.put, List.setIfInBounds_toArray, List.set_cons_zero, List.set_cons_succ]) | (refine useq_read (v := ?_) rfl rfl rfl rfl (fun X hX => ?_) ?_; rotate_left; (focus (go_simp <;> with_reducible rfl)); simp only [Act.put, List.setIfInBounds_toArray, List.set_cons_zero, List.set_cons_succ]))
    (refine useq_step rfl rfl rfl (fun K hK => ?_); go_simp)
    refine (toChain_any (HF.out _ (hw11.trans (hx1115.trans hww.drew))) (HG.out _ (hw11.trans (hx1115.trans hww.drew))) hs3 hs4).mono ?_
    rintro e w16 ⟨F2, u2, v2, F2', u2', v2', G2, r2, s2, G2', r2', s2', rfl, hown16, hown16', hx16⟩
    have hx1516 := hww.drew.trans hx16
    refine hK.out _ _ hx1516 ?_
    (try simp only [Act.put, List.setIfInBounds_toArray, List.set_cons_zero, List.set_cons_succ])
    repeat (first | (refine useq_skip rfl rfl (by assumption) ?_; simp only [Act.put, List.setIfInBounds_toArray, List.set_cons_zero, List.set_cons_succ]) | (refine useq_pure (v := ?_) rfl rfl rfl rfl (fun X => ?_) ?_; rotate_left; (focus (go_simp <;> with_reducible rfl)); simp only [Act.put, List.setIfInBounds_toArray, List.set_cons_zero, List.set_cons_succ]) | (refine useq_read (v := ?_) rfl rfl rfl rfl (fun X hX => ?_) ?_; rotate_left; (focus (go_simp <;> with_reducible rfl)); simp only [Act.put, List.setIfInBounds_toArray, List.set_cons_zero, List.set_cons_succ]))
    (refine useq_last rfl rfl rfl rfl (fun K hK => ?_))
    go_simp
    refine (eqChain_same (HFF.out _ (hx1115.trans hx1516)) (HGG.out _ (hx1115.trans hx1516)) hown16.reads hown16'.reads).mono ?_
    rintro e w17 ⟨rfl, hx17⟩
    refine hK.out _ _ ?_
    (try simp only [Act.put, List.setIfInBounds_toArray, List.set_cons_zero, List.set_cons_succ])
    repeat (first | (refine useq_skip rfl rfl (by assumption) ?_; simp only [Act.put, List.setIfInBounds_toArray, List.set_cons_zero, List.set_cons_succ]) | (refine useq_pure (v := ?_) rfl rfl rfl rfl (fun X => ?_) ?_; rotate_left; (focus (go_simp <;> with_reducible rfl)); simp only [Act.put, List.setIfInBounds_toArray, List.set_cons_zero, List.set_cons_succ]) | (refine useq_read (v := ?_) rfl rfl rfl rfl (fun X hX => ?_) ?_; rotate_left; (focus (go_simp <;> with_reducible rfl)); simp only [Act.put, List.setIfInBounds_toArray, List.set_cons_zero, List.set_cons_succ]))
    refine useq_nil ?_
    have hfin := hw11.trans (hx1115.trans (hx1516.trans hx17))
    go_wp2_with fail
    go_ret
    exact ⟨rfl, hfin⟩
end
end Go.Proofs.YtplllipekeomiaaGreatDoor
