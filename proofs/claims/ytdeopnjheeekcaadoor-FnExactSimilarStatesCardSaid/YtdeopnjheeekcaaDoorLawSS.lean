/- The law FnExactSimilarStates, walked: it answers true, and leaves all old memory as it was. -/
import Derived.Test.YtdeopnjheeekcaaDoorLawCls
namespace Go.Proofs.YtdeopnjheeekcaaDoor
open Go Go.RowKit
set_option maxHeartbeats 1000000

theorem law_SimilarStates {lo hi lo' hi' : Nat} {A : Option Addr} {n c : Nat} {B : Option Addr} {m d : Nat} {s t : Sys} {w : World} (h : SysAt w lo hi A n s) (h' : SysAt w lo' hi' B m t) (hT : Tab w) :
    Calls Tryd.prog 5 #[.agg #[.int .i64 s.al, .int .i64 s.st, .slice A n c], .agg #[.int .i64 t.al, .int .i64 t.st, .slice B m d]] w fun e w' => e = .returned (.bool true) ∧ Ext w w' := by
  have hn := h.2.len
  have hm := h'.2.len
  have HS := hide (fun W (hW : Ext w W) => h.ext hW)
  have HT := hide (fun W (hW : Ext w W) => h'.ext hW)
  have HTab := hide (fun W (hW : Ext w W) => hT.ext hW)
  have Hse := hide (sysEq_self s)
  have Hte := hide (sysEq_self t)
  have Hne := hide h.1
  have Hme := hide h'.1
  clear h h' hT
  by_cases hneg : leftOf 1048576 n < 0
  · go_enter Tryd.func5, Tryd.ntmps5
    go_wp2_with (go_at_call 7; refine (szSystem_any hn (by omega) (by omega)).mono ?_; rintro e w1 ⟨rfl, hx1⟩)
    go_ret
    exact ⟨rfl, (((Ext.refl _).alloc _).alloc _).trans hx1⟩
  have hpos : 0 ≤ leftOf 1048576 n := by omega
  have hle := leftOf_le 1048576 n (by omega)
  by_cases hneg2 : leftOf (leftOf 1048576 n) m < 0
  · go_enter Tryd.func5, Tryd.ntmps5
    go_wp2_with fail
    refine (szSystem_any hn (by omega) (by omega)).mono ?_
    rintro e w1 ⟨rfl, hx1⟩
    obtain ⟨b1, b2⟩ := ext_blk2 hx1
    have c1 := b1.cell
    have c2 := b2.cell
    go_wp2_with fail
    refine (szSystem_any hm hpos hle).mono ?_
    rintro e w2 ⟨rfl, hx2⟩
    go_wp2_with fail
    go_ret
    exact ⟨rfl, ((((Ext.refl _).alloc _).alloc _).trans hx1).trans hx2⟩
  have hs1 : n ≤ 1048576 := by unfold leftOf at hneg; split at hneg <;> omega
  have hs2 : m ≤ 1048576 := by unfold leftOf at hneg2 hneg; (repeat' split at hneg2) <;> omega
  go_enter Tryd.func5, Tryd.ntmps5
  go_wp2_with fail
  refine (szSystem_any hn (by omega) (by omega)).mono ?_
  rintro e w0 ⟨rfl, hx0⟩
  obtain ⟨bs0, bt0⟩ := ext_blk2 hx0
  have c1 := bs0.cell
  have c2 := bt0.cell
  go_wp2_with fail
  refine (szSystem_any hm hpos hle).mono ?_
  rintro e w1 ⟨rfl, hx1⟩
  clear c1 c2
  have bs1 := bs0.ext hx1
  have bt1 := bt0.ext hx1
  have hw1 := ((((Ext.refl w).alloc _).alloc _).trans hx0).trans hx1
  clear bs0 bt0 hx0 hx1
  have d1 : ∀ W, Ext w1 W → ∀ j, W.cell? ⟨w.heap.size, j, none⟩ = #[Value.int .i64 s.al, .int .i64 s.st, .slice A n c][j]? := fun W hW => (bs1.ext hW).cell
  have d2 : ∀ W, Ext w1 W → ∀ j, W.cell? ⟨w.heap.size + 1, j, none⟩ = #[Value.int .i64 t.al, .int .i64 t.st, .slice B m d][j]? := fun W hW => (bt1.ext hW).cell
  have hr1 := Ext.refl w1
  have CS1 := hide (show ∀ W, Ext w1 W → Calls Tryd.prog 9 #[.agg #[.int .i64 s.al, .int .i64 s.st, .slice A n c]] W (RetSys W s) from fun W hW => toSystem_any (HS.out W (hw1.trans hW)) hs1)
  have CT1 := hide (show ∀ W, Ext w1 W → Calls Tryd.prog 9 #[.agg #[.int .i64 t.al, .int .i64 t.st, .slice B m d]] W (RetSys W t) from fun W hW => toSystem_any (HT.out W (hw1.trans hW)) hs2)
  clear hn hm
  go_wp2_with fail
  clear hneg hneg2 hpos hle
  go_region_held3 (fun W => Ext w1 W) (first | assumption | (refine Ext.drew ?_; assumption) | (refine Ext.trans ?_ (by assumption); assumption) | (refine Ext.trans ?_ (by assumption); refine Ext.drew ?_; assumption)) (first
    | (go_at_call 9; (with_reducible refine (CS1.out _ ?_).mono ?_); (first | assumption | (refine Ext.drew ?_; assumption)); rintro e w2 ⟨A2, n2, c2, rfl, hown2, hx2⟩)
    | (go_at_call 9; (with_reducible refine (CT1.out _ ?_).mono ?_); (first | assumption | (refine Ext.drew ?_; assumption)); rintro e w22 ⟨A22, n22, c22, rfl, hown22, hx22⟩)
    | (go_at_call 14; refine (spec_SimilarStates (hown2.reads.ext ?_) (hown22.reads.ext ?_)).mono ?_; (repeat (first | assumption | exact Ext.refl _ | (refine Ext.drew ?_) | (refine Ext.trans ?_ hx22))); (repeat (first | assumption | exact Ext.refl _ | (refine Ext.drew ?_))); rintro e w3 ⟨B3, m3, d3, rfl, own3, hx3⟩))
  have hx13 : Ext w1 w3 := by assumption
  have r3 := (Reads.of_own own3.2).more (lo' := 0) (Nat.zero_le _) (Nat.le_refl _)
  have hw3 := hw1.trans hx13
  have bs3 := bs1.ext hx13
  have bt3 := bt1.ext hx13
  have f3 := bs3.cell
  have f3t := bt3.cell
  clear hown2 hx2 hown22 hx22 hx3 own3 d1 d2 hr1
  go_wp2_with fail
  refine (toSystem_any (HS.out _ hw3) hs1).mono ?_
  rintro e w4 ⟨A4, n4, c4, rfl, own4, hx4⟩
  clear f3 f3t
  have f4t := (bt3.ext (hx4.alloc (.cells #[.int .i64 s.al, .int .i64 s.st, .slice A4 n4 c4] 29))).cell
  have own5 := own4.ext ((Ext.refl w4).alloc (.cells #[.int .i64 s.al, .int .i64 s.st, .slice A4 n4 c4] 29))
  have b5 := Blk.new w4 29 #[.int .i64 s.al, .int .i64 s.st, .slice A4 n4 c4]
  have hx5 := (Ext.refl w4).alloc (.cells #[.int .i64 s.al, .int .i64 s.st, .slice A4 n4 c4] 29)
  have hz5 : w4.heap.size < (w4.alloc (.cells #[.int .i64 s.al, .int .i64 s.st, .slice A4 n4 c4] 29)).heap.size := by simp
  go_wp2_with fail
  generalize w4.alloc (.cells #[.int .i64 s.al, .int .i64 s.st, .slice A4 n4 c4] 29) = w5 at *
  have hx35 := hx4.trans hx5
  have hw5 := hw3.trans hx35
  refine (toSystem_any (HT.out _ hw5) hs2).mono ?_
  rintro e w6 ⟨A6, n6, c6, rfl, own6, hx6⟩
  clear f4t
  have own7 := own6.ext ((Ext.refl w6).alloc (.cells #[.int .i64 t.al, .int .i64 t.st, .slice A6 n6 c6] 29))
  have b7 := Blk.new w6 29 #[.int .i64 t.al, .int .i64 t.st, .slice A6 n6 c6]
  have hx7 := (Ext.refl w6).alloc (.cells #[.int .i64 t.al, .int .i64 t.st, .slice A6 n6 c6] 29)
  have hz7 : w6.heap.size < (w6.alloc (.cells #[.int .i64 t.al, .int .i64 t.st, .slice A6 n6 c6] 29)).heap.size := by simp
  have f7 := (b5.ext (hx6.trans hx7)).cell
  go_wp2_with fail
  generalize w6.alloc (.cells #[.int .i64 t.al, .int .i64 t.st, .slice A6 n6 c6] 29) = w7 at *
  have hx57 := hx6.trans hx7
  have hw7 := hw5.trans hx57
  refine (impl_SimilarStates (own5.reads.ext hx57) own7.reads (HTab.out _ hw7)).mono ?_
  rintro e w8 ⟨B8, m8, d8, rfl, own8, hx8⟩
  clear f7
  have hw8 := hw7.trans hx8
  have r38 := r3.ext ((hx35.trans hx57).trans hx8)
  go_wp2_with fail
  refine (eqIntS_same (Reads.of_own own8.2) r38).mono ?_
  rintro e w9 ⟨rfl, hq⟩
  have hx79 := hx8.trans hq
  have hw9 := hw8.trans hq
  have hx39 := (hx35.trans hx57).trans hx79
  have g1 : ∀ W, Ext w9 W → ∀ j, W.cell? ⟨w.heap.size, j, none⟩ = #[Value.int .i64 s.al, .int .i64 s.st, .slice A n c][j]? := fun W hW => (bs3.ext (hx39.trans hW)).cell
  have g2 : ∀ W, Ext w9 W → ∀ j, W.cell? ⟨w.heap.size + 1, j, none⟩ = #[Value.int .i64 t.al, .int .i64 t.st, .slice B m d][j]? := fun W hW => (bt3.ext (hx39.trans hW)).cell
  have g4 : ∀ W, Ext w9 W → ∀ j, W.cell? ⟨w4.heap.size, j, none⟩ = #[Value.int .i64 s.al, .int .i64 s.st, .slice A4 n4 c4][j]? := fun W hW => (b5.ext ((hx57.trans hx79).trans hW)).cell
  have g6 : ∀ W, Ext w9 W → ∀ j, W.cell? ⟨w6.heap.size, j, none⟩ = #[Value.int .i64 t.al, .int .i64 t.st, .slice A6 n6 c6][j]? := fun W hW => (b7.ext (hx79.trans hW)).cell
  have R4 := hide (fun W (hW : Ext w9 W) => own5.reads.ext ((hx57.trans hx79).trans hW))
  have R6 := hide (fun W (hW : Ext w9 W) => own7.reads.ext (hx79.trans hW))
  have hr9 := Ext.refl w9
  have hz := hide (show w.heap.size < w1.heap.size ∧ w.heap.size + 1 < w1.heap.size ∧ w1.heap.size ≤ w3.heap.size ∧ w3.heap.size ≤ w4.heap.size ∧ w4.heap.size < w5.heap.size ∧ w5.heap.size ≤ w6.heap.size ∧ w6.heap.size < w7.heap.size from ⟨bs1.lt, bt1.lt, hx13.size, hx4.size, hz5, hx6.size, hz7⟩)
  go_wp2_with fail
  go_region_held3 (fun W => Ext w9 W) (first | assumption | (refine Ext.drew ?_; assumption) | (refine Ext.trans ?_ (by assumption); assumption) | (refine Ext.trans ?_ (by assumption); refine Ext.drew ?_; assumption)) (first
    | (go_at_call 9; refine (toSystem_any (HS.out _ (hw9.trans ?_)) hs1).mono ?_; (first | assumption | (refine Ext.drew ?_; assumption)); rintro e w91 ⟨A9, n9, c9, rfl, hown9, hx9⟩)
    | (go_at_call 11; refine (eqSystem_any (R4.out _ (by assumption)) hown9.reads).mono ?_; rw [Hse.out]; rintro e w10 ⟨rfl, hx10⟩))
  have hx910 : Ext w9 w10 := by assumption
  clear hown9 hx9 hx10
  go_wp2_with fail
  go_region_held3 (fun W => Ext w9 W) (first | assumption | (refine Ext.drew ?_; assumption) | (refine Ext.trans ?_ (by assumption); assumption) | (refine Ext.trans ?_ (by assumption); refine Ext.drew ?_; assumption)) (first
    | (go_at_call 9; refine (toSystem_any (HT.out _ (hw9.trans ?_)) hs2).mono ?_; (first | assumption | (refine Ext.drew ?_; assumption)); rintro e w101 ⟨A10, n10, c10, rfl, hown10, hx10⟩)
    | (go_at_call 11; refine (eqSystem_any (R6.out _ (by assumption)) hown10.reads).mono ?_; rw [Hte.out]; rintro e w11 ⟨rfl, hx11⟩))
  have hx911 : Ext w9 w11 := by assumption
  clear hown10 hx10 hx11 g1 g2 g4 g6 R4 R6 hr9 hx910
  have hx311 := hx39.trans hx911
  have bs11 := bs3.ext hx311
  have bt11 := bt3.ext hx311
  have b511 := b5.ext ((hx57.trans hx79).trans hx911)
  have b711 := b7.ext (hx79.trans hx911)
  have own511 := own5.ext ((hx57.trans hx79).trans hx911)
  have own711 := own7.ext (hx79.trans hx911)
  have own811 := own8.ext (hq.trans hx911)
  have r311 := r38.ext (hq.trans hx911)
  have hw11 := hw9.trans hx911
  have f11 := b511.cell
  have hk4 : 1 + n4 * 3 ≤ 1000000000 := by have := own511.1; have := Hne.out; omega
  have hk6 : 1 + n4 * 3 + n6 * 3 ≤ 1000000000 := by have := own511.1; have := Hne.out; have := own711.1; have := Hme.out; omega
  have hb4 := hide (fun b (hb : blk A4 b) => own_blk own4.2 hb)
  have hb6 := hide (fun b (hb : blk A6 b) => own_blk own6.2 hb)
  have hb8 := hide (fun b (hb : blk B8 b) => own_blk own8.2 hb)
  go_wp2_with fail
  refine (markSystem_any (k := 1) own511.2 (by omega)).mono ?_
  rintro e w12 ⟨rfl, hf12⟩
  clear f11
  have hw12 : Ext w w12 := hw11.frm hf12 (fun b hb hS => by have := hb4.out b hS; have := hz.out; omega)
  have bs12 := bs11.frm hf12 (fun hS => by have := hb4.out _ hS; have := hz.out; omega)
  have bt12 := bt11.frm hf12 (fun hS => by have := hb4.out _ hS; have := hz.out; omega)
  have b712 := b711.frm hf12 (fun hS => by have := hb4.out _ hS; have := hz.out; omega)
  have own712 := own_keep own711.2 hf12 (fun b hb hS => by have := hb4.out b hS; have := hz.out; omega)
  have own812 : OwnN w12 w7.heap.size B8 m8 d8 (simR s t) := ⟨own811.1, own_keep own811.2 hf12 (fun b hb hS => by have := hb4.out b hS; have := hz.out; omega)⟩
  have r312 := r311.frm hf12 (fun b h1 h2 hS => by have := hb4.out b hS; have := hz.out; omega)
  have f12 := b712.cell
  go_wp2_with fail
  refine (markSystem_any (k := 1 + n4 * 3) own712 (by omega)).mono ?_
  rintro e w13 ⟨rfl, hf13⟩
  clear f12
  have hw13 : Ext w w13 := hw12.frm hf13 (fun b hb hS => by have := hb6.out b hS; have := hz.out; omega)
  have bs13 := bs12.frm hf13 (fun hS => by have := hb6.out _ hS; have := hz.out; omega)
  have bt13 := bt12.frm hf13 (fun hS => by have := hb6.out _ hS; have := hz.out; omega)
  have own813 : OwnN w13 w7.heap.size B8 m8 d8 (simR s t) := ⟨own812.1, own_keep own812.2 hf13 (fun b hb hS => by have := hb6.out b hS; have := hz.out; omega)⟩
  have r313 := r312.frm hf13 (fun b h1 h2 hS => by have := hb6.out b hS; have := hz.out; omega)
  go_wp2_with fail
  refine (eqIntS_same (Reads.of_own own813.2) r313).mono ?_
  rintro e w14 ⟨rfl, hx14⟩
  have hw14 := hw13.trans hx14
  have own814 := own813.ext hx14
  have r314 := r313.ext hx14
  have bs14 := bs13.ext hx14
  have bt14 := bt13.ext hx14
  have hcl := simR_length s t
  have hm8 : m8 ≤ 16 := by have := own8.1; omega
  go_wp2_with fail
  refine (markIntS_any (k := 1) own814.2 (by omega)).mono ?_
  rintro e w15 ⟨rfl, own15, hf15⟩
  have hw15 : Ext w w15 := hw14.frm hf15 (fun b hb hS => by have := hb8.out b hS; have := hz.out; omega)
  have bs15 := bs14.frm hf15 (fun hS => by have := hb8.out _ hS; have := hz.out; omega)
  have bt15 := bt14.frm hf15 (fun hS => by have := hb8.out _ hS; have := hz.out; omega)
  have r315 := r314.frm hf15 (fun b h1 h2 hS => by have := hb8.out b hS; have := hz.out; omega)
  go_wp2_with fail
  refine (heldIntS_any (Reads.of_own own15) (by omega)).mono ?_
  rintro e w15' ⟨rfl, rfl⟩
  have d1 : ∀ W, Ext w15 W → ∀ j, W.cell? ⟨w.heap.size, j, none⟩ = #[Value.int .i64 s.al, .int .i64 s.st, .slice A n c][j]? := fun W hW => (bs15.ext hW).cell
  have d2 : ∀ W, Ext w15 W → ∀ j, W.cell? ⟨w.heap.size + 1, j, none⟩ = #[Value.int .i64 t.al, .int .i64 t.st, .slice B m d][j]? := fun W hW => (bt15.ext hW).cell
  have hr15 := Ext.refl w15
  have CS15 := hide (show ∀ W, Ext w15 W → Calls Tryd.prog 9 #[.agg #[.int .i64 s.al, .int .i64 s.st, .slice A n c]] W (RetSys W s) from fun W hW => toSystem_any (HS.out W (hw15.trans hW)) hs1)
  have CT15 := hide (show ∀ W, Ext w15 W → Calls Tryd.prog 9 #[.agg #[.int .i64 t.al, .int .i64 t.st, .slice B m d]] W (RetSys W t) from fun W hW => toSystem_any (HT.out W (hw15.trans hW)) hs2)
  have HTab15 := hide (fun W (hW : Ext w15 W) => HTab.out W (hw15.trans hW))
  go_wp2_with fail
  go_region_held3 (fun W => Ext w15 W) (first | assumption | (refine Ext.drew ?_; assumption) | (refine Ext.trans ?_ (by assumption); assumption) | (refine Ext.trans ?_ (by assumption); refine Ext.drew ?_; assumption)) (first
    | (go_at_call 9; (with_reducible refine (CS15.out _ ?_).mono ?_); (first | assumption | (refine Ext.drew ?_; assumption)); rintro e w16 ⟨A16, n16, c16, rfl, hown16, hx16⟩)
    | (go_at_call 9; (with_reducible refine (CT15.out _ ?_).mono ?_); (first | assumption | (refine Ext.drew ?_; assumption)); rintro e w17 ⟨A17, n17, c17, rfl, hown17, hx17⟩)
    | (go_at_call 15; refine (impl_SimilarStates (hown16.reads.ext ?_) (hown17.reads.ext ?_) (HTab15.out _ ?_)).mono ?_; (repeat (first | assumption | exact Ext.refl _ | (refine Ext.drew ?_) | (refine Ext.trans ?_ hx17))); (repeat (first | assumption | exact Ext.refl _ | (refine Ext.drew ?_))); (repeat (first | assumption | exact Ext.refl _ | (refine Ext.drew ?_))); rintro e w18 ⟨B18, m18, d18, rfl, own18, hx18⟩))
  have hx1518 : Ext w15 w18 := by assumption
  go_wp2_with fail
  refine (eqIntS_same (Reads.of_own own18.2) (r315.ext hx1518)).mono ?_
  rintro e w19 ⟨rfl, hx19⟩
  go_wp2_with fail
  refine (heldIntS_any ((Reads.of_own own15).ext (hx1518.trans hx19)) (by omega)).mono ?_
  rintro e w19' ⟨rfl, rfl⟩
  go_wp2_with fail
  go_ret
  exact ⟨rfl, (hw15.trans hx1518).trans hx19⟩
end Go.Proofs.YtdeopnjheeekcaaDoor
