/- The law FnExactBisimClasses, walked: it answers true, and leaves all old memory as it was. -/
import Derived.Test.YtdeopnjheeekcaaDoorCls2
import Derived.Test.YtdeopnjheeekcaaDoorMarkS
namespace Go.Proofs.YtdeopnjheeekcaaDoor
open Go Go.RowKit
set_option maxHeartbeats 1000000

theorem own_blk {w : World} {base : Nat} {e : TypeId} {size n c : Nat} {A : Option Addr} {xs : List Value} (h : w.ownsRow base e size (.slice A n c) n xs) {b : Nat} (hb : blk A b) : base ≤ b ∧ b < w.heap.size := by
  obtain ⟨a, rfl, rfl⟩ := hb
  exact h.lt a.block rfl
theorem nats_ints (l : List Nat) : nats l = ints (l.map fun n : Nat => (n : Int)) := by simp [nats, ints]
theorem eqIntS_same {lo hi lo' hi' : Nat} {A : Option Addr} {n c : Nat} {B : Option Addr} {m d : Nat} {l : List Nat} {w : World} (h : Reads w lo hi 1 A n (nats l)) (h' : Reads w lo' hi' 1 B m (nats l)) :
    Calls Tryd.prog 16 #[.slice A n c, .slice B m d] w fun e w' => e = .returned (.bool true) ∧ Ext w w' := by
  rw [nats_ints] at h h'
  refine (eqIntS_any _ _ _ _ _ _ _ _ _ _ _ _ _ h h').mono ?_
  rintro e w' ⟨rfl, hx⟩
  exact ⟨by simp, hx⟩

theorem law_BisimClasses {lo hi : Nat} {A : Option Addr} {n c : Nat} {s : Sys} {w : World} (h : SysAt w lo hi A n s) (hT : Tab w) :
    Calls Tryd.prog 6 #[.agg #[.int .i64 s.al, .int .i64 s.st, .slice A n c]] w fun e w' => e = .returned (.bool true) ∧ Ext w w' := by
  have hn := h.2.len
  have HS := hide (fun W (hW : Ext w W) => h.ext hW)
  have HTab := hide (fun W (hW : Ext w W) => hT.ext hW)
  have Hse := hide (sysEq_self s)
  have hne := h.1
  have Hne := hide hne
  clear h hT hne
  by_cases hneg : leftOf 1048576 n < 0
  · go_enter Tryd.func6, Tryd.ntmps6
    go_wp2_with (go_at_call 7; refine (szSystem_any hn (by omega) (by omega)).mono ?_; rintro e w1 ⟨rfl, hx1⟩)
    go_ret
    exact ⟨rfl, ((Ext.refl _).alloc _).trans hx1⟩
  have hs1 : n ≤ 1048576 := by unfold leftOf at hneg; split at hneg <;> omega
  go_enter Tryd.func6, Tryd.ntmps6
  go_wp2_with fail
  refine (szSystem_any hn (by omega) (by omega)).mono ?_
  rintro e w1 ⟨rfl, hx1⟩
  have b1 := ext_blk1 hx1
  have f1 := b1.cell
  have hw1 := ((Ext.refl w).alloc _).trans hx1
  go_wp2_with fail
  refine (toSystem_any (HS.out _ hw1) hs1).mono ?_
  clear hneg hn
  rintro e w2 ⟨A2, n2, c2, rfl, own2, hx2⟩
  clear f1
  go_wp2_with fail
  refine (spec_BisimClasses own2.reads).mono ?_
  rintro e w3 ⟨B3, m3, d3, rfl, own3, hx3⟩
  have hw3 := (hw1.trans hx2).trans hx3
  have f3 := (b1.ext (hx2.trans hx3)).cell
  have hsz3 := hw1.size
  clear own2
  go_wp2_with fail
  refine (toSystem_any (HS.out _ hw3) hs1).mono ?_
  rintro e w4 ⟨A4, n4, c4, rfl, own4, hx4⟩
  clear f3
  have own5 := own4.ext ((Ext.refl w4).alloc (.cells #[.int .i64 s.al, .int .i64 s.st, .slice A4 n4 c4] 29))
  have b4 := Blk.new w4 29 #[.int .i64 s.al, .int .i64 s.st, .slice A4 n4 c4]
  have hx5 := (Ext.refl w4).alloc (.cells #[.int .i64 s.al, .int .i64 s.st, .slice A4 n4 c4] 29)
  have hz5 : w4.heap.size < (w4.alloc (.cells #[.int .i64 s.al, .int .i64 s.st, .slice A4 n4 c4] 29)).heap.size := by simp
  go_wp2_with fail
  generalize w4.alloc (.cells #[.int .i64 s.al, .int .i64 s.st, .slice A4 n4 c4] 29) = w5 at *
  have hw5 := (hw3.trans hx4).trans hx5
  refine (impl_BisimClasses own5.reads (HTab.out _ hw5)).mono ?_
  rintro e w6 ⟨B6, m6, d6, rfl, own6, hx6⟩
  have hw6 := hw5.trans hx6
  have r3 := (Reads.of_own own3.2).ext ((hx4.trans hx5).trans hx6)
  go_wp2_with fail
  refine (eqIntS_same (Reads.of_own own6.2) r3).mono ?_
  rintro e w7 ⟨rfl, hq⟩
  have hx67 := hx6.trans hq
  have hw7 := hw6.trans hq
  have g1 : ∀ W, Ext w7 W → ∀ j, W.cell? ⟨w.heap.size, j, none⟩ = #[Value.int .i64 s.al, .int .i64 s.st, .slice A n c][j]? := fun W hW => (b1.ext ((((hx2.trans hx3).trans (hx4.trans hx5)).trans hx67).trans hW)).cell
  have g4 : ∀ W, Ext w7 W → ∀ j, W.cell? ⟨w4.heap.size, j, none⟩ = #[Value.int .i64 s.al, .int .i64 s.st, .slice A4 n4 c4][j]? := fun W hW => (b4.ext (hx67.trans hW)).cell
  have R4 := hide (fun W (hW : Ext w7 W) => own5.reads.ext (hx67.trans hW))
  have hr7 := Ext.refl w7
  have hz := hide (show w.heap.size < w1.heap.size ∧ w1.heap.size ≤ w2.heap.size ∧ w2.heap.size ≤ w3.heap.size ∧ w3.heap.size ≤ w4.heap.size ∧ w4.heap.size < w5.heap.size from ⟨b1.lt, hx2.size, hx3.size, hx4.size, hz5⟩)
  go_wp2_with fail
  go_region_held3 (fun W => Ext w7 W) (first | assumption | (refine Ext.drew ?_; assumption) | (refine Ext.trans ?_ (by assumption); assumption) | (refine Ext.trans ?_ (by assumption); refine Ext.drew ?_; assumption)) (first
    | (go_at_call 9; refine (toSystem_any (HS.out _ (hw7.trans ?_)) hs1).mono ?_; (first | assumption | (refine Ext.drew ?_; assumption)); rintro e w71 ⟨A7, n7, c7, rfl, hown7, hx7⟩)
    | (go_at_call 11; refine (eqSystem_any (R4.out _ (by assumption)) hown7.reads).mono ?_; rw [Hse.out]; rintro e w8 ⟨rfl, hx8⟩))
  have hx78 : Ext w7 w8 := by assumption
  have hx68 := hq.trans hx78
  clear hown7 hx7 hx8 g1 g4 R4 hr7
  have b18 := b1.ext ((((hx2.trans hx3).trans (hx4.trans hx5)).trans hx6).trans hx68)
  have b48 := b4.ext (hx6.trans hx68)
  have own48 := own5.ext (hx6.trans hx68)
  have own68 := own6.ext hx68
  have r38 := r3.ext hx68
  have hw8 := hw6.trans hx68
  have f48 := b48.cell
  have hk4 : 1 + n4 * 3 ≤ 4611686018427387904 := by have := own48.1; have := Hne.out; omega
  have hb4 := hide (fun b (hb : blk A4 b) => own_blk own4.2 hb)
  have hb6 := hide (fun b (hb : blk B6 b) => own_blk own6.2 hb)
  go_wp2_with fail
  refine (markSystem_any (k := 1) own48.2 hk4).mono ?_
  rintro e w9 ⟨rfl, hf9⟩
  have hw9 : Ext w w9 := hw8.frm hf9 (fun b hb hS => by have := hb4.out b hS; have := hz.out; omega)
  have b19 := b18.frm hf9 (fun hS => by have := hb4.out _ hS; have := hz.out; omega)
  have own69 : OwnN w9 w5.heap.size B6 m6 d6 (clsR s) := ⟨own68.1, own_keep own68.2 hf9 (fun b hb hS => by have := hb4.out b hS; have := hz.out; omega)⟩
  have r39 := r38.frm hf9 (fun b h1 h2 hS => by have := hb4.out b hS; have := hz.out; omega)
  clear f48 b48 b18
  go_wp2_with fail
  refine (eqIntS_same (Reads.of_own own69.2) r39).mono ?_
  rintro e w10 ⟨rfl, hx10⟩
  have hw10 := hw9.trans hx10
  have own610 := own69.ext hx10
  have r310 := r39.ext hx10
  have b110 := b19.ext hx10
  have hcl := clsR_length s
  have hm6 : m6 ≤ 16 := by have := own6.1; omega
  go_wp2_with fail
  refine (markIntS_any (k := 1) own610.2 (by omega)).mono ?_
  rintro e w11 ⟨rfl, own11, hf11⟩
  have hw11 : Ext w w11 := hw10.frm hf11 (fun b hb hS => by have := hb6.out b hS; have := hz.out; omega)
  have b111 := b110.frm hf11 (fun hS => by have := hb6.out _ hS; have := hz.out; omega)
  have r311 := r310.frm hf11 (fun b h1 h2 hS => by have := hb6.out b hS; have := hz.out; omega)
  go_wp2_with fail
  refine (heldIntS_any (Reads.of_own own11) (by omega)).mono ?_
  rintro e w11' ⟨rfl, rfl⟩
  have f11 := b111.cell
  have hmm : ((1 + m6 : Nat) : Int) = ((1 + m6 : Nat) : Int) := rfl
  go_wp2_with fail
  refine (toSystem_any (HS.out _ hw11) hs1).mono ?_
  rintro e w12 ⟨A12, n12, c12, rfl, own12, hx12⟩
  go_wp2_with fail
  refine (impl_BisimClasses own12.reads (HTab.out _ (hw11.trans hx12))).mono ?_
  rintro e w13 ⟨B13, m13, d13, rfl, own13, hx13⟩
  have hx113 := hx12.trans hx13
  go_wp2_with fail
  refine (eqIntS_same (Reads.of_own own13.2) (r311.ext hx113)).mono ?_
  rintro e w14 ⟨rfl, hx14⟩
  go_wp2_with fail
  refine (heldIntS_any ((Reads.of_own own11).ext (hx113.trans hx14)) (by omega)).mono ?_
  rintro e w14' ⟨rfl, rfl⟩
  go_wp2_with fail
  go_ret
  exact ⟨rfl, (hw11.trans hx113).trans hx14⟩
end Go.Proofs.YtdeopnjheeekcaaDoor
