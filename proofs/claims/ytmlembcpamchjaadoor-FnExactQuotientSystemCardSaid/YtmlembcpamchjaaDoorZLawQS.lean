/- The law FnExactQuotientSystem, walked: it answers true, and leaves all old memory as it was. -/
import Derived.Test.YtmlembcpamchjaaDoorG13
import Derived.Test.YtmlembcpamchjaaDoorG14
namespace Go.Proofs.YtmlembcpamchjaaDoor
open Go Go.RowKit
set_option maxHeartbeats 2000000

/-- What QuotientSystem answers. -/
noncomputable def quoX (s : Sys) : Sys := if sysValid s then quoS s else ⟨0, 0, []⟩
def RetX (w : World) (q : Sys) (b : Bool) (N : Nat) (e : Ending) (w' : World) : Prop := ∃ (A : Option Addr) (n c : Nat), e = .returned (.tuple #[.agg #[.int .i64 q.al, .int .i64 q.st, .slice A n c], .bool b]) ∧ OwnE w' w.heap.size A n c q.edges ∧ n ≤ N ∧ Ext w w'
def RetY (w : World) (q : Sys) (b : Bool) (e : Ending) (w' : World) : Prop := ∃ (A : Option Addr) (n c : Nat), e = .returned (.tuple #[.agg #[.int .i64 q.al, .int .i64 q.st, .slice A n c], .bool b]) ∧ SysAt w' w.heap.size w'.heap.size A n q ∧ Ext w w'
theorem quoX_impl {lo hi : Nat} {A : Option Addr} {n c : Nat} {s : Sys} {w : World} (h : SysAt w lo hi A n s) (hT : Tab w) (hn4 : n ≤ 1048576) :
    Calls Tryd.prog 10 #[.agg #[.int .i64 s.al, .int .i64 s.st, .slice A n c]] w (RetX w (quoX s) (sysValid s) n) := by
  cases hv : sysValid s
  · refine (impl_QuotientSystem_not h hv).mono ?_
    rintro e w' ⟨rfl, hx⟩
    simp only [quoX, hv]
    exact ⟨none, 0, 0, rfl, ⟨rfl, rfl, .inl ⟨rfl, rfl⟩⟩, Nat.zero_le _, hx⟩
  · refine (impl_QuotientSystem_own h hT hv hn4).mono ?_
    rintro e w' ⟨A', n', c', rfl, hown, hle, hx⟩
    simp only [quoX, hv]
    exact ⟨A', n', c', rfl, hown, by rw [h.1]; exact hle.1, hx⟩
theorem quoX_spec {lo hi : Nat} {A : Option Addr} {n c : Nat} {s : Sys} {w : World} (h : SysAt w lo hi A n s) :
    Calls Tryd.prog 8 #[.agg #[.int .i64 s.al, .int .i64 s.st, .slice A n c]] w (RetY w (quoX s) (sysValid s)) := by
  cases hv : sysValid s
  · refine (spec_QuotientSystem_not h hv).mono ?_
    rintro e w' ⟨rfl, hx⟩
    simp only [quoX, hv]
    exact ⟨none, 0, 0, rfl, ⟨rfl, Reads.nil⟩, hx⟩
  · refine (spec_QuotientSystem h hv).mono ?_
    rintro e w' ⟨A', n', c', rfl, hs, hx⟩
    simp only [quoX, hv]
    exact ⟨A', n', c', rfl, hs, hx⟩
theorem own_blkQ {w : World} {base : Nat} {e : TypeId} {size n c : Nat} {A : Option Addr} {xs : List Value} (h : w.ownsRow base e size (.slice A n c) n xs) {b : Nat} (hb : blk A b) : base ≤ b ∧ b < w.heap.size := by
  obtain ⟨a, rfl, rfl⟩ := hb
  exact h.lt a.block rfl

set_option maxRecDepth 100000 in
theorem law_QuotientSystem {lo hi : Nat} {A : Option Addr} {n c : Nat} {s : Sys} {w : World} (h : SysAt w lo hi A n s) (hT : Tab w) :
    Calls Tryd.prog 3 #[.agg #[.int .i64 s.al, .int .i64 s.st, .slice A n c]] w fun e w' => e = .returned (.bool true) ∧ Ext w w' := by
  have hn := h.2.len
  have HS := hide (fun W (hW : Ext w W) => h.ext hW)
  have HTab := hide (fun W (hW : Ext w W) => hT.ext hW)
  have Hse := hide (sysEq_self s)
  have hne := h.1
  have Hne := hide hne
  clear h hT hne
  by_cases hneg : leftOf 1048576 n < 0
  · go_enter Tryd.func3, Tryd.ntmps3
    go_wp2_with (go_at_call 7; refine (szSystem_any hn (by omega) (by omega)).mono ?_; rintro e w1 ⟨rfl, hx1⟩)
    go_ret
    exact ⟨rfl, ((Ext.refl _).alloc _).trans hx1⟩
  have hs1 : n ≤ 1048576 := by unfold leftOf at hneg; split at hneg <;> omega
  have hspec := hide (fun W A n c lo hi (h : SysAt W lo hi A n s) => quoX_spec (c := c) h)
  have himpl := hide (fun W A n c lo hi (h : SysAt W lo hi A n s) hT (hn : n ≤ 1048576) => quoX_impl (c := c) h hT hn)
  have hbb : (sysValid s != sysValid s) = false := by cases sysValid s <;> rfl
  have Hqe := hide (sysEq_self (quoX s))
  generalize sysValid s = vb at *
  generalize quoX s = q at *
  go_enter Tryd.func3, Tryd.ntmps3
  go_wp2_with fail
  refine (szSystem_any hn (by omega) (by omega)).mono ?_
  rintro e w1 ⟨rfl, hx1⟩
  have b1 := ext_blk1 hx1
  have cb1 := b1.cell
  have hw := ((Ext.refl w).alloc _).trans hx1
  go_wp2_with fail
  refine (toSystem_any (HS.out _ hw) hs1).mono ?_
  clear hneg hn
  rintro e w2 ⟨A2, n2, c2, rfl, own2, hx2⟩
  clear cb1
  go_wp2_with fail
  refine (hspec.out _ _ _ _ _ _ own2.reads).mono ?_
  rintro e w3 ⟨B3, m3, d3, rfl, r3, hx3⟩
  clear own2
  have hz1 := hide hw.size
  replace hw := hw.trans (hx2.trans hx3)
  replace b1 := b1.ext (hx2.trans hx3)
  have hz2 := hide hx2.size
  have hz3 := hide hx3.size
  go_upto_region 6 with fail
  have hxa := (Ext.refl w3).alloc (.cells #[.int .i64 q.al, .int .i64 q.st, .slice B3 m3 d3] 28)
  have b3 := Blk.new w3 28 #[.int .i64 q.al, .int .i64 q.st, .slice B3 m3 d3]
  replace hw := hw.trans hxa
  replace b1 := b1.ext hxa
  replace r3 := r3.ext hxa
  have hzw4 := hide (show w3.heap.size < (w3.alloc (.cells #[.int .i64 q.al, .int .i64 q.st, .slice B3 m3 d3] 28)).heap.size by simp)
  clear hxa
  generalize w3.alloc (.cells #[.int .i64 q.al, .int .i64 q.st, .slice B3 m3 d3] 28) = w4 at *
  obtain ⟨G3, hG3⟩ : ∃ G, Hid (G = w3.heap.size) := ⟨_, rfl⟩
  rw [← hG3.out] at b3
  try rw [← hG3.out]
  have cb1 := b1.cell
  go_wp2_with fail
  refine (toSystem_any (HS.out _ hw) hs1).mono ?_
  rintro e w5 ⟨A5, n5, c5, rfl, own5, hx5⟩
  clear cb1
  replace hw := hw.trans hx5
  replace b1 := b1.ext hx5
  replace r3 := r3.ext hx5
  replace b3 := b3.ext hx5
  have hz5 := hide hx5.size
  have hb5 := hide (fun b (hb : blk A5 b) => own_blkQ own5.2 hb)
  go_upto_region 7 with fail
  have hxa := (Ext.refl w5).alloc (.cells #[.int .i64 s.al, .int .i64 s.st, .slice A5 n5 c5] 28)
  have b5 := Blk.new w5 28 #[.int .i64 s.al, .int .i64 s.st, .slice A5 n5 c5]
  replace hw := hw.trans hxa
  replace b1 := b1.ext hxa
  replace r3 := r3.ext hxa
  replace b3 := b3.ext hxa
  replace own5 := own5.ext hxa
  have hzw6 := hide (show w5.heap.size < (w5.alloc (.cells #[.int .i64 s.al, .int .i64 s.st, .slice A5 n5 c5] 28)).heap.size by simp)
  clear hxa
  generalize w5.alloc (.cells #[.int .i64 s.al, .int .i64 s.st, .slice A5 n5 c5] 28) = w6 at *
  obtain ⟨G5, hG5⟩ : ∃ G, Hid (G = w5.heap.size) := ⟨_, rfl⟩
  rw [← hG5.out] at b5
  try rw [← hG5.out]
  have cb5 := b5.cell
  have hn5 : n5 ≤ 1048576 := by have := own5.1; have := Hne.out; omega
  go_wp2_with fail
  refine (himpl.out _ _ _ _ _ _ own5.reads (HTab.out _ hw) hn5).mono ?_
  rintro e w7 ⟨A7, n7, c7, rfl, own7, hn7, hx7⟩
  clear cb5
  replace hw := hw.trans hx7
  replace b1 := b1.ext hx7
  replace r3 := r3.ext hx7
  replace b3 := b3.ext hx7
  replace own5 := own5.ext hx7
  replace b5 := b5.ext hx7
  have hz7 := hide hx7.size
  have hb7 := hide (fun b (hb : blk A7 b) => own_blkQ own7.2 hb)
  go_upto_region 8 with fail
  have hxa := (Ext.refl w7).alloc (.cells #[.int .i64 q.al, .int .i64 q.st, .slice A7 n7 c7] 28)
  have b7 := Blk.new w7 28 #[.int .i64 q.al, .int .i64 q.st, .slice A7 n7 c7]
  replace hw := hw.trans hxa
  replace b1 := b1.ext hxa
  replace r3 := r3.ext hxa
  replace b3 := b3.ext hxa
  replace own5 := own5.ext hxa
  replace b5 := b5.ext hxa
  replace own7 := own7.ext hxa
  have hzw8 := hide (show w7.heap.size < (w7.alloc (.cells #[.int .i64 q.al, .int .i64 q.st, .slice A7 n7 c7] 28)).heap.size by simp)
  clear hxa
  generalize w7.alloc (.cells #[.int .i64 q.al, .int .i64 q.st, .slice A7 n7 c7] 28) = w8 at *
  obtain ⟨G7, hG7⟩ : ∃ G, Hid (G = w7.heap.size) := ⟨_, rfl⟩
  rw [← hG7.out] at b7
  try rw [← hG7.out]
  have cb3 := b3.cell
  have cb7 := b7.cell
  go_wp2_with fail
  refine (eqSystem_any own7.reads r3).mono ?_
  rw [Hqe.out]
  rintro e w9 ⟨rfl, hxw9⟩
  clear cb3 cb7
  replace hw := hw.trans hxw9
  replace b1 := b1.ext hxw9
  replace r3 := r3.ext hxw9
  replace b3 := b3.ext hxw9
  replace own5 := own5.ext hxw9
  replace b5 := b5.ext hxw9
  replace own7 := own7.ext hxw9
  replace b7 := b7.ext hxw9
  clear hxw9
  go_upto_region 10 with fail
  have g1 : ∀ W, Ext w9 W → ∀ j, W.cell? ⟨w.heap.size, j, none⟩ = #[Value.int .i64 s.al, .int .i64 s.st, .slice A n c][j]? := fun W hW => (b1.ext hW).cell
  have g5 : ∀ W, Ext w9 W → ∀ j, W.cell? ⟨G5, j, none⟩ = #[Value.int .i64 s.al, .int .i64 s.st, .slice A5 n5 c5][j]? := fun W hW => (b5.ext hW).cell
  have R5 := hide (fun W (hW : Ext w9 W) => own5.reads.ext hW)
  have hr9 := Ext.refl w9
  go_region_held3 (fun W => Ext w9 W) (first | assumption | (refine Ext.drew ?_; assumption) | (refine Ext.trans ?_ (by assumption); assumption) | (refine Ext.trans ?_ (by assumption); refine Ext.drew ?_; assumption)) (first
    | (go_at_call 9; refine (toSystem_any (HS.out _ (hw.trans ?_)) hs1).mono ?_; (first | assumption | (refine Ext.drew ?_; assumption)); rintro e w91 ⟨A9, n9, c9, rfl, hown9, hx9⟩)
    | (go_at_call 11; refine (eqSystem_any (R5.out _ (by assumption)) hown9.reads).mono ?_; rw [Hse.out]; rintro e w10 ⟨rfl, hx10⟩))
  have hx910 : Ext w9 w10 := by assumption
  clear hown9 hx9 hx10 g1 g5 R5 hr9
  replace hw := hw.trans hx910
  replace b1 := b1.ext hx910
  replace r3 := r3.ext hx910
  replace b3 := b3.ext hx910
  replace own5 := own5.ext hx910
  replace b5 := b5.ext hx910
  replace own7 := own7.ext hx910
  replace b7 := b7.ext hx910
  have cb5 := b5.cell
  have hk5 : 1 + n5 * 3 ≤ 4611686018427387904 := by omega
  go_wp2_with fail
  refine (markSystem_any (k := 1) own5.2 hk5).mono ?_
  rintro e w11 ⟨rfl, hf11⟩
  clear cb5
  replace hw := hw.frm hf11 (fun k hk hS => by have := hb5.out k hS; have := hz1.out; have := hz2.out; have := hz3.out; have := hzw4.out; have := hz5.out; have := hzw6.out; have := hz7.out; have := hzw8.out; have := hG3.out; have := hG5.out; have := hG7.out; omega)
  replace b1 := b1.frm hf11 (fun hS => by have := hb5.out _ hS; have := hz1.out; have := hz2.out; have := hz3.out; have := hzw4.out; have := hz5.out; have := hzw6.out; have := hz7.out; have := hzw8.out; have := hG3.out; have := hG5.out; have := hG7.out; omega)
  replace r3 := r3.frm hf11 (fun k h1 h2 hS => by have := hb5.out k hS; have := hz1.out; have := hz2.out; have := hz3.out; have := hzw4.out; have := hz5.out; have := hzw6.out; have := hz7.out; have := hzw8.out; have := hG3.out; have := hG5.out; have := hG7.out; omega)
  replace b3 := b3.frm hf11 (fun hS => by have := hb5.out _ hS; have := hz1.out; have := hz2.out; have := hz3.out; have := hzw4.out; have := hz5.out; have := hzw6.out; have := hz7.out; have := hzw8.out; have := hG3.out; have := hG5.out; have := hG7.out; omega)
  replace b7 := b7.frm hf11 (fun hS => by have := hb5.out _ hS; have := hz1.out; have := hz2.out; have := hz3.out; have := hzw4.out; have := hz5.out; have := hzw6.out; have := hz7.out; have := hzw8.out; have := hG3.out; have := hG5.out; have := hG7.out; omega)
  replace own7 := own7.keep hf11 (fun k h1 hS => by have := hb5.out k hS; have := hz1.out; have := hz2.out; have := hz3.out; have := hzw4.out; have := hz5.out; have := hzw6.out; have := hz7.out; have := hzw8.out; have := hG3.out; have := hG5.out; have := hG7.out; omega)
  clear hf11 own5 b5
  have cb3 := b3.cell
  have cb7 := b7.cell
  have hk0 : ¬ ((((1 + n5 * 3 : Nat) : Int)) < 0) := by omega
  go_wp2_with fail
  refine (eqSystem_any own7.reads r3).mono ?_
  rw [Hqe.out]
  rintro e w12 ⟨rfl, hxw12⟩
  clear cb3 cb7
  replace hw := hw.trans hxw12
  replace b1 := b1.ext hxw12
  replace r3 := r3.ext hxw12
  replace b3 := b3.ext hxw12
  replace b7 := b7.ext hxw12
  replace own7 := own7.ext hxw12
  have cb7 := b7.cell
  have hn7' : n7 ≤ 1048576 := by omega
  have hk7 : 1 + n7 * 3 ≤ 4611686018427387904 := by omega
  go_wp2_with fail
  refine (markSystem_own (k := 1) own7.2 hk7).mono ?_
  rintro e w13 ⟨rfl, own13, hf13⟩
  clear cb7
  replace hw := hw.frm hf13 (fun k hk hS => by have := hb7.out k hS; have := hz1.out; have := hz2.out; have := hz3.out; have := hzw4.out; have := hz5.out; have := hzw6.out; have := hz7.out; have := hzw8.out; have := hG3.out; have := hG5.out; have := hG7.out; omega)
  replace b1 := b1.frm hf13 (fun hS => by have := hb7.out _ hS; have := hz1.out; have := hz2.out; have := hz3.out; have := hzw4.out; have := hz5.out; have := hzw6.out; have := hz7.out; have := hzw8.out; have := hG3.out; have := hG5.out; have := hG7.out; omega)
  replace r3 := r3.frm hf13 (fun k h1 h2 hS => by have := hb7.out k hS; have := hz1.out; have := hz2.out; have := hz3.out; have := hzw4.out; have := hz5.out; have := hzw6.out; have := hz7.out; have := hzw8.out; have := hG3.out; have := hG5.out; have := hG7.out; omega)
  replace b3 := b3.frm hf13 (fun hS => by have := hb7.out _ hS; have := hz1.out; have := hz2.out; have := hz3.out; have := hzw4.out; have := hz5.out; have := hzw6.out; have := hz7.out; have := hzw8.out; have := hG3.out; have := hG5.out; have := hG7.out; omega)
  replace b7 := b7.frm hf13 (fun hS => by have := hb7.out _ hS; have := hz1.out; have := hz2.out; have := hz3.out; have := hzw4.out; have := hz5.out; have := hzw6.out; have := hz7.out; have := hzw8.out; have := hG3.out; have := hG5.out; have := hG7.out; omega)
  clear hf13 own7
  have cb7 := b7.cell
  go_wp2_with fail
  refine (heldSystem_any (Reads.of_own own13) hk7).mono ?_
  rintro e w14 ⟨rfl, hx14⟩
  clear cb7
  replace own13 := own_ext own13 hx14
  replace hw := hw.trans hx14
  replace b1 := b1.ext hx14
  replace r3 := r3.ext hx14
  replace b3 := b3.ext hx14
  replace b7 := b7.ext hx14
  have cb1 := b1.cell
  have hk1 : ¬ ((((1 + n7 * 3 : Nat) : Int)) < 0) := by omega
  go_wp2_with fail
  refine (toSystem_any (HS.out _ hw) hs1).mono ?_
  rintro e w15 ⟨A15, n15, c15, rfl, own15, hx15⟩
  clear cb1
  replace own13 := own_ext own13 hx15
  replace hw := hw.trans hx15
  replace b1 := b1.ext hx15
  replace r3 := r3.ext hx15
  replace b3 := b3.ext hx15
  replace b7 := b7.ext hx15
  have hn15 : n15 ≤ 1048576 := by have := own15.1; have := Hne.out; omega
  go_wp2_with fail
  refine (himpl.out _ _ _ _ _ _ own15.reads (HTab.out _ hw) hn15).mono ?_
  rintro e w16 ⟨A16, n16, c16, rfl, own16, hn16, hx16⟩
  clear own15
  replace own13 := own_ext own13 hx16
  replace hw := hw.trans hx16
  replace b1 := b1.ext hx16
  replace r3 := r3.ext hx16
  replace b3 := b3.ext hx16
  replace b7 := b7.ext hx16
  go_upto_region 25 with fail
  have hxa := (Ext.refl w16).alloc (.cells #[.int .i64 q.al, .int .i64 q.st, .slice A16 n16 c16] 28)
  have b16 := Blk.new w16 28 #[.int .i64 q.al, .int .i64 q.st, .slice A16 n16 c16]
  replace hw := hw.trans hxa
  replace b1 := b1.ext hxa
  replace r3 := r3.ext hxa
  replace b3 := b3.ext hxa
  replace b7 := b7.ext hxa
  replace own16 := own16.ext hxa
  replace own13 := own_ext own13 hxa
  have hzw17 := hide (show w16.heap.size < (w16.alloc (.cells #[.int .i64 q.al, .int .i64 q.st, .slice A16 n16 c16] 28)).heap.size by simp)
  clear hxa
  generalize w16.alloc (.cells #[.int .i64 q.al, .int .i64 q.st, .slice A16 n16 c16] 28) = w17 at *
  obtain ⟨G16, hG16⟩ : ∃ G, Hid (G = w16.heap.size) := ⟨_, rfl⟩
  rw [← hG16.out] at b16
  try rw [← hG16.out]
  have cb3 := b3.cell
  have cb16 := b16.cell
  go_wp2_with fail
  refine (eqSystem_any own16.reads r3).mono ?_
  rw [Hqe.out]
  rintro e w18 ⟨rfl, hxw18⟩
  clear cb3 cb16
  replace own13 := own_ext own13 hxw18
  replace hw := hw.trans hxw18
  replace b7 := b7.ext hxw18
  have cb7 := b7.cell
  go_wp2_with fail
  refine (heldSystem_any (Reads.of_own own13) hk7).mono ?_
  rintro e w19 ⟨rfl, hx19⟩
  go_wp2_with fail
  go_ret
  exact ⟨rfl, hw.trans hx19⟩
end Go.Proofs.YtmlembcpamchjaaDoor
