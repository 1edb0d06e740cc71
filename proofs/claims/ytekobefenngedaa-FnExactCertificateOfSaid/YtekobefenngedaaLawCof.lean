/- The law FnExactCertificateOf, walked: it answers true, and leaves all old memory as it was. -/
import Derived.Test.YtekobefenngedaaCof
namespace Go.Proofs.Ytekobefenngedaa
open Go Go.RowKit
set_option maxHeartbeats 2000000

theorem cntA_size (a : Aut) : cntA a ≤ a.size := by unfold cntA Aut.size; omega
theorem cntA_X (cd : Int) (a : Aut) (s : ByteArray) : cntA (autX cd a s) ≤ a.size := by
  unfold autX
  split
  · exact cntA_size a
  · simp [cntA, aut0, tot]
set_option maxRecDepth 100000 in
theorem law_CertificateOf {lo hi : Nat} {A : Option Addr} {n c : Nat} {A' : Option Addr} {n' c' : Nat} {cd ro : Int} {a : Aut} {s : ByteArray} {w : World} (h : AutAt w lo hi A n A' n' a) (hs : s.size ≤ 9223372036854775807) :
    Calls Try.prog 3 #[.agg #[.int .i64 cd, .int .i64 a.al, .slice A n c, .slice A' n' c', .string s, .int .i64 ro]] w fun e w' => e = .returned (.bool true) ∧ Ext w w' := by
  have HS := hide (fun W (hW : Ext w W) => h.ext hW)
  clear h
  by_cases hneg : leftOf 1048576 (a.size + s.size) < 0
  · go_enter Try.func3, Try.ntmps3
    go_wp2_with (go_at_call 4; refine (szVerdict_any (HS.out _ ((Ext.refl _).alloc _)) hs (by omega) (by omega)).mono ?_; rintro e w1 ⟨rfl, hx1⟩)
    go_ret
    exact ⟨rfl, ((Ext.refl _).alloc _).trans hx1⟩
  have hs1 : a.size ≤ 1048576 := by unfold leftOf at hneg; split at hneg <;> omega
  have hspec := hide (fun W A n c A' n' c' lo hi (h : AutAt W lo hi A n A' n' a) => spec_CertificateOf (c := c) (c' := c') (cd := cd) (ro := ro) h hs1 hs)
  have himpl := hide (fun W A n c A' n' c' lo hi (h : AutAt W lo hi A n A' n' a) => impl_CertificateOf (c := c) (c' := c') (cd := cd) (ro := ro) h hs1 hs)
  have hbb : (okC cd a s != okC cd a s) = false := by cases okC cd a s <;> rfl
  have hqc := cntA_X cd a s
  have hac := cntA_size a
  generalize okC cd a s = vb at *
  generalize hdX cd a s = hq at *
  generalize autX cd a s = q at *
  generalize strX cd a s = sq at *
  go_enter Try.func3, Try.ntmps3
  go_wp2_with fail
  refine (szVerdict_any (HS.out _ ((Ext.refl _).alloc _)) hs (by omega) (by omega)).mono ?_
  rintro e w1 ⟨rfl, hx1⟩
  have b1 := ext_blk1 hx1
  have cb1 := b1.cell
  have hw := ((Ext.refl w).alloc _).trans hx1
  go_wp2_with fail
  refine (toVerdict_any (HS.out _ hw) hs1).mono ?_
  clear hneg
  rintro e w2 ⟨A2, n2, c2, B2, m2, d2, rfl, own2, hx2⟩
  clear cb1
  go_wp2_with fail
  refine (hspec.out _ _ _ _ _ _ _ _ _ own2.reads).mono ?_
  rintro e w3 ⟨A3, n3, c3, B3, m3, d3, rfl, own3, hx3⟩
  clear own2
  have hz1 := hide hw.size
  have r3 := own3.reads
  clear own3
  replace hw := hw.trans (hx2.trans hx3)
  replace b1 := b1.ext (hx2.trans hx3)
  have hz2 := hide hx2.size
  have hz3 := hide hx3.size
  go_upto_region 6 with fail
  have hxa := (Ext.refl w3).alloc (.cells #[.bool hq, .int .i64 q.al, .slice A3 n3 c3, .slice B3 m3 d3, .string sq] 31)
  have b3 := Blk.new w3 31 #[.bool hq, .int .i64 q.al, .slice A3 n3 c3, .slice B3 m3 d3, .string sq]
  replace hw := hw.trans hxa
  replace b1 := b1.ext hxa
  replace r3 := r3.ext hxa
  have hzw4 := hide (show w3.heap.size < (w3.alloc (.cells #[.bool hq, .int .i64 q.al, .slice A3 n3 c3, .slice B3 m3 d3, .string sq] 31)).heap.size by simp)
  clear hxa
  generalize w3.alloc (.cells #[.bool hq, .int .i64 q.al, .slice A3 n3 c3, .slice B3 m3 d3, .string sq] 31) = w4 at *
  obtain ⟨G3, hG3⟩ : ∃ G, Hid (G = w3.heap.size) := ⟨_, rfl⟩
  rw [← hG3.out] at b3
  try rw [← hG3.out]
  have cb1 := b1.cell
  go_wp2_with fail
  refine (toVerdict_any (HS.out _ hw) hs1).mono ?_
  rintro e w5 ⟨A5, n5, c5, B5, m5, d5, rfl, own5, hx5⟩
  clear cb1
  replace hw := hw.trans hx5
  replace b1 := b1.ext hx5
  replace r3 := r3.ext hx5
  replace b3 := b3.ext hx5
  have hz5 := hide hx5.size
  have own5h := own5.high
  go_upto_region 7 with fail
  have hxa := (Ext.refl w5).alloc (.cells #[.int .i64 cd, .int .i64 a.al, .slice A5 n5 c5, .slice B5 m5 d5, .string s, .int .i64 ro] 35)
  have b5 := Blk.new w5 35 #[.int .i64 cd, .int .i64 a.al, .slice A5 n5 c5, .slice B5 m5 d5, .string s, .int .i64 ro]
  replace hw := hw.trans hxa
  replace b1 := b1.ext hxa
  replace r3 := r3.ext hxa
  replace b3 := b3.ext hxa
  replace own5 := own5.ext hxa
  replace own5h := own5h.ext hxa
  have hzw6 := hide (show w5.heap.size < (w5.alloc (.cells #[.int .i64 cd, .int .i64 a.al, .slice A5 n5 c5, .slice B5 m5 d5, .string s, .int .i64 ro] 35)).heap.size by simp)
  clear hxa
  generalize w5.alloc (.cells #[.int .i64 cd, .int .i64 a.al, .slice A5 n5 c5, .slice B5 m5 d5, .string s, .int .i64 ro] 35) = w6 at *
  obtain ⟨G5, hG5⟩ : ∃ G, Hid (G = w5.heap.size) := ⟨_, rfl⟩
  rw [← hG5.out] at b5
  try rw [← hG5.out]
  have cb5 := b5.cell
  go_wp2_with fail
  refine (himpl.out _ _ _ _ _ _ _ _ _ own5.reads).mono ?_
  rintro e w7 ⟨A7, n7, c7, B7, m7, d7, rfl, own7, hx7⟩
  clear cb5
  replace hw := hw.trans hx7
  replace b1 := b1.ext hx7
  replace r3 := r3.ext hx7
  replace b3 := b3.ext hx7
  replace own5 := own5.ext hx7
  replace own5h := own5h.ext hx7
  replace b5 := b5.ext hx7
  have hz7 := hide hx7.size
  have own7h := own7.high
  go_upto_region 8 with fail
  have hxa := (Ext.refl w7).alloc (.cells #[.bool hq, .int .i64 q.al, .slice A7 n7 c7, .slice B7 m7 d7, .string sq] 31)
  have b7 := Blk.new w7 31 #[.bool hq, .int .i64 q.al, .slice A7 n7 c7, .slice B7 m7 d7, .string sq]
  replace hw := hw.trans hxa
  replace b1 := b1.ext hxa
  replace r3 := r3.ext hxa
  replace b3 := b3.ext hxa
  replace own5 := own5.ext hxa
  replace own5h := own5h.ext hxa
  replace b5 := b5.ext hxa
  replace own7 := own7.ext hxa
  replace own7h := own7h.ext hxa
  have hzw8 := hide (show w7.heap.size < (w7.alloc (.cells #[.bool hq, .int .i64 q.al, .slice A7 n7 c7, .slice B7 m7 d7, .string sq] 31)).heap.size by simp)
  clear hxa
  generalize w7.alloc (.cells #[.bool hq, .int .i64 q.al, .slice A7 n7 c7, .slice B7 m7 d7, .string sq] 31) = w8 at *
  obtain ⟨G7, hG7⟩ : ∃ G, Hid (G = w7.heap.size) := ⟨_, rfl⟩
  rw [← hG7.out] at b7
  try rw [← hG7.out]
  have cb3 := b3.cell
  have cb7 := b7.cell
  go_wp2_with fail
  refine (eqCertificate_same own7.reads r3).mono ?_
  rintro e w9 ⟨rfl, hxw9⟩
  clear cb3 cb7
  replace hw := hw.trans hxw9
  replace b1 := b1.ext hxw9
  replace r3 := r3.ext hxw9
  replace b3 := b3.ext hxw9
  replace own5 := own5.ext hxw9
  replace own5h := own5h.ext hxw9
  replace b5 := b5.ext hxw9
  replace own7 := own7.ext hxw9
  replace own7h := own7h.ext hxw9
  replace b7 := b7.ext hxw9
  clear hxw9
  go_upto_region 10 with fail
  have g1 : ∀ W, Ext w9 W → ∀ j, W.cell? ⟨w.heap.size, j, none⟩ = #[Value.int .i64 cd, .int .i64 a.al, .slice A n c, .slice A' n' c', .string s, .int .i64 ro][j]? := fun W hW => (b1.ext hW).cell
  have g5 : ∀ W, Ext w9 W → ∀ j, W.cell? ⟨G5, j, none⟩ = #[Value.int .i64 cd, .int .i64 a.al, .slice A5 n5 c5, .slice B5 m5 d5, .string s, .int .i64 ro][j]? := fun W hW => (b5.ext hW).cell
  have R5 := hide (fun W (hW : Ext w9 W) => own5.reads.ext hW)
  have hr9 := Ext.refl w9
  go_region_held3 (fun W => Ext w9 W) (first | assumption | (refine Ext.drew ?_; assumption) | (refine Ext.trans ?_ (by assumption); assumption) | (refine Ext.trans ?_ (by assumption); refine Ext.drew ?_; assumption)) (first
    | (go_at_call 6; refine (toVerdict_any (HS.out _ (hw.trans ?_)) hs1).mono ?_; (first | assumption | (refine Ext.drew ?_; assumption)); rintro e w91 ⟨A9, n9, c9, B9, m9, d9, rfl, hown9, hx9⟩)
    | (go_at_call 9; refine (eqVerdict_same (R5.out _ (by assumption)) hown9.reads).mono ?_; rintro e w10 ⟨rfl, hx10⟩))
  have hx910 : Ext w9 w10 := by assumption
  clear hown9 hx9 hx10 g1 g5 R5 hr9
  replace hw := hw.trans hx910
  replace b1 := b1.ext hx910
  replace r3 := r3.ext hx910
  replace b3 := b3.ext hx910
  replace own5 := own5.ext hx910
  replace own5h := own5h.ext hx910
  replace b5 := b5.ext hx910
  replace own7 := own7.ext hx910
  replace own7h := own7h.ext hx910
  replace b7 := b7.ext hx910
  have cb5 := b5.cell
  have hk5 : 1 + cntA a ≤ 4611686018427387904 := by omega
  go_wp2_with fail
  refine (markVerdict_any (k := 1) own5h hk5).mono ?_
  rintro e w11 ⟨rfl, -, hf11⟩
  clear cb5
  replace hw := hw.frm hf11 (fun k hk hS => by have := hz1.out; have := hz2.out; have := hz3.out; have := hzw4.out; have := hz5.out; have := hzw6.out; have := hz7.out; have := hzw8.out; have := hG3.out; have := hG5.out; have := hG7.out; omega)
  replace b1 := b1.frm hf11 (fun hS => by have := hz1.out; have := hz2.out; have := hz3.out; have := hzw4.out; have := hz5.out; have := hzw6.out; have := hz7.out; have := hzw8.out; have := hG3.out; have := hG5.out; have := hG7.out; omega)
  replace r3 := r3.frm hf11 (fun k h1 h2 hS => by have := hz1.out; have := hz2.out; have := hz3.out; have := hzw4.out; have := hz5.out; have := hzw6.out; have := hz7.out; have := hzw8.out; have := hG3.out; have := hG5.out; have := hG7.out; omega)
  replace b3 := b3.frm hf11 (fun hS => by have := hz1.out; have := hz2.out; have := hz3.out; have := hzw4.out; have := hz5.out; have := hzw6.out; have := hz7.out; have := hzw8.out; have := hG3.out; have := hG5.out; have := hG7.out; omega)
  replace b7 := b7.frm hf11 (fun hS => by have := hz1.out; have := hz2.out; have := hz3.out; have := hzw4.out; have := hz5.out; have := hzw6.out; have := hz7.out; have := hzw8.out; have := hG3.out; have := hG5.out; have := hG7.out; omega)
  replace own7 := own7.keep hf11 (fun k h1 hS => by have := hz1.out; have := hz2.out; have := hz3.out; have := hzw4.out; have := hz5.out; have := hzw6.out; have := hz7.out; have := hzw8.out; have := hG3.out; have := hG5.out; have := hG7.out; omega)
  replace own7h := own7h.frm hf11 (fun k h1 h2 hS => by have := hz1.out; have := hz2.out; have := hz3.out; have := hzw4.out; have := hz5.out; have := hzw6.out; have := hz7.out; have := hzw8.out; have := hG3.out; have := hG5.out; have := hG7.out; omega)
  clear hf11 own5 own5h b5
  have cb3 := b3.cell
  have cb7 := b7.cell
  have hk0 : ¬ ((((1 + cntA a : Nat) : Int)) < 0) := by omega
  go_wp2_with fail
  refine (eqCertificate_same own7.reads r3).mono ?_
  rintro e w12 ⟨rfl, hxw12⟩
  clear cb3 cb7
  replace hw := hw.trans hxw12
  replace b1 := b1.ext hxw12
  replace r3 := r3.ext hxw12
  replace b3 := b3.ext hxw12
  replace b7 := b7.ext hxw12
  replace own7 := own7.ext hxw12
  replace own7h := own7h.ext hxw12
  have cb7 := b7.cell
  have hk7 : 1 + cntA q ≤ 4611686018427387904 := by omega
  go_wp2_with fail
  refine (markCertificate_any (k := 1) own7h hk7).mono ?_
  rintro e w13 ⟨rfl, own13, hf13⟩
  clear cb7
  replace hw := hw.frm hf13 (fun k hk hS => by have := hz1.out; have := hz2.out; have := hz3.out; have := hzw4.out; have := hz5.out; have := hzw6.out; have := hz7.out; have := hzw8.out; have := hG3.out; have := hG5.out; have := hG7.out; omega)
  replace b1 := b1.frm hf13 (fun hS => by have := hz1.out; have := hz2.out; have := hz3.out; have := hzw4.out; have := hz5.out; have := hzw6.out; have := hz7.out; have := hzw8.out; have := hG3.out; have := hG5.out; have := hG7.out; omega)
  replace r3 := r3.frm hf13 (fun k h1 h2 hS => by have := hz1.out; have := hz2.out; have := hz3.out; have := hzw4.out; have := hz5.out; have := hzw6.out; have := hz7.out; have := hzw8.out; have := hG3.out; have := hG5.out; have := hG7.out; omega)
  replace b3 := b3.frm hf13 (fun hS => by have := hz1.out; have := hz2.out; have := hz3.out; have := hzw4.out; have := hz5.out; have := hzw6.out; have := hz7.out; have := hzw8.out; have := hG3.out; have := hG5.out; have := hG7.out; omega)
  replace b7 := b7.frm hf13 (fun hS => by have := hz1.out; have := hz2.out; have := hz3.out; have := hzw4.out; have := hz5.out; have := hzw6.out; have := hz7.out; have := hzw8.out; have := hG3.out; have := hG5.out; have := hG7.out; omega)
  clear hf13 own7 own7h
  replace own13 := own13.own.reads
  have cb7 := b7.cell
  go_wp2_with fail
  refine (heldCertificate_any own13 hk7).mono ?_
  rintro e w14 ⟨rfl, hx14⟩
  clear cb7
  replace hw := hw.trans hx14
  replace b1 := b1.ext hx14
  replace r3 := r3.ext hx14
  replace b3 := b3.ext hx14
  replace b7 := b7.ext hx14
  replace own13 := own13.ext hx14
  have cb1 := b1.cell
  have hk1 : ¬ ((((1 + cntA q : Nat) : Int)) < 0) := by omega
  go_wp2_with fail
  refine (toVerdict_any (HS.out _ hw) hs1).mono ?_
  rintro e w15 ⟨A15, n15, c15, B15, m15, d15, rfl, own15, hx15⟩
  clear cb1
  replace hw := hw.trans hx15
  replace b1 := b1.ext hx15
  replace r3 := r3.ext hx15
  replace b3 := b3.ext hx15
  replace b7 := b7.ext hx15
  replace own13 := own13.ext hx15
  go_wp2_with fail
  refine (himpl.out _ _ _ _ _ _ _ _ _ own15.reads).mono ?_
  rintro e w16 ⟨A16, n16, c16, B16, m16, d16, rfl, own16, hx16⟩
  clear own15
  replace hw := hw.trans hx16
  replace b1 := b1.ext hx16
  replace r3 := r3.ext hx16
  replace b3 := b3.ext hx16
  replace b7 := b7.ext hx16
  replace own13 := own13.ext hx16
  go_upto_region 25 with fail
  have hxa := (Ext.refl w16).alloc (.cells #[.bool hq, .int .i64 q.al, .slice A16 n16 c16, .slice B16 m16 d16, .string sq] 31)
  have b16 := Blk.new w16 31 #[.bool hq, .int .i64 q.al, .slice A16 n16 c16, .slice B16 m16 d16, .string sq]
  replace hw := hw.trans hxa
  replace b1 := b1.ext hxa
  replace r3 := r3.ext hxa
  replace b3 := b3.ext hxa
  replace b7 := b7.ext hxa
  replace own13 := own13.ext hxa
  replace own16 := own16.ext hxa
  have hzw17 := hide (show w16.heap.size < (w16.alloc (.cells #[.bool hq, .int .i64 q.al, .slice A16 n16 c16, .slice B16 m16 d16, .string sq] 31)).heap.size by simp)
  clear hxa
  generalize w16.alloc (.cells #[.bool hq, .int .i64 q.al, .slice A16 n16 c16, .slice B16 m16 d16, .string sq] 31) = w17 at *
  obtain ⟨G16, hG16⟩ : ∃ G, Hid (G = w16.heap.size) := ⟨_, rfl⟩
  rw [← hG16.out] at b16
  try rw [← hG16.out]
  have cb3 := b3.cell
  have cb16 := b16.cell
  go_wp2_with fail
  refine (eqCertificate_same own16.reads r3).mono ?_
  rintro e w18 ⟨rfl, hxw18⟩
  clear cb3 cb16
  replace hw := hw.trans hxw18
  replace b7 := b7.ext hxw18
  replace own13 := own13.ext hxw18
  have cb7 := b7.cell
  go_wp2_with fail
  refine (heldCertificate_any own13 hk7).mono ?_
  rintro e w19 ⟨rfl, hx19⟩
  go_wp2_with fail
  go_ret
  exact ⟨rfl, hw.trans hx19⟩
end Go.Proofs.Ytekobefenngedaa
