/- The law FnExactCheckCertificate, walked: it answers true, and leaves all old memory as it was; printed by gen_lawcc.py. -/
import Derived.Test.YtplllipekeomiaaGreatDoorG20
namespace Go.Proofs.YtplllipekeomiaaGreatDoor
open Go Go.RowKit
set_option maxHeartbeats 4000000

theorem leftOf_room {l : Int} {n : Nat} (h : ¬ leftOf l n < 0) (hl : l ≤ 1048576) : n ≤ 1048576 := by
  unfold leftOf at h
  split at h <;> omega
section
variable {lo hi n c : Nat} {A : Option Addr} {s : Sys} {lo1 hi1 m1 d1 m1' d1' : Nat} {B B' : Option Addr} {p : Aut} {lo2 hi2 k c2 : Nat} {C : Option Addr} {t : Sys} {x : ByteArray} {w : World} {lo3 hi3 m2 d2 m2' d2' : Nat} {D D' : Option Addr} {a : Aut} {hd : Bool}
set_option maxRecDepth 100000 in
theorem law_ExactCheckCertificate (h : SysAt w lo hi A n s) (ht : SysAt w lo2 hi2 C k t) (hp : AutAt w lo1 hi1 B m1 B' m1' p) (ha : AutAt w lo3 hi3 D m2 D' m2' a) (hxs : x.size ≤ 9223372036854775807) (hT : Tab w) :
    Calls Tryz.prog 4 #[.agg #[.int .i64 s.al, .int .i64 s.st, .slice A n c], .agg #[.int .i64 t.al, .int .i64 t.st, .slice C k c2], .agg #[.int .i64 p.al, .slice B m1 d1, .slice B' m1' d1'], .agg #[.bool hd, .int .i64 a.al, .slice D m2 d2, .slice D' m2' d2', .string x]] w fun e w' => e = .returned (.bool true) ∧ Ext w w' := by
  have HS := hide (fun W (hW : Ext w W) => h.ext hW)
  have HS' := hide (fun W (hW : Ext w W) => ht.ext hW)
  have HP := hide (fun W (hW : Ext w W) => hp.ext hW)
  have HA := hide (fun W (hW : Ext w W) => ha.ext hW)
  have HT := hide (fun W (hW : Ext w W) => hT.ext hW)
  have hn := h.2.len
  have hk := ht.2.len
  have hn1 := hide h.1
  have hk1 := hide ht.1
  clear h ht hp ha hT
  have hw1 : Ext w ((((w.alloc (.cells #[.int .i64 s.al, .int .i64 s.st, .slice A n c] 46)).alloc (.cells #[.int .i64 t.al, .int .i64 t.st, .slice C k c2] 46)).alloc (.cells #[.int .i64 p.al, .slice B m1 d1, .slice B' m1' d1'] 26)).alloc (.cells #[.bool hd, .int .i64 a.al, .slice D m2 d2, .slice D' m2' d2', .string x] 48)) := ((((Ext.refl w).alloc _).alloc _).alloc _).alloc _
  obtain ⟨b1, b2, b3, b4⟩ := ext_blk4 (Ext.refl ((((w.alloc (.cells #[.int .i64 s.al, .int .i64 s.st, .slice A n c] 46)).alloc (.cells #[.int .i64 t.al, .int .i64 t.st, .slice C k c2] 46)).alloc (.cells #[.int .i64 p.al, .slice B m1 d1, .slice B' m1' d1'] 26)).alloc (.cells #[.bool hd, .int .i64 a.al, .slice D m2 d2, .slice D' m2' d2', .string x] 48)))
  have h0 : (0 : Int) ≤ 1048576 := by omega
  have h1 : (1048576 : Int) ≤ 1048576 := by omega
  by_cases r1 : leftOf 1048576 n < 0
  · go_enter Tryz.func4, Tryz.ntmps4
    go_upto_region 1 with fail
    generalize (((w.alloc (.cells #[.int .i64 s.al, .int .i64 s.st, .slice A n c] 46)).alloc (.cells #[.int .i64 t.al, .int .i64 t.st, .slice C k c2] 46)).alloc (.cells #[.int .i64 p.al, .slice B m1 d1, .slice B' m1' d1'] 26)).alloc (.cells #[.bool hd, .int .i64 a.al, .slice D m2 d2, .slice D' m2' d2', .string x] 48) = w1 at *
    have c1 : ∀ W, Ext w1 W → ∀ j, W.cell? ⟨w.heap.size, j, none⟩ = #[Value.int .i64 s.al, .int .i64 s.st, .slice A n c][j]? := fun W hW => (b1.ext hW).cell
    have c2' : ∀ W, Ext w1 W → ∀ j, W.cell? ⟨w.heap.size + 1, j, none⟩ = #[Value.int .i64 t.al, .int .i64 t.st, .slice C k c2][j]? := fun W hW => (b2.ext hW).cell
    have c3 : ∀ W, Ext w1 W → ∀ j, W.cell? ⟨w.heap.size + 1 + 1, j, none⟩ = #[Value.int .i64 p.al, .slice B m1 d1, .slice B' m1' d1'][j]? := fun W hW => (b3.ext hW).cell
    have c4 : ∀ W, Ext w1 W → ∀ j, W.cell? ⟨w.heap.size + 1 + 1 + 1, j, none⟩ = #[Value.bool hd, .int .i64 a.al, .slice D m2 d2, .slice D' m2' d2', .string x][j]? := fun W hW => (b4.ext hW).cell
    have hx0 := Ext.refl w1
    go_wp2_with (first
      | (go_at_call 16; with_reducible refine (szSystem_any (A := A) (n := n) (c := c) (al := s.al) (st := s.st) (left := 1048576) hn h0 h1).mono ?_; rintro e w2 ⟨rfl, hx2⟩; have hw2 := hw1.trans hx2)
      | (go_at_call 16; with_reducible refine (szSystem_any (A := C) (n := k) (c := c2) (al := t.al) (st := t.st) (left := leftOf 1048576 n) hk p1 q1).mono ?_; rintro e w3 ⟨rfl, hx3⟩; have hx13 := hx2.trans hx3; have hw3 := hw1.trans hx13)
      | (go_at_call 6; with_reducible refine (szAutomaton_any _ _ _ _ _ _ _ _ _ _ _ (HP.out _ hw3) p2 q2).mono ?_; rintro e w4 ⟨rfl, hx4⟩; have hx14 := hx13.trans hx4; have hw4 := hw1.trans hx14)
      | (go_at_call 17; with_reducible refine (szCertificate_any _ _ _ _ _ _ _ _ _ _ _ _ _ (HA.out _ hw4) hxs p3 q3).mono ?_; rintro e w5 ⟨rfl, hx5⟩; have hx15 := hx14.trans hx5; have hw5 := hw1.trans hx15))
    go_ret
    exact ⟨rfl, hw2⟩
  have p1 : 0 ≤ leftOf 1048576 n := by omega
  have q1 := leftOf_le (1048576) (n) h1
  have s1 := leftOf_room r1 h1
  by_cases r2 : leftOf (leftOf 1048576 n) k < 0
  · go_enter Tryz.func4, Tryz.ntmps4
    go_upto_region 1 with fail
    generalize (((w.alloc (.cells #[.int .i64 s.al, .int .i64 s.st, .slice A n c] 46)).alloc (.cells #[.int .i64 t.al, .int .i64 t.st, .slice C k c2] 46)).alloc (.cells #[.int .i64 p.al, .slice B m1 d1, .slice B' m1' d1'] 26)).alloc (.cells #[.bool hd, .int .i64 a.al, .slice D m2 d2, .slice D' m2' d2', .string x] 48) = w1 at *
    have c1 : ∀ W, Ext w1 W → ∀ j, W.cell? ⟨w.heap.size, j, none⟩ = #[Value.int .i64 s.al, .int .i64 s.st, .slice A n c][j]? := fun W hW => (b1.ext hW).cell
    have c2' : ∀ W, Ext w1 W → ∀ j, W.cell? ⟨w.heap.size + 1, j, none⟩ = #[Value.int .i64 t.al, .int .i64 t.st, .slice C k c2][j]? := fun W hW => (b2.ext hW).cell
    have c3 : ∀ W, Ext w1 W → ∀ j, W.cell? ⟨w.heap.size + 1 + 1, j, none⟩ = #[Value.int .i64 p.al, .slice B m1 d1, .slice B' m1' d1'][j]? := fun W hW => (b3.ext hW).cell
    have c4 : ∀ W, Ext w1 W → ∀ j, W.cell? ⟨w.heap.size + 1 + 1 + 1, j, none⟩ = #[Value.bool hd, .int .i64 a.al, .slice D m2 d2, .slice D' m2' d2', .string x][j]? := fun W hW => (b4.ext hW).cell
    have hx0 := Ext.refl w1
    go_wp2_with (first
      | (go_at_call 16; with_reducible refine (szSystem_any (A := A) (n := n) (c := c) (al := s.al) (st := s.st) (left := 1048576) hn h0 h1).mono ?_; rintro e w2 ⟨rfl, hx2⟩; have hw2 := hw1.trans hx2)
      | (go_at_call 16; with_reducible refine (szSystem_any (A := C) (n := k) (c := c2) (al := t.al) (st := t.st) (left := leftOf 1048576 n) hk p1 q1).mono ?_; rintro e w3 ⟨rfl, hx3⟩; have hx13 := hx2.trans hx3; have hw3 := hw1.trans hx13)
      | (go_at_call 6; with_reducible refine (szAutomaton_any _ _ _ _ _ _ _ _ _ _ _ (HP.out _ hw3) p2 q2).mono ?_; rintro e w4 ⟨rfl, hx4⟩; have hx14 := hx13.trans hx4; have hw4 := hw1.trans hx14)
      | (go_at_call 17; with_reducible refine (szCertificate_any _ _ _ _ _ _ _ _ _ _ _ _ _ (HA.out _ hw4) hxs p3 q3).mono ?_; rintro e w5 ⟨rfl, hx5⟩; have hx15 := hx14.trans hx5; have hw5 := hw1.trans hx15))
    go_ret
    exact ⟨rfl, hw3⟩
  have p2 : 0 ≤ leftOf (leftOf 1048576 n) k := by omega
  have q2 := leftOf_le (leftOf 1048576 n) (k) q1
  have s2 := leftOf_room r2 q1
  by_cases r3 : leftOf (leftOf (leftOf 1048576 n) k) p.size < 0
  · go_enter Tryz.func4, Tryz.ntmps4
    go_upto_region 1 with fail
    generalize (((w.alloc (.cells #[.int .i64 s.al, .int .i64 s.st, .slice A n c] 46)).alloc (.cells #[.int .i64 t.al, .int .i64 t.st, .slice C k c2] 46)).alloc (.cells #[.int .i64 p.al, .slice B m1 d1, .slice B' m1' d1'] 26)).alloc (.cells #[.bool hd, .int .i64 a.al, .slice D m2 d2, .slice D' m2' d2', .string x] 48) = w1 at *
    have c1 : ∀ W, Ext w1 W → ∀ j, W.cell? ⟨w.heap.size, j, none⟩ = #[Value.int .i64 s.al, .int .i64 s.st, .slice A n c][j]? := fun W hW => (b1.ext hW).cell
    have c2' : ∀ W, Ext w1 W → ∀ j, W.cell? ⟨w.heap.size + 1, j, none⟩ = #[Value.int .i64 t.al, .int .i64 t.st, .slice C k c2][j]? := fun W hW => (b2.ext hW).cell
    have c3 : ∀ W, Ext w1 W → ∀ j, W.cell? ⟨w.heap.size + 1 + 1, j, none⟩ = #[Value.int .i64 p.al, .slice B m1 d1, .slice B' m1' d1'][j]? := fun W hW => (b3.ext hW).cell
    have c4 : ∀ W, Ext w1 W → ∀ j, W.cell? ⟨w.heap.size + 1 + 1 + 1, j, none⟩ = #[Value.bool hd, .int .i64 a.al, .slice D m2 d2, .slice D' m2' d2', .string x][j]? := fun W hW => (b4.ext hW).cell
    have hx0 := Ext.refl w1
    go_wp2_with (first
      | (go_at_call 16; with_reducible refine (szSystem_any (A := A) (n := n) (c := c) (al := s.al) (st := s.st) (left := 1048576) hn h0 h1).mono ?_; rintro e w2 ⟨rfl, hx2⟩; have hw2 := hw1.trans hx2)
      | (go_at_call 16; with_reducible refine (szSystem_any (A := C) (n := k) (c := c2) (al := t.al) (st := t.st) (left := leftOf 1048576 n) hk p1 q1).mono ?_; rintro e w3 ⟨rfl, hx3⟩; have hx13 := hx2.trans hx3; have hw3 := hw1.trans hx13)
      | (go_at_call 6; with_reducible refine (szAutomaton_any _ _ _ _ _ _ _ _ _ _ _ (HP.out _ hw3) p2 q2).mono ?_; rintro e w4 ⟨rfl, hx4⟩; have hx14 := hx13.trans hx4; have hw4 := hw1.trans hx14)
      | (go_at_call 17; with_reducible refine (szCertificate_any _ _ _ _ _ _ _ _ _ _ _ _ _ (HA.out _ hw4) hxs p3 q3).mono ?_; rintro e w5 ⟨rfl, hx5⟩; have hx15 := hx14.trans hx5; have hw5 := hw1.trans hx15))
    go_ret
    exact ⟨rfl, hw4⟩
  have p3 : 0 ≤ leftOf (leftOf (leftOf 1048576 n) k) p.size := by omega
  have q3 := leftOf_le (leftOf (leftOf 1048576 n) k) (p.size) q2
  have s3 := leftOf_room r3 q2
  by_cases r4 : leftOf (leftOf (leftOf (leftOf 1048576 n) k) p.size) (a.size + x.size) < 0
  · go_enter Tryz.func4, Tryz.ntmps4
    go_upto_region 1 with fail
    generalize (((w.alloc (.cells #[.int .i64 s.al, .int .i64 s.st, .slice A n c] 46)).alloc (.cells #[.int .i64 t.al, .int .i64 t.st, .slice C k c2] 46)).alloc (.cells #[.int .i64 p.al, .slice B m1 d1, .slice B' m1' d1'] 26)).alloc (.cells #[.bool hd, .int .i64 a.al, .slice D m2 d2, .slice D' m2' d2', .string x] 48) = w1 at *
    have c1 : ∀ W, Ext w1 W → ∀ j, W.cell? ⟨w.heap.size, j, none⟩ = #[Value.int .i64 s.al, .int .i64 s.st, .slice A n c][j]? := fun W hW => (b1.ext hW).cell
    have c2' : ∀ W, Ext w1 W → ∀ j, W.cell? ⟨w.heap.size + 1, j, none⟩ = #[Value.int .i64 t.al, .int .i64 t.st, .slice C k c2][j]? := fun W hW => (b2.ext hW).cell
    have c3 : ∀ W, Ext w1 W → ∀ j, W.cell? ⟨w.heap.size + 1 + 1, j, none⟩ = #[Value.int .i64 p.al, .slice B m1 d1, .slice B' m1' d1'][j]? := fun W hW => (b3.ext hW).cell
    have c4 : ∀ W, Ext w1 W → ∀ j, W.cell? ⟨w.heap.size + 1 + 1 + 1, j, none⟩ = #[Value.bool hd, .int .i64 a.al, .slice D m2 d2, .slice D' m2' d2', .string x][j]? := fun W hW => (b4.ext hW).cell
    have hx0 := Ext.refl w1
    go_wp2_with (first
      | (go_at_call 16; with_reducible refine (szSystem_any (A := A) (n := n) (c := c) (al := s.al) (st := s.st) (left := 1048576) hn h0 h1).mono ?_; rintro e w2 ⟨rfl, hx2⟩; have hw2 := hw1.trans hx2)
      | (go_at_call 16; with_reducible refine (szSystem_any (A := C) (n := k) (c := c2) (al := t.al) (st := t.st) (left := leftOf 1048576 n) hk p1 q1).mono ?_; rintro e w3 ⟨rfl, hx3⟩; have hx13 := hx2.trans hx3; have hw3 := hw1.trans hx13)
      | (go_at_call 6; with_reducible refine (szAutomaton_any _ _ _ _ _ _ _ _ _ _ _ (HP.out _ hw3) p2 q2).mono ?_; rintro e w4 ⟨rfl, hx4⟩; have hx14 := hx13.trans hx4; have hw4 := hw1.trans hx14)
      | (go_at_call 17; with_reducible refine (szCertificate_any _ _ _ _ _ _ _ _ _ _ _ _ _ (HA.out _ hw4) hxs p3 q3).mono ?_; rintro e w5 ⟨rfl, hx5⟩; have hx15 := hx14.trans hx5; have hw5 := hw1.trans hx15))
    go_ret
    exact ⟨rfl, hw5⟩
  have p4 : 0 ≤ leftOf (leftOf (leftOf (leftOf 1048576 n) k) p.size) (a.size + x.size) := by omega
  have q4 := leftOf_le (leftOf (leftOf (leftOf 1048576 n) k) p.size) ((a.size + x.size)) q3
  have s4 := leftOf_room r4 q3
  have z1 := s1
  have z2 := s2
  have z3 : p.size ≤ 1048576 := s3
  have z4 : a.size ≤ 1048576 := by omega
  clear s1 s2 s3 s4
  generalize hfa : checkZ s t p hd a x = cv
  have Hfa := hide hfa
  clear hfa
  go_enter Tryz.func4, Tryz.ntmps4
  go_upto_region 1 with fail
  generalize (((w.alloc (.cells #[.int .i64 s.al, .int .i64 s.st, .slice A n c] 46)).alloc (.cells #[.int .i64 t.al, .int .i64 t.st, .slice C k c2] 46)).alloc (.cells #[.int .i64 p.al, .slice B m1 d1, .slice B' m1' d1'] 26)).alloc (.cells #[.bool hd, .int .i64 a.al, .slice D m2 d2, .slice D' m2' d2', .string x] 48) = w1 at *
  have c1 : ∀ W, Ext w1 W → ∀ j, W.cell? ⟨w.heap.size, j, none⟩ = #[Value.int .i64 s.al, .int .i64 s.st, .slice A n c][j]? := fun W hW => (b1.ext hW).cell
  have c2' : ∀ W, Ext w1 W → ∀ j, W.cell? ⟨w.heap.size + 1, j, none⟩ = #[Value.int .i64 t.al, .int .i64 t.st, .slice C k c2][j]? := fun W hW => (b2.ext hW).cell
  have c3 : ∀ W, Ext w1 W → ∀ j, W.cell? ⟨w.heap.size + 1 + 1, j, none⟩ = #[Value.int .i64 p.al, .slice B m1 d1, .slice B' m1' d1'][j]? := fun W hW => (b3.ext hW).cell
  have c4 : ∀ W, Ext w1 W → ∀ j, W.cell? ⟨w.heap.size + 1 + 1 + 1, j, none⟩ = #[Value.bool hd, .int .i64 a.al, .slice D m2 d2, .slice D' m2' d2', .string x][j]? := fun W hW => (b4.ext hW).cell
  have hx0 := Ext.refl w1
  go_upto_region 14 with (first
    | (go_at_call 16; with_reducible refine (szSystem_any (A := A) (n := n) (c := c) (al := s.al) (st := s.st) (left := 1048576) hn h0 h1).mono ?_; rintro e w2 ⟨rfl, hx2⟩; have hw2 := hw1.trans hx2)
    | (go_at_call 16; with_reducible refine (szSystem_any (A := C) (n := k) (c := c2) (al := t.al) (st := t.st) (left := leftOf 1048576 n) hk p1 q1).mono ?_; rintro e w3 ⟨rfl, hx3⟩; have hx13 := hx2.trans hx3; have hw3 := hw1.trans hx13)
    | (go_at_call 6; with_reducible refine (szAutomaton_any _ _ _ _ _ _ _ _ _ _ _ (HP.out _ hw3) p2 q2).mono ?_; rintro e w4 ⟨rfl, hx4⟩; have hx14 := hx13.trans hx4; have hw4 := hw1.trans hx14)
    | (go_at_call 17; with_reducible refine (szCertificate_any _ _ _ _ _ _ _ _ _ _ _ _ _ (HA.out _ hw4) hxs p3 q3).mono ?_; rintro e w5 ⟨rfl, hx5⟩; have hx15 := hx14.trans hx5; have hw5 := hw1.trans hx15))
  have HB := hide (fun W (hW : Ext w5 W) => And.intro (c1 W (hx15.trans hW)) (And.intro (c2' W (hx15.trans hW)) (And.intro (c3 W (hx15.trans hW)) (c4 W (hx15.trans hW)))))
  clear r1 r2 r3 r4 p1 p2 p3 p4 q1 q2 q3 q4 c1 c2' c3 c4 b1 b2 b3 b4 hw1 hw2 hw3 hw4 hx0 hx2 hx3 hx4 hx5 hx13 hx14 hx15 h0 h1
  go_cut [10] (fun v wx => v = .int .i64 cv ∧ Ext w5 wx)
  case first =>
    have k1 : ∀ W, Ext w5 W → ∀ j, W.cell? ⟨w.heap.size, j, none⟩ = #[Value.int .i64 s.al, .int .i64 s.st, .slice A n c][j]? := fun W hW => (HB.out W hW).1
    have k2 : ∀ W, Ext w5 W → ∀ j, W.cell? ⟨w.heap.size + 1, j, none⟩ = #[Value.int .i64 t.al, .int .i64 t.st, .slice C k c2][j]? := fun W hW => (HB.out W hW).2.1
    have k3 : ∀ W, Ext w5 W → ∀ j, W.cell? ⟨w.heap.size + 1 + 1, j, none⟩ = #[Value.int .i64 p.al, .slice B m1 d1, .slice B' m1' d1'][j]? := fun W hW => (HB.out W hW).2.2.1
    have k4 : ∀ W, Ext w5 W → ∀ j, W.cell? ⟨w.heap.size + 1 + 1 + 1, j, none⟩ = #[Value.bool hd, .int .i64 a.al, .slice D m2 d2, .slice D' m2' d2', .string x][j]? := fun W hW => (HB.out W hW).2.2.2
    have hww := Ext.refl w5
    refine wp_region_tailU (fun X => Ext w5 X) [7, 8] (OrdU.of [0, 2, 4, 6, 1, 3, 5, 7, 8, 9]) (by kernel_rfl) (by kernel_rfl) (by kernel_rfl) (by kernel_rfl) (by kernel_rfl) (fun _ _ _ _ _ h => h) (by first | assumption | exact (Ext.refl _).drew | (refine Ext.drew ?_; assumption)) ?_
    repeat (first | (refine useq_skip rfl rfl (by assumption) ?_; simp only [Act.put, List.setIfInBounds_toArray, List.set_cons_zero, List.set_cons_succ]) | (refine useq_pure (v := ?_) rfl rfl rfl rfl (fun X => ?_) ?_; rotate_left; (focus (go_simp <;> with_reducible rfl)); simp only [Act.put, List.setIfInBounds_toArray, List.set_cons_zero, List.set_cons_succ]) | (refine useq_read (v := ?_) rfl rfl rfl rfl (fun X hX => ?_) ?_; rotate_left; (focus (go_simp <;> with_reducible rfl)); simp only [Act.put, List.setIfInBounds_toArray, List.set_cons_zero, List.set_cons_succ]))
    (refine useq_step rfl rfl rfl (fun K hK => ?_); go_simp)
    refine (toSystem_any (HS.out _ (hw5.trans hww.drew)) z1).mono ?_
    rintro e w6 ⟨E, ne, ce, rfl, hown6, hx6⟩
    have hx56 := hww.drew.trans hx6
    refine hK.out _ _ hx56 ?_
    (try simp only [Act.put, List.setIfInBounds_toArray, List.set_cons_zero, List.set_cons_succ])
    repeat (first | (refine useq_skip rfl rfl (by assumption) ?_; simp only [Act.put, List.setIfInBounds_toArray, List.set_cons_zero, List.set_cons_succ]) | (refine useq_pure (v := ?_) rfl rfl rfl rfl (fun X => ?_) ?_; rotate_left; (focus (go_simp <;> with_reducible rfl)); simp only [Act.put, List.setIfInBounds_toArray, List.set_cons_zero, List.set_cons_succ]) | (refine useq_read (v := ?_) rfl rfl rfl rfl (fun X hX => ?_) ?_; rotate_left; (focus (go_simp <;> with_reducible rfl)); simp only [Act.put, List.setIfInBounds_toArray, List.set_cons_zero, List.set_cons_succ]))
    (refine useq_step rfl rfl rfl (fun K hK => ?_); go_simp)
    refine (toSystem_any (HS'.out _ (hw5.trans hx56)) z2).mono ?_
    rintro e w7 ⟨F, nf, cf, rfl, hown7, hx7⟩
    have hx57 := hx56.trans hx7
    refine hK.out _ _ hx57 ?_
    (try simp only [Act.put, List.setIfInBounds_toArray, List.set_cons_zero, List.set_cons_succ])
    repeat (first | (refine useq_skip rfl rfl (by assumption) ?_; simp only [Act.put, List.setIfInBounds_toArray, List.set_cons_zero, List.set_cons_succ]) | (refine useq_pure (v := ?_) rfl rfl rfl rfl (fun X => ?_) ?_; rotate_left; (focus (go_simp <;> with_reducible rfl)); simp only [Act.put, List.setIfInBounds_toArray, List.set_cons_zero, List.set_cons_succ]) | (refine useq_read (v := ?_) rfl rfl rfl rfl (fun X hX => ?_) ?_; rotate_left; (focus (go_simp <;> with_reducible rfl)); simp only [Act.put, List.setIfInBounds_toArray, List.set_cons_zero, List.set_cons_succ]))
    (refine useq_step rfl rfl rfl (fun K hK => ?_); go_simp)
    refine (toAutomaton_any _ _ _ _ _ _ _ _ _ _ (HP.out _ (hw5.trans hx57)) z3).mono ?_
    rintro e w8 ⟨G, x8, y8, G', x8', y8', rfl, hown8, hx8⟩
    have hx58 := hx57.trans hx8
    refine hK.out _ _ hx58 ?_
    (try simp only [Act.put, List.setIfInBounds_toArray, List.set_cons_zero, List.set_cons_succ])
    repeat (first | (refine useq_skip rfl rfl (by assumption) ?_; simp only [Act.put, List.setIfInBounds_toArray, List.set_cons_zero, List.set_cons_succ]) | (refine useq_pure (v := ?_) rfl rfl rfl rfl (fun X => ?_) ?_; rotate_left; (focus (go_simp <;> with_reducible rfl)); simp only [Act.put, List.setIfInBounds_toArray, List.set_cons_zero, List.set_cons_succ]) | (refine useq_read (v := ?_) rfl rfl rfl rfl (fun X hX => ?_) ?_; rotate_left; (focus (go_simp <;> with_reducible rfl)); simp only [Act.put, List.setIfInBounds_toArray, List.set_cons_zero, List.set_cons_succ]))
    (refine useq_last rfl rfl rfl rfl (fun K hK => ?_))
    go_simp
    refine (toCertificate_any _ _ _ _ _ _ _ _ _ _ _ _ (HA.out _ (hw5.trans hx58)) z4).mono ?_
    rintro e w9 ⟨H, x9, y9, H', x9', y9', rfl, hown9, hx9⟩
    have hx59 := hx58.trans hx9
    refine hK.out _ _ ?_
    (try simp only [Act.put, List.setIfInBounds_toArray, List.set_cons_zero, List.set_cons_succ])
    repeat (first | (refine useq_skip rfl rfl (by assumption) ?_; simp only [Act.put, List.setIfInBounds_toArray, List.set_cons_zero, List.set_cons_succ]) | (refine useq_pure (v := ?_) rfl rfl rfl rfl (fun X => ?_) ?_; rotate_left; (focus (go_simp <;> with_reducible rfl)); simp only [Act.put, List.setIfInBounds_toArray, List.set_cons_zero, List.set_cons_succ]) | (refine useq_read (v := ?_) rfl rfl rfl rfl (fun X hX => ?_) ?_; rotate_left; (focus (go_simp <;> with_reducible rfl)); simp only [Act.put, List.setIfInBounds_toArray, List.set_cons_zero, List.set_cons_succ]))
    (refine useq_last rfl rfl rfl rfl (fun K hK => ?_))
    go_simp
    refine (spec_CheckCertificate (hown6.reads.ext (hx7.trans (hx8.trans hx9))) (hown7.reads.ext (hx8.trans hx9)) (hown8.reads.ext hx9) hown9.reads hxs).mono ?_
    rw [Hfa.out]
    rintro e w10 ⟨rfl, hx10⟩
    refine hK.out _ _ ?_
    (try simp only [Act.put, List.setIfInBounds_toArray, List.set_cons_zero, List.set_cons_succ])
    repeat (first | (refine useq_skip rfl rfl (by assumption) ?_; simp only [Act.put, List.setIfInBounds_toArray, List.set_cons_zero, List.set_cons_succ]) | (refine useq_pure (v := ?_) rfl rfl rfl rfl (fun X => ?_) ?_; rotate_left; (focus (go_simp <;> with_reducible rfl)); simp only [Act.put, List.setIfInBounds_toArray, List.set_cons_zero, List.set_cons_succ]) | (refine useq_read (v := ?_) rfl rfl rfl rfl (fun X hX => ?_) ?_; rotate_left; (focus (go_simp <;> with_reducible rfl)); simp only [Act.put, List.setIfInBounds_toArray, List.set_cons_zero, List.set_cons_succ]))
    refine useq_nil ?_
    go_wp2_with fail
    go_meet
    exact ⟨rfl, hx59.trans hx10⟩
  case rest =>
    obtain ⟨rfl, hxc⟩ := hcut
    rename World => w6
    have hw6 := hw5.trans hxc
    have HB6 := hide (fun W (hW : Ext w6 W) => HB.out W (hxc.trans hW))
    clear HB hxc
    have k1 : ∀ W, Ext w6 W → ∀ j, W.cell? ⟨w.heap.size, j, none⟩ = #[Value.int .i64 s.al, .int .i64 s.st, .slice A n c][j]? := fun W hW => (HB6.out W hW).1
    have k2 : ∀ W, Ext w6 W → ∀ j, W.cell? ⟨w.heap.size + 1, j, none⟩ = #[Value.int .i64 t.al, .int .i64 t.st, .slice C k c2][j]? := fun W hW => (HB6.out W hW).2.1
    have k3 : ∀ W, Ext w6 W → ∀ j, W.cell? ⟨w.heap.size + 1 + 1, j, none⟩ = #[Value.int .i64 p.al, .slice B m1 d1, .slice B' m1' d1'][j]? := fun W hW => (HB6.out W hW).2.2.1
    have k4 : ∀ W, Ext w6 W → ∀ j, W.cell? ⟨w.heap.size + 1 + 1 + 1, j, none⟩ = #[Value.bool hd, .int .i64 a.al, .slice D m2 d2, .slice D' m2' d2', .string x][j]? := fun W hW => (HB6.out W hW).2.2.2
    have y0 := Ext.refl w6
    go_upto_region 16 with (go_at_call 19; refine (toSystem_any (HS.out _ (hw6.trans y0)) z1).mono ?_; rintro e v0 ⟨E, ne, ce, rfl, hown0, hv0⟩)
    have e0 := Blk.new v0 54 #[.int .i64 s.al, .int .i64 s.st, .slice E ne ce]
    have o0 := hown0.reads.ext ((Ext.refl v0).alloc (.cells #[.int .i64 s.al, .int .i64 s.st, .slice E ne ce] 54))
    have y1 := y0.trans (hv0.alloc (.cells #[.int .i64 s.al, .int .i64 s.st, .slice E ne ce] 54))
    generalize hg0 : v0.heap.size = g0 at *
    generalize hu0 : v0.alloc (.cells #[.int .i64 s.al, .int .i64 s.st, .slice E ne ce] 54) = u0 at *
    have d0 := hv0.alloc (.cells #[.int .i64 s.al, .int .i64 s.st, .slice E ne ce] 54)
    rw [hu0] at d0
    go_upto_region 17 with (go_at_call 19; refine (toSystem_any (HS'.out _ (hw6.trans y1)) z2).mono ?_; rintro e v1 ⟨F, nf, cf, rfl, hown1, hv1⟩)
    have e1 := Blk.new v1 54 #[.int .i64 t.al, .int .i64 t.st, .slice F nf cf]
    have o1 := hown1.reads.ext ((Ext.refl v1).alloc (.cells #[.int .i64 t.al, .int .i64 t.st, .slice F nf cf] 54))
    have y2 := y1.trans (hv1.alloc (.cells #[.int .i64 t.al, .int .i64 t.st, .slice F nf cf] 54))
    generalize hg1 : v1.heap.size = g1 at *
    generalize hu1 : v1.alloc (.cells #[.int .i64 t.al, .int .i64 t.st, .slice F nf cf] 54) = u1 at *
    have d1 := hv1.alloc (.cells #[.int .i64 t.al, .int .i64 t.st, .slice F nf cf] 54)
    rw [hu1] at d1
    go_upto_region 18 with (go_at_call 10; refine (toAutomaton_any _ _ _ _ _ _ _ _ _ _ (HP.out _ (hw6.trans y2)) z3).mono ?_; rintro e v2 ⟨G, x8, y8, G', x8', y8', rfl, hown2, hv2⟩)
    have e2 := Blk.new v2 35 #[.int .i64 p.al, .slice G x8 y8, .slice G' x8' y8']
    have o2 := hown2.reads.ext ((Ext.refl v2).alloc (.cells #[.int .i64 p.al, .slice G x8 y8, .slice G' x8' y8'] 35))
    have y3 := y2.trans (hv2.alloc (.cells #[.int .i64 p.al, .slice G x8 y8, .slice G' x8' y8'] 35))
    generalize hg2 : v2.heap.size = g2 at *
    generalize hu2 : v2.alloc (.cells #[.int .i64 p.al, .slice G x8 y8, .slice G' x8' y8'] 35) = u2 at *
    have d2 := hv2.alloc (.cells #[.int .i64 p.al, .slice G x8 y8, .slice G' x8' y8'] 35)
    rw [hu2] at d2
    go_upto_region 19 with (go_at_call 20; refine (toCertificate_any _ _ _ _ _ _ _ _ _ _ _ _ (HA.out _ (hw6.trans y3)) z4).mono ?_; rintro e v3 ⟨H, x9, y9, H', x9', y9', rfl, hown3, hv3⟩)
    have e3 := Blk.new v3 57 #[.bool hd, .int .i64 a.al, .slice H x9 y9, .slice H' x9' y9', .string x]
    have o3 := hown3.reads.ext ((Ext.refl v3).alloc (.cells #[.bool hd, .int .i64 a.al, .slice H x9 y9, .slice H' x9' y9', .string x] 57))
    have y4 := y3.trans (hv3.alloc (.cells #[.bool hd, .int .i64 a.al, .slice H x9 y9, .slice H' x9' y9', .string x] 57))
    generalize hg3 : v3.heap.size = g3 at *
    generalize hu3 : v3.alloc (.cells #[.bool hd, .int .i64 a.al, .slice H x9 y9, .slice H' x9' y9', .string x] 57) = u3 at *
    have d3 := hv3.alloc (.cells #[.bool hd, .int .i64 a.al, .slice H x9 y9, .slice H' x9' y9', .string x] 57)
    rw [hu3] at d3
    have E0 := e0.ext (d1.trans (d2.trans d3))
    have O0 := o0.ext (d1.trans (d2.trans d3))
    have E1 := e1.ext (d2.trans d3)
    have O1 := o1.ext (d2.trans d3)
    have E2 := e2.ext d3
    have O2 := o2.ext d3
    have E3 := e3
    have O3 := o3
    have f0 : ∀ W, Ext u3 W → ∀ j, W.cell? ⟨g0, j, none⟩ = #[Value.int .i64 s.al, .int .i64 s.st, .slice E ne ce][j]? := fun W hW => (E0.ext hW).cell
    have f1 : ∀ W, Ext u3 W → ∀ j, W.cell? ⟨g1, j, none⟩ = #[Value.int .i64 t.al, .int .i64 t.st, .slice F nf cf][j]? := fun W hW => (E1.ext hW).cell
    have f2 : ∀ W, Ext u3 W → ∀ j, W.cell? ⟨g2, j, none⟩ = #[Value.int .i64 p.al, .slice G x8 y8, .slice G' x8' y8'][j]? := fun W hW => (E2.ext hW).cell
    have f3 : ∀ W, Ext u3 W → ∀ j, W.cell? ⟨g3, j, none⟩ = #[Value.bool hd, .int .i64 a.al, .slice H x9 y9, .slice H' x9' y9', .string x][j]? := fun W hW => (E3.ext hW).cell
    clear e0 e1 e2 e3 o0 o1 o2 o3 k1 k2 k3 k4 hown0 hown1 hown2 hown3 hv0 hv1 hv2 hv3 d0 d1 d2 d3 y0 y1 y2 y3 hu0 hu1 hu2 hu3 hg0 hg1 hg2 hg3
    have x0 := Ext.refl u3
    have hw7 := hw6.trans y4
    go_upto_region 20 with (go_at_call 21; refine (impl_CheckCertificate O0 O1 O2 O3 hxs (HT.out _ hw7)).mono ?_; rw [Hfa.out]; rintro e r0 ⟨rfl, z0⟩)
    go_upto_region 22 with fail
    have k1 : ∀ W, Ext r0 W → ∀ j, W.cell? ⟨w.heap.size, j, none⟩ = #[Value.int .i64 s.al, .int .i64 s.st, .slice A n c][j]? := fun W hW => (HB6.out W (y4.trans (z0.trans hW))).1
    have l1 : ∀ W, Ext r0 W → ∀ j, W.cell? ⟨g0, j, none⟩ = #[Value.int .i64 s.al, .int .i64 s.st, .slice E ne ce][j]? := fun W hW => f0 W (z0.trans hW)
    have hww := Ext.refl r0
    refine wp_region_tailU (fun X => Ext r0 X) [3] (OrdU.of [0, 1, 2, 3, 4]) (by kernel_rfl) (by kernel_rfl) (by kernel_rfl) (by kernel_rfl) (by kernel_rfl) (fun _ _ _ _ _ h => h) (by first | assumption | exact (Ext.refl _).drew | (refine Ext.drew ?_; assumption)) ?_
    repeat (first | (refine useq_skip rfl rfl (by assumption) ?_; simp only [Act.put, List.setIfInBounds_toArray, List.set_cons_zero, List.set_cons_succ]) | (refine useq_pure (v := ?_) rfl rfl rfl rfl (fun X => ?_) ?_; rotate_left; (focus (go_simp <;> with_reducible rfl)); simp only [Act.put, List.setIfInBounds_toArray, List.set_cons_zero, List.set_cons_succ]) | (refine useq_read (v := ?_) rfl rfl rfl rfl (fun X hX => ?_) ?_; rotate_left; (focus (go_simp <;> with_reducible rfl)); simp only [Act.put, List.setIfInBounds_toArray, List.set_cons_zero, List.set_cons_succ]))
    (refine useq_step rfl rfl rfl (fun K hK => ?_); go_simp)
    refine (toSystem_any (HS.out _ (hw7.trans (z0.trans hww.drew))) z1).mono ?_
    rintro e q0 ⟨E2, ne2, ce2, rfl, hown, hxq⟩
    have hxx := hww.drew.trans hxq
    refine hK.out _ _ hxx ?_
    (try simp only [Act.put, List.setIfInBounds_toArray, List.set_cons_zero, List.set_cons_succ])
    repeat (first | (refine useq_skip rfl rfl (by assumption) ?_; simp only [Act.put, List.setIfInBounds_toArray, List.set_cons_zero, List.set_cons_succ]) | (refine useq_pure (v := ?_) rfl rfl rfl rfl (fun X => ?_) ?_; rotate_left; (focus (go_simp <;> with_reducible rfl)); simp only [Act.put, List.setIfInBounds_toArray, List.set_cons_zero, List.set_cons_succ]) | (refine useq_read (v := ?_) rfl rfl rfl rfl (fun X hX => ?_) ?_; rotate_left; (focus (go_simp <;> with_reducible rfl)); simp only [Act.put, List.setIfInBounds_toArray, List.set_cons_zero, List.set_cons_succ]))
    (refine useq_last rfl rfl rfl rfl (fun K hK => ?_))
    go_simp
    have hsame := hide (sysEq_self s)
    refine (eqSystem_any (O0.ext (z0.trans hxx)) hown.reads).mono ?_
    rw [hsame.out]
    rintro e t0 ⟨rfl, hxe⟩
    refine hK.out _ _ ?_
    (try simp only [Act.put, List.setIfInBounds_toArray, List.set_cons_zero, List.set_cons_succ])
    repeat (first | (refine useq_skip rfl rfl (by assumption) ?_; simp only [Act.put, List.setIfInBounds_toArray, List.set_cons_zero, List.set_cons_succ]) | (refine useq_pure (v := ?_) rfl rfl rfl rfl (fun X => ?_) ?_; rotate_left; (focus (go_simp <;> with_reducible rfl)); simp only [Act.put, List.setIfInBounds_toArray, List.set_cons_zero, List.set_cons_succ]) | (refine useq_read (v := ?_) rfl rfl rfl rfl (fun X hX => ?_) ?_; rotate_left; (focus (go_simp <;> with_reducible rfl)); simp only [Act.put, List.setIfInBounds_toArray, List.set_cons_zero, List.set_cons_succ]))
    refine useq_nil ?_
    have z0 := z0.trans (hxx.trans hxe)
    clear k1 l1 hww hown hxq hxx hxe hK hsame
    go_upto_region 24 with fail
    have k2 : ∀ W, Ext t0 W → ∀ j, W.cell? ⟨w.heap.size + 1, j, none⟩ = #[Value.int .i64 t.al, .int .i64 t.st, .slice C k c2][j]? := fun W hW => (HB6.out W (y4.trans (z0.trans hW))).2.1
    have l2 : ∀ W, Ext t0 W → ∀ j, W.cell? ⟨g1, j, none⟩ = #[Value.int .i64 t.al, .int .i64 t.st, .slice F nf cf][j]? := fun W hW => f1 W (z0.trans hW)
    have hww := Ext.refl t0
    refine wp_region_tailU (fun X => Ext t0 X) [3] (OrdU.of [0, 1, 2, 3, 4]) (by kernel_rfl) (by kernel_rfl) (by kernel_rfl) (by kernel_rfl) (by kernel_rfl) (fun _ _ _ _ _ h => h) (by first | assumption | exact (Ext.refl _).drew | (refine Ext.drew ?_; assumption)) ?_
    repeat (first | (refine useq_skip rfl rfl (by assumption) ?_; simp only [Act.put, List.setIfInBounds_toArray, List.set_cons_zero, List.set_cons_succ]) | (refine useq_pure (v := ?_) rfl rfl rfl rfl (fun X => ?_) ?_; rotate_left; (focus (go_simp <;> with_reducible rfl)); simp only [Act.put, List.setIfInBounds_toArray, List.set_cons_zero, List.set_cons_succ]) | (refine useq_read (v := ?_) rfl rfl rfl rfl (fun X hX => ?_) ?_; rotate_left; (focus (go_simp <;> with_reducible rfl)); simp only [Act.put, List.setIfInBounds_toArray, List.set_cons_zero, List.set_cons_succ]))
    (refine useq_step rfl rfl rfl (fun K hK => ?_); go_simp)
    refine (toSystem_any (HS'.out _ (hw7.trans (z0.trans hww.drew))) z2).mono ?_
    rintro e q1 ⟨E2, ne2, ce2, rfl, hown, hxq⟩
    have hxx := hww.drew.trans hxq
    refine hK.out _ _ hxx ?_
    (try simp only [Act.put, List.setIfInBounds_toArray, List.set_cons_zero, List.set_cons_succ])
    repeat (first | (refine useq_skip rfl rfl (by assumption) ?_; simp only [Act.put, List.setIfInBounds_toArray, List.set_cons_zero, List.set_cons_succ]) | (refine useq_pure (v := ?_) rfl rfl rfl rfl (fun X => ?_) ?_; rotate_left; (focus (go_simp <;> with_reducible rfl)); simp only [Act.put, List.setIfInBounds_toArray, List.set_cons_zero, List.set_cons_succ]) | (refine useq_read (v := ?_) rfl rfl rfl rfl (fun X hX => ?_) ?_; rotate_left; (focus (go_simp <;> with_reducible rfl)); simp only [Act.put, List.setIfInBounds_toArray, List.set_cons_zero, List.set_cons_succ]))
    (refine useq_last rfl rfl rfl rfl (fun K hK => ?_))
    go_simp
    have hsame := hide (sysEq_self t)
    refine (eqSystem_any (O1.ext (z0.trans hxx)) hown.reads).mono ?_
    rw [hsame.out]
    rintro e t1 ⟨rfl, hxe⟩
    refine hK.out _ _ ?_
    (try simp only [Act.put, List.setIfInBounds_toArray, List.set_cons_zero, List.set_cons_succ])
    repeat (first | (refine useq_skip rfl rfl (by assumption) ?_; simp only [Act.put, List.setIfInBounds_toArray, List.set_cons_zero, List.set_cons_succ]) | (refine useq_pure (v := ?_) rfl rfl rfl rfl (fun X => ?_) ?_; rotate_left; (focus (go_simp <;> with_reducible rfl)); simp only [Act.put, List.setIfInBounds_toArray, List.set_cons_zero, List.set_cons_succ]) | (refine useq_read (v := ?_) rfl rfl rfl rfl (fun X hX => ?_) ?_; rotate_left; (focus (go_simp <;> with_reducible rfl)); simp only [Act.put, List.setIfInBounds_toArray, List.set_cons_zero, List.set_cons_succ]))
    refine useq_nil ?_
    have z0 := z0.trans (hxx.trans hxe)
    clear k2 l2 hww hown hxq hxx hxe hK hsame
    go_upto_region 26 with fail
    have k3 : ∀ W, Ext t1 W → ∀ j, W.cell? ⟨w.heap.size + 1 + 1, j, none⟩ = #[Value.int .i64 p.al, .slice B m1 d1, .slice B' m1' d1'][j]? := fun W hW => (HB6.out W (y4.trans (z0.trans hW))).2.2.1
    have l3 : ∀ W, Ext t1 W → ∀ j, W.cell? ⟨g2, j, none⟩ = #[Value.int .i64 p.al, .slice G x8 y8, .slice G' x8' y8'][j]? := fun W hW => f2 W (z0.trans hW)
    have hww := Ext.refl t1
    refine wp_region_tailU (fun X => Ext t1 X) [3] (OrdU.of [0, 1, 2, 3, 4]) (by kernel_rfl) (by kernel_rfl) (by kernel_rfl) (by kernel_rfl) (by kernel_rfl) (fun _ _ _ _ _ h => h) (by first | assumption | exact (Ext.refl _).drew | (refine Ext.drew ?_; assumption)) ?_
    repeat (first | (refine useq_skip rfl rfl (by assumption) ?_; simp only [Act.put, List.setIfInBounds_toArray, List.set_cons_zero, List.set_cons_succ]) | (refine useq_pure (v := ?_) rfl rfl rfl rfl (fun X => ?_) ?_; rotate_left; (focus (go_simp <;> with_reducible rfl)); simp only [Act.put, List.setIfInBounds_toArray, List.set_cons_zero, List.set_cons_succ]) | (refine useq_read (v := ?_) rfl rfl rfl rfl (fun X hX => ?_) ?_; rotate_left; (focus (go_simp <;> with_reducible rfl)); simp only [Act.put, List.setIfInBounds_toArray, List.set_cons_zero, List.set_cons_succ]))
    (refine useq_step rfl rfl rfl (fun K hK => ?_); go_simp)
    refine (toAutomaton_any _ _ _ _ _ _ _ _ _ _ (HP.out _ (hw7.trans (z0.trans hww.drew))) z3).mono ?_
    rintro e q2 ⟨E2, ne2, ce2, E2', ne2', ce2', rfl, hown, hxq⟩
    have hxx := hww.drew.trans hxq
    refine hK.out _ _ hxx ?_
    (try simp only [Act.put, List.setIfInBounds_toArray, List.set_cons_zero, List.set_cons_succ])
    repeat (first | (refine useq_skip rfl rfl (by assumption) ?_; simp only [Act.put, List.setIfInBounds_toArray, List.set_cons_zero, List.set_cons_succ]) | (refine useq_pure (v := ?_) rfl rfl rfl rfl (fun X => ?_) ?_; rotate_left; (focus (go_simp <;> with_reducible rfl)); simp only [Act.put, List.setIfInBounds_toArray, List.set_cons_zero, List.set_cons_succ]) | (refine useq_read (v := ?_) rfl rfl rfl rfl (fun X hX => ?_) ?_; rotate_left; (focus (go_simp <;> with_reducible rfl)); simp only [Act.put, List.setIfInBounds_toArray, List.set_cons_zero, List.set_cons_succ]))
    (refine useq_last rfl rfl rfl rfl (fun K hK => ?_))
    go_simp
    have hsame := hide (autEq_self p)
    refine (eqAutomaton_any _ _ _ _ _ _ _ _ _ _ _ _ _ _ _ _ _ _ _ (O2.ext (z0.trans hxx)) hown.reads).mono ?_
    rw [hsame.out]
    rintro e t2 ⟨rfl, hxe⟩
    refine hK.out _ _ ?_
    (try simp only [Act.put, List.setIfInBounds_toArray, List.set_cons_zero, List.set_cons_succ])
    repeat (first | (refine useq_skip rfl rfl (by assumption) ?_; simp only [Act.put, List.setIfInBounds_toArray, List.set_cons_zero, List.set_cons_succ]) | (refine useq_pure (v := ?_) rfl rfl rfl rfl (fun X => ?_) ?_; rotate_left; (focus (go_simp <;> with_reducible rfl)); simp only [Act.put, List.setIfInBounds_toArray, List.set_cons_zero, List.set_cons_succ]) | (refine useq_read (v := ?_) rfl rfl rfl rfl (fun X hX => ?_) ?_; rotate_left; (focus (go_simp <;> with_reducible rfl)); simp only [Act.put, List.setIfInBounds_toArray, List.set_cons_zero, List.set_cons_succ]))
    refine useq_nil ?_
    have z0 := z0.trans (hxx.trans hxe)
    clear k3 l3 hww hown hxq hxx hxe hK hsame
    go_upto_region 28 with fail
    have k4 : ∀ W, Ext t2 W → ∀ j, W.cell? ⟨w.heap.size + 1 + 1 + 1, j, none⟩ = #[Value.bool hd, .int .i64 a.al, .slice D m2 d2, .slice D' m2' d2', .string x][j]? := fun W hW => (HB6.out W (y4.trans (z0.trans hW))).2.2.2
    have l4 : ∀ W, Ext t2 W → ∀ j, W.cell? ⟨g3, j, none⟩ = #[Value.bool hd, .int .i64 a.al, .slice H x9 y9, .slice H' x9' y9', .string x][j]? := fun W hW => f3 W (z0.trans hW)
    have hww := Ext.refl t2
    refine wp_region_tailU (fun X => Ext t2 X) [3] (OrdU.of [0, 1, 2, 3, 4]) (by kernel_rfl) (by kernel_rfl) (by kernel_rfl) (by kernel_rfl) (by kernel_rfl) (fun _ _ _ _ _ h => h) (by first | assumption | exact (Ext.refl _).drew | (refine Ext.drew ?_; assumption)) ?_
    repeat (first | (refine useq_skip rfl rfl (by assumption) ?_; simp only [Act.put, List.setIfInBounds_toArray, List.set_cons_zero, List.set_cons_succ]) | (refine useq_pure (v := ?_) rfl rfl rfl rfl (fun X => ?_) ?_; rotate_left; (focus (go_simp <;> with_reducible rfl)); simp only [Act.put, List.setIfInBounds_toArray, List.set_cons_zero, List.set_cons_succ]) | (refine useq_read (v := ?_) rfl rfl rfl rfl (fun X hX => ?_) ?_; rotate_left; (focus (go_simp <;> with_reducible rfl)); simp only [Act.put, List.setIfInBounds_toArray, List.set_cons_zero, List.set_cons_succ]))
    (refine useq_step rfl rfl rfl (fun K hK => ?_); go_simp)
    refine (toCertificate_any _ _ _ _ _ _ _ _ _ _ _ _ (HA.out _ (hw7.trans (z0.trans hww.drew))) z4).mono ?_
    rintro e q3 ⟨E2, ne2, ce2, E2', ne2', ce2', rfl, hown, hxq⟩
    have hxx := hww.drew.trans hxq
    refine hK.out _ _ hxx ?_
    (try simp only [Act.put, List.setIfInBounds_toArray, List.set_cons_zero, List.set_cons_succ])
    repeat (first | (refine useq_skip rfl rfl (by assumption) ?_; simp only [Act.put, List.setIfInBounds_toArray, List.set_cons_zero, List.set_cons_succ]) | (refine useq_pure (v := ?_) rfl rfl rfl rfl (fun X => ?_) ?_; rotate_left; (focus (go_simp <;> with_reducible rfl)); simp only [Act.put, List.setIfInBounds_toArray, List.set_cons_zero, List.set_cons_succ]) | (refine useq_read (v := ?_) rfl rfl rfl rfl (fun X hX => ?_) ?_; rotate_left; (focus (go_simp <;> with_reducible rfl)); simp only [Act.put, List.setIfInBounds_toArray, List.set_cons_zero, List.set_cons_succ]))
    (refine useq_last rfl rfl rfl rfl (fun K hK => ?_))
    go_simp
    refine (eqCertificate_same (O3.ext (z0.trans hxx)) hown.reads).mono ?_
    rintro e t3 ⟨rfl, hxe⟩
    refine hK.out _ _ ?_
    (try simp only [Act.put, List.setIfInBounds_toArray, List.set_cons_zero, List.set_cons_succ])
    repeat (first | (refine useq_skip rfl rfl (by assumption) ?_; simp only [Act.put, List.setIfInBounds_toArray, List.set_cons_zero, List.set_cons_succ]) | (refine useq_pure (v := ?_) rfl rfl rfl rfl (fun X => ?_) ?_; rotate_left; (focus (go_simp <;> with_reducible rfl)); simp only [Act.put, List.setIfInBounds_toArray, List.set_cons_zero, List.set_cons_succ]) | (refine useq_read (v := ?_) rfl rfl rfl rfl (fun X hX => ?_) ?_; rotate_left; (focus (go_simp <;> with_reducible rfl)); simp only [Act.put, List.setIfInBounds_toArray, List.set_cons_zero, List.set_cons_succ]))
    refine useq_nil ?_
    have z0 := z0.trans (hxx.trans hxe)
    clear k4 l4 hww hown hxq hxx hxe hK
    have hfin := hw7.trans z0
    go_wp2_with fail
    go_ret
    exact ⟨rfl, hfin⟩
end
end Go.Proofs.YtplllipekeomiaaGreatDoor
