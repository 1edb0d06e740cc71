/- The program's ViolationUnder, KeepsUnder, PartsViolation, PartsKeep, KeepsProperty, walked. | ChainFault of both, walked. | Chains as data: the laws' own counts, copies and comparisons of them. -/
import Derived.Test.YtplllipekeomiaaGreatDoorG16
import Derived.Test.YtplllipekeomiaaGreatDoorG17
import Derived.Test.YtplllipekeomiaaGreatDoorG04
import Derived.Test.YtplllipekeomiaaGreatDoorG06
import Derived.Test.YtplllipekeomiaaGreatDoorG12
import Derived.Deep.DeepCutAuto
import Derived.Deep.CutBlock
namespace Go.Proofs.YtplllipekeomiaaGreatDoor
open Go Go.RowKit
set_option maxHeartbeats 4000000

section
variable {lo hi n c : Nat} {A : Option Addr} {s : Sys} {lo1 hi1 m1 d1 m1' d1' : Nat} {B B' : Option Addr} {a : Aut} {lo2 hi2 m2 d2 m2' d2' : Nat} {C C' : Option Addr} {p : Aut} {w : World}
set_option maxRecDepth 100000 in
theorem impl_ViolationUnder (h : SysAt w lo hi A n s) (ha : AutAt w lo1 hi1 B m1 B' m1' a) (hp : AutAt w lo2 hi2 C m2 C' m2' p) (hT : Tab w) :
    Calls Tryz.prog 62 #[.agg #[.int .i64 s.al, .int .i64 s.st, .slice A n c], .agg #[.int .i64 a.al, .slice B m1 d1, .slice B' m1' d1'], .agg #[.int .i64 p.al, .slice C m2 d2, .slice C' m2' d2']] w fun e w' => e = .returned (.tuple #[.string (underW s a p), .bool (underB s a p)]) ∧ Ext w w' := by
  have HT := hide (fun W (hW : Ext w W) => hT.ext hW)
  have HSy := hide (fun W (hW : Ext w W) => h.ext hW)
  have HAa := hide (fun W (hW : Ext w W) => ha.ext hW)
  have HPa := hide (fun W (hW : Ext w W) => hp.ext hW)
  have HS := hide (fun W (hW : Ext w W) => impl_SystemValid (c := c) (h.ext hW))
  have HA := hide (fun W (hW : Ext w W) => impl_AutomatonValid _ _ _ _ d1 _ _ d1' _ _ (ha.ext hW))
  have HP := hide (fun W (hW : Ext w W) => impl_AutomatonValid _ _ _ _ d2 _ _ d2' _ _ (hp.ext hW))
  clear h ha hp hT
  have hw1 : Ext w (((w.alloc (.cells #[.int .i64 s.al, .int .i64 s.st, .slice A n c] 54)).alloc (.cells #[.int .i64 a.al, .slice B m1 d1, .slice B' m1' d1'] 35)).alloc (.cells #[.int .i64 p.al, .slice C m2 d2, .slice C' m2' d2'] 35)) := (((Ext.refl w).alloc _).alloc _).alloc _
  obtain ⟨b1, b2, b3⟩ := ext_blk3 (Ext.refl (((w.alloc (.cells #[.int .i64 s.al, .int .i64 s.st, .slice A n c] 54)).alloc (.cells #[.int .i64 a.al, .slice B m1 d1, .slice B' m1' d1'] 35)).alloc (.cells #[.int .i64 p.al, .slice C m2 d2, .slice C' m2' d2'] 35)))
  by_cases hT : threeV s a p = true
  · have hr := hide (show underW s a p = vioW [s] a p ∧ underB s a p = vioB [s] a p by unfold underW underB; rw [hT]; exact ⟨rfl, by simp⟩)
    unfold threeV at hT
    simp only [Bool.and_eq_true] at hT
    obtain ⟨v1, v2, v3⟩ := hT
    have hap := hide (show areParts [s] = true by simp [areParts, v1])
    have V1 := hide v1
    have V2 := hide v2
    have V3 := hide v3
    clear v1 v2 v3
    go_enter Tryz.func62, Tryz.ntmps62
    go_upto_region 1 with fail
    generalize ((w.alloc (.cells #[.int .i64 s.al, .int .i64 s.st, .slice A n c] 54)).alloc (.cells #[.int .i64 a.al, .slice B m1 d1, .slice B' m1' d1'] 35)).alloc (.cells #[.int .i64 p.al, .slice C m2 d2, .slice C' m2' d2'] 35) = w1 at *
    have c1 := b1.cell
    go_upto_region 3 with (first
      | (go_at_call 44; with_reducible refine (HS.out _ hw1).mono ?_; rw [V1.out]; rintro e w2 ⟨rfl, hx2⟩; have hw2 := hw1.trans hx2; have c2 := (b2.ext hx2).cell)
      | (go_at_call 33; with_reducible refine (HA.out _ hw2).mono ?_; rw [V2.out]; rintro e w3 ⟨rfl, hx3⟩; have hw3 := hw2.trans hx3; have c3 := (b3.ext (hx2.trans hx3)).cell)
      | (go_at_call 33; with_reducible refine (HP.out _ hw3).mono ?_; rw [V3.out]; rintro e w4 ⟨rfl, hx4⟩; have hw4 := hw3.trans hx4))
    have hx14 := hx2.trans (hx3.trans hx4)
    have k1 := (b1.ext hx14).cell
    have e5 := Blk.new w4 54 #[.int .i64 s.al, .int .i64 s.st, .slice A n c]
    have f5 := (Ext.refl w4).alloc (.cells #[.int .i64 s.al, .int .i64 s.st, .slice A n c] 54)
    have k3 := (b3.ext (hx14.trans f5)).cell
    have b25 := b2.ext (hx14.trans f5)
    have hw5 := hw4.trans f5
    obtain ⟨l1, h1, hsl⟩ := sl_one e5 (HSy.out _ hw5)
    have HF := hide (impl_firstBroken (c := 1) (d2 := d2) (d2' := d2') hsl hap.out (HT.out _ hw5) b25 (HAa.out _ hw5) V2.out (HPa.out _ hw5) V3.out)
    clear c1 c2 c3 b1 b2 b3 hsl e5 b25
    go_wp2_with (go_at_call 88; refine HF.out.mono ?_; rintro e w6 hF; obtain ⟨rfl, hx6⟩ := hF.first (letters_lt6 _))
    go_ret2
    exact ⟨by rw [hr.out.1, hr.out.2]; rfl, hw5.trans hx6⟩
  · have hT' : threeV s a p = false := by simpa using hT
    have hr := hide (show underW s a p = ByteArray.empty ∧ underB s a p = false by unfold underW underB; rw [hT']; exact ⟨rfl, rfl⟩)
    have hT2 := hide (show (sysValid s && (autValid a && autValid p)) = false from hT')
    clear hT hT'
    cases h1 : sysValid s <;> cases h2 : autValid a <;> cases h3 : autValid p
    all_goals first
      | (exfalso; have := hT2.out; rw [h1, h2, h3] at this; cases this; done)
      | (have H1 := hide h1
         have H2 := hide h2
         have H3 := hide h3
         clear h1 h2 h3
         go_enter Tryz.func62, Tryz.ntmps62
         go_upto_region 1 with fail
         generalize ((w.alloc (.cells #[.int .i64 s.al, .int .i64 s.st, .slice A n c] 54)).alloc (.cells #[.int .i64 a.al, .slice B m1 d1, .slice B' m1' d1'] 35)).alloc (.cells #[.int .i64 p.al, .slice C m2 d2, .slice C' m2' d2'] 35) = w1 at *
         have c1 := b1.cell
         go_wp2_with (first
           | (go_at_call 44; with_reducible refine (HS.out _ hw1).mono ?_; rw [H1.out]; rintro e w2 ⟨rfl, hx2⟩; have hw2 := hw1.trans hx2; have c2 := (b2.ext hx2).cell)
           | (go_at_call 33; with_reducible refine (HA.out _ hw2).mono ?_; rw [H2.out]; rintro e w3 ⟨rfl, hx3⟩; have hw3 := hw2.trans hx3; have c3 := (b3.ext (hx2.trans hx3)).cell)
           | (go_at_call 33; with_reducible refine (HP.out _ hw3).mono ?_; rw [H3.out]; rintro e w4 ⟨rfl, hx4⟩; have hw4 := hw3.trans hx4))
         go_ret2
         exact ⟨by rw [hr.out.1, hr.out.2]; rfl, by first | exact hw4 | exact hw3 | exact hw2⟩)
set_option maxRecDepth 100000 in
theorem impl_KeepsUnder (h : SysAt w lo hi A n s) (ha : AutAt w lo1 hi1 B m1 B' m1' a) (hp : AutAt w lo2 hi2 C m2 C' m2' p) (hT : Tab w) :
    Calls Tryz.prog 34 #[.agg #[.int .i64 s.al, .int .i64 s.st, .slice A n c], .agg #[.int .i64 a.al, .slice B m1 d1, .slice B' m1' d1'], .agg #[.int .i64 p.al, .slice C m2 d2, .slice C' m2' d2']] w fun e w' => e = .returned (.bool (keepsU s a p)) ∧ Ext w w' := by
  have HV := hide (fun W (hW : Ext w W) => impl_ViolationUnder (c := c) (d1 := d1) (d1' := d1') (d2 := d2) (d2' := d2') (h.ext hW) (ha.ext hW) (hp.ext hW) (hT.ext hW))
  have HS := hide (fun W (hW : Ext w W) => impl_SystemValid (c := c) (h.ext hW))
  have HA := hide (fun W (hW : Ext w W) => impl_AutomatonValid _ _ _ _ d1 _ _ d1' _ _ (ha.ext hW))
  have HP := hide (fun W (hW : Ext w W) => impl_AutomatonValid _ _ _ _ d2 _ _ d2' _ _ (hp.ext hW))
  have hr := hide (show keepsU s a p = ((sysValid s && (autValid a && autValid p)) && !underB s a p) from underB_keeps s a p)
  clear h ha hp hT
  generalize underB s a p = ub at *
  generalize underW s a p = uw at *
  have hw1 : Ext w (((w.alloc (.cells #[.int .i64 s.al, .int .i64 s.st, .slice A n c] 54)).alloc (.cells #[.int .i64 a.al, .slice B m1 d1, .slice B' m1' d1'] 35)).alloc (.cells #[.int .i64 p.al, .slice C m2 d2, .slice C' m2' d2'] 35)) := (((Ext.refl w).alloc _).alloc _).alloc _
  obtain ⟨b1, b2, b3⟩ := ext_blk3 (Ext.refl (((w.alloc (.cells #[.int .i64 s.al, .int .i64 s.st, .slice A n c] 54)).alloc (.cells #[.int .i64 a.al, .slice B m1 d1, .slice B' m1' d1'] 35)).alloc (.cells #[.int .i64 p.al, .slice C m2 d2, .slice C' m2' d2'] 35)))
  cases h1 : sysValid s <;> cases h2 : autValid a <;> cases h3 : autValid p <;> cases ub
  all_goals
    have H1 := hide h1
    have H2 := hide h2
    have H3 := hide h3
    clear h1 h2 h3
    go_enter Tryz.func34, Tryz.ntmps34
    go_upto_region 1 with fail
    generalize ((w.alloc (.cells #[.int .i64 s.al, .int .i64 s.st, .slice A n c] 54)).alloc (.cells #[.int .i64 a.al, .slice B m1 d1, .slice B' m1' d1'] 35)).alloc (.cells #[.int .i64 p.al, .slice C m2 d2, .slice C' m2' d2'] 35) = w1 at *
    have c1 := b1.cell
    have c2 := b2.cell
    have c3 := b3.cell
    go_wp2_with (first
      | (go_at_call 62; refine (HV.out _ hw1).mono ?_; rintro e w2 ⟨rfl, hx2⟩; have hw2 := hw1.trans hx2; have c12 := (b1.ext hx2).cell)
      | (go_at_call 44; with_reducible refine (HS.out _ hw2).mono ?_; rw [H1.out]; rintro e w3 ⟨rfl, hx3⟩; have hw3 := hw2.trans hx3; have c22 := (b2.ext (hx2.trans hx3)).cell)
      | (go_at_call 33; with_reducible refine (HA.out _ hw3).mono ?_; rw [H2.out]; rintro e w4 ⟨rfl, hx4⟩; have hw4 := hw3.trans hx4; have c32 := (b3.ext (hx2.trans (hx3.trans hx4))).cell)
      | (go_at_call 33; with_reducible refine (HP.out _ hw4).mono ?_; rw [H3.out]; rintro e w5 ⟨rfl, hx5⟩; have hw5 := hw4.trans hx5))
    go_ret
    exact ⟨ret_bool (by rw [hr.out, H1.out, H2.out, H3.out]; rfl), by first | exact hw5 | exact hw4 | exact hw3⟩
variable {k : Nat} {ss : List Sys}
set_option maxRecDepth 100000 in
theorem impl_PartsViolation (h : SLAt w lo hi A k ss) (hp : AutAt w lo2 hi2 C m2 C' m2' p) (hT : Tab w) :
    Calls Tryz.prog 89 #[.slice A k c, .agg #[.int .i64 p.al, .slice C m2 d2, .slice C' m2' d2']] w fun e w' => e = .returned (.tuple #[.string (brokW ss p), .bool (brokB ss p)]) ∧ Ext w w' := by
  have HS := hide (fun W (hW : Ext w W) => h.ext hW)
  have HP := hide (fun W (hW : Ext w W) => hp.ext hW)
  have HT := hide (fun W (hW : Ext w W) => hT.ext hW)
  clear h hp hT
  have hw1 : Ext w (w.alloc (.cells #[.int .i64 p.al, .slice C m2 d2, .slice C' m2' d2'] 35)) := (Ext.refl w).alloc _
  have b1 := Blk.new w 35 #[.int .i64 p.al, .slice C m2 d2, .slice C' m2' d2']
  cases hA : areParts ss
  · have hr := hide (show brokW ss p = ByteArray.empty ∧ brokB ss p = false by unfold brokW brokB partsV; rw [hA]; exact ⟨rfl, rfl⟩)
    have HA := hide hA
    clear hA
    go_enter Tryz.func89, Tryz.ntmps89
    go_upto_region 1 with fail
    generalize w.alloc (.cells #[.int .i64 p.al, .slice C m2 d2, .slice C' m2' d2'] 35) = w1 at *
    go_wp2_with (go_at_call 59; refine (impl_areParts (HS.out _ hw1)).mono ?_; rw [HA.out]; rintro e w2 ⟨rfl, hx2⟩)
    go_ret2
    exact ⟨by rw [hr.out.1, hr.out.2]; rfl, hw1.trans hx2⟩
  · cases hV : autValid p
    · have hr := hide (show brokW ss p = ByteArray.empty ∧ brokB ss p = false by unfold brokW brokB partsV; rw [hA, hV]; exact ⟨rfl, rfl⟩)
      have HV := hide hV
      have HA := hide hA
      clear hA hV
      go_enter Tryz.func89, Tryz.ntmps89
      go_upto_region 1 with fail
      generalize w.alloc (.cells #[.int .i64 p.al, .slice C m2 d2, .slice C' m2' d2'] 35) = w1 at *
      go_wp2_with (first
        | (go_at_call 59; refine (impl_areParts (HS.out _ hw1)).mono ?_; rw [HA.out]; rintro e w2 ⟨rfl, hx2⟩; have hw2 := hw1.trans hx2; have c2 := (b1.ext hx2).cell)
        | (go_at_call 33; refine (impl_AutomatonValid _ _ _ _ _ _ _ _ _ _ (HP.out _ hw2)).mono ?_; rw [HV.out]; rintro e w3 ⟨rfl, hx3⟩; have hw3 := hw2.trans hx3))
      go_ret2
      exact ⟨by rw [hr.out.1, hr.out.2]; rfl, hw3⟩
    · have hr := hide (show brokW ss p = vioW ss free p ∧ brokB ss p = vioB ss free p by unfold brokW brokB partsV; rw [hA, hV]; exact ⟨rfl, by simp⟩)
      have HV := hide hV
      have HA := hide hA
      clear hA hV
      go_enter Tryz.func89, Tryz.ntmps89
      go_upto_region 1 with fail
      generalize w.alloc (.cells #[.int .i64 p.al, .slice C m2 d2, .slice C' m2' d2'] 35) = w1 at *
      go_wp2_with (first
        | (go_at_call 59; refine (impl_areParts (HS.out _ hw1)).mono ?_; rw [HA.out]; rintro e w2 ⟨rfl, hx2⟩; have hw2 := hw1.trans hx2; have c2 := (b1.ext hx2).cell)
        | (go_at_call 33; refine (impl_AutomatonValid _ _ _ _ _ _ _ _ _ _ (HP.out _ hw2)).mono ?_; rw [HV.out]; rintro e w3 ⟨rfl, hx3⟩; have hw3 := hw2.trans hx3; have c3 := (b1.ext (hx2.trans hx3)).cell)
        | (go_at_call 88; refine (impl_firstBroken_nil (c := c) (d2 := d2) (d2' := d2') (HS.out _ hw3) HA.out (HT.out _ hw3) (HP.out _ hw3) HV.out).mono ?_; rintro e w4 hF; obtain ⟨rfl, hx4⟩ := hF.first (letters_lt6 _)))
      go_ret2
      exact ⟨by rw [hr.out.1, hr.out.2]; rfl, hw3.trans hx4⟩
set_option maxRecDepth 100000 in
theorem impl_PartsKeep (h : SLAt w lo hi A k ss) (hp : AutAt w lo2 hi2 C m2 C' m2' p) (hT : Tab w) :
    Calls Tryz.prog 63 #[.slice A k c, .agg #[.int .i64 p.al, .slice C m2 d2, .slice C' m2' d2']] w fun e w' => e = .returned (.bool (keepsP ss p)) ∧ Ext w w' := by
  have HV := hide (fun W (hW : Ext w W) => impl_PartsViolation (c := c) (d2 := d2) (d2' := d2') (h.ext hW) (hp.ext hW) (hT.ext hW))
  have HS := hide (fun W (hW : Ext w W) => h.ext hW)
  have HP := hide (fun W (hW : Ext w W) => hp.ext hW)
  have hr := hide (show keepsP ss p = (areParts ss && autValid p && !brokB ss p) from brokB_keeps ss p)
  clear h hp hT
  generalize brokB ss p = ub at *
  generalize brokW ss p = uw at *
  have hw1 : Ext w (w.alloc (.cells #[.int .i64 p.al, .slice C m2 d2, .slice C' m2' d2'] 35)) := (Ext.refl w).alloc _
  have b1 := Blk.new w 35 #[.int .i64 p.al, .slice C m2 d2, .slice C' m2' d2']
  cases hA : areParts ss <;> cases hVv : autValid p <;> cases ub
  all_goals
    have HA := hide (show areParts ss = _ from hA)
    have HVv := hide hVv
    clear hA hVv
    go_enter Tryz.func63, Tryz.ntmps63
    go_upto_region 1 with fail
    generalize w.alloc (.cells #[.int .i64 p.al, .slice C m2 d2, .slice C' m2' d2'] 35) = w1 at *
    have c1 := b1.cell
    go_wp2_with (first
      | (go_at_call 89; refine (HV.out _ hw1).mono ?_; rintro e w2 ⟨rfl, hx2⟩; have hw2 := hw1.trans hx2)
      | (go_at_call 59; refine (impl_areParts (HS.out _ hw2)).mono ?_; rw [HA.out]; rintro e w3 ⟨rfl, hx3⟩; have hw3 := hw2.trans hx3; have c3 := (b1.ext (hx2.trans hx3)).cell)
      | (go_at_call 33; refine (impl_AutomatonValid _ _ _ _ _ _ _ _ _ _ (HP.out _ hw3)).mono ?_; rw [HVv.out]; rintro e w4 ⟨rfl, hx4⟩; have hw4 := hw3.trans hx4))
    go_ret
    exact ⟨ret_bool (by rw [hr.out, HA.out, HVv.out]; rfl), by first | exact hw4 | exact hw3⟩
set_option maxRecDepth 100000 in
theorem impl_KeepsProperty (h : SysAt w lo hi A n s) (hp : AutAt w lo2 hi2 C m2 C' m2' p) (hT : Tab w) :
    Calls Tryz.prog 35 #[.agg #[.int .i64 s.al, .int .i64 s.st, .slice A n c], .agg #[.int .i64 p.al, .slice C m2 d2, .slice C' m2' d2']] w fun e w' => e = .returned (.bool (keepsP [s] p)) ∧ Ext w w' := by
  have HS := hide (fun W (hW : Ext w W) => h.ext hW)
  have HP := hide (fun W (hW : Ext w W) => hp.ext hW)
  have HT := hide (fun W (hW : Ext w W) => hT.ext hW)
  clear h hp hT
  have hw1 : Ext w ((w.alloc (.cells #[.int .i64 s.al, .int .i64 s.st, .slice A n c] 54)).alloc (.cells #[.int .i64 p.al, .slice C m2 d2, .slice C' m2' d2'] 35)) := ((Ext.refl w).alloc _).alloc _
  obtain ⟨b1, b2⟩ := ext_blk2 (Ext.refl ((w.alloc (.cells #[.int .i64 s.al, .int .i64 s.st, .slice A n c] 54)).alloc (.cells #[.int .i64 p.al, .slice C m2 d2, .slice C' m2' d2'] 35)))
  go_enter Tryz.func35, Tryz.ntmps35
  go_upto_region 1 with fail
  generalize (w.alloc (.cells #[.int .i64 s.al, .int .i64 s.st, .slice A n c] 54)).alloc (.cells #[.int .i64 p.al, .slice C m2 d2, .slice C' m2' d2'] 35) = w1 at *
  have c1 := b1.cell
  have e2 := Blk.new w1 54 #[.int .i64 s.al, .int .i64 s.st, .slice A n c]
  have f2 := (Ext.refl w1).alloc (.cells #[.int .i64 s.al, .int .i64 s.st, .slice A n c] 54)
  have c2 := (b2.ext f2).cell
  have hw2 := hw1.trans f2
  obtain ⟨l1, h1, hsl⟩ := sl_one e2 (HS.out _ hw2)
  go_wp2_with (go_at_call 63; refine (impl_PartsKeep hsl (HP.out _ hw2) (HT.out _ hw2)).mono ?_; rintro e w3 ⟨rfl, hx3⟩)
  go_ret
  exact ⟨ret_bool rfl, hw2.trans hx3⟩
end
end Go.Proofs.YtplllipekeomiaaGreatDoor

namespace Go.Proofs.YtplllipekeomiaaGreatDoor
open Go Go.RowKit
set_option maxHeartbeats 4000000

theorem chain1_nat {x y z : Sys} {p : Aut} (h : three [x, y, z] p = true) : ∃ c : Nat, chain1 [x, y, z] p = (c : Int) ∧ c ≤ 63 := by
  have h' := h
  simp only [three, Bool.and_eq_true] at h'
  obtain ⟨_, hv⟩ := parts_valid h'.2.1
  have vx := sysValid_al (hv x (by simp))
  have vy := sysValid_al (hv y (by simp))
  have vz := sysValid_al (hv z (by simp))
  have vp := (autValid_row h'.2.2).1
  unfold chain1
  rw [h, if_pos rfl]
  obtain ⟨a, ha⟩ : ∃ a : Nat, x.al = a := ⟨x.al.toNat, by omega⟩
  obtain ⟨b, hb⟩ : ∃ a : Nat, y.al = a := ⟨y.al.toNat, by omega⟩
  obtain ⟨c, hc⟩ : ∃ a : Nat, z.al = a := ⟨z.al.toNat, by omega⟩
  obtain ⟨d, hd⟩ : ∃ a : Nat, p.al = a := ⟨p.al.toNat, by omega⟩
  dsimp only
  rw [ha, hb, hc, hd]
  have e1 := Nat.or_lt_two_pow (n := 6) (x := a) (y := d) (by omega) (by omega)
  have e2 := Nat.or_lt_two_pow (n := 6) (x := b) (y := c) (by omega) (by omega)
  rw [bits_or (by unfold Sm; omega) (by unfold Sm; omega), bits_or (by unfold Sm; omega) (by unfold Sm; omega), bits_and (by unfold Sm; omega) (by unfold Sm; omega)]
  refine ⟨_, rfl, ?_⟩
  have := Nat.and_le_left (n := a ||| d) (m := b ||| c)
  omega
/-- Why a chain proves nothing. -/
noncomputable def faultN (ss : List Sys) (p f g : Aut) : Int :=
  if (three ss p && (autValid f && autValid g)) = false then 1
  else if (decide (f.al = chain1 ss p) && decide (g.al = chain2 ss p)) = false then 2
  else match ss with
    | [x, y, z] => if (keepsU x f p && keepsU y g f) = false then 3 else if keepsP [z] g = false then 4 else 0
    | _ => 0
section
variable {lo hi c : Nat} {A : Option Addr} {ss : List Sys} {lo1 hi1 m1 d1 m1' d1' : Nat} {B B' : Option Addr} {p : Aut} {lo2 hi2 m2 d2 m2' d2' : Nat} {C C' : Option Addr} {f : Aut} {lo3 hi3 m3 d3 m3' d3' : Nat} {D D' : Option Addr} {g : Aut} {w : World}
set_option maxRecDepth 100000 in
theorem spec_ChainFault {n : Nat} (h : SLAt w lo hi A n ss) (hp : AutAt w lo1 hi1 B m1 B' m1' p) (hf : AutAt w lo2 hi2 C m2 C' m2' f) (hg : AutAt w lo3 hi3 D m3 D' m3' g) :
    Calls Tryz.prog 8 #[.slice A n c, .agg #[.int .i64 p.al, .slice B m1 d1, .slice B' m1' d1'], .agg #[.int .i64 f.al, .slice C m2 d2, .slice C' m2' d2', .int .i64 g.al, .slice D m3 d3, .slice D' m3' d3']] w fun e w' => e = .returned (.int .i64 (faultN ss p f g)) ∧ Ext w w' := by
  have HS := hide (fun W (hW : Ext w W) => h.ext hW)
  have HPa := hide (fun W (hW : Ext w W) => hp.ext hW)
  have HFa := hide (fun W (hW : Ext w W) => hf.ext hW)
  have HGa := hide (fun W (hW : Ext w W) => hg.ext hW)
  have HCL := hide (fun W (hW : Ext w W) => spec_ChainLetters (c := c) (d := d1) (d' := d1') (h.ext hW) (hp.ext hW))
  have HF := hide (fun W (hW : Ext w W) => spec_AutomatonValid _ _ _ _ d2 _ _ d2' _ _ (hf.ext hW))
  have HG := hide (fun W (hW : Ext w W) => spec_AutomatonValid _ _ _ _ d3 _ _ d3' _ _ (hg.ext hW))
  have hn := hide h.1
  clear h hp hf hg
  have hw1 : Ext w ((w.alloc (.cells #[.int .i64 p.al, .slice B m1 d1, .slice B' m1' d1'] 35)).alloc (.cells #[.int .i64 f.al, .slice C m2 d2, .slice C' m2' d2', .int .i64 g.al, .slice D m3 d3, .slice D' m3' d3'] 38)) := ((Ext.refl w).alloc _).alloc _
  obtain ⟨b1, b2⟩ := ext_blk2 (Ext.refl ((w.alloc (.cells #[.int .i64 p.al, .slice B m1 d1, .slice B' m1' d1'] 35)).alloc (.cells #[.int .i64 f.al, .slice C m2 d2, .slice C' m2' d2', .int .i64 g.al, .slice D m3 d3, .slice D' m3' d3'] 38)))
  cases hT : three ss p
  · have hr := hide (show faultN ss p f g = 1 by unfold faultN; rw [hT]; rfl)
    have hc1 := hide (show chain1 ss p = -1 by unfold chain1; rw [hT]; rfl)
    clear hT
    go_enter Tryz.func8, Tryz.ntmps8
    go_upto_region 1 with fail
    generalize (w.alloc (.cells #[.int .i64 p.al, .slice B m1 d1, .slice B' m1' d1'] 35)).alloc (.cells #[.int .i64 f.al, .slice C m2 d2, .slice C' m2' d2', .int .i64 g.al, .slice D m3 d3, .slice D' m3' d3'] 38) = w1 at *
    have c1 := b1.cell
    go_wp2_with (go_at_call 26; refine (HCL.out _ hw1).mono ?_; rw [hc1.out]; rintro e w2 ⟨rfl, hx2⟩)
    go_ret
    exact ⟨ret_int (by rw [hr.out]), hw1.trans hx2⟩
  · obtain ⟨x, y, z, rfl⟩ := three_list hT
    obtain ⟨q1, hq1, hq63⟩ := chain1_nat hT
    obtain rfl : n = 3 := hn.out
    have hc1 := hide hq1
    obtain ⟨q2, hq2⟩ : ∃ q2 : Int, Hid (chain2 [x, y, z] p = q2) := ⟨_, rfl⟩
    have hT' := hide hT
    clear hT hq1 hn
    have hneg : ¬ (q1 : Int) < 0 := by omega
    obtain ⟨b, o, rfl, HX⟩ : ∃ b o, A = some ⟨b, o, none⟩ ∧ Hid (∃ (Bx By Bz : Option Addr) (nx_ ny nz cx cy cz : Nat), ∀ W, Ext w W → (∀ j, W.cell? ⟨b, o + j, none⟩ = #[Value.int .i64 x.al, .int .i64 x.st, .slice Bx nx_ cx, .int .i64 y.al, .int .i64 y.st, .slice By ny cy, .int .i64 z.al, .int .i64 z.st, .slice Bz nz cz][j]? ∨ 9 ≤ j) ∧ SysAt W lo hi Bx nx_ x ∧ SysAt W lo hi By ny y ∧ SysAt W lo hi Bz nz z) := by
      obtain ⟨b, o, s, Bx, nx_, cx, rfl, _, _, hs, e0, e1, e2, hx⟩ := (HS.out w (Ext.refl _)).sys (k := 0) (by omega)
      obtain rfl : x = s := by have := hs.out; simpa using this
      obtain ⟨By, ny, cy, f0, f1, f2, hy⟩ := (HS.out w (Ext.refl _)).sys2 (k := 1) (s := y) rfl
      obtain ⟨Bz, nz, cz, g0, g1, g2, hz⟩ := (HS.out w (Ext.refl _)).sys2 (k := 2) (s := z) rfl
      refine ⟨b, o, rfl, ⟨Bx, By, Bz, nx_, ny, nz, cx, cy, cz, fun W hW => ⟨fun j => ?_, hx.ext hW, hy.ext hW, hz.ext hW⟩⟩⟩
      match j with
      | 0 => exact Or.inl (hW.cell_some (by simpa using e0))
      | 1 => exact Or.inl (hW.cell_some (by simpa using e1))
      | 2 => exact Or.inl (hW.cell_some (by simpa using e2))
      | 3 => exact Or.inl (hW.cell_some (by simpa using f0))
      | 4 => exact Or.inl (hW.cell_some (by simpa [Nat.add_assoc] using f1))
      | 5 => exact Or.inl (hW.cell_some (by simpa [Nat.add_assoc] using f2))
      | 6 => exact Or.inl (hW.cell_some (by simpa using g0))
      | 7 => exact Or.inl (hW.cell_some (by simpa [Nat.add_assoc] using g1))
      | 8 => exact Or.inl (hW.cell_some (by simpa [Nat.add_assoc] using g2))
      | j + 9 => exact Or.inr (by omega)
    by_cases hV : (autValid f && autValid g) = true
    · simp only [Bool.and_eq_true] at hV
      have V1 := hide hV.1
      have V2 := hide hV.2
      clear hV
      by_cases hE1 : f.al = (q1 : Int)
      · by_cases hE2 : g.al = q2
        · -- the letters are right
          have hr := hide (show faultN [x, y, z] p f g = if (keepsU x f p && keepsU y g f) = false then 3 else if keepsP [z] g = false then 4 else 0 by
            unfold faultN
            rw [hT'.out, V1.out, V2.out, hc1.out, hq2.out, decide_eq_true hE1, decide_eq_true hE2]
            rfl)
          have He1 := hide hE1
          have He2 := hide hE2
          have hb1 : (f.al != (q1 : Int)) = false := by simp [hE1]
          have hb2 : (g.al != q2) = false := by simp [hE2]
          clear hE1 hE2
          obtain ⟨Bx, By, Bz, nx_, ny, nz, cx, cy, cz, HXw⟩ := HX.out
          have HX2 := hide HXw
          clear HX HXw
          have HK1 := hide (fun W (hW : Ext w W) => spec_KeepsUnder (c := cx) (d1 := d2) (d1' := d2') (d2 := d1) (d2' := d1') (HX2.out W hW).2.1 (HFa.out W hW) (HPa.out W hW))
          have HK2 := hide (fun W (hW : Ext w W) => spec_KeepsUnder (c := cy) (d1 := d3) (d1' := d3') (d2 := d2) (d2' := d2') (HX2.out W hW).2.2.1 (HGa.out W hW) (HFa.out W hW))
          have HK3 := hide (fun W (hW : Ext w W) => spec_KeepsProperty (c := cz) (d2 := d3) (d2' := d3') (HX2.out W hW).2.2.2 (HGa.out W hW))
          generalize keepsU x f p = u1 at *
          generalize keepsU y g f = u2 at *
          generalize keepsP [z] g = u3 at *
          cases u1
          rotate_left
          · cases u2
            rotate_left
            · cases u3
              all_goals
                go_enter Tryz.func8, Tryz.ntmps8
                go_upto_region 1 with fail
                generalize (w.alloc (.cells #[.int .i64 p.al, .slice B m1 d1, .slice B' m1' d1'] 35)).alloc (.cells #[.int .i64 f.al, .slice C m2 d2, .slice C' m2' d2', .int .i64 g.al, .slice D m3 d3, .slice D' m3' d3'] 38) = w1 at *
                have c1 := b1.cell
                go_upto_region 6 with (first
                  | (go_at_call 26; refine (HCL.out _ hw1).mono ?_; rw [hc1.out, hq2.out]; rintro e w2 ⟨rfl, hx2⟩; have hw2 := hw1.trans hx2; have c22 := (b2.ext hx2).cell)
                  | (go_at_call 27; with_reducible refine (HF.out _ hw2).mono ?_; rw [V1.out]; rintro e w3 ⟨rfl, hx3⟩; have hw3 := hw2.trans hx3; have c32 := (b2.ext (hx2.trans hx3)).cell)
                  | (go_at_call 27; with_reducible refine (HG.out _ hw3).mono ?_; rw [V2.out]; rintro e w4 ⟨rfl, hx4⟩; have hw4 := hw3.trans hx4; have c42 := (b2.ext (hx2.trans (hx3.trans hx4))).cell))
                have hx14 := hx2.trans (hx3.trans hx4)
                have B1 := b1.ext hx14
                have B2 := b2.ext hx14
                have c6 : ∀ W, Ext w4 W → ∀ j, W.cell? ⟨w.heap.size, j, none⟩ = #[Value.int .i64 p.al, .slice B m1 d1, .slice B' m1' d1'][j]? := fun W hW => (B1.ext hW).cell
                have c8 : ∀ W, Ext w4 W → ∀ j, W.cell? ⟨w.heap.size + 1, j, none⟩ = #[Value.int .i64 f.al, .slice C m2 d2, .slice C' m2' d2', .int .i64 g.al, .slice D m3 d3, .slice D' m3' d3'][j]? := fun W hW => (B2.ext hW).cell
                have hcx : ∀ W, Ext w4 W → W.cell? ⟨b, o, none⟩ = some (.int .i64 x.al) ∧ W.cell? ⟨b, o + 1, none⟩ = some (.int .i64 x.st) ∧ W.cell? ⟨b, o + 2, none⟩ = some (.slice Bx nx_ cx) ∧ W.cell? ⟨b, o + 3, none⟩ = some (.int .i64 y.al) ∧ W.cell? ⟨b, o + 4, none⟩ = some (.int .i64 y.st) ∧ W.cell? ⟨b, o + 5, none⟩ = some (.slice By ny cy) ∧ W.cell? ⟨b, o + 6, none⟩ = some (.int .i64 z.al) ∧ W.cell? ⟨b, o + 7, none⟩ = some (.int .i64 z.st) ∧ W.cell? ⟨b, o + 8, none⟩ = some (.slice Bz nz cz) := fun W hW => by
                  have hh := (HX2.out W (hw4.trans hW)).1
                  refine ⟨(hh 0).resolve_right (by omega), (hh 1).resolve_right (by omega), (hh 2).resolve_right (by omega), (hh 3).resolve_right (by omega), (hh 4).resolve_right (by omega), (hh 5).resolve_right (by omega), (hh 6).resolve_right (by omega), (hh 7).resolve_right (by omega), (hh 8).resolve_right (by omega)⟩
                have hww := Ext.refl w4
                clear c1 c22 c32 c42 B1 B2
                refine wp_region_tailU (fun X => Ext w4 X) [16] (OrdU.of [0, 1, 2, 3, 4, 5, 6, 7, 8, 9, 10, 11, 12, 13, 14, 15, 16, 17, 18]) (by kernel_rfl) (by kernel_rfl) (by kernel_rfl) (by kernel_rfl) (by kernel_rfl) (fun _ _ _ _ _ h => h) (by first | assumption | exact (Ext.refl _).drew | (refine Ext.drew ?_; assumption)) ?_
                repeat (first | (refine useq_skip rfl rfl (by assumption) ?_; simp only [Act.put, List.setIfInBounds_toArray, List.set_cons_zero, List.set_cons_succ]) | (refine useq_pure (v := ?_) rfl rfl rfl rfl (fun X => ?_) ?_; rotate_left; (focus (go_simp <;> with_reducible rfl)); simp only [Act.put, List.setIfInBounds_toArray, List.set_cons_zero, List.set_cons_succ]) | (refine useq_read (v := ?_) rfl rfl rfl rfl (fun X hX => ?_) ?_; rotate_left; (focus (go_simp <;> with_reducible rfl)); simp only [Act.put, List.setIfInBounds_toArray, List.set_cons_zero, List.set_cons_succ]))
                (refine useq_step rfl rfl rfl (fun K hK => ?_); go_simp)
                refine (HK1.out _ (hw4.trans hww.drew)).mono ?_
                rintro e w5 ⟨rfl, hy0⟩
                have hy := hww.drew.trans hy0
                refine hK.out _ _ hy ?_
                (try simp only [Act.put, List.setIfInBounds_toArray, List.set_cons_zero, List.set_cons_succ])
                repeat (first | (refine useq_skip rfl rfl (by assumption) ?_; simp only [Act.put, List.setIfInBounds_toArray, List.set_cons_zero, List.set_cons_succ]) | (refine useq_pure (v := ?_) rfl rfl rfl rfl (fun X => ?_) ?_; rotate_left; (focus (go_simp <;> with_reducible rfl)); simp only [Act.put, List.setIfInBounds_toArray, List.set_cons_zero, List.set_cons_succ]) | (refine useq_read (v := ?_) rfl rfl rfl rfl (fun X hX => ?_) ?_; rotate_left; (focus (go_simp <;> with_reducible rfl)); simp only [Act.put, List.setIfInBounds_toArray, List.set_cons_zero, List.set_cons_succ]))
                (refine useq_last rfl rfl rfl rfl (fun K hK => ?_))
                go_simp
                refine (HK2.out _ (hw4.trans hy)).mono ?_
                rintro e w6 ⟨rfl, hy1⟩
                have hyy := hy.trans hy1
                refine hK.out _ _ ?_
                (try simp only [Act.put, List.setIfInBounds_toArray, List.set_cons_zero, List.set_cons_succ])
                repeat (first | (refine useq_skip rfl rfl (by assumption) ?_; simp only [Act.put, List.setIfInBounds_toArray, List.set_cons_zero, List.set_cons_succ]) | (refine useq_pure (v := ?_) rfl rfl rfl rfl (fun X => ?_) ?_; rotate_left; (focus (go_simp <;> with_reducible rfl)); simp only [Act.put, List.setIfInBounds_toArray, List.set_cons_zero, List.set_cons_succ]) | (refine useq_read (v := ?_) rfl rfl rfl rfl (fun X hX => ?_) ?_; rotate_left; (focus (go_simp <;> with_reducible rfl)); simp only [Act.put, List.setIfInBounds_toArray, List.set_cons_zero, List.set_cons_succ]))
                refine useq_nil ?_
                go_wp2_with fail
                have hyy0 := hyy
                clear c6 c8 hcx hww
                go_upto_region 8 with fail
                have hcz : ∀ W, Ext w6 W → W.cell? ⟨b, o + 6, none⟩ = some (.int .i64 z.al) ∧ W.cell? ⟨b, o + 7, none⟩ = some (.int .i64 z.st) ∧ W.cell? ⟨b, o + 8, none⟩ = some (.slice Bz nz cz) := fun W hW => by
                  have hh := (HX2.out W (hw4.trans (hyy0.trans hW))).1
                  exact ⟨(hh 6).resolve_right (by omega), (hh 7).resolve_right (by omega), (hh 8).resolve_right (by omega)⟩
                have c8 : ∀ W, Ext w6 W → ∀ j, W.cell? ⟨w.heap.size + 1, j, none⟩ = #[Value.int .i64 f.al, .slice C m2 d2, .slice C' m2' d2', .int .i64 g.al, .slice D m3 d3, .slice D' m3' d3'][j]? := fun W hW => (b2.ext (hx14.trans (hyy0.trans hW))).cell
                have hww := Ext.refl w6
                refine wp_region_tailU (fun X => Ext w6 X) [5] (OrdU.of [0, 1, 2, 3, 4, 5, 6]) (by kernel_rfl) (by kernel_rfl) (by kernel_rfl) (by kernel_rfl) (by kernel_rfl) (fun _ _ _ _ _ h => h) (by first | assumption | exact (Ext.refl _).drew | (refine Ext.drew ?_; assumption)) ?_
                repeat (first | (refine useq_skip rfl rfl (by assumption) ?_; simp only [Act.put, List.setIfInBounds_toArray, List.set_cons_zero, List.set_cons_succ]) | (refine useq_pure (v := ?_) rfl rfl rfl rfl (fun X => ?_) ?_; rotate_left; (focus (go_simp <;> with_reducible rfl)); simp only [Act.put, List.setIfInBounds_toArray, List.set_cons_zero, List.set_cons_succ]) | (refine useq_read (v := ?_) rfl rfl rfl rfl (fun X hX => ?_) ?_; rotate_left; (focus (go_simp <;> with_reducible rfl)); simp only [Act.put, List.setIfInBounds_toArray, List.set_cons_zero, List.set_cons_succ]))
                (refine useq_last rfl rfl rfl rfl (fun K hK => ?_))
                go_simp
                refine (HK3.out _ (hw4.trans (hyy0.trans hww.drew))).mono ?_
                rintro e w7 ⟨rfl, hy2⟩
                have hyy2 := hyy0.trans (hww.drew.trans hy2)
                refine hK.out _ _ ?_
                (try simp only [Act.put, List.setIfInBounds_toArray, List.set_cons_zero, List.set_cons_succ])
                repeat (first | (refine useq_skip rfl rfl (by assumption) ?_; simp only [Act.put, List.setIfInBounds_toArray, List.set_cons_zero, List.set_cons_succ]) | (refine useq_pure (v := ?_) rfl rfl rfl rfl (fun X => ?_) ?_; rotate_left; (focus (go_simp <;> with_reducible rfl)); simp only [Act.put, List.setIfInBounds_toArray, List.set_cons_zero, List.set_cons_succ]) | (refine useq_read (v := ?_) rfl rfl rfl rfl (fun X hX => ?_) ?_; rotate_left; (focus (go_simp <;> with_reducible rfl)); simp only [Act.put, List.setIfInBounds_toArray, List.set_cons_zero, List.set_cons_succ]))
                refine useq_nil ?_
                go_wp2_with fail
                go_ret
                exact ⟨ret_int (by rw [hr.out]; rfl), hw1.trans (hx14.trans hyy2)⟩
            · go_enter Tryz.func8, Tryz.ntmps8
              go_upto_region 1 with fail
              generalize (w.alloc (.cells #[.int .i64 p.al, .slice B m1 d1, .slice B' m1' d1'] 35)).alloc (.cells #[.int .i64 f.al, .slice C m2 d2, .slice C' m2' d2', .int .i64 g.al, .slice D m3 d3, .slice D' m3' d3'] 38) = w1 at *
              have c1 := b1.cell
              go_upto_region 6 with (first
                | (go_at_call 26; refine (HCL.out _ hw1).mono ?_; rw [hc1.out, hq2.out]; rintro e w2 ⟨rfl, hx2⟩; have hw2 := hw1.trans hx2; have c22 := (b2.ext hx2).cell)
                | (go_at_call 27; with_reducible refine (HF.out _ hw2).mono ?_; rw [V1.out]; rintro e w3 ⟨rfl, hx3⟩; have hw3 := hw2.trans hx3; have c32 := (b2.ext (hx2.trans hx3)).cell)
                | (go_at_call 27; with_reducible refine (HG.out _ hw3).mono ?_; rw [V2.out]; rintro e w4 ⟨rfl, hx4⟩; have hw4 := hw3.trans hx4; have c42 := (b2.ext (hx2.trans (hx3.trans hx4))).cell))
              have hx14 := hx2.trans (hx3.trans hx4)
              have B1 := b1.ext hx14
              have B2 := b2.ext hx14
              have c6 : ∀ W, Ext w4 W → ∀ j, W.cell? ⟨w.heap.size, j, none⟩ = #[Value.int .i64 p.al, .slice B m1 d1, .slice B' m1' d1'][j]? := fun W hW => (B1.ext hW).cell
              have c8 : ∀ W, Ext w4 W → ∀ j, W.cell? ⟨w.heap.size + 1, j, none⟩ = #[Value.int .i64 f.al, .slice C m2 d2, .slice C' m2' d2', .int .i64 g.al, .slice D m3 d3, .slice D' m3' d3'][j]? := fun W hW => (B2.ext hW).cell
              have hcx : ∀ W, Ext w4 W → W.cell? ⟨b, o, none⟩ = some (.int .i64 x.al) ∧ W.cell? ⟨b, o + 1, none⟩ = some (.int .i64 x.st) ∧ W.cell? ⟨b, o + 2, none⟩ = some (.slice Bx nx_ cx) ∧ W.cell? ⟨b, o + 3, none⟩ = some (.int .i64 y.al) ∧ W.cell? ⟨b, o + 4, none⟩ = some (.int .i64 y.st) ∧ W.cell? ⟨b, o + 5, none⟩ = some (.slice By ny cy) ∧ W.cell? ⟨b, o + 6, none⟩ = some (.int .i64 z.al) ∧ W.cell? ⟨b, o + 7, none⟩ = some (.int .i64 z.st) ∧ W.cell? ⟨b, o + 8, none⟩ = some (.slice Bz nz cz) := fun W hW => by
                have hh := (HX2.out W (hw4.trans hW)).1
                refine ⟨(hh 0).resolve_right (by omega), (hh 1).resolve_right (by omega), (hh 2).resolve_right (by omega), (hh 3).resolve_right (by omega), (hh 4).resolve_right (by omega), (hh 5).resolve_right (by omega), (hh 6).resolve_right (by omega), (hh 7).resolve_right (by omega), (hh 8).resolve_right (by omega)⟩
              have hww := Ext.refl w4
              clear c1 c22 c32 c42 B1 B2
              refine wp_region_tailU (fun X => Ext w4 X) [16] (OrdU.of [0, 1, 2, 3, 4, 5, 6, 7, 8, 9, 10, 11, 12, 13, 14, 15, 16, 17, 18]) (by kernel_rfl) (by kernel_rfl) (by kernel_rfl) (by kernel_rfl) (by kernel_rfl) (fun _ _ _ _ _ h => h) (by first | assumption | exact (Ext.refl _).drew | (refine Ext.drew ?_; assumption)) ?_
              repeat (first | (refine useq_skip rfl rfl (by assumption) ?_; simp only [Act.put, List.setIfInBounds_toArray, List.set_cons_zero, List.set_cons_succ]) | (refine useq_pure (v := ?_) rfl rfl rfl rfl (fun X => ?_) ?_; rotate_left; (focus (go_simp <;> with_reducible rfl)); simp only [Act.put, List.setIfInBounds_toArray, List.set_cons_zero, List.set_cons_succ]) | (refine useq_read (v := ?_) rfl rfl rfl rfl (fun X hX => ?_) ?_; rotate_left; (focus (go_simp <;> with_reducible rfl)); simp only [Act.put, List.setIfInBounds_toArray, List.set_cons_zero, List.set_cons_succ]))
              (refine useq_step rfl rfl rfl (fun K hK => ?_); go_simp)
              refine (HK1.out _ (hw4.trans hww.drew)).mono ?_
              rintro e w5 ⟨rfl, hy0⟩
              have hy := hww.drew.trans hy0
              refine hK.out _ _ hy ?_
              (try simp only [Act.put, List.setIfInBounds_toArray, List.set_cons_zero, List.set_cons_succ])
              repeat (first | (refine useq_skip rfl rfl (by assumption) ?_; simp only [Act.put, List.setIfInBounds_toArray, List.set_cons_zero, List.set_cons_succ]) | (refine useq_pure (v := ?_) rfl rfl rfl rfl (fun X => ?_) ?_; rotate_left; (focus (go_simp <;> with_reducible rfl)); simp only [Act.put, List.setIfInBounds_toArray, List.set_cons_zero, List.set_cons_succ]) | (refine useq_read (v := ?_) rfl rfl rfl rfl (fun X hX => ?_) ?_; rotate_left; (focus (go_simp <;> with_reducible rfl)); simp only [Act.put, List.setIfInBounds_toArray, List.set_cons_zero, List.set_cons_succ]))
              (refine useq_last rfl rfl rfl rfl (fun K hK => ?_))
              go_simp
              refine (HK2.out _ (hw4.trans hy)).mono ?_
              rintro e w6 ⟨rfl, hy1⟩
              have hyy := hy.trans hy1
              refine hK.out _ _ ?_
              (try simp only [Act.put, List.setIfInBounds_toArray, List.set_cons_zero, List.set_cons_succ])
              repeat (first | (refine useq_skip rfl rfl (by assumption) ?_; simp only [Act.put, List.setIfInBounds_toArray, List.set_cons_zero, List.set_cons_succ]) | (refine useq_pure (v := ?_) rfl rfl rfl rfl (fun X => ?_) ?_; rotate_left; (focus (go_simp <;> with_reducible rfl)); simp only [Act.put, List.setIfInBounds_toArray, List.set_cons_zero, List.set_cons_succ]) | (refine useq_read (v := ?_) rfl rfl rfl rfl (fun X hX => ?_) ?_; rotate_left; (focus (go_simp <;> with_reducible rfl)); simp only [Act.put, List.setIfInBounds_toArray, List.set_cons_zero, List.set_cons_succ]))
              refine useq_nil ?_
              go_wp2_with fail
              go_ret
              exact ⟨ret_int (by rw [hr.out]; rfl), hw1.trans (hx14.trans hyy)⟩
          · go_enter Tryz.func8, Tryz.ntmps8
            go_upto_region 1 with fail
            generalize (w.alloc (.cells #[.int .i64 p.al, .slice B m1 d1, .slice B' m1' d1'] 35)).alloc (.cells #[.int .i64 f.al, .slice C m2 d2, .slice C' m2' d2', .int .i64 g.al, .slice D m3 d3, .slice D' m3' d3'] 38) = w1 at *
            have c1 := b1.cell
            go_upto_region 6 with (first
              | (go_at_call 26; refine (HCL.out _ hw1).mono ?_; rw [hc1.out, hq2.out]; rintro e w2 ⟨rfl, hx2⟩; have hw2 := hw1.trans hx2; have c22 := (b2.ext hx2).cell)
              | (go_at_call 27; with_reducible refine (HF.out _ hw2).mono ?_; rw [V1.out]; rintro e w3 ⟨rfl, hx3⟩; have hw3 := hw2.trans hx3; have c32 := (b2.ext (hx2.trans hx3)).cell)
              | (go_at_call 27; with_reducible refine (HG.out _ hw3).mono ?_; rw [V2.out]; rintro e w4 ⟨rfl, hx4⟩; have hw4 := hw3.trans hx4; have c42 := (b2.ext (hx2.trans (hx3.trans hx4))).cell))
            have hx14 := hx2.trans (hx3.trans hx4)
            have B1 := b1.ext hx14
            have B2 := b2.ext hx14
            have c6 : ∀ W, Ext w4 W → ∀ j, W.cell? ⟨w.heap.size, j, none⟩ = #[Value.int .i64 p.al, .slice B m1 d1, .slice B' m1' d1'][j]? := fun W hW => (B1.ext hW).cell
            have c8 : ∀ W, Ext w4 W → ∀ j, W.cell? ⟨w.heap.size + 1, j, none⟩ = #[Value.int .i64 f.al, .slice C m2 d2, .slice C' m2' d2', .int .i64 g.al, .slice D m3 d3, .slice D' m3' d3'][j]? := fun W hW => (B2.ext hW).cell
            have hcx : ∀ W, Ext w4 W → W.cell? ⟨b, o, none⟩ = some (.int .i64 x.al) ∧ W.cell? ⟨b, o + 1, none⟩ = some (.int .i64 x.st) ∧ W.cell? ⟨b, o + 2, none⟩ = some (.slice Bx nx_ cx) ∧ W.cell? ⟨b, o + 3, none⟩ = some (.int .i64 y.al) ∧ W.cell? ⟨b, o + 4, none⟩ = some (.int .i64 y.st) ∧ W.cell? ⟨b, o + 5, none⟩ = some (.slice By ny cy) ∧ W.cell? ⟨b, o + 6, none⟩ = some (.int .i64 z.al) ∧ W.cell? ⟨b, o + 7, none⟩ = some (.int .i64 z.st) ∧ W.cell? ⟨b, o + 8, none⟩ = some (.slice Bz nz cz) := fun W hW => by
              have hh := (HX2.out W (hw4.trans hW)).1
              refine ⟨(hh 0).resolve_right (by omega), (hh 1).resolve_right (by omega), (hh 2).resolve_right (by omega), (hh 3).resolve_right (by omega), (hh 4).resolve_right (by omega), (hh 5).resolve_right (by omega), (hh 6).resolve_right (by omega), (hh 7).resolve_right (by omega), (hh 8).resolve_right (by omega)⟩
            have hww := Ext.refl w4
            clear c1 c22 c32 c42 B1 B2
            refine wp_region_tailU (fun X => Ext w4 X) [16] (OrdU.of [0, 1, 2, 3, 4, 5, 6, 7, 8, 9, 10, 11, 12, 13, 14, 15, 16, 17, 18]) (by kernel_rfl) (by kernel_rfl) (by kernel_rfl) (by kernel_rfl) (by kernel_rfl) (fun _ _ _ _ _ h => h) (by first | assumption | exact (Ext.refl _).drew | (refine Ext.drew ?_; assumption)) ?_
            repeat (first | (refine useq_skip rfl rfl (by assumption) ?_; simp only [Act.put, List.setIfInBounds_toArray, List.set_cons_zero, List.set_cons_succ]) | (refine useq_pure (v := ?_) rfl rfl rfl rfl (fun X => ?_) ?_; rotate_left; (focus (go_simp <;> with_reducible rfl)); simp only [Act.put, List.setIfInBounds_toArray, List.set_cons_zero, List.set_cons_succ]) | (refine useq_read (v := ?_) rfl rfl rfl rfl (fun X hX => ?_) ?_; rotate_left; (focus (go_simp <;> with_reducible rfl)); simp only [Act.put, List.setIfInBounds_toArray, List.set_cons_zero, List.set_cons_succ]))
            (refine useq_step rfl rfl rfl (fun K hK => ?_); go_simp)
            refine (HK1.out _ (hw4.trans hww.drew)).mono ?_
            rintro e w5 ⟨rfl, hy0⟩
            have hy := hww.drew.trans hy0
            refine hK.out _ _ hy ?_
            (try simp only [Act.put, List.setIfInBounds_toArray, List.set_cons_zero, List.set_cons_succ])
            repeat (first | (refine useq_skip rfl rfl (by assumption) ?_; simp only [Act.put, List.setIfInBounds_toArray, List.set_cons_zero, List.set_cons_succ]) | (refine useq_pure (v := ?_) rfl rfl rfl rfl (fun X => ?_) ?_; rotate_left; (focus (go_simp <;> with_reducible rfl)); simp only [Act.put, List.setIfInBounds_toArray, List.set_cons_zero, List.set_cons_succ]) | (refine useq_read (v := ?_) rfl rfl rfl rfl (fun X hX => ?_) ?_; rotate_left; (focus (go_simp <;> with_reducible rfl)); simp only [Act.put, List.setIfInBounds_toArray, List.set_cons_zero, List.set_cons_succ]))
            refine useq_nil ?_
            go_wp2_with fail
            go_ret
            exact ⟨ret_int (by rw [hr.out]; rfl), hw1.trans (hx14.trans hy)⟩
        · have hr := hide (show faultN [x, y, z] p f g = 2 by
            unfold faultN
            rw [hT'.out, V1.out, V2.out, hc1.out, hq2.out, decide_eq_false hE2]
            simp)
          have hb1 : (f.al != (q1 : Int)) = false := by simp [hE1]
          have hb2 : (g.al != q2) = true := by simp [hE2]
          clear hE1 hE2
          go_enter Tryz.func8, Tryz.ntmps8
          go_upto_region 1 with fail
          generalize (w.alloc (.cells #[.int .i64 p.al, .slice B m1 d1, .slice B' m1' d1'] 35)).alloc (.cells #[.int .i64 f.al, .slice C m2 d2, .slice C' m2' d2', .int .i64 g.al, .slice D m3 d3, .slice D' m3' d3'] 38) = w1 at *
          have c1 := b1.cell
          go_wp2_with (first
            | (go_at_call 26; refine (HCL.out _ hw1).mono ?_; rw [hc1.out, hq2.out]; rintro e w2 ⟨rfl, hx2⟩; have hw2 := hw1.trans hx2; have c22 := (b2.ext hx2).cell)
            | (go_at_call 27; with_reducible refine (HF.out _ hw2).mono ?_; rw [V1.out]; rintro e w3 ⟨rfl, hx3⟩; have hw3 := hw2.trans hx3; have c32 := (b2.ext (hx2.trans hx3)).cell)
            | (go_at_call 27; with_reducible refine (HG.out _ hw3).mono ?_; rw [V2.out]; rintro e w4 ⟨rfl, hx4⟩; have hw4 := hw3.trans hx4; have c42 := (b2.ext (hx2.trans (hx3.trans hx4))).cell))
          go_ret
          exact ⟨ret_int (by rw [hr.out]), hw4⟩
      · have hr := hide (show faultN [x, y, z] p f g = 2 by
          unfold faultN
          rw [hT'.out, V1.out, V2.out, hc1.out, hq2.out, decide_eq_false hE1]
          simp)
        have hb1 : (f.al != (q1 : Int)) = true := by simp [hE1]
        clear hE1
        go_enter Tryz.func8, Tryz.ntmps8
        go_upto_region 1 with fail
        generalize (w.alloc (.cells #[.int .i64 p.al, .slice B m1 d1, .slice B' m1' d1'] 35)).alloc (.cells #[.int .i64 f.al, .slice C m2 d2, .slice C' m2' d2', .int .i64 g.al, .slice D m3 d3, .slice D' m3' d3'] 38) = w1 at *
        have c1 := b1.cell
        go_wp2_with (first
          | (go_at_call 26; refine (HCL.out _ hw1).mono ?_; rw [hc1.out, hq2.out]; rintro e w2 ⟨rfl, hx2⟩; have hw2 := hw1.trans hx2; have c22 := (b2.ext hx2).cell)
          | (go_at_call 27; with_reducible refine (HF.out _ hw2).mono ?_; rw [V1.out]; rintro e w3 ⟨rfl, hx3⟩; have hw3 := hw2.trans hx3; have c32 := (b2.ext (hx2.trans hx3)).cell)
          | (go_at_call 27; with_reducible refine (HG.out _ hw3).mono ?_; rw [V2.out]; rintro e w4 ⟨rfl, hx4⟩; have hw4 := hw3.trans hx4; have c42 := (b2.ext (hx2.trans (hx3.trans hx4))).cell))
        go_ret
        exact ⟨ret_int (by rw [hr.out]), hw4⟩
    · have hV' := hide (show (autValid f && autValid g) = false by simpa using hV)
      have hr := hide (show faultN [x, y, z] p f g = 1 by unfold faultN; rw [hT'.out, hV'.out]; rfl)
      clear hV
      cases h2 : autValid f <;> cases h3 : autValid g
      all_goals first
        | (exfalso; have := hV'.out; rw [h2, h3] at this; cases this; done)
        | (have V1 := hide h2
           have V2 := hide h3
           clear h2 h3
           go_enter Tryz.func8, Tryz.ntmps8
           go_upto_region 1 with fail
           generalize (w.alloc (.cells #[.int .i64 p.al, .slice B m1 d1, .slice B' m1' d1'] 35)).alloc (.cells #[.int .i64 f.al, .slice C m2 d2, .slice C' m2' d2', .int .i64 g.al, .slice D m3 d3, .slice D' m3' d3'] 38) = w1 at *
           have c1 := b1.cell
           go_wp2_with (first
             | (go_at_call 26; refine (HCL.out _ hw1).mono ?_; rw [hc1.out, hq2.out]; rintro e w2 ⟨rfl, hx2⟩; have hw2 := hw1.trans hx2; have c22 := (b2.ext hx2).cell)
             | (go_at_call 27; with_reducible refine (HF.out _ hw2).mono ?_; rw [V1.out]; rintro e w3 ⟨rfl, hx3⟩; have hw3 := hw2.trans hx3; have c32 := (b2.ext (hx2.trans hx3)).cell)
             | (go_at_call 27; with_reducible refine (HG.out _ hw3).mono ?_; rw [V2.out]; rintro e w4 ⟨rfl, hx4⟩; have hw4 := hw3.trans hx4; have c42 := (b2.ext (hx2.trans (hx3.trans hx4))).cell))
           go_ret
           exact ⟨ret_int (by rw [hr.out]), by first | exact hw4 | exact hw3⟩)
set_option maxRecDepth 100000 in
theorem impl_ChainFault {n : Nat} (h : SLAt w lo hi A n ss) (hp : AutAt w lo1 hi1 B m1 B' m1' p) (hf : AutAt w lo2 hi2 C m2 C' m2' f) (hg : AutAt w lo3 hi3 D m3 D' m3' g) (hT : Tab w) :
    Calls Tryz.prog 12 #[.slice A n c, .agg #[.int .i64 p.al, .slice B m1 d1, .slice B' m1' d1'], .agg #[.int .i64 f.al, .slice C m2 d2, .slice C' m2' d2', .int .i64 g.al, .slice D m3 d3, .slice D' m3' d3']] w fun e w' => e = .returned (.int .i64 (faultN ss p f g)) ∧ Ext w w' := by
  have HS := hide (fun W (hW : Ext w W) => h.ext hW)
  have HPa := hide (fun W (hW : Ext w W) => hp.ext hW)
  have HFa := hide (fun W (hW : Ext w W) => hf.ext hW)
  have HGa := hide (fun W (hW : Ext w W) => hg.ext hW)
  have HT := hide (fun W (hW : Ext w W) => hT.ext hW)
  have HCL := hide (fun W (hW : Ext w W) => impl_ChainLetters (c := c) (d := d1) (d' := d1') (h.ext hW) (hp.ext hW))
  have HF := hide (fun W (hW : Ext w W) => impl_AutomatonValid _ _ _ _ d2 _ _ d2' _ _ (hf.ext hW))
  have HG := hide (fun W (hW : Ext w W) => impl_AutomatonValid _ _ _ _ d3 _ _ d3' _ _ (hg.ext hW))
  have hn := hide h.1
  clear h hp hf hg hT
  have hw1 : Ext w ((w.alloc (.cells #[.int .i64 p.al, .slice B m1 d1, .slice B' m1' d1'] 35)).alloc (.cells #[.int .i64 f.al, .slice C m2 d2, .slice C' m2' d2', .int .i64 g.al, .slice D m3 d3, .slice D' m3' d3'] 38)) := ((Ext.refl w).alloc _).alloc _
  obtain ⟨b1, b2⟩ := ext_blk2 (Ext.refl ((w.alloc (.cells #[.int .i64 p.al, .slice B m1 d1, .slice B' m1' d1'] 35)).alloc (.cells #[.int .i64 f.al, .slice C m2 d2, .slice C' m2' d2', .int .i64 g.al, .slice D m3 d3, .slice D' m3' d3'] 38)))
  cases hT : three ss p
  · have hr := hide (show faultN ss p f g = 1 by unfold faultN; rw [hT]; rfl)
    have hc1 := hide (show chain1 ss p = -1 by unfold chain1; rw [hT]; rfl)
    clear hT
    go_enter Tryz.func12, Tryz.ntmps12
    go_upto_region 1 with fail
    generalize (w.alloc (.cells #[.int .i64 p.al, .slice B m1 d1, .slice B' m1' d1'] 35)).alloc (.cells #[.int .i64 f.al, .slice C m2 d2, .slice C' m2' d2', .int .i64 g.al, .slice D m3 d3, .slice D' m3' d3'] 38) = w1 at *
    have c1 := b1.cell
    go_wp2_with (go_at_call 32; refine (HCL.out _ hw1).mono ?_; rw [hc1.out]; rintro e w2 ⟨rfl, hx2⟩)
    go_ret
    exact ⟨ret_int (by rw [hr.out]), hw1.trans hx2⟩
  · obtain ⟨x, y, z, rfl⟩ := three_list hT
    obtain ⟨q1, hq1, hq63⟩ := chain1_nat hT
    obtain rfl : n = 3 := hn.out
    have hc1 := hide hq1
    obtain ⟨q2, hq2⟩ : ∃ q2 : Int, Hid (chain2 [x, y, z] p = q2) := ⟨_, rfl⟩
    have hT' := hide hT
    clear hT hq1 hn
    have hneg : ¬ (q1 : Int) < 0 := by omega
    obtain ⟨b, o, rfl, HX⟩ : ∃ b o, A = some ⟨b, o, none⟩ ∧ Hid (∃ (Bx By Bz : Option Addr) (nx_ ny nz cx cy cz : Nat), ∀ W, Ext w W → (∀ j, W.cell? ⟨b, o + j, none⟩ = #[Value.int .i64 x.al, .int .i64 x.st, .slice Bx nx_ cx, .int .i64 y.al, .int .i64 y.st, .slice By ny cy, .int .i64 z.al, .int .i64 z.st, .slice Bz nz cz][j]? ∨ 9 ≤ j) ∧ SysAt W lo hi Bx nx_ x ∧ SysAt W lo hi By ny y ∧ SysAt W lo hi Bz nz z) := by
      obtain ⟨b, o, s, Bx, nx_, cx, rfl, _, _, hs, e0, e1, e2, hx⟩ := (HS.out w (Ext.refl _)).sys (k := 0) (by omega)
      obtain rfl : x = s := by have := hs.out; simpa using this
      obtain ⟨By, ny, cy, f0, f1, f2, hy⟩ := (HS.out w (Ext.refl _)).sys2 (k := 1) (s := y) rfl
      obtain ⟨Bz, nz, cz, g0, g1, g2, hz⟩ := (HS.out w (Ext.refl _)).sys2 (k := 2) (s := z) rfl
      refine ⟨b, o, rfl, ⟨Bx, By, Bz, nx_, ny, nz, cx, cy, cz, fun W hW => ⟨fun j => ?_, hx.ext hW, hy.ext hW, hz.ext hW⟩⟩⟩
      match j with
      | 0 => exact Or.inl (hW.cell_some (by simpa using e0))
      | 1 => exact Or.inl (hW.cell_some (by simpa using e1))
      | 2 => exact Or.inl (hW.cell_some (by simpa using e2))
      | 3 => exact Or.inl (hW.cell_some (by simpa using f0))
      | 4 => exact Or.inl (hW.cell_some (by simpa [Nat.add_assoc] using f1))
      | 5 => exact Or.inl (hW.cell_some (by simpa [Nat.add_assoc] using f2))
      | 6 => exact Or.inl (hW.cell_some (by simpa using g0))
      | 7 => exact Or.inl (hW.cell_some (by simpa [Nat.add_assoc] using g1))
      | 8 => exact Or.inl (hW.cell_some (by simpa [Nat.add_assoc] using g2))
      | j + 9 => exact Or.inr (by omega)
    by_cases hV : (autValid f && autValid g) = true
    · simp only [Bool.and_eq_true] at hV
      have V1 := hide hV.1
      have V2 := hide hV.2
      clear hV
      by_cases hE1 : f.al = (q1 : Int)
      · by_cases hE2 : g.al = q2
        · -- the letters are right
          have hr := hide (show faultN [x, y, z] p f g = if (keepsU x f p && keepsU y g f) = false then 3 else if keepsP [z] g = false then 4 else 0 by
            unfold faultN
            rw [hT'.out, V1.out, V2.out, hc1.out, hq2.out, decide_eq_true hE1, decide_eq_true hE2]
            rfl)
          have He1 := hide hE1
          have He2 := hide hE2
          have hb1 : (f.al != (q1 : Int)) = false := by simp [hE1]
          have hb2 : (g.al != q2) = false := by simp [hE2]
          clear hE1 hE2
          obtain ⟨Bx, By, Bz, nx_, ny, nz, cx, cy, cz, HXw⟩ := HX.out
          have HX2 := hide HXw
          clear HX HXw
          have HK1 := hide (fun W (hW : Ext w W) => impl_KeepsUnder (c := cx) (d1 := d2) (d1' := d2') (d2 := d1) (d2' := d1') (HX2.out W hW).2.1 (HFa.out W hW) (HPa.out W hW) (HT.out W hW))
          have HK2 := hide (fun W (hW : Ext w W) => impl_KeepsUnder (c := cy) (d1 := d3) (d1' := d3') (d2 := d2) (d2' := d2') (HX2.out W hW).2.2.1 (HGa.out W hW) (HFa.out W hW) (HT.out W hW))
          have HK3 := hide (fun W (hW : Ext w W) => impl_KeepsProperty (c := cz) (d2 := d3) (d2' := d3') (HX2.out W hW).2.2.2 (HGa.out W hW) (HT.out W hW))
          generalize keepsU x f p = u1 at *
          generalize keepsU y g f = u2 at *
          generalize keepsP [z] g = u3 at *
          cases u1
          rotate_left
          · cases u2
            rotate_left
            · cases u3
              all_goals
                go_enter Tryz.func12, Tryz.ntmps12
                go_upto_region 1 with fail
                generalize (w.alloc (.cells #[.int .i64 p.al, .slice B m1 d1, .slice B' m1' d1'] 35)).alloc (.cells #[.int .i64 f.al, .slice C m2 d2, .slice C' m2' d2', .int .i64 g.al, .slice D m3 d3, .slice D' m3' d3'] 38) = w1 at *
                have c1 := b1.cell
                go_upto_region 6 with (first
                  | (go_at_call 32; refine (HCL.out _ hw1).mono ?_; rw [hc1.out, hq2.out]; rintro e w2 ⟨rfl, hx2⟩; have hw2 := hw1.trans hx2; have c22 := (b2.ext hx2).cell)
                  | (go_at_call 33; with_reducible refine (HF.out _ hw2).mono ?_; rw [V1.out]; rintro e w3 ⟨rfl, hx3⟩; have hw3 := hw2.trans hx3; have c32 := (b2.ext (hx2.trans hx3)).cell)
                  | (go_at_call 33; with_reducible refine (HG.out _ hw3).mono ?_; rw [V2.out]; rintro e w4 ⟨rfl, hx4⟩; have hw4 := hw3.trans hx4; have c42 := (b2.ext (hx2.trans (hx3.trans hx4))).cell))
                have hx14 := hx2.trans (hx3.trans hx4)
                have B1 := b1.ext hx14
                have B2 := b2.ext hx14
                have c6 : ∀ W, Ext w4 W → ∀ j, W.cell? ⟨w.heap.size, j, none⟩ = #[Value.int .i64 p.al, .slice B m1 d1, .slice B' m1' d1'][j]? := fun W hW => (B1.ext hW).cell
                have c8 : ∀ W, Ext w4 W → ∀ j, W.cell? ⟨w.heap.size + 1, j, none⟩ = #[Value.int .i64 f.al, .slice C m2 d2, .slice C' m2' d2', .int .i64 g.al, .slice D m3 d3, .slice D' m3' d3'][j]? := fun W hW => (B2.ext hW).cell
                have hcx : ∀ W, Ext w4 W → W.cell? ⟨b, o, none⟩ = some (.int .i64 x.al) ∧ W.cell? ⟨b, o + 1, none⟩ = some (.int .i64 x.st) ∧ W.cell? ⟨b, o + 2, none⟩ = some (.slice Bx nx_ cx) ∧ W.cell? ⟨b, o + 3, none⟩ = some (.int .i64 y.al) ∧ W.cell? ⟨b, o + 4, none⟩ = some (.int .i64 y.st) ∧ W.cell? ⟨b, o + 5, none⟩ = some (.slice By ny cy) ∧ W.cell? ⟨b, o + 6, none⟩ = some (.int .i64 z.al) ∧ W.cell? ⟨b, o + 7, none⟩ = some (.int .i64 z.st) ∧ W.cell? ⟨b, o + 8, none⟩ = some (.slice Bz nz cz) := fun W hW => by
                  have hh := (HX2.out W (hw4.trans hW)).1
                  refine ⟨(hh 0).resolve_right (by omega), (hh 1).resolve_right (by omega), (hh 2).resolve_right (by omega), (hh 3).resolve_right (by omega), (hh 4).resolve_right (by omega), (hh 5).resolve_right (by omega), (hh 6).resolve_right (by omega), (hh 7).resolve_right (by omega), (hh 8).resolve_right (by omega)⟩
                have hww := Ext.refl w4
                clear c1 c22 c32 c42 B1 B2
                refine wp_region_tailU (fun X => Ext w4 X) [16] (OrdU.of [0, 1, 2, 3, 4, 5, 6, 7, 8, 9, 10, 11, 12, 13, 14, 15, 16, 17, 18, 19]) (by kernel_rfl) (by kernel_rfl) (by kernel_rfl) (by kernel_rfl) (by kernel_rfl) (fun _ _ _ _ _ h => h) (by first | assumption | exact (Ext.refl _).drew | (refine Ext.drew ?_; assumption)) ?_
                repeat (first | (refine useq_skip rfl rfl (by assumption) ?_; simp only [Act.put, List.setIfInBounds_toArray, List.set_cons_zero, List.set_cons_succ]) | (refine useq_pure (v := ?_) rfl rfl rfl rfl (fun X => ?_) ?_; rotate_left; (focus (go_simp <;> with_reducible rfl)); simp only [Act.put, List.setIfInBounds_toArray, List.set_cons_zero, List.set_cons_succ]) | (refine useq_read (v := ?_) rfl rfl rfl rfl (fun X hX => ?_) ?_; rotate_left; (focus (go_simp <;> with_reducible rfl)); simp only [Act.put, List.setIfInBounds_toArray, List.set_cons_zero, List.set_cons_succ]))
                (refine useq_step rfl rfl rfl (fun K hK => ?_); go_simp)
                refine (HK1.out _ (hw4.trans hww.drew)).mono ?_
                rintro e w5 ⟨rfl, hy0⟩
                have hy := hww.drew.trans hy0
                refine hK.out _ _ hy ?_
                (try simp only [Act.put, List.setIfInBounds_toArray, List.set_cons_zero, List.set_cons_succ])
                repeat (first | (refine useq_skip rfl rfl (by assumption) ?_; simp only [Act.put, List.setIfInBounds_toArray, List.set_cons_zero, List.set_cons_succ]) | (refine useq_pure (v := ?_) rfl rfl rfl rfl (fun X => ?_) ?_; rotate_left; (focus (go_simp <;> with_reducible rfl)); simp only [Act.put, List.setIfInBounds_toArray, List.set_cons_zero, List.set_cons_succ]) | (refine useq_read (v := ?_) rfl rfl rfl rfl (fun X hX => ?_) ?_; rotate_left; (focus (go_simp <;> with_reducible rfl)); simp only [Act.put, List.setIfInBounds_toArray, List.set_cons_zero, List.set_cons_succ]))
                (refine useq_last rfl rfl rfl rfl (fun K hK => ?_))
                go_simp
                refine (HK2.out _ (hw4.trans hy)).mono ?_
                rintro e w6 ⟨rfl, hy1⟩
                have hyy := hy.trans hy1
                refine hK.out _ _ ?_
                (try simp only [Act.put, List.setIfInBounds_toArray, List.set_cons_zero, List.set_cons_succ])
                repeat (first | (refine useq_skip rfl rfl (by assumption) ?_; simp only [Act.put, List.setIfInBounds_toArray, List.set_cons_zero, List.set_cons_succ]) | (refine useq_pure (v := ?_) rfl rfl rfl rfl (fun X => ?_) ?_; rotate_left; (focus (go_simp <;> with_reducible rfl)); simp only [Act.put, List.setIfInBounds_toArray, List.set_cons_zero, List.set_cons_succ]) | (refine useq_read (v := ?_) rfl rfl rfl rfl (fun X hX => ?_) ?_; rotate_left; (focus (go_simp <;> with_reducible rfl)); simp only [Act.put, List.setIfInBounds_toArray, List.set_cons_zero, List.set_cons_succ]))
                refine useq_nil ?_
                go_wp2_with fail
                have hyy0 := hyy
                clear c6 c8 hcx hww
                go_upto_region 8 with fail
                have hcz : ∀ W, Ext w6 W → W.cell? ⟨b, o + 6, none⟩ = some (.int .i64 z.al) ∧ W.cell? ⟨b, o + 7, none⟩ = some (.int .i64 z.st) ∧ W.cell? ⟨b, o + 8, none⟩ = some (.slice Bz nz cz) := fun W hW => by
                  have hh := (HX2.out W (hw4.trans (hyy0.trans hW))).1
                  exact ⟨(hh 6).resolve_right (by omega), (hh 7).resolve_right (by omega), (hh 8).resolve_right (by omega)⟩
                have c8 : ∀ W, Ext w6 W → ∀ j, W.cell? ⟨w.heap.size + 1, j, none⟩ = #[Value.int .i64 f.al, .slice C m2 d2, .slice C' m2' d2', .int .i64 g.al, .slice D m3 d3, .slice D' m3' d3'][j]? := fun W hW => (b2.ext (hx14.trans (hyy0.trans hW))).cell
                have hww := Ext.refl w6
                refine wp_region_tailU (fun X => Ext w6 X) [5] (OrdU.of [0, 1, 2, 3, 4, 5, 6, 7]) (by kernel_rfl) (by kernel_rfl) (by kernel_rfl) (by kernel_rfl) (by kernel_rfl) (fun _ _ _ _ _ h => h) (by first | assumption | exact (Ext.refl _).drew | (refine Ext.drew ?_; assumption)) ?_
                repeat (first | (refine useq_skip rfl rfl (by assumption) ?_; simp only [Act.put, List.setIfInBounds_toArray, List.set_cons_zero, List.set_cons_succ]) | (refine useq_pure (v := ?_) rfl rfl rfl rfl (fun X => ?_) ?_; rotate_left; (focus (go_simp <;> with_reducible rfl)); simp only [Act.put, List.setIfInBounds_toArray, List.set_cons_zero, List.set_cons_succ]) | (refine useq_read (v := ?_) rfl rfl rfl rfl (fun X hX => ?_) ?_; rotate_left; (focus (go_simp <;> with_reducible rfl)); simp only [Act.put, List.setIfInBounds_toArray, List.set_cons_zero, List.set_cons_succ]))
                (refine useq_last rfl rfl rfl rfl (fun K hK => ?_))
                go_simp
                refine (HK3.out _ (hw4.trans (hyy0.trans hww.drew))).mono ?_
                rintro e w7 ⟨rfl, hy2⟩
                have hyy2 := hyy0.trans (hww.drew.trans hy2)
                refine hK.out _ _ ?_
                (try simp only [Act.put, List.setIfInBounds_toArray, List.set_cons_zero, List.set_cons_succ])
                repeat (first | (refine useq_skip rfl rfl (by assumption) ?_; simp only [Act.put, List.setIfInBounds_toArray, List.set_cons_zero, List.set_cons_succ]) | (refine useq_pure (v := ?_) rfl rfl rfl rfl (fun X => ?_) ?_; rotate_left; (focus (go_simp <;> with_reducible rfl)); simp only [Act.put, List.setIfInBounds_toArray, List.set_cons_zero, List.set_cons_succ]) | (refine useq_read (v := ?_) rfl rfl rfl rfl (fun X hX => ?_) ?_; rotate_left; (focus (go_simp <;> with_reducible rfl)); simp only [Act.put, List.setIfInBounds_toArray, List.set_cons_zero, List.set_cons_succ]))
                refine useq_nil ?_
                go_wp2_with fail
                go_ret
                exact ⟨ret_int (by rw [hr.out]; rfl), hw1.trans (hx14.trans hyy2)⟩
            · go_enter Tryz.func12, Tryz.ntmps12
              go_upto_region 1 with fail
              generalize (w.alloc (.cells #[.int .i64 p.al, .slice B m1 d1, .slice B' m1' d1'] 35)).alloc (.cells #[.int .i64 f.al, .slice C m2 d2, .slice C' m2' d2', .int .i64 g.al, .slice D m3 d3, .slice D' m3' d3'] 38) = w1 at *
              have c1 := b1.cell
              go_upto_region 6 with (first
                | (go_at_call 32; refine (HCL.out _ hw1).mono ?_; rw [hc1.out, hq2.out]; rintro e w2 ⟨rfl, hx2⟩; have hw2 := hw1.trans hx2; have c22 := (b2.ext hx2).cell)
                | (go_at_call 33; with_reducible refine (HF.out _ hw2).mono ?_; rw [V1.out]; rintro e w3 ⟨rfl, hx3⟩; have hw3 := hw2.trans hx3; have c32 := (b2.ext (hx2.trans hx3)).cell)
                | (go_at_call 33; with_reducible refine (HG.out _ hw3).mono ?_; rw [V2.out]; rintro e w4 ⟨rfl, hx4⟩; have hw4 := hw3.trans hx4; have c42 := (b2.ext (hx2.trans (hx3.trans hx4))).cell))
              have hx14 := hx2.trans (hx3.trans hx4)
              have B1 := b1.ext hx14
              have B2 := b2.ext hx14
              have c6 : ∀ W, Ext w4 W → ∀ j, W.cell? ⟨w.heap.size, j, none⟩ = #[Value.int .i64 p.al, .slice B m1 d1, .slice B' m1' d1'][j]? := fun W hW => (B1.ext hW).cell
              have c8 : ∀ W, Ext w4 W → ∀ j, W.cell? ⟨w.heap.size + 1, j, none⟩ = #[Value.int .i64 f.al, .slice C m2 d2, .slice C' m2' d2', .int .i64 g.al, .slice D m3 d3, .slice D' m3' d3'][j]? := fun W hW => (B2.ext hW).cell
              have hcx : ∀ W, Ext w4 W → W.cell? ⟨b, o, none⟩ = some (.int .i64 x.al) ∧ W.cell? ⟨b, o + 1, none⟩ = some (.int .i64 x.st) ∧ W.cell? ⟨b, o + 2, none⟩ = some (.slice Bx nx_ cx) ∧ W.cell? ⟨b, o + 3, none⟩ = some (.int .i64 y.al) ∧ W.cell? ⟨b, o + 4, none⟩ = some (.int .i64 y.st) ∧ W.cell? ⟨b, o + 5, none⟩ = some (.slice By ny cy) ∧ W.cell? ⟨b, o + 6, none⟩ = some (.int .i64 z.al) ∧ W.cell? ⟨b, o + 7, none⟩ = some (.int .i64 z.st) ∧ W.cell? ⟨b, o + 8, none⟩ = some (.slice Bz nz cz) := fun W hW => by
                have hh := (HX2.out W (hw4.trans hW)).1
                refine ⟨(hh 0).resolve_right (by omega), (hh 1).resolve_right (by omega), (hh 2).resolve_right (by omega), (hh 3).resolve_right (by omega), (hh 4).resolve_right (by omega), (hh 5).resolve_right (by omega), (hh 6).resolve_right (by omega), (hh 7).resolve_right (by omega), (hh 8).resolve_right (by omega)⟩
              have hww := Ext.refl w4
              clear c1 c22 c32 c42 B1 B2
              refine wp_region_tailU (fun X => Ext w4 X) [16] (OrdU.of [0, 1, 2, 3, 4, 5, 6, 7, 8, 9, 10, 11, 12, 13, 14, 15, 16, 17, 18, 19]) (by kernel_rfl) (by kernel_rfl) (by kernel_rfl) (by kernel_rfl) (by kernel_rfl) (fun _ _ _ _ _ h => h) (by first | assumption | exact (Ext.refl _).drew | (refine Ext.drew ?_; assumption)) ?_
              repeat (first | (refine useq_skip rfl rfl (by assumption) ?_; simp only [Act.put, List.setIfInBounds_toArray, List.set_cons_zero, List.set_cons_succ]) | (refine useq_pure (v := ?_) rfl rfl rfl rfl (fun X => ?_) ?_; rotate_left; (focus (go_simp <;> with_reducible rfl)); simp only [Act.put, List.setIfInBounds_toArray, List.set_cons_zero, List.set_cons_succ]) | (refine useq_read (v := ?_) rfl rfl rfl rfl (fun X hX => ?_) ?_; rotate_left; (focus (go_simp <;> with_reducible rfl)); simp only [Act.put, List.setIfInBounds_toArray, List.set_cons_zero, List.set_cons_succ]))
              (refine useq_step rfl rfl rfl (fun K hK => ?_); go_simp)
              refine (HK1.out _ (hw4.trans hww.drew)).mono ?_
              rintro e w5 ⟨rfl, hy0⟩
              have hy := hww.drew.trans hy0
              refine hK.out _ _ hy ?_
              (try simp only [Act.put, List.setIfInBounds_toArray, List.set_cons_zero, List.set_cons_succ])
              repeat (first | (refine useq_skip rfl rfl (by assumption) ?_; simp only [Act.put, List.setIfInBounds_toArray, List.set_cons_zero, List.set_cons_succ]) | (refine useq_pure (v := ?_) rfl rfl rfl rfl (fun X => ?_) ?_; rotate_left; (focus (go_simp <;> with_reducible rfl)); simp only [Act.put, List.setIfInBounds_toArray, List.set_cons_zero, List.set_cons_succ]) | (refine useq_read (v := ?_) rfl rfl rfl rfl (fun X hX => ?_) ?_; rotate_left; (focus (go_simp <;> with_reducible rfl)); simp only [Act.put, List.setIfInBounds_toArray, List.set_cons_zero, List.set_cons_succ]))
              (refine useq_last rfl rfl rfl rfl (fun K hK => ?_))
              go_simp
              refine (HK2.out _ (hw4.trans hy)).mono ?_
              rintro e w6 ⟨rfl, hy1⟩
              have hyy := hy.trans hy1
              refine hK.out _ _ ?_
              (try simp only [Act.put, List.setIfInBounds_toArray, List.set_cons_zero, List.set_cons_succ])
              repeat (first | (refine useq_skip rfl rfl (by assumption) ?_; simp only [Act.put, List.setIfInBounds_toArray, List.set_cons_zero, List.set_cons_succ]) | (refine useq_pure (v := ?_) rfl rfl rfl rfl (fun X => ?_) ?_; rotate_left; (focus (go_simp <;> with_reducible rfl)); simp only [Act.put, List.setIfInBounds_toArray, List.set_cons_zero, List.set_cons_succ]) | (refine useq_read (v := ?_) rfl rfl rfl rfl (fun X hX => ?_) ?_; rotate_left; (focus (go_simp <;> with_reducible rfl)); simp only [Act.put, List.setIfInBounds_toArray, List.set_cons_zero, List.set_cons_succ]))
              refine useq_nil ?_
              go_wp2_with fail
              go_ret
              exact ⟨ret_int (by rw [hr.out]; rfl), hw1.trans (hx14.trans hyy)⟩
          · go_enter Tryz.func12, Tryz.ntmps12
            go_upto_region 1 with fail
            generalize (w.alloc (.cells #[.int .i64 p.al, .slice B m1 d1, .slice B' m1' d1'] 35)).alloc (.cells #[.int .i64 f.al, .slice C m2 d2, .slice C' m2' d2', .int .i64 g.al, .slice D m3 d3, .slice D' m3' d3'] 38) = w1 at *
            have c1 := b1.cell
            go_upto_region 6 with (first
              | (go_at_call 32; refine (HCL.out _ hw1).mono ?_; rw [hc1.out, hq2.out]; rintro e w2 ⟨rfl, hx2⟩; have hw2 := hw1.trans hx2; have c22 := (b2.ext hx2).cell)
              | (go_at_call 33; with_reducible refine (HF.out _ hw2).mono ?_; rw [V1.out]; rintro e w3 ⟨rfl, hx3⟩; have hw3 := hw2.trans hx3; have c32 := (b2.ext (hx2.trans hx3)).cell)
              | (go_at_call 33; with_reducible refine (HG.out _ hw3).mono ?_; rw [V2.out]; rintro e w4 ⟨rfl, hx4⟩; have hw4 := hw3.trans hx4; have c42 := (b2.ext (hx2.trans (hx3.trans hx4))).cell))
            have hx14 := hx2.trans (hx3.trans hx4)
            have B1 := b1.ext hx14
            have B2 := b2.ext hx14
            have c6 : ∀ W, Ext w4 W → ∀ j, W.cell? ⟨w.heap.size, j, none⟩ = #[Value.int .i64 p.al, .slice B m1 d1, .slice B' m1' d1'][j]? := fun W hW => (B1.ext hW).cell
            have c8 : ∀ W, Ext w4 W → ∀ j, W.cell? ⟨w.heap.size + 1, j, none⟩ = #[Value.int .i64 f.al, .slice C m2 d2, .slice C' m2' d2', .int .i64 g.al, .slice D m3 d3, .slice D' m3' d3'][j]? := fun W hW => (B2.ext hW).cell
            have hcx : ∀ W, Ext w4 W → W.cell? ⟨b, o, none⟩ = some (.int .i64 x.al) ∧ W.cell? ⟨b, o + 1, none⟩ = some (.int .i64 x.st) ∧ W.cell? ⟨b, o + 2, none⟩ = some (.slice Bx nx_ cx) ∧ W.cell? ⟨b, o + 3, none⟩ = some (.int .i64 y.al) ∧ W.cell? ⟨b, o + 4, none⟩ = some (.int .i64 y.st) ∧ W.cell? ⟨b, o + 5, none⟩ = some (.slice By ny cy) ∧ W.cell? ⟨b, o + 6, none⟩ = some (.int .i64 z.al) ∧ W.cell? ⟨b, o + 7, none⟩ = some (.int .i64 z.st) ∧ W.cell? ⟨b, o + 8, none⟩ = some (.slice Bz nz cz) := fun W hW => by
              have hh := (HX2.out W (hw4.trans hW)).1
              refine ⟨(hh 0).resolve_right (by omega), (hh 1).resolve_right (by omega), (hh 2).resolve_right (by omega), (hh 3).resolve_right (by omega), (hh 4).resolve_right (by omega), (hh 5).resolve_right (by omega), (hh 6).resolve_right (by omega), (hh 7).resolve_right (by omega), (hh 8).resolve_right (by omega)⟩
            have hww := Ext.refl w4
            clear c1 c22 c32 c42 B1 B2
            refine wp_region_tailU (fun X => Ext w4 X) [16] (OrdU.of [0, 1, 2, 3, 4, 5, 6, 7, 8, 9, 10, 11, 12, 13, 14, 15, 16, 17, 18, 19]) (by kernel_rfl) (by kernel_rfl) (by kernel_rfl) (by kernel_rfl) (by kernel_rfl) (fun _ _ _ _ _ h => h) (by first | assumption | exact (Ext.refl _).drew | (refine Ext.drew ?_; assumption)) ?_
            repeat (first | (refine useq_skip rfl rfl (by assumption) ?_; simp only [Act.put, List.setIfInBounds_toArray, List.set_cons_zero, List.set_cons_succ]) | (refine useq_pure (v := ?_) rfl rfl rfl rfl (fun X => ?_) ?_; rotate_left; (focus (go_simp <;> with_reducible rfl)); simp only [Act.put, List.setIfInBounds_toArray, List.set_cons_zero, List.set_cons_succ]) | (refine useq_read (v := ?_) rfl rfl rfl rfl (fun X hX => ?_) ?_; rotate_left; (focus (go_simp <;> with_reducible rfl)); simp only [Act.put, List.setIfInBounds_toArray, List.set_cons_zero, List.set_cons_succ]))
            (refine useq_step rfl rfl rfl (fun K hK => ?_); go_simp)
            refine (HK1.out _ (hw4.trans hww.drew)).mono ?_
            rintro e w5 ⟨rfl, hy0⟩
            have hy := hww.drew.trans hy0
            refine hK.out _ _ hy ?_
            (try simp only [Act.put, List.setIfInBounds_toArray, List.set_cons_zero, List.set_cons_succ])
            repeat (first | (refine useq_skip rfl rfl (by assumption) ?_; simp only [Act.put, List.setIfInBounds_toArray, List.set_cons_zero, List.set_cons_succ]) | (refine useq_pure (v := ?_) rfl rfl rfl rfl (fun X => ?_) ?_; rotate_left; (focus (go_simp <;> with_reducible rfl)); simp only [Act.put, List.setIfInBounds_toArray, List.set_cons_zero, List.set_cons_succ]) | (refine useq_read (v := ?_) rfl rfl rfl rfl (fun X hX => ?_) ?_; rotate_left; (focus (go_simp <;> with_reducible rfl)); simp only [Act.put, List.setIfInBounds_toArray, List.set_cons_zero, List.set_cons_succ]))
            refine useq_nil ?_
            go_wp2_with fail
            go_ret
            exact ⟨ret_int (by rw [hr.out]; rfl), hw1.trans (hx14.trans hy)⟩
        · have hr := hide (show faultN [x, y, z] p f g = 2 by
            unfold faultN
            rw [hT'.out, V1.out, V2.out, hc1.out, hq2.out, decide_eq_false hE2]
            simp)
          have hb1 : (f.al != (q1 : Int)) = false := by simp [hE1]
          have hb2 : (g.al != q2) = true := by simp [hE2]
          clear hE1 hE2
          go_enter Tryz.func12, Tryz.ntmps12
          go_upto_region 1 with fail
          generalize (w.alloc (.cells #[.int .i64 p.al, .slice B m1 d1, .slice B' m1' d1'] 35)).alloc (.cells #[.int .i64 f.al, .slice C m2 d2, .slice C' m2' d2', .int .i64 g.al, .slice D m3 d3, .slice D' m3' d3'] 38) = w1 at *
          have c1 := b1.cell
          go_wp2_with (first
            | (go_at_call 32; refine (HCL.out _ hw1).mono ?_; rw [hc1.out, hq2.out]; rintro e w2 ⟨rfl, hx2⟩; have hw2 := hw1.trans hx2; have c22 := (b2.ext hx2).cell)
            | (go_at_call 33; with_reducible refine (HF.out _ hw2).mono ?_; rw [V1.out]; rintro e w3 ⟨rfl, hx3⟩; have hw3 := hw2.trans hx3; have c32 := (b2.ext (hx2.trans hx3)).cell)
            | (go_at_call 33; with_reducible refine (HG.out _ hw3).mono ?_; rw [V2.out]; rintro e w4 ⟨rfl, hx4⟩; have hw4 := hw3.trans hx4; have c42 := (b2.ext (hx2.trans (hx3.trans hx4))).cell))
          go_ret
          exact ⟨ret_int (by rw [hr.out]), hw4⟩
      · have hr := hide (show faultN [x, y, z] p f g = 2 by
          unfold faultN
          rw [hT'.out, V1.out, V2.out, hc1.out, hq2.out, decide_eq_false hE1]
          simp)
        have hb1 : (f.al != (q1 : Int)) = true := by simp [hE1]
        clear hE1
        go_enter Tryz.func12, Tryz.ntmps12
        go_upto_region 1 with fail
        generalize (w.alloc (.cells #[.int .i64 p.al, .slice B m1 d1, .slice B' m1' d1'] 35)).alloc (.cells #[.int .i64 f.al, .slice C m2 d2, .slice C' m2' d2', .int .i64 g.al, .slice D m3 d3, .slice D' m3' d3'] 38) = w1 at *
        have c1 := b1.cell
        go_wp2_with (first
          | (go_at_call 32; refine (HCL.out _ hw1).mono ?_; rw [hc1.out, hq2.out]; rintro e w2 ⟨rfl, hx2⟩; have hw2 := hw1.trans hx2; have c22 := (b2.ext hx2).cell)
          | (go_at_call 33; with_reducible refine (HF.out _ hw2).mono ?_; rw [V1.out]; rintro e w3 ⟨rfl, hx3⟩; have hw3 := hw2.trans hx3; have c32 := (b2.ext (hx2.trans hx3)).cell)
          | (go_at_call 33; with_reducible refine (HG.out _ hw3).mono ?_; rw [V2.out]; rintro e w4 ⟨rfl, hx4⟩; have hw4 := hw3.trans hx4; have c42 := (b2.ext (hx2.trans (hx3.trans hx4))).cell))
        go_ret
        exact ⟨ret_int (by rw [hr.out]), hw4⟩
    · have hV' := hide (show (autValid f && autValid g) = false by simpa using hV)
      have hr := hide (show faultN [x, y, z] p f g = 1 by unfold faultN; rw [hT'.out, hV'.out]; rfl)
      clear hV
      cases h2 : autValid f <;> cases h3 : autValid g
      all_goals first
        | (exfalso; have := hV'.out; rw [h2, h3] at this; cases this; done)
        | (have V1 := hide h2
           have V2 := hide h3
           clear h2 h3
           go_enter Tryz.func12, Tryz.ntmps12
           go_upto_region 1 with fail
           generalize (w.alloc (.cells #[.int .i64 p.al, .slice B m1 d1, .slice B' m1' d1'] 35)).alloc (.cells #[.int .i64 f.al, .slice C m2 d2, .slice C' m2' d2', .int .i64 g.al, .slice D m3 d3, .slice D' m3' d3'] 38) = w1 at *
           have c1 := b1.cell
           go_wp2_with (first
             | (go_at_call 32; refine (HCL.out _ hw1).mono ?_; rw [hc1.out, hq2.out]; rintro e w2 ⟨rfl, hx2⟩; have hw2 := hw1.trans hx2; have c22 := (b2.ext hx2).cell)
             | (go_at_call 33; with_reducible refine (HF.out _ hw2).mono ?_; rw [V1.out]; rintro e w3 ⟨rfl, hx3⟩; have hw3 := hw2.trans hx3; have c32 := (b2.ext (hx2.trans hx3)).cell)
             | (go_at_call 33; with_reducible refine (HG.out _ hw3).mono ?_; rw [V2.out]; rintro e w4 ⟨rfl, hx4⟩; have hw4 := hw3.trans hx4; have c42 := (b2.ext (hx2.trans (hx3.trans hx4))).cell))
           go_ret
           exact ⟨ret_int (by rw [hr.out]), by first | exact hw4 | exact hw3⟩)
end
end Go.Proofs.YtplllipekeomiaaGreatDoor

namespace Go.Proofs.YtplllipekeomiaaGreatDoor
open Go Go.RowKit
set_option maxHeartbeats 2000000

section
variable {lo hi : Nat} {A : Option Addr} {n c : Nat} {A' : Option Addr} {n' c' : Nat} {f : Aut} {lo2 hi2 : Nat} {B : Option Addr} {m d : Nat} {B' : Option Addr} {m' d' : Nat} {g : Aut} {w : World}
set_option maxRecDepth 100000 in
theorem szChain_any {left : Int} (h : AutAt w lo hi A n A' n' f) (h' : AutAt w lo2 hi2 B m B' m' g) (h0 : 0 ≤ left) (h1 : left ≤ 1048576) :
    Calls Tryz.prog 7 #[.agg #[.int .i64 f.al, .slice A n c, .slice A' n' c', .int .i64 g.al, .slice B m d, .slice B' m' d'], .int .i64 left] w fun e w' => e = .returned (.int .i64 (leftOf left (f.size + g.size))) ∧ Ext w w' := by
  have hle := leftOf_le left f.size h1
  have Hsz := hide (show leftOf left (f.size + g.size) = if leftOf left f.size < 0 then -1 else leftOf (leftOf left f.size) g.size by unfold leftOf; (repeat' split) <;> omega)
  have HR := hide (fun W (hW : Ext w W) => h.ext hW)
  have HR' := hide (fun W (hW : Ext w W) => h'.ext hW)
  have hw1 : Ext w (w.alloc (.cells #[.int .i64 f.al, .slice A n c, .slice A' n' c', .int .i64 g.al, .slice B m d, .slice B' m' d'] 28)) := (Ext.refl w).alloc _
  have b1 := Blk.new w 28 #[.int .i64 f.al, .slice A n c, .slice A' n' c', .int .i64 g.al, .slice B m d, .slice B' m' d']
  clear h h'
  by_cases hneg : leftOf left f.size < 0
  · go_enter Tryz.func7, Tryz.ntmps7
    go_upto_region 1 with fail
    generalize w.alloc (.cells #[.int .i64 f.al, .slice A n c, .slice A' n' c', .int .i64 g.al, .slice B m d, .slice B' m' d'] 28) = w1 at *
    have c1 := b1.cell
    go_wp2_with (go_at_call 6; refine (szAutomaton_any _ _ _ _ _ _ _ _ _ _ _ (HR.out _ hw1) h0 h1).mono ?_; rintro e w2 ⟨rfl, hx2⟩)
    go_ret
    exact ⟨ret_int (by rw [Hsz.out, if_pos hneg]), hw1.trans hx2⟩
  · have hpos : 0 ≤ leftOf left f.size := by omega
    have hfin := hide (show leftOf left (f.size + g.size) = leftOf (leftOf left f.size) g.size by rw [Hsz.out, if_neg hneg])
    by_cases hneg2 : leftOf (leftOf left f.size) g.size < 0
    all_goals
      go_enter Tryz.func7, Tryz.ntmps7
      go_upto_region 1 with fail
      generalize w.alloc (.cells #[.int .i64 f.al, .slice A n c, .slice A' n' c', .int .i64 g.al, .slice B m d, .slice B' m' d'] 28) = w1 at *
      have c1 := b1.cell
      go_upto_region 4 with (go_at_call 6; refine (szAutomaton_any _ _ _ _ _ _ _ _ _ _ _ (HR.out _ hw1) h0 h1).mono ?_; rintro e w2 ⟨rfl, hx2⟩)
      have c2 := (b1.ext hx2).cell
      have hw2 := hw1.trans hx2
      clear c1
      go_wp2_with (go_at_call 6; refine (szAutomaton_any _ _ _ _ _ _ _ _ _ _ _ (HR'.out _ hw2) hpos hle).mono ?_; rintro e w3 ⟨rfl, hx3⟩)
      go_ret
      exact ⟨ret_int (by first | (rw [hfin.out]; done) | (rw [hfin.out]; unfold leftOf at *; (repeat' split at *) <;> omega)), hw2.trans hx3⟩
/-- A chain in new memory. -/
def RetChn (w : World) (f g : Aut) (e : Ending) (w' : World) : Prop :=
  ∃ A n c A' n' c' B m d B' m' d', e = .returned (.agg #[.int .i64 f.al, .slice A n c, .slice A' n' c', .int .i64 g.al, .slice B m d, .slice B' m' d']) ∧ AutOwn w' w.heap.size A n c A' n' c' f ∧ AutOwn w' w.heap.size B m d B' m' d' g ∧ Ext w w'
set_option maxRecDepth 100000 in
theorem toChain_any (h : AutAt w lo hi A n A' n' f) (h' : AutAt w lo2 hi2 B m B' m' g) (h0 : f.size ≤ 1048576) (h1 : g.size ≤ 1048576) :
    Calls Tryz.prog 11 #[.agg #[.int .i64 f.al, .slice A n c, .slice A' n' c', .int .i64 g.al, .slice B m d, .slice B' m' d']] w (RetChn w f g) := by
  have HR := hide (fun W (hW : Ext w W) => h.ext hW)
  have HR' := hide (fun W (hW : Ext w W) => h'.ext hW)
  clear h h'
  go_enter Tryz.func11, Tryz.ntmps11
  go_upto_region 2 with fail
  have hx3 : Ext w (((w.alloc (.cells #[.int .i64 f.al, .slice A n c, .slice A' n' c', .int .i64 g.al, .slice B m d, .slice B' m' d'] 28)).alloc (.cells #[.int .i64 0, .slice none 0 0, .slice none 0 0, .int .i64 0, .slice none 0 0, .slice none 0 0] 38)).alloc (.cells #[.int .i64 0, .slice none 0 0, .slice none 0 0, .int .i64 0, .slice none 0 0, .slice none 0 0] 38)) := (((Ext.refl w).alloc _).alloc _).alloc _
  obtain ⟨b1, b2, b3⟩ := ext_blk3 (Ext.refl (((w.alloc (.cells #[.int .i64 f.al, .slice A n c, .slice A' n' c', .int .i64 g.al, .slice B m d, .slice B' m' d'] 28)).alloc (.cells #[.int .i64 0, .slice none 0 0, .slice none 0 0, .int .i64 0, .slice none 0 0, .slice none 0 0] 38)).alloc (.cells #[.int .i64 0, .slice none 0 0, .slice none 0 0, .int .i64 0, .slice none 0 0, .slice none 0 0] 38)))
  have hs3 : (((w.alloc (.cells #[.int .i64 f.al, .slice A n c, .slice A' n' c', .int .i64 g.al, .slice B m d, .slice B' m' d'] 28)).alloc (.cells #[.int .i64 0, .slice none 0 0, .slice none 0 0, .int .i64 0, .slice none 0 0, .slice none 0 0] 38)).alloc (.cells #[.int .i64 0, .slice none 0 0, .slice none 0 0, .int .i64 0, .slice none 0 0, .slice none 0 0] 38)).heap.size = w.heap.size + 3 := by simp
  generalize ((w.alloc (.cells #[.int .i64 f.al, .slice A n c, .slice A' n' c', .int .i64 g.al, .slice B m d, .slice B' m' d'] 28)).alloc (.cells #[.int .i64 0, .slice none 0 0, .slice none 0 0, .int .i64 0, .slice none 0 0, .slice none 0 0] 38)).alloc (.cells #[.int .i64 0, .slice none 0 0, .slice none 0 0, .int .i64 0, .slice none 0 0, .slice none 0 0] 38) = w3 at *
  obtain ⟨G, hG⟩ : ∃ G, Hid (w.heap.size = G) := ⟨_, rfl⟩
  rw [hG.out] at b1 b2 b3 hs3
  rw [hG.out]
  have c1 := b1.cell
  go_upto_region 3 with (go_at_call 10; refine (toAutomaton_any _ _ _ _ _ _ _ _ _ _ (HR.out _ hx3) h0).mono ?_; rintro e w4 ⟨D, x, y, D', x', y', rfl, hown4, hx4⟩; have c4 := (b3.ext hx4).cell; have f4 := (b3.ext hx4).frozen)
  have b14 := b1.ext hx4
  have b24 := b2.ext hx4
  have b34 := b3.ext hx4
  have hw4 := hx3.trans hx4
  have hfr4 := ((Frm.setCell w4 (G + 1 + 1) 0 (.int .i64 f.al)).trans (Frm.setCell _ (G + 1 + 1) 1 (.slice D x y))).trans (Frm.setCell _ (G + 1 + 1) 2 (.slice D' x' y'))
  have b35 : Blk (((w4.setCell ⟨G + 1 + 1, 0, none⟩ (.int .i64 f.al)).setCell ⟨G + 1 + 1, 1, none⟩ (.slice D x y)).setCell ⟨G + 1 + 1, 2, none⟩ (.slice D' x' y')) (G + 1 + 1) 38 #[.int .i64 f.al, .slice D x y, .slice D' x' y', .int .i64 0, .slice none 0 0, .slice none 0 0] := by simpa using ((b34.set_ 0 (.int .i64 f.al)).set_ 1 (.slice D x y)).set_ 2 (.slice D' x' y')
  have b15 := b14.frm hfr4 (by omega)
  have b25 := b24.frm hfr4 (by omega)
  rw [hs3] at hown4
  have hown5 := hown4.keep hfr4 (fun b hb e => by omega)
  have hw5 := hw4.frm hfr4 (fun k hk e => by have := hG.out; omega)
  clear b14 b24 b34 hfr4 hown4 hw4 c1 c4 f4 b1 b2 b3 hx4
  generalize ((w4.setCell ⟨G + 1 + 1, 0, none⟩ (.int .i64 f.al)).setCell ⟨G + 1 + 1, 1, none⟩ (.slice D x y)).setCell ⟨G + 1 + 1, 2, none⟩ (.slice D' x' y') = w5 at *
  have c5 := b15.cell
  go_upto_region 4 with (go_at_call 10; refine (toAutomaton_any _ _ _ _ _ _ _ _ _ _ (HR'.out _ hw5) h1).mono ?_; rintro e w6 ⟨E, u, v, E', u', v', rfl, hown6, hx6⟩; have c6 := (b35.ext hx6).cell; have f6 := (b35.ext hx6).frozen)
  have b26 := b25.ext hx6
  have b36 := b35.ext hx6
  have hown56 := hown5.ext hx6
  have hw6 := hw5.trans hx6
  have hs5 := hw5.size
  have hg5 := b35.lt
  have hfr6 := ((Frm.setCell w6 (G + 1 + 1) 3 (.int .i64 g.al)).trans (Frm.setCell _ (G + 1 + 1) 4 (.slice E u v))).trans (Frm.setCell _ (G + 1 + 1) 5 (.slice E' u' v'))
  have b37 : Blk (((w6.setCell ⟨G + 1 + 1, 3, none⟩ (.int .i64 g.al)).setCell ⟨G + 1 + 1, 4, none⟩ (.slice E u v)).setCell ⟨G + 1 + 1, 5, none⟩ (.slice E' u' v')) (G + 1 + 1) 38 #[.int .i64 f.al, .slice D x y, .slice D' x' y', .int .i64 g.al, .slice E u v, .slice E' u' v'] := by simpa using ((b36.set_ 3 (.int .i64 g.al)).set_ 4 (.slice E u v)).set_ 5 (.slice E' u' v')
  have b27 := b26.frm hfr6 (by omega)
  have hown7 := hown6.keep hfr6 (fun b hb e => by omega)
  have hown57 := hown56.keep hfr6 (fun b hb e => by omega)
  have hw7 := hw6.frm hfr6 (fun k hk e => by have := hG.out; omega)
  have hg5' : G + 3 ≤ w5.heap.size := by omega
  clear b26 b36 hfr6 hown6 hown56 hw6 c5 c6 f6 hx6 hown5 b15 b25 b35
  generalize ((w6.setCell ⟨G + 1 + 1, 3, none⟩ (.int .i64 g.al)).setCell ⟨G + 1 + 1, 4, none⟩ (.slice E u v)).setCell ⟨G + 1 + 1, 5, none⟩ (.slice E' u' v') = w7 at *
  have c7 := b37.cell
  have d7 := b27.cell
  have f7 := b27.frozen
  have hfr8 := (((((Frm.setCell w7 (G + 1) 0 (.int .i64 f.al)).trans (Frm.setCell _ (G + 1) 1 (.slice D x y))).trans (Frm.setCell _ (G + 1) 2 (.slice D' x' y'))).trans (Frm.setCell _ (G + 1) 3 (.int .i64 g.al))).trans (Frm.setCell _ (G + 1) 4 (.slice E u v))).trans (Frm.setCell _ (G + 1) 5 (.slice E' u' v'))
  have b28 : Blk ((((((w7.setCell ⟨G + 1, 0, none⟩ (.int .i64 f.al)).setCell ⟨G + 1, 1, none⟩ (.slice D x y)).setCell ⟨G + 1, 2, none⟩ (.slice D' x' y')).setCell ⟨G + 1, 3, none⟩ (.int .i64 g.al)).setCell ⟨G + 1, 4, none⟩ (.slice E u v)).setCell ⟨G + 1, 5, none⟩ (.slice E' u' v')) (G + 1) 38 #[.int .i64 f.al, .slice D x y, .slice D' x' y', .int .i64 g.al, .slice E u v, .slice E' u' v'] := by simpa using (((((b27.set_ 0 (.int .i64 f.al)).set_ 1 (.slice D x y)).set_ 2 (.slice D' x' y')).set_ 3 (.int .i64 g.al)).set_ 4 (.slice E u v)).set_ 5 (.slice E' u' v')
  have hres := hide (show RetChn w f g (.returned (.agg #[.int .i64 f.al, .slice D x y, .slice D' x' y', .int .i64 g.al, .slice E u v, .slice E' u' v'])) ((((((w7.setCell ⟨G + 1, 0, none⟩ (.int .i64 f.al)).setCell ⟨G + 1, 1, none⟩ (.slice D x y)).setCell ⟨G + 1, 2, none⟩ (.slice D' x' y')).setCell ⟨G + 1, 3, none⟩ (.int .i64 g.al)).setCell ⟨G + 1, 4, none⟩ (.slice E u v)).setCell ⟨G + 1, 5, none⟩ (.slice E' u' v')) from
    ⟨_, _, _, _, _, _, _, _, _, _, _, _, rfl, (hown57.keep hfr8 (fun b hb e => by omega)).less (by have := hG.out; omega), (hown7.keep hfr8 (fun b hb e => by omega)).less (by have := hG.out; omega), hw7.frm hfr8 (fun k hk e => by have := hG.out; omega)⟩)
  go_wp2_with fail
  generalize (((((w7.setCell ⟨G + 1, 0, none⟩ (.int .i64 f.al)).setCell ⟨G + 1, 1, none⟩ (.slice D x y)).setCell ⟨G + 1, 2, none⟩ (.slice D' x' y')).setCell ⟨G + 1, 3, none⟩ (.int .i64 g.al)).setCell ⟨G + 1, 4, none⟩ (.slice E u v)).setCell ⟨G + 1, 5, none⟩ (.slice E' u' v') = w8 at *
  have c8 := b28.cell
  exact bodyPost_ret (v := .agg #[.int .i64 f.al, .slice D x y, .slice D' x' y', .int .i64 g.al, .slice E u v, .slice E' u' v']) (by simp [results, Tryz.results11, go_sem, c8]) rfl hres.out
set_option maxRecDepth 100000 in
theorem eqChain_same {lo3 hi3 : Nat} {C : Option Addr} {k e_ : Nat} {C' : Option Addr} {k' e' : Nat} {lo4 hi4 : Nat} {D : Option Addr} {l i : Nat} {D' : Option Addr} {l' i' : Nat} (h : AutAt w lo hi A n A' n' f) (h' : AutAt w lo2 hi2 B m B' m' g) (h3 : AutAt w lo3 hi3 C k C' k' f) (h4 : AutAt w lo4 hi4 D l D' l' g) :
    Calls Tryz.prog 15 #[.agg #[.int .i64 f.al, .slice A n c, .slice A' n' c', .int .i64 g.al, .slice B m d, .slice B' m' d'], .agg #[.int .i64 f.al, .slice C k e_, .slice C' k' e', .int .i64 g.al, .slice D l i, .slice D' l' i']] w fun e w' => e = .returned (.bool true) ∧ Ext w w' := by
  have HR := hide (fun W (hW : Ext w W) => h.ext hW)
  have HR' := hide (fun W (hW : Ext w W) => h'.ext hW)
  have HS := hide (fun W (hW : Ext w W) => h3.ext hW)
  have HS' := hide (fun W (hW : Ext w W) => h4.ext hW)
  have e1 := hide (autEq_self f)
  have e2 := hide (autEq_self g)
  clear h h' h3 h4
  go_enter Tryz.func15, Tryz.ntmps15
  go_upto_region 1 with fail
  have hw1 : Ext w ((w.alloc (.cells #[.int .i64 f.al, .slice A n c, .slice A' n' c', .int .i64 g.al, .slice B m d, .slice B' m' d'] 38)).alloc (.cells #[.int .i64 f.al, .slice C k e_, .slice C' k' e', .int .i64 g.al, .slice D l i, .slice D' l' i'] 38)) := ((Ext.refl w).alloc _).alloc _
  obtain ⟨b1, b2⟩ := ext_blk2 (Ext.refl ((w.alloc (.cells #[.int .i64 f.al, .slice A n c, .slice A' n' c', .int .i64 g.al, .slice B m d, .slice B' m' d'] 38)).alloc (.cells #[.int .i64 f.al, .slice C k e_, .slice C' k' e', .int .i64 g.al, .slice D l i, .slice D' l' i'] 38)))
  generalize (w.alloc (.cells #[.int .i64 f.al, .slice A n c, .slice A' n' c', .int .i64 g.al, .slice B m d, .slice B' m' d'] 38)).alloc (.cells #[.int .i64 f.al, .slice C k e_, .slice C' k' e', .int .i64 g.al, .slice D l i, .slice D' l' i'] 38) = w1 at *
  have c1 := b1.cell
  have c2 := b2.cell
  go_upto_region 3 with (go_at_call 14; refine (eqAutomaton_any _ _ _ _ _ _ _ _ _ _ _ _ _ _ _ _ _ _ _ (HR.out _ hw1) (HS.out _ hw1)).mono ?_; rw [e1.out]; rintro e w2 ⟨rfl, hx2⟩)
  have c3 := (b1.ext hx2).cell
  have c4 := (b2.ext hx2).cell
  have hw2 := hw1.trans hx2
  clear c1 c2
  go_wp2_with (go_at_call 14; refine (eqAutomaton_any _ _ _ _ _ _ _ _ _ _ _ _ _ _ _ _ _ _ _ (HR'.out _ hw2) (HS'.out _ hw2)).mono ?_; rw [e2.out]; rintro e w3 ⟨rfl, hx3⟩)
  go_ret
  exact ⟨ret_bool rfl, hw2.trans hx3⟩
end
end Go.Proofs.YtplllipekeomiaaGreatDoor
