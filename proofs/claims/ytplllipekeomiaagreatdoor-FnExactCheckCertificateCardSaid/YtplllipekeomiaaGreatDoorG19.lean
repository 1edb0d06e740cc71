/- The program's ViolationUnder, KeepsUnder, PartsViolation, PartsKeep, KeepsProperty, walked. | ChainFault of both, walked. | InterfaceOf of both, walked; printed by gen_cc.py. | AssumptionFault of both, walked; printed by gen_cc.py. | Words: the reference's AlphabetOf, WordWithin, RestrictWord and the program's restrict, walked. | The reference's RestrictWord and the program's restrict, walked. | Runs of systems with words: l2Run, StatesAfter, HasTrace, TraceOfParts of both, walked. -/
import Derived.Test.YtplllipekeomiaaGreatDoorG17
import Derived.Test.YtplllipekeomiaaGreatDoorG18
import Derived.Test.YtplllipekeomiaaGreatDoorG05
import Derived.Test.YtplllipekeomiaaGreatDoorG07
import Derived.Test.YtplllipekeomiaaGreatDoorG03
import Derived.Test.YtplllipekeomiaaGreatDoorG14
import Derived.Test.YtplllipekeomiaaGreatDoorG06
import Derived.Test.YtplllipekeomiaaGreatDoorG09
import Derived.Test.YtplllipekeomiaaGreatDoorG15
import Derived.Test.YtplllipekeomiaaGreatDoorG10
namespace Go.Proofs.YtplllipekeomiaaGreatDoor
open Go Go.RowKit
set_option maxHeartbeats 4000000

section
variable {lo hi n c : Nat} {A : Option Addr} {s : Sys} {lo1 hi1 m1 d1 m1' d1' : Nat} {B B' : Option Addr} {a : Aut} {lo2 hi2 m2 d2 m2' d2' : Nat} {C C' : Option Addr} {p : Aut} {w : World}
set_option maxRecDepth 100000 in
theorem impl_ViolationUnder (h : SysAt w lo hi A n s) (ha : AutAt w lo1 hi1 B m1 B' m1' a) (hp : AutAt w lo2 hi2 C m2 C' m2' p) (hT : Tab w) :
    Calls Tryz.prog 62 #[.agg #[.int .i64 s.al, .int .i64 s.st, .slice A n c], .agg #[.int .i64 a.al, .slice B m1 d1, .slice B' m1' d1'], .agg #[.int .i64 p.al, .slice C m2 d2, .slice C' m2' d2']] w fun e w' => e = .returned (.tuple #[.string (underW s a p), .bool (underB s a p)]) ∧ Ext w w' := by
  have HT := hide (fun W (hW : Ext w W) => hT.ext hW)
  have HSy := hide (fun W (hW : Ext w W) => h.ext hW)
  have HAa := hide (fun W (hW : Ext w W) => ha.ext hW)
  have HPa := hide (fun W (hW : Ext w W) => hp.ext hW)
  have HS := hide (fun W (hW : Ext w W) => impl_SystemValid (c := c) (h.ext hW))
  have HA := hide (fun W (hW : Ext w W) => impl_AutomatonValid _ _ _ _ d1 _ _ d1' _ _ (ha.ext hW))
  have HP := hide (fun W (hW : Ext w W) => impl_AutomatonValid _ _ _ _ d2 _ _ d2' _ _ (hp.ext hW))
  clear h ha hp hT
  have hw1 : Ext w (((w.alloc (.cells #[.int .i64 s.al, .int .i64 s.st, .slice A n c] 54)).alloc (.cells #[.int .i64 a.al, .slice B m1 d1, .slice B' m1' d1'] 35)).alloc (.cells #[.int .i64 p.al, .slice C m2 d2, .slice C' m2' d2'] 35)) := (((Ext.refl w).alloc _).alloc _).alloc _
  obtain ⟨b1, b2, b3⟩ := ext_blk3 (Ext.refl (((w.alloc (.cells #[.int .i64 s.al, .int .i64 s.st, .slice A n c] 54)).alloc (.cells #[.int .i64 a.al, .slice B m1 d1, .slice B' m1' d1'] 35)).alloc (.cells #[.int .i64 p.al, .slice C m2 d2, .slice C' m2' d2'] 35)))
  by_cases hT : threeV s a p = true
  · have hr := hide (show underW s a p = vioW [s] a p ∧ underB s a p = vioB [s] a p by unfold underW underB; rw [hT]; exact ⟨rfl, by simp⟩)
    unfold threeV at hT
    simp only [Bool.and_eq_true] at hT
    obtain ⟨v1, v2, v3⟩ := hT
    have hap := hide (show areParts [s] = true by simp [areParts, v1])
    have V1 := hide v1
    have V2 := hide v2
    have V3 := hide v3
    clear v1 v2 v3
    go_enter Tryz.func62, Tryz.ntmps62
    go_upto_region 1 with fail
    generalize ((w.alloc (.cells #[.int .i64 s.al, .int .i64 s.st, .slice A n c] 54)).alloc (.cells #[.int .i64 a.al, .slice B m1 d1, .slice B' m1' d1'] 35)).alloc (.cells #[.int .i64 p.al, .slice C m2 d2, .slice C' m2' d2'] 35) = w1 at *
    have c1 := b1.cell
    go_upto_region 3 with (first
      | (go_at_call 44; with_reducible refine (HS.out _ hw1).mono ?_; rw [V1.out]; rintro e w2 ⟨rfl, hx2⟩; have hw2 := hw1.trans hx2; have c2 := (b2.ext hx2).cell)
      | (go_at_call 33; with_reducible refine (HA.out _ hw2).mono ?_; rw [V2.out]; rintro e w3 ⟨rfl, hx3⟩; have hw3 := hw2.trans hx3; have c3 := (b3.ext (hx2.trans hx3)).cell)
      | (go_at_call 33; with_reducible refine (HP.out _ hw3).mono ?_; rw [V3.out]; rintro e w4 ⟨rfl, hx4⟩; have hw4 := hw3.trans hx4))
    have hx14 := hx2.trans (hx3.trans hx4)
    have k1 := (b1.ext hx14).cell
    have e5 := Blk.new w4 54 #[.int .i64 s.al, .int .i64 s.st, .slice A n c]
    have f5 := (Ext.refl w4).alloc (.cells #[.int .i64 s.al, .int .i64 s.st, .slice A n c] 54)
    have k3 := (b3.ext (hx14.trans f5)).cell
    have b25 := b2.ext (hx14.trans f5)
    have hw5 := hw4.trans f5
    obtain ⟨l1, h1, hsl⟩ := sl_one e5 (HSy.out _ hw5)
    have HF := hide (impl_firstBroken (c := 1) (d2 := d2) (d2' := d2') hsl hap.out (HT.out _ hw5) b25 (HAa.out _ hw5) V2.out (HPa.out _ hw5) V3.out)
    clear c1 c2 c3 b1 b2 b3 hsl e5 b25
    go_wp2_with (go_at_call 88; refine HF.out.mono ?_; rintro e w6 hF; obtain ⟨rfl, hx6⟩ := hF.first (letters_lt6 _))
    go_ret2
    exact ⟨by rw [hr.out.1, hr.out.2]; rfl, hw5.trans hx6⟩
  · have hT' : threeV s a p = false := by simpa using hT
    have hr := hide (show underW s a p = ByteArray.empty ∧ underB s a p = false by unfold underW underB; rw [hT']; exact ⟨rfl, rfl⟩)
    have hT2 := hide (show (sysValid s && (autValid a && autValid p)) = false from hT')
    clear hT hT'
    cases h1 : sysValid s <;> cases h2 : autValid a <;> cases h3 : autValid p
    all_goals first
      | (exfalso; have := hT2.out; rw [h1, h2, h3] at this; cases this; done)
      | (have H1 := hide h1
         have H2 := hide h2
         have H3 := hide h3
         clear h1 h2 h3
         go_enter Tryz.func62, Tryz.ntmps62
         go_upto_region 1 with fail
         generalize ((w.alloc (.cells #[.int .i64 s.al, .int .i64 s.st, .slice A n c] 54)).alloc (.cells #[.int .i64 a.al, .slice B m1 d1, .slice B' m1' d1'] 35)).alloc (.cells #[.int .i64 p.al, .slice C m2 d2, .slice C' m2' d2'] 35) = w1 at *
         have c1 := b1.cell
         go_wp2_with (first
           | (go_at_call 44; with_reducible refine (HS.out _ hw1).mono ?_; rw [H1.out]; rintro e w2 ⟨rfl, hx2⟩; have hw2 := hw1.trans hx2; have c2 := (b2.ext hx2).cell)
           | (go_at_call 33; with_reducible refine (HA.out _ hw2).mono ?_; rw [H2.out]; rintro e w3 ⟨rfl, hx3⟩; have hw3 := hw2.trans hx3; have c3 := (b3.ext (hx2.trans hx3)).cell)
           | (go_at_call 33; with_reducible refine (HP.out _ hw3).mono ?_; rw [H3.out]; rintro e w4 ⟨rfl, hx4⟩; have hw4 := hw3.trans hx4))
         go_ret2
         exact ⟨by rw [hr.out.1, hr.out.2]; rfl, by first | exact hw4 | exact hw3 | exact hw2⟩)
set_option maxRecDepth 100000 in
theorem impl_KeepsUnder (h : SysAt w lo hi A n s) (ha : AutAt w lo1 hi1 B m1 B' m1' a) (hp : AutAt w lo2 hi2 C m2 C' m2' p) (hT : Tab w) :
    Calls Tryz.prog 34 #[.agg #[.int .i64 s.al, .int .i64 s.st, .slice A n c], .agg #[.int .i64 a.al, .slice B m1 d1, .slice B' m1' d1'], .agg #[.int .i64 p.al, .slice C m2 d2, .slice C' m2' d2']] w fun e w' => e = .returned (.bool (keepsU s a p)) ∧ Ext w w' := by
  have HV := hide (fun W (hW : Ext w W) => impl_ViolationUnder (c := c) (d1 := d1) (d1' := d1') (d2 := d2) (d2' := d2') (h.ext hW) (ha.ext hW) (hp.ext hW) (hT.ext hW))
  have HS := hide (fun W (hW : Ext w W) => impl_SystemValid (c := c) (h.ext hW))
  have HA := hide (fun W (hW : Ext w W) => impl_AutomatonValid _ _ _ _ d1 _ _ d1' _ _ (ha.ext hW))
  have HP := hide (fun W (hW : Ext w W) => impl_AutomatonValid _ _ _ _ d2 _ _ d2' _ _ (hp.ext hW))
  have hr := hide (show keepsU s a p = ((sysValid s && (autValid a && autValid p)) && !underB s a p) from underB_keeps s a p)
  clear h ha hp hT
  generalize underB s a p = ub at *
  generalize underW s a p = uw at *
  have hw1 : Ext w (((w.alloc (.cells #[.int .i64 s.al, .int .i64 s.st, .slice A n c] 54)).alloc (.cells #[.int .i64 a.al, .slice B m1 d1, .slice B' m1' d1'] 35)).alloc (.cells #[.int .i64 p.al, .slice C m2 d2, .slice C' m2' d2'] 35)) := (((Ext.refl w).alloc _).alloc _).alloc _
  obtain ⟨b1, b2, b3⟩ := ext_blk3 (Ext.refl (((w.alloc (.cells #[.int .i64 s.al, .int .i64 s.st, .slice A n c] 54)).alloc (.cells #[.int .i64 a.al, .slice B m1 d1, .slice B' m1' d1'] 35)).alloc (.cells #[.int .i64 p.al, .slice C m2 d2, .slice C' m2' d2'] 35)))
  cases h1 : sysValid s <;> cases h2 : autValid a <;> cases h3 : autValid p <;> cases ub
  all_goals
    have H1 := hide h1
    have H2 := hide h2
    have H3 := hide h3
    clear h1 h2 h3
    go_enter Tryz.func34, Tryz.ntmps34
    go_upto_region 1 with fail
    generalize ((w.alloc (.cells #[.int .i64 s.al, .int .i64 s.st, .slice A n c] 54)).alloc (.cells #[.int .i64 a.al, .slice B m1 d1, .slice B' m1' d1'] 35)).alloc (.cells #[.int .i64 p.al, .slice C m2 d2, .slice C' m2' d2'] 35) = w1 at *
    have c1 := b1.cell
    have c2 := b2.cell
    have c3 := b3.cell
    go_wp2_with (first
      | (go_at_call 62; refine (HV.out _ hw1).mono ?_; rintro e w2 ⟨rfl, hx2⟩; have hw2 := hw1.trans hx2; have c12 := (b1.ext hx2).cell)
      | (go_at_call 44; with_reducible refine (HS.out _ hw2).mono ?_; rw [H1.out]; rintro e w3 ⟨rfl, hx3⟩; have hw3 := hw2.trans hx3; have c22 := (b2.ext (hx2.trans hx3)).cell)
      | (go_at_call 33; with_reducible refine (HA.out _ hw3).mono ?_; rw [H2.out]; rintro e w4 ⟨rfl, hx4⟩; have hw4 := hw3.trans hx4; have c32 := (b3.ext (hx2.trans (hx3.trans hx4))).cell)
      | (go_at_call 33; with_reducible refine (HP.out _ hw4).mono ?_; rw [H3.out]; rintro e w5 ⟨rfl, hx5⟩; have hw5 := hw4.trans hx5))
    go_ret
    exact ⟨ret_bool (by rw [hr.out, H1.out, H2.out, H3.out]; rfl), by first | exact hw5 | exact hw4 | exact hw3⟩
variable {k : Nat} {ss : List Sys}
set_option maxRecDepth 100000 in
theorem impl_PartsViolation (h : SLAt w lo hi A k ss) (hp : AutAt w lo2 hi2 C m2 C' m2' p) (hT : Tab w) :
    Calls Tryz.prog 89 #[.slice A k c, .agg #[.int .i64 p.al, .slice C m2 d2, .slice C' m2' d2']] w fun e w' => e = .returned (.tuple #[.string (brokW ss p), .bool (brokB ss p)]) ∧ Ext w w' := by
  have HS := hide (fun W (hW : Ext w W) => h.ext hW)
  have HP := hide (fun W (hW : Ext w W) => hp.ext hW)
  have HT := hide (fun W (hW : Ext w W) => hT.ext hW)
  clear h hp hT
  have hw1 : Ext w (w.alloc (.cells #[.int .i64 p.al, .slice C m2 d2, .slice C' m2' d2'] 35)) := (Ext.refl w).alloc _
  have b1 := Blk.new w 35 #[.int .i64 p.al, .slice C m2 d2, .slice C' m2' d2']
  cases hA : areParts ss
  · have hr := hide (show brokW ss p = ByteArray.empty ∧ brokB ss p = false by unfold brokW brokB partsV; rw [hA]; exact ⟨rfl, rfl⟩)
    have HA := hide hA
    clear hA
    go_enter Tryz.func89, Tryz.ntmps89
    go_upto_region 1 with fail
    generalize w.alloc (.cells #[.int .i64 p.al, .slice C m2 d2, .slice C' m2' d2'] 35) = w1 at *
    go_wp2_with (go_at_call 59; refine (impl_areParts (HS.out _ hw1)).mono ?_; rw [HA.out]; rintro e w2 ⟨rfl, hx2⟩)
    go_ret2
    exact ⟨by rw [hr.out.1, hr.out.2]; rfl, hw1.trans hx2⟩
  · cases hV : autValid p
    · have hr := hide (show brokW ss p = ByteArray.empty ∧ brokB ss p = false by unfold brokW brokB partsV; rw [hA, hV]; exact ⟨rfl, rfl⟩)
      have HV := hide hV
      have HA := hide hA
      clear hA hV
      go_enter Tryz.func89, Tryz.ntmps89
      go_upto_region 1 with fail
      generalize w.alloc (.cells #[.int .i64 p.al, .slice C m2 d2, .slice C' m2' d2'] 35) = w1 at *
      go_wp2_with (first
        | (go_at_call 59; refine (impl_areParts (HS.out _ hw1)).mono ?_; rw [HA.out]; rintro e w2 ⟨rfl, hx2⟩; have hw2 := hw1.trans hx2; have c2 := (b1.ext hx2).cell)
        | (go_at_call 33; refine (impl_AutomatonValid _ _ _ _ _ _ _ _ _ _ (HP.out _ hw2)).mono ?_; rw [HV.out]; rintro e w3 ⟨rfl, hx3⟩; have hw3 := hw2.trans hx3))
      go_ret2
      exact ⟨by rw [hr.out.1, hr.out.2]; rfl, hw3⟩
    · have hr := hide (show brokW ss p = vioW ss free p ∧ brokB ss p = vioB ss free p by unfold brokW brokB partsV; rw [hA, hV]; exact ⟨rfl, by simp⟩)
      have HV := hide hV
      have HA := hide hA
      clear hA hV
      go_enter Tryz.func89, Tryz.ntmps89
      go_upto_region 1 with fail
      generalize w.alloc (.cells #[.int .i64 p.al, .slice C m2 d2, .slice C' m2' d2'] 35) = w1 at *
      go_wp2_with (first
        | (go_at_call 59; refine (impl_areParts (HS.out _ hw1)).mono ?_; rw [HA.out]; rintro e w2 ⟨rfl, hx2⟩; have hw2 := hw1.trans hx2; have c2 := (b1.ext hx2).cell)
        | (go_at_call 33; refine (impl_AutomatonValid _ _ _ _ _ _ _ _ _ _ (HP.out _ hw2)).mono ?_; rw [HV.out]; rintro e w3 ⟨rfl, hx3⟩; have hw3 := hw2.trans hx3; have c3 := (b1.ext (hx2.trans hx3)).cell)
        | (go_at_call 88; refine (impl_firstBroken_nil (c := c) (d2 := d2) (d2' := d2') (HS.out _ hw3) HA.out (HT.out _ hw3) (HP.out _ hw3) HV.out).mono ?_; rintro e w4 hF; obtain ⟨rfl, hx4⟩ := hF.first (letters_lt6 _)))
      go_ret2
      exact ⟨by rw [hr.out.1, hr.out.2]; rfl, hw3.trans hx4⟩
set_option maxRecDepth 100000 in
theorem impl_PartsKeep (h : SLAt w lo hi A k ss) (hp : AutAt w lo2 hi2 C m2 C' m2' p) (hT : Tab w) :
    Calls Tryz.prog 63 #[.slice A k c, .agg #[.int .i64 p.al, .slice C m2 d2, .slice C' m2' d2']] w fun e w' => e = .returned (.bool (keepsP ss p)) ∧ Ext w w' := by
  have HV := hide (fun W (hW : Ext w W) => impl_PartsViolation (c := c) (d2 := d2) (d2' := d2') (h.ext hW) (hp.ext hW) (hT.ext hW))
  have HS := hide (fun W (hW : Ext w W) => h.ext hW)
  have HP := hide (fun W (hW : Ext w W) => hp.ext hW)
  have hr := hide (show keepsP ss p = (areParts ss && autValid p && !brokB ss p) from brokB_keeps ss p)
  clear h hp hT
  generalize brokB ss p = ub at *
  generalize brokW ss p = uw at *
  have hw1 : Ext w (w.alloc (.cells #[.int .i64 p.al, .slice C m2 d2, .slice C' m2' d2'] 35)) := (Ext.refl w).alloc _
  have b1 := Blk.new w 35 #[.int .i64 p.al, .slice C m2 d2, .slice C' m2' d2']
  cases hA : areParts ss <;> cases hVv : autValid p <;> cases ub
  all_goals
    have HA := hide (show areParts ss = _ from hA)
    have HVv := hide hVv
    clear hA hVv
    go_enter Tryz.func63, Tryz.ntmps63
    go_upto_region 1 with fail
    generalize w.alloc (.cells #[.int .i64 p.al, .slice C m2 d2, .slice C' m2' d2'] 35) = w1 at *
    have c1 := b1.cell
    go_wp2_with (first
      | (go_at_call 89; refine (HV.out _ hw1).mono ?_; rintro e w2 ⟨rfl, hx2⟩; have hw2 := hw1.trans hx2)
      | (go_at_call 59; refine (impl_areParts (HS.out _ hw2)).mono ?_; rw [HA.out]; rintro e w3 ⟨rfl, hx3⟩; have hw3 := hw2.trans hx3; have c3 := (b1.ext (hx2.trans hx3)).cell)
      | (go_at_call 33; refine (impl_AutomatonValid _ _ _ _ _ _ _ _ _ _ (HP.out _ hw3)).mono ?_; rw [HVv.out]; rintro e w4 ⟨rfl, hx4⟩; have hw4 := hw3.trans hx4))
    go_ret
    exact ⟨ret_bool (by rw [hr.out, HA.out, HVv.out]; rfl), by first | exact hw4 | exact hw3⟩
set_option maxRecDepth 100000 in
theorem impl_KeepsProperty (h : SysAt w lo hi A n s) (hp : AutAt w lo2 hi2 C m2 C' m2' p) (hT : Tab w) :
    Calls Tryz.prog 35 #[.agg #[.int .i64 s.al, .int .i64 s.st, .slice A n c], .agg #[.int .i64 p.al, .slice C m2 d2, .slice C' m2' d2']] w fun e w' => e = .returned (.bool (keepsP [s] p)) ∧ Ext w w' := by
  have HS := hide (fun W (hW : Ext w W) => h.ext hW)
  have HP := hide (fun W (hW : Ext w W) => hp.ext hW)
  have HT := hide (fun W (hW : Ext w W) => hT.ext hW)
  clear h hp hT
  have hw1 : Ext w ((w.alloc (.cells #[.int .i64 s.al, .int .i64 s.st, .slice A n c] 54)).alloc (.cells #[.int .i64 p.al, .slice C m2 d2, .slice C' m2' d2'] 35)) := ((Ext.refl w).alloc _).alloc _
  obtain ⟨b1, b2⟩ := ext_blk2 (Ext.refl ((w.alloc (.cells #[.int .i64 s.al, .int .i64 s.st, .slice A n c] 54)).alloc (.cells #[.int .i64 p.al, .slice C m2 d2, .slice C' m2' d2'] 35)))
  go_enter Tryz.func35, Tryz.ntmps35
  go_upto_region 1 with fail
  generalize (w.alloc (.cells #[.int .i64 s.al, .int .i64 s.st, .slice A n c] 54)).alloc (.cells #[.int .i64 p.al, .slice C m2 d2, .slice C' m2' d2'] 35) = w1 at *
  have c1 := b1.cell
  have e2 := Blk.new w1 54 #[.int .i64 s.al, .int .i64 s.st, .slice A n c]
  have f2 := (Ext.refl w1).alloc (.cells #[.int .i64 s.al, .int .i64 s.st, .slice A n c] 54)
  have c2 := (b2.ext f2).cell
  have hw2 := hw1.trans f2
  obtain ⟨l1, h1, hsl⟩ := sl_one e2 (HS.out _ hw2)
  go_wp2_with (go_at_call 63; refine (impl_PartsKeep hsl (HP.out _ hw2) (HT.out _ hw2)).mono ?_; rintro e w3 ⟨rfl, hx3⟩)
  go_ret
  exact ⟨ret_bool rfl, hw2.trans hx3⟩
end
end Go.Proofs.YtplllipekeomiaaGreatDoor

namespace Go.Proofs.YtplllipekeomiaaGreatDoor
open Go Go.RowKit
set_option maxHeartbeats 4000000

theorem chain1_nat {x y z : Sys} {p : Aut} (h : three [x, y, z] p = true) : ∃ c : Nat, chain1 [x, y, z] p = (c : Int) ∧ c ≤ 63 := by
  have h' := h
  simp only [three, Bool.and_eq_true] at h'
  obtain ⟨_, hv⟩ := parts_valid h'.2.1
  have vx := sysValid_al (hv x (by simp))
  have vy := sysValid_al (hv y (by simp))
  have vz := sysValid_al (hv z (by simp))
  have vp := (autValid_row h'.2.2).1
  unfold chain1
  rw [h, if_pos rfl]
  obtain ⟨a, ha⟩ : ∃ a : Nat, x.al = a := ⟨x.al.toNat, by omega⟩
  obtain ⟨b, hb⟩ : ∃ a : Nat, y.al = a := ⟨y.al.toNat, by omega⟩
  obtain ⟨c, hc⟩ : ∃ a : Nat, z.al = a := ⟨z.al.toNat, by omega⟩
  obtain ⟨d, hd⟩ : ∃ a : Nat, p.al = a := ⟨p.al.toNat, by omega⟩
  dsimp only
  rw [ha, hb, hc, hd]
  have e1 := Nat.or_lt_two_pow (n := 6) (x := a) (y := d) (by omega) (by omega)
  have e2 := Nat.or_lt_two_pow (n := 6) (x := b) (y := c) (by omega) (by omega)
  rw [bits_or (by unfold Sm; omega) (by unfold Sm; omega), bits_or (by unfold Sm; omega) (by unfold Sm; omega), bits_and (by unfold Sm; omega) (by unfold Sm; omega)]
  refine ⟨_, rfl, ?_⟩
  have := Nat.and_le_left (n := a ||| d) (m := b ||| c)
  omega
/-- Why a chain proves nothing. -/
noncomputable def faultN (ss : List Sys) (p f g : Aut) : Int :=
  if (three ss p && (autValid f && autValid g)) = false then 1
  else if (decide (f.al = chain1 ss p) && decide (g.al = chain2 ss p)) = false then 2
  else match ss with
    | [x, y, z] => if (keepsU x f p && keepsU y g f) = false then 3 else if keepsP [z] g = false then 4 else 0
    | _ => 0
section
variable {lo hi c : Nat} {A : Option Addr} {ss : List Sys} {lo1 hi1 m1 d1 m1' d1' : Nat} {B B' : Option Addr} {p : Aut} {lo2 hi2 m2 d2 m2' d2' : Nat} {C C' : Option Addr} {f : Aut} {lo3 hi3 m3 d3 m3' d3' : Nat} {D D' : Option Addr} {g : Aut} {w : World}
set_option maxRecDepth 100000 in
theorem spec_ChainFault {n : Nat} (h : SLAt w lo hi A n ss) (hp : AutAt w lo1 hi1 B m1 B' m1' p) (hf : AutAt w lo2 hi2 C m2 C' m2' f) (hg : AutAt w lo3 hi3 D m3 D' m3' g) :
    Calls Tryz.prog 8 #[.slice A n c, .agg #[.int .i64 p.al, .slice B m1 d1, .slice B' m1' d1'], .agg #[.int .i64 f.al, .slice C m2 d2, .slice C' m2' d2', .int .i64 g.al, .slice D m3 d3, .slice D' m3' d3']] w fun e w' => e = .returned (.int .i64 (faultN ss p f g)) ∧ Ext w w' := by
  have HS := hide (fun W (hW : Ext w W) => h.ext hW)
  have HPa := hide (fun W (hW : Ext w W) => hp.ext hW)
  have HFa := hide (fun W (hW : Ext w W) => hf.ext hW)
  have HGa := hide (fun W (hW : Ext w W) => hg.ext hW)
  have HCL := hide (fun W (hW : Ext w W) => spec_ChainLetters (c := c) (d := d1) (d' := d1') (h.ext hW) (hp.ext hW))
  have HF := hide (fun W (hW : Ext w W) => spec_AutomatonValid _ _ _ _ d2 _ _ d2' _ _ (hf.ext hW))
  have HG := hide (fun W (hW : Ext w W) => spec_AutomatonValid _ _ _ _ d3 _ _ d3' _ _ (hg.ext hW))
  have hn := hide h.1
  clear h hp hf hg
  have hw1 : Ext w ((w.alloc (.cells #[.int .i64 p.al, .slice B m1 d1, .slice B' m1' d1'] 35)).alloc (.cells #[.int .i64 f.al, .slice C m2 d2, .slice C' m2' d2', .int .i64 g.al, .slice D m3 d3, .slice D' m3' d3'] 38)) := ((Ext.refl w).alloc _).alloc _
  obtain ⟨b1, b2⟩ := ext_blk2 (Ext.refl ((w.alloc (.cells #[.int .i64 p.al, .slice B m1 d1, .slice B' m1' d1'] 35)).alloc (.cells #[.int .i64 f.al, .slice C m2 d2, .slice C' m2' d2', .int .i64 g.al, .slice D m3 d3, .slice D' m3' d3'] 38)))
  cases hT : three ss p
  · have hr := hide (show faultN ss p f g = 1 by unfold faultN; rw [hT]; rfl)
    have hc1 := hide (show chain1 ss p = -1 by unfold chain1; rw [hT]; rfl)
    clear hT
    go_enter Tryz.func8, Tryz.ntmps8
    go_upto_region 1 with fail
    generalize (w.alloc (.cells #[.int .i64 p.al, .slice B m1 d1, .slice B' m1' d1'] 35)).alloc (.cells #[.int .i64 f.al, .slice C m2 d2, .slice C' m2' d2', .int .i64 g.al, .slice D m3 d3, .slice D' m3' d3'] 38) = w1 at *
    have c1 := b1.cell
    go_wp2_with (go_at_call 26; refine (HCL.out _ hw1).mono ?_; rw [hc1.out]; rintro e w2 ⟨rfl, hx2⟩)
    go_ret
    exact ⟨ret_int (by rw [hr.out]), hw1.trans hx2⟩
  · obtain ⟨x, y, z, rfl⟩ := three_list hT
    obtain ⟨q1, hq1, hq63⟩ := chain1_nat hT
    obtain rfl : n = 3 := hn.out
    have hc1 := hide hq1
    obtain ⟨q2, hq2⟩ : ∃ q2 : Int, Hid (chain2 [x, y, z] p = q2) := ⟨_, rfl⟩
    have hT' := hide hT
    clear hT hq1 hn
    have hneg : ¬ (q1 : Int) < 0 := by omega
    obtain ⟨b, o, rfl, HX⟩ : ∃ b o, A = some ⟨b, o, none⟩ ∧ Hid (∃ (Bx By Bz : Option Addr) (nx_ ny nz cx cy cz : Nat), ∀ W, Ext w W → (∀ j, W.cell? ⟨b, o + j, none⟩ = #[Value.int .i64 x.al, .int .i64 x.st, .slice Bx nx_ cx, .int .i64 y.al, .int .i64 y.st, .slice By ny cy, .int .i64 z.al, .int .i64 z.st, .slice Bz nz cz][j]? ∨ 9 ≤ j) ∧ SysAt W lo hi Bx nx_ x ∧ SysAt W lo hi By ny y ∧ SysAt W lo hi Bz nz z) := by
      obtain ⟨b, o, s, Bx, nx_, cx, rfl, _, _, hs, e0, e1, e2, hx⟩ := (HS.out w (Ext.refl _)).sys (k := 0) (by omega)
      obtain rfl : x = s := by have := hs.out; simpa using this
      obtain ⟨By, ny, cy, f0, f1, f2, hy⟩ := (HS.out w (Ext.refl _)).sys2 (k := 1) (s := y) rfl
      obtain ⟨Bz, nz, cz, g0, g1, g2, hz⟩ := (HS.out w (Ext.refl _)).sys2 (k := 2) (s := z) rfl
      refine ⟨b, o, rfl, ⟨Bx, By, Bz, nx_, ny, nz, cx, cy, cz, fun W hW => ⟨fun j => ?_, hx.ext hW, hy.ext hW, hz.ext hW⟩⟩⟩
      match j with
      | 0 => exact Or.inl (hW.cell_some (by simpa using e0))
      | 1 => exact Or.inl (hW.cell_some (by simpa using e1))
      | 2 => exact Or.inl (hW.cell_some (by simpa using e2))
      | 3 => exact Or.inl (hW.cell_some (by simpa using f0))
      | 4 => exact Or.inl (hW.cell_some (by simpa [Nat.add_assoc] using f1))
      | 5 => exact Or.inl (hW.cell_some (by simpa [Nat.add_assoc] using f2))
      | 6 => exact Or.inl (hW.cell_some (by simpa using g0))
      | 7 => exact Or.inl (hW.cell_some (by simpa [Nat.add_assoc] using g1))
      | 8 => exact Or.inl (hW.cell_some (by simpa [Nat.add_assoc] using g2))
      | j + 9 => exact Or.inr (by omega)
    by_cases hV : (autValid f && autValid g) = true
    · simp only [Bool.and_eq_true] at hV
      have V1 := hide hV.1
      have V2 := hide hV.2
      clear hV
      by_cases hE1 : f.al = (q1 : Int)
      · by_cases hE2 : g.al = q2
        · -- the letters are right
          have hr := hide (show faultN [x, y, z] p f g = if (keepsU x f p && keepsU y g f) = false then 3 else if keepsP [z] g = false then 4 else 0 by
            unfold faultN
            rw [hT'.out, V1.out, V2.out, hc1.out, hq2.out, decide_eq_true hE1, decide_eq_true hE2]
            rfl)
          have He1 := hide hE1
          have He2 := hide hE2
          have hb1 : (f.al != (q1 : Int)) = false := by simp [hE1]
          have hb2 : (g.al != q2) = false := by simp [hE2]
          clear hE1 hE2
          obtain ⟨Bx, By, Bz, nx_, ny, nz, cx, cy, cz, HXw⟩ := HX.out
          have HX2 := hide HXw
          clear HX HXw
          have HK1 := hide (fun W (hW : Ext w W) => spec_KeepsUnder (c := cx) (d1 := d2) (d1' := d2') (d2 := d1) (d2' := d1') (HX2.out W hW).2.1 (HFa.out W hW) (HPa.out W hW))
          have HK2 := hide (fun W (hW : Ext w W) => spec_KeepsUnder (c := cy) (d1 := d3) (d1' := d3') (d2 := d2) (d2' := d2') (HX2.out W hW).2.2.1 (HGa.out W hW) (HFa.out W hW))
          have HK3 := hide (fun W (hW : Ext w W) => spec_KeepsProperty (c := cz) (d2 := d3) (d2' := d3') (HX2.out W hW).2.2.2 (HGa.out W hW))
          generalize keepsU x f p = u1 at *
          generalize keepsU y g f = u2 at *
          generalize keepsP [z] g = u3 at *
          cases u1
          rotate_left
          · cases u2
            rotate_left
            · cases u3
              all_goals
                go_enter Tryz.func8, Tryz.ntmps8
                go_upto_region 1 with fail
                generalize (w.alloc (.cells #[.int .i64 p.al, .slice B m1 d1, .slice B' m1' d1'] 35)).alloc (.cells #[.int .i64 f.al, .slice C m2 d2, .slice C' m2' d2', .int .i64 g.al, .slice D m3 d3, .slice D' m3' d3'] 38) = w1 at *
                have c1 := b1.cell
                go_upto_region 6 with (first
                  | (go_at_call 26; refine (HCL.out _ hw1).mono ?_; rw [hc1.out, hq2.out]; rintro e w2 ⟨rfl, hx2⟩; have hw2 := hw1.trans hx2; have c22 := (b2.ext hx2).cell)
                  | (go_at_call 27; with_reducible refine (HF.out _ hw2).mono ?_; rw [V1.out]; rintro e w3 ⟨rfl, hx3⟩; have hw3 := hw2.trans hx3; have c32 := (b2.ext (hx2.trans hx3)).cell)
                  | (go_at_call 27; with_reducible refine (HG.out _ hw3).mono ?_; rw [V2.out]; rintro e w4 ⟨rfl, hx4⟩; have hw4 := hw3.trans hx4; have c42 := (b2.ext (hx2.trans (hx3.trans hx4))).cell))
                have hx14 := hx2.trans (hx3.trans hx4)
                have B1 := b1.ext hx14
                have B2 := b2.ext hx14
                have c6 : ∀ W, Ext w4 W → ∀ j, W.cell? ⟨w.heap.size, j, none⟩ = #[Value.int .i64 p.al, .slice B m1 d1, .slice B' m1' d1'][j]? := fun W hW => (B1.ext hW).cell
                have c8 : ∀ W, Ext w4 W → ∀ j, W.cell? ⟨w.heap.size + 1, j, none⟩ = #[Value.int .i64 f.al, .slice C m2 d2, .slice C' m2' d2', .int .i64 g.al, .slice D m3 d3, .slice D' m3' d3'][j]? := fun W hW => (B2.ext hW).cell
                have hcx : ∀ W, Ext w4 W → W.cell? ⟨b, o, none⟩ = some (.int .i64 x.al) ∧ W.cell? ⟨b, o + 1, none⟩ = some (.int .i64 x.st) ∧ W.cell? ⟨b, o + 2, none⟩ = some (.slice Bx nx_ cx) ∧ W.cell? ⟨b, o + 3, none⟩ = some (.int .i64 y.al) ∧ W.cell? ⟨b, o + 4, none⟩ = some (.int .i64 y.st) ∧ W.cell? ⟨b, o + 5, none⟩ = some (.slice By ny cy) ∧ W.cell? ⟨b, o + 6, none⟩ = some (.int .i64 z.al) ∧ W.cell? ⟨b, o + 7, none⟩ = some (.int .i64 z.st) ∧ W.cell? ⟨b, o + 8, none⟩ = some (.slice Bz nz cz) := fun W hW => by
                  have hh := (HX2.out W (hw4.trans hW)).1
                  refine ⟨(hh 0).resolve_right (by omega), (hh 1).resolve_right (by omega), (hh 2).resolve_right (by omega), (hh 3).resolve_right (by omega), (hh 4).resolve_right (by omega), (hh 5).resolve_right (by omega), (hh 6).resolve_right (by omega), (hh 7).resolve_right (by omega), (hh 8).resolve_right (by omega)⟩
                have hww := Ext.refl w4
                clear c1 c22 c32 c42 B1 B2
                refine wp_region_tailU (fun X => Ext w4 X) [16] (OrdU.of [0, 1, 2, 3, 4, 5, 6, 7, 8, 9, 10, 11, 12, 13, 14, 15, 16, 17, 18]) (by kernel_rfl) (by kernel_rfl) (by kernel_rfl) (by kernel_rfl) (by kernel_rfl) (fun _ _ _ _ _ h => h) (by first | assumption | exact (Ext.refl _).drew | (refine Ext.drew ?_; assumption)) ?_
                repeat (first | (refine useq_skip rfl rfl (by assumption) ?_; simp only [Act.put, List.setIfInBounds_toArray, List.set_cons_zero, List.set_cons_succ]) | (refine useq_pure (v := ?_) rfl rfl rfl rfl (fun X => ?_) ?_; rotate_left; (focus (go_simp <;> with_reducible rfl)); simp only [Act.put, List.setIfInBounds_toArray, List.set_cons_zero, List.set_cons_succ]) | (refine useq_read (v := ?_) rfl rfl rfl rfl (fun X hX => ?_) ?_; rotate_left; (focus (go_simp <;> with_reducible rfl)); simp only [Act.put, List.setIfInBounds_toArray, List.set_cons_zero, List.set_cons_succ]))
                (refine useq_step rfl rfl rfl (fun K hK => ?_); go_simp)
                refine (HK1.out _ (hw4.trans hww.drew)).mono ?_
                rintro e w5 ⟨rfl, hy0⟩
                have hy := hww.drew.trans hy0
                refine hK.out _ _ hy ?_
                (try simp only [Act.put, List.setIfInBounds_toArray, List.set_cons_zero, List.set_cons_succ])
                repeat (first | (refine useq_skip rfl rfl (by assumption) ?_; simp only [Act.put, List.setIfInBounds_toArray, List.set_cons_zero, List.set_cons_succ]) | (refine useq_pure (v := ?_) rfl rfl rfl rfl (fun X => ?_) ?_; rotate_left; (focus (go_simp <;> with_reducible rfl)); simp only [Act.put, List.setIfInBounds_toArray, List.set_cons_zero, List.set_cons_succ]) | (refine useq_read (v := ?_) rfl rfl rfl rfl (fun X hX => ?_) ?_; rotate_left; (focus (go_simp <;> with_reducible rfl)); simp only [Act.put, List.setIfInBounds_toArray, List.set_cons_zero, List.set_cons_succ]))
                (refine useq_last rfl rfl rfl rfl (fun K hK => ?_))
                go_simp
                refine (HK2.out _ (hw4.trans hy)).mono ?_
                rintro e w6 ⟨rfl, hy1⟩
                have hyy := hy.trans hy1
                refine hK.out _ _ ?_
                (try simp only [Act.put, List.setIfInBounds_toArray, List.set_cons_zero, List.set_cons_succ])
                repeat (first | (refine useq_skip rfl rfl (by assumption) ?_; simp only [Act.put, List.setIfInBounds_toArray, List.set_cons_zero, List.set_cons_succ]) | (refine useq_pure (v := ?_) rfl rfl rfl rfl (fun X => ?_) ?_; rotate_left; (focus (go_simp <;> with_reducible rfl)); simp only [Act.put, List.setIfInBounds_toArray, List.set_cons_zero, List.set_cons_succ]) | (refine useq_read (v := ?_) rfl rfl rfl rfl (fun X hX => ?_) ?_; rotate_left; (focus (go_simp <;> with_reducible rfl)); simp only [Act.put, List.setIfInBounds_toArray, List.set_cons_zero, List.set_cons_succ]))
                refine useq_nil ?_
                go_wp2_with fail
                have hyy0 := hyy
                clear c6 c8 hcx hww
                go_upto_region 8 with fail
                have hcz : ∀ W, Ext w6 W → W.cell? ⟨b, o + 6, none⟩ = some (.int .i64 z.al) ∧ W.cell? ⟨b, o + 7, none⟩ = some (.int .i64 z.st) ∧ W.cell? ⟨b, o + 8, none⟩ = some (.slice Bz nz cz) := fun W hW => by
                  have hh := (HX2.out W (hw4.trans (hyy0.trans hW))).1
                  exact ⟨(hh 6).resolve_right (by omega), (hh 7).resolve_right (by omega), (hh 8).resolve_right (by omega)⟩
                have c8 : ∀ W, Ext w6 W → ∀ j, W.cell? ⟨w.heap.size + 1, j, none⟩ = #[Value.int .i64 f.al, .slice C m2 d2, .slice C' m2' d2', .int .i64 g.al, .slice D m3 d3, .slice D' m3' d3'][j]? := fun W hW => (b2.ext (hx14.trans (hyy0.trans hW))).cell
                have hww := Ext.refl w6
                refine wp_region_tailU (fun X => Ext w6 X) [5] (OrdU.of [0, 1, 2, 3, 4, 5, 6]) (by kernel_rfl) (by kernel_rfl) (by kernel_rfl) (by kernel_rfl) (by kernel_rfl) (fun _ _ _ _ _ h => h) (by first | assumption | exact (Ext.refl _).drew | (refine Ext.drew ?_; assumption)) ?_
                repeat (first | (refine useq_skip rfl rfl (by assumption) ?_; simp only [Act.put, List.setIfInBounds_toArray, List.set_cons_zero, List.set_cons_succ]) | (refine useq_pure (v := ?_) rfl rfl rfl rfl (fun X => ?_) ?_; rotate_left; (focus (go_simp <;> with_reducible rfl)); simp only [Act.put, List.setIfInBounds_toArray, List.set_cons_zero, List.set_cons_succ]) | (refine useq_read (v := ?_) rfl rfl rfl rfl (fun X hX => ?_) ?_; rotate_left; (focus (go_simp <;> with_reducible rfl)); simp only [Act.put, List.setIfInBounds_toArray, List.set_cons_zero, List.set_cons_succ]))
                (refine useq_last rfl rfl rfl rfl (fun K hK => ?_))
                go_simp
                refine (HK3.out _ (hw4.trans (hyy0.trans hww.drew))).mono ?_
                rintro e w7 ⟨rfl, hy2⟩
                have hyy2 := hyy0.trans (hww.drew.trans hy2)
                refine hK.out _ _ ?_
                (try simp only [Act.put, List.setIfInBounds_toArray, List.set_cons_zero, List.set_cons_succ])
                repeat (first | (refine useq_skip rfl rfl (by assumption) ?_; simp only [Act.put, List.setIfInBounds_toArray, List.set_cons_zero, List.set_cons_succ]) | (refine useq_pure (v := ?_) rfl rfl rfl rfl (fun X => ?_) ?_; rotate_left; (focus (go_simp <;> with_reducible rfl)); simp only [Act.put, List.setIfInBounds_toArray, List.set_cons_zero, List.set_cons_succ]) | (refine useq_read (v := ?_) rfl rfl rfl rfl (fun X hX => ?_) ?_; rotate_left; (focus (go_simp <;> with_reducible rfl)); simp only [Act.put, List.setIfInBounds_toArray, List.set_cons_zero, List.set_cons_succ]))
                refine useq_nil ?_
                go_wp2_with fail
                go_ret
                exact ⟨ret_int (by rw [hr.out]; rfl), hw1.trans (hx14.trans hyy2)⟩
            · go_enter Tryz.func8, Tryz.ntmps8
              go_upto_region 1 with fail
              generalize (w.alloc (.cells #[.int .i64 p.al, .slice B m1 d1, .slice B' m1' d1'] 35)).alloc (.cells #[.int .i64 f.al, .slice C m2 d2, .slice C' m2' d2', .int .i64 g.al, .slice D m3 d3, .slice D' m3' d3'] 38) = w1 at *
              have c1 := b1.cell
              go_upto_region 6 with (first
                | (go_at_call 26; refine (HCL.out _ hw1).mono ?_; rw [hc1.out, hq2.out]; rintro e w2 ⟨rfl, hx2⟩; have hw2 := hw1.trans hx2; have c22 := (b2.ext hx2).cell)
                | (go_at_call 27; with_reducible refine (HF.out _ hw2).mono ?_; rw [V1.out]; rintro e w3 ⟨rfl, hx3⟩; have hw3 := hw2.trans hx3; have c32 := (b2.ext (hx2.trans hx3)).cell)
                | (go_at_call 27; with_reducible refine (HG.out _ hw3).mono ?_; rw [V2.out]; rintro e w4 ⟨rfl, hx4⟩; have hw4 := hw3.trans hx4; have c42 := (b2.ext (hx2.trans (hx3.trans hx4))).cell))
              have hx14 := hx2.trans (hx3.trans hx4)
              have B1 := b1.ext hx14
              have B2 := b2.ext hx14
              have c6 : ∀ W, Ext w4 W → ∀ j, W.cell? ⟨w.heap.size, j, none⟩ = #[Value.int .i64 p.al, .slice B m1 d1, .slice B' m1' d1'][j]? := fun W hW => (B1.ext hW).cell
              have c8 : ∀ W, Ext w4 W → ∀ j, W.cell? ⟨w.heap.size + 1, j, none⟩ = #[Value.int .i64 f.al, .slice C m2 d2, .slice C' m2' d2', .int .i64 g.al, .slice D m3 d3, .slice D' m3' d3'][j]? := fun W hW => (B2.ext hW).cell
              have hcx : ∀ W, Ext w4 W → W.cell? ⟨b, o, none⟩ = some (.int .i64 x.al) ∧ W.cell? ⟨b, o + 1, none⟩ = some (.int .i64 x.st) ∧ W.cell? ⟨b, o + 2, none⟩ = some (.slice Bx nx_ cx) ∧ W.cell? ⟨b, o + 3, none⟩ = some (.int .i64 y.al) ∧ W.cell? ⟨b, o + 4, none⟩ = some (.int .i64 y.st) ∧ W.cell? ⟨b, o + 5, none⟩ = some (.slice By ny cy) ∧ W.cell? ⟨b, o + 6, none⟩ = some (.int .i64 z.al) ∧ W.cell? ⟨b, o + 7, none⟩ = some (.int .i64 z.st) ∧ W.cell? ⟨b, o + 8, none⟩ = some (.slice Bz nz cz) := fun W hW => by
                have hh := (HX2.out W (hw4.trans hW)).1
                refine ⟨(hh 0).resolve_right (by omega), (hh 1).resolve_right (by omega), (hh 2).resolve_right (by omega), (hh 3).resolve_right (by omega), (hh 4).resolve_right (by omega), (hh 5).resolve_right (by omega), (hh 6).resolve_right (by omega), (hh 7).resolve_right (by omega), (hh 8).resolve_right (by omega)⟩
              have hww := Ext.refl w4
              clear c1 c22 c32 c42 B1 B2
              refine wp_region_tailU (fun X => Ext w4 X) [16] (OrdU.of [0, 1, 2, 3, 4, 5, 6, 7, 8, 9, 10, 11, 12, 13, 14, 15, 16, 17, 18]) (by kernel_rfl) (by kernel_rfl) (by kernel_rfl) (by kernel_rfl) (by kernel_rfl) (fun _ _ _ _ _ h => h) (by first | assumption | exact (Ext.refl _).drew | (refine Ext.drew ?_; assumption)) ?_
              repeat (first | (refine useq_skip rfl rfl (by assumption) ?_; simp only [Act.put, List.setIfInBounds_toArray, List.set_cons_zero, List.set_cons_succ]) | (refine useq_pure (v := ?_) rfl rfl rfl rfl (fun X => ?_) ?_; rotate_left; (focus (go_simp <;> with_reducible rfl)); simp only [Act.put, List.setIfInBounds_toArray, List.set_cons_zero, List.set_cons_succ]) | (refine useq_read (v := ?_) rfl rfl rfl rfl (fun X hX => ?_) ?_; rotate_left; (focus (go_simp <;> with_reducible rfl)); simp only [Act.put, List.setIfInBounds_toArray, List.set_cons_zero, List.set_cons_succ]))
              (refine useq_step rfl rfl rfl (fun K hK => ?_); go_simp)
              refine (HK1.out _ (hw4.trans hww.drew)).mono ?_
              rintro e w5 ⟨rfl, hy0⟩
              have hy := hww.drew.trans hy0
              refine hK.out _ _ hy ?_
              (try simp only [Act.put, List.setIfInBounds_toArray, List.set_cons_zero, List.set_cons_succ])
              repeat (first | (refine useq_skip rfl rfl (by assumption) ?_; simp only [Act.put, List.setIfInBounds_toArray, List.set_cons_zero, List.set_cons_succ]) | (refine useq_pure (v := ?_) rfl rfl rfl rfl (fun X => ?_) ?_; rotate_left; (focus (go_simp <;> with_reducible rfl)); simp only [Act.put, List.setIfInBounds_toArray, List.set_cons_zero, List.set_cons_succ]) | (refine useq_read (v := ?_) rfl rfl rfl rfl (fun X hX => ?_) ?_; rotate_left; (focus (go_simp <;> with_reducible rfl)); simp only [Act.put, List.setIfInBounds_toArray, List.set_cons_zero, List.set_cons_succ]))
              (refine useq_last rfl rfl rfl rfl (fun K hK => ?_))
              go_simp
              refine (HK2.out _ (hw4.trans hy)).mono ?_
              rintro e w6 ⟨rfl, hy1⟩
              have hyy := hy.trans hy1
              refine hK.out _ _ ?_
              (try simp only [Act.put, List.setIfInBounds_toArray, List.set_cons_zero, List.set_cons_succ])
              repeat (first | (refine useq_skip rfl rfl (by assumption) ?_; simp only [Act.put, List.setIfInBounds_toArray, List.set_cons_zero, List.set_cons_succ]) | (refine useq_pure (v := ?_) rfl rfl rfl rfl (fun X => ?_) ?_; rotate_left; (focus (go_simp <;> with_reducible rfl)); simp only [Act.put, List.setIfInBounds_toArray, List.set_cons_zero, List.set_cons_succ]) | (refine useq_read (v := ?_) rfl rfl rfl rfl (fun X hX => ?_) ?_; rotate_left; (focus (go_simp <;> with_reducible rfl)); simp only [Act.put, List.setIfInBounds_toArray, List.set_cons_zero, List.set_cons_succ]))
              refine useq_nil ?_
              go_wp2_with fail
              go_ret
              exact ⟨ret_int (by rw [hr.out]; rfl), hw1.trans (hx14.trans hyy)⟩
          · go_enter Tryz.func8, Tryz.ntmps8
            go_upto_region 1 with fail
            generalize (w.alloc (.cells #[.int .i64 p.al, .slice B m1 d1, .slice B' m1' d1'] 35)).alloc (.cells #[.int .i64 f.al, .slice C m2 d2, .slice C' m2' d2', .int .i64 g.al, .slice D m3 d3, .slice D' m3' d3'] 38) = w1 at *
            have c1 := b1.cell
            go_upto_region 6 with (first
              | (go_at_call 26; refine (HCL.out _ hw1).mono ?_; rw [hc1.out, hq2.out]; rintro e w2 ⟨rfl, hx2⟩; have hw2 := hw1.trans hx2; have c22 := (b2.ext hx2).cell)
              | (go_at_call 27; with_reducible refine (HF.out _ hw2).mono ?_; rw [V1.out]; rintro e w3 ⟨rfl, hx3⟩; have hw3 := hw2.trans hx3; have c32 := (b2.ext (hx2.trans hx3)).cell)
              | (go_at_call 27; with_reducible refine (HG.out _ hw3).mono ?_; rw [V2.out]; rintro e w4 ⟨rfl, hx4⟩; have hw4 := hw3.trans hx4; have c42 := (b2.ext (hx2.trans (hx3.trans hx4))).cell))
            have hx14 := hx2.trans (hx3.trans hx4)
            have B1 := b1.ext hx14
            have B2 := b2.ext hx14
            have c6 : ∀ W, Ext w4 W → ∀ j, W.cell? ⟨w.heap.size, j, none⟩ = #[Value.int .i64 p.al, .slice B m1 d1, .slice B' m1' d1'][j]? := fun W hW => (B1.ext hW).cell
            have c8 : ∀ W, Ext w4 W → ∀ j, W.cell? ⟨w.heap.size + 1, j, none⟩ = #[Value.int .i64 f.al, .slice C m2 d2, .slice C' m2' d2', .int .i64 g.al, .slice D m3 d3, .slice D' m3' d3'][j]? := fun W hW => (B2.ext hW).cell
            have hcx : ∀ W, Ext w4 W → W.cell? ⟨b, o, none⟩ = some (.int .i64 x.al) ∧ W.cell? ⟨b, o + 1, none⟩ = some (.int .i64 x.st) ∧ W.cell? ⟨b, o + 2, none⟩ = some (.slice Bx nx_ cx) ∧ W.cell? ⟨b, o + 3, none⟩ = some (.int .i64 y.al) ∧ W.cell? ⟨b, o + 4, none⟩ = some (.int .i64 y.st) ∧ W.cell? ⟨b, o + 5, none⟩ = some (.slice By ny cy) ∧ W.cell? ⟨b, o + 6, none⟩ = some (.int .i64 z.al) ∧ W.cell? ⟨b, o + 7, none⟩ = some (.int .i64 z.st) ∧ W.cell? ⟨b, o + 8, none⟩ = some (.slice Bz nz cz) := fun W hW => by
              have hh := (HX2.out W (hw4.trans hW)).1
              refine ⟨(hh 0).resolve_right (by omega), (hh 1).resolve_right (by omega), (hh 2).resolve_right (by omega), (hh 3).resolve_right (by omega), (hh 4).resolve_right (by omega), (hh 5).resolve_right (by omega), (hh 6).resolve_right (by omega), (hh 7).resolve_right (by omega), (hh 8).resolve_right (by omega)⟩
            have hww := Ext.refl w4
            clear c1 c22 c32 c42 B1 B2
            refine wp_region_tailU (fun X => Ext w4 X) [16] (OrdU.of [0, 1, 2, 3, 4, 5, 6, 7, 8, 9, 10, 11, 12, 13, 14, 15, 16, 17, 18]) (by kernel_rfl) (by kernel_rfl) (by kernel_rfl) (by kernel_rfl) (by kernel_rfl) (fun _ _ _ _ _ h => h) (by first | assumption | exact (Ext.refl _).drew | (refine Ext.drew ?_; assumption)) ?_
            repeat (first | (refine useq_skip rfl rfl (by assumption) ?_; simp only [Act.put, List.setIfInBounds_toArray, List.set_cons_zero, List.set_cons_succ]) | (refine useq_pure (v := ?_) rfl rfl rfl rfl (fun X => ?_) ?_; rotate_left; (focus (go_simp <;> with_reducible rfl)); simp only [Act.put, List.setIfInBounds_toArray, List.set_cons_zero, List.set_cons_succ]) | (refine useq_read (v := ?_) rfl rfl rfl rfl (fun X hX => ?_) ?_; rotate_left; (focus (go_simp <;> with_reducible rfl)); simp only [Act.put, List.setIfInBounds_toArray, List.set_cons_zero, List.set_cons_succ]))
            (refine useq_step rfl rfl rfl (fun K hK => ?_); go_simp)
            refine (HK1.out _ (hw4.trans hww.drew)).mono ?_
            rintro e w5 ⟨rfl, hy0⟩
            have hy := hww.drew.trans hy0
            refine hK.out _ _ hy ?_
            (try simp only [Act.put, List.setIfInBounds_toArray, List.set_cons_zero, List.set_cons_succ])
            repeat (first | (refine useq_skip rfl rfl (by assumption) ?_; simp only [Act.put, List.setIfInBounds_toArray, List.set_cons_zero, List.set_cons_succ]) | (refine useq_pure (v := ?_) rfl rfl rfl rfl (fun X => ?_) ?_; rotate_left; (focus (go_simp <;> with_reducible rfl)); simp only [Act.put, List.setIfInBounds_toArray, List.set_cons_zero, List.set_cons_succ]) | (refine useq_read (v := ?_) rfl rfl rfl rfl (fun X hX => ?_) ?_; rotate_left; (focus (go_simp <;> with_reducible rfl)); simp only [Act.put, List.setIfInBounds_toArray, List.set_cons_zero, List.set_cons_succ]))
            refine useq_nil ?_
            go_wp2_with fail
            go_ret
            exact ⟨ret_int (by rw [hr.out]; rfl), hw1.trans (hx14.trans hy)⟩
        · have hr := hide (show faultN [x, y, z] p f g = 2 by
            unfold faultN
            rw [hT'.out, V1.out, V2.out, hc1.out, hq2.out, decide_eq_false hE2]
            simp)
          have hb1 : (f.al != (q1 : Int)) = false := by simp [hE1]
          have hb2 : (g.al != q2) = true := by simp [hE2]
          clear hE1 hE2
          go_enter Tryz.func8, Tryz.ntmps8
          go_upto_region 1 with fail
          generalize (w.alloc (.cells #[.int .i64 p.al, .slice B m1 d1, .slice B' m1' d1'] 35)).alloc (.cells #[.int .i64 f.al, .slice C m2 d2, .slice C' m2' d2', .int .i64 g.al, .slice D m3 d3, .slice D' m3' d3'] 38) = w1 at *
          have c1 := b1.cell
          go_wp2_with (first
            | (go_at_call 26; refine (HCL.out _ hw1).mono ?_; rw [hc1.out, hq2.out]; rintro e w2 ⟨rfl, hx2⟩; have hw2 := hw1.trans hx2; have c22 := (b2.ext hx2).cell)
            | (go_at_call 27; with_reducible refine (HF.out _ hw2).mono ?_; rw [V1.out]; rintro e w3 ⟨rfl, hx3⟩; have hw3 := hw2.trans hx3; have c32 := (b2.ext (hx2.trans hx3)).cell)
            | (go_at_call 27; with_reducible refine (HG.out _ hw3).mono ?_; rw [V2.out]; rintro e w4 ⟨rfl, hx4⟩; have hw4 := hw3.trans hx4; have c42 := (b2.ext (hx2.trans (hx3.trans hx4))).cell))
          go_ret
          exact ⟨ret_int (by rw [hr.out]), hw4⟩
      · have hr := hide (show faultN [x, y, z] p f g = 2 by
          unfold faultN
          rw [hT'.out, V1.out, V2.out, hc1.out, hq2.out, decide_eq_false hE1]
          simp)
        have hb1 : (f.al != (q1 : Int)) = true := by simp [hE1]
        clear hE1
        go_enter Tryz.func8, Tryz.ntmps8
        go_upto_region 1 with fail
        generalize (w.alloc (.cells #[.int .i64 p.al, .slice B m1 d1, .slice B' m1' d1'] 35)).alloc (.cells #[.int .i64 f.al, .slice C m2 d2, .slice C' m2' d2', .int .i64 g.al, .slice D m3 d3, .slice D' m3' d3'] 38) = w1 at *
        have c1 := b1.cell
        go_wp2_with (first
          | (go_at_call 26; refine (HCL.out _ hw1).mono ?_; rw [hc1.out, hq2.out]; rintro e w2 ⟨rfl, hx2⟩; have hw2 := hw1.trans hx2; have c22 := (b2.ext hx2).cell)
          | (go_at_call 27; with_reducible refine (HF.out _ hw2).mono ?_; rw [V1.out]; rintro e w3 ⟨rfl, hx3⟩; have hw3 := hw2.trans hx3; have c32 := (b2.ext (hx2.trans hx3)).cell)
          | (go_at_call 27; with_reducible refine (HG.out _ hw3).mono ?_; rw [V2.out]; rintro e w4 ⟨rfl, hx4⟩; have hw4 := hw3.trans hx4; have c42 := (b2.ext (hx2.trans (hx3.trans hx4))).cell))
        go_ret
        exact ⟨ret_int (by rw [hr.out]), hw4⟩
    · have hV' := hide (show (autValid f && autValid g) = false by simpa using hV)
      have hr := hide (show faultN [x, y, z] p f g = 1 by unfold faultN; rw [hT'.out, hV'.out]; rfl)
      clear hV
      cases h2 : autValid f <;> cases h3 : autValid g
      all_goals first
        | (exfalso; have := hV'.out; rw [h2, h3] at this; cases this; done)
        | (have V1 := hide h2
           have V2 := hide h3
           clear h2 h3
           go_enter Tryz.func8, Tryz.ntmps8
           go_upto_region 1 with fail
           generalize (w.alloc (.cells #[.int .i64 p.al, .slice B m1 d1, .slice B' m1' d1'] 35)).alloc (.cells #[.int .i64 f.al, .slice C m2 d2, .slice C' m2' d2', .int .i64 g.al, .slice D m3 d3, .slice D' m3' d3'] 38) = w1 at *
           have c1 := b1.cell
           go_wp2_with (first
             | (go_at_call 26; refine (HCL.out _ hw1).mono ?_; rw [hc1.out, hq2.out]; rintro e w2 ⟨rfl, hx2⟩; have hw2 := hw1.trans hx2; have c22 := (b2.ext hx2).cell)
             | (go_at_call 27; with_reducible refine (HF.out _ hw2).mono ?_; rw [V1.out]; rintro e w3 ⟨rfl, hx3⟩; have hw3 := hw2.trans hx3; have c32 := (b2.ext (hx2.trans hx3)).cell)
             | (go_at_call 27; with_reducible refine (HG.out _ hw3).mono ?_; rw [V2.out]; rintro e w4 ⟨rfl, hx4⟩; have hw4 := hw3.trans hx4; have c42 := (b2.ext (hx2.trans (hx3.trans hx4))).cell))
           go_ret
           exact ⟨ret_int (by rw [hr.out]), by first | exact hw4 | exact hw3⟩)
set_option maxRecDepth 100000 in
theorem impl_ChainFault {n : Nat} (h : SLAt w lo hi A n ss) (hp : AutAt w lo1 hi1 B m1 B' m1' p) (hf : AutAt w lo2 hi2 C m2 C' m2' f) (hg : AutAt w lo3 hi3 D m3 D' m3' g) (hT : Tab w) :
    Calls Tryz.prog 12 #[.slice A n c, .agg #[.int .i64 p.al, .slice B m1 d1, .slice B' m1' d1'], .agg #[.int .i64 f.al, .slice C m2 d2, .slice C' m2' d2', .int .i64 g.al, .slice D m3 d3, .slice D' m3' d3']] w fun e w' => e = .returned (.int .i64 (faultN ss p f g)) ∧ Ext w w' := by
  have HS := hide (fun W (hW : Ext w W) => h.ext hW)
  have HPa := hide (fun W (hW : Ext w W) => hp.ext hW)
  have HFa := hide (fun W (hW : Ext w W) => hf.ext hW)
  have HGa := hide (fun W (hW : Ext w W) => hg.ext hW)
  have HT := hide (fun W (hW : Ext w W) => hT.ext hW)
  have HCL := hide (fun W (hW : Ext w W) => impl_ChainLetters (c := c) (d := d1) (d' := d1') (h.ext hW) (hp.ext hW))
  have HF := hide (fun W (hW : Ext w W) => impl_AutomatonValid _ _ _ _ d2 _ _ d2' _ _ (hf.ext hW))
  have HG := hide (fun W (hW : Ext w W) => impl_AutomatonValid _ _ _ _ d3 _ _ d3' _ _ (hg.ext hW))
  have hn := hide h.1
  clear h hp hf hg hT
  have hw1 : Ext w ((w.alloc (.cells #[.int .i64 p.al, .slice B m1 d1, .slice B' m1' d1'] 35)).alloc (.cells #[.int .i64 f.al, .slice C m2 d2, .slice C' m2' d2', .int .i64 g.al, .slice D m3 d3, .slice D' m3' d3'] 38)) := ((Ext.refl w).alloc _).alloc _
  obtain ⟨b1, b2⟩ := ext_blk2 (Ext.refl ((w.alloc (.cells #[.int .i64 p.al, .slice B m1 d1, .slice B' m1' d1'] 35)).alloc (.cells #[.int .i64 f.al, .slice C m2 d2, .slice C' m2' d2', .int .i64 g.al, .slice D m3 d3, .slice D' m3' d3'] 38)))
  cases hT : three ss p
  · have hr := hide (show faultN ss p f g = 1 by unfold faultN; rw [hT]; rfl)
    have hc1 := hide (show chain1 ss p = -1 by unfold chain1; rw [hT]; rfl)
    clear hT
    go_enter Tryz.func12, Tryz.ntmps12
    go_upto_region 1 with fail
    generalize (w.alloc (.cells #[.int .i64 p.al, .slice B m1 d1, .slice B' m1' d1'] 35)).alloc (.cells #[.int .i64 f.al, .slice C m2 d2, .slice C' m2' d2', .int .i64 g.al, .slice D m3 d3, .slice D' m3' d3'] 38) = w1 at *
    have c1 := b1.cell
    go_wp2_with (go_at_call 32; refine (HCL.out _ hw1).mono ?_; rw [hc1.out]; rintro e w2 ⟨rfl, hx2⟩)
    go_ret
    exact ⟨ret_int (by rw [hr.out]), hw1.trans hx2⟩
  · obtain ⟨x, y, z, rfl⟩ := three_list hT
    obtain ⟨q1, hq1, hq63⟩ := chain1_nat hT
    obtain rfl : n = 3 := hn.out
    have hc1 := hide hq1
    obtain ⟨q2, hq2⟩ : ∃ q2 : Int, Hid (chain2 [x, y, z] p = q2) := ⟨_, rfl⟩
    have hT' := hide hT
    clear hT hq1 hn
    have hneg : ¬ (q1 : Int) < 0 := by omega
    obtain ⟨b, o, rfl, HX⟩ : ∃ b o, A = some ⟨b, o, none⟩ ∧ Hid (∃ (Bx By Bz : Option Addr) (nx_ ny nz cx cy cz : Nat), ∀ W, Ext w W → (∀ j, W.cell? ⟨b, o + j, none⟩ = #[Value.int .i64 x.al, .int .i64 x.st, .slice Bx nx_ cx, .int .i64 y.al, .int .i64 y.st, .slice By ny cy, .int .i64 z.al, .int .i64 z.st, .slice Bz nz cz][j]? ∨ 9 ≤ j) ∧ SysAt W lo hi Bx nx_ x ∧ SysAt W lo hi By ny y ∧ SysAt W lo hi Bz nz z) := by
      obtain ⟨b, o, s, Bx, nx_, cx, rfl, _, _, hs, e0, e1, e2, hx⟩ := (HS.out w (Ext.refl _)).sys (k := 0) (by omega)
      obtain rfl : x = s := by have := hs.out; simpa using this
      obtain ⟨By, ny, cy, f0, f1, f2, hy⟩ := (HS.out w (Ext.refl _)).sys2 (k := 1) (s := y) rfl
      obtain ⟨Bz, nz, cz, g0, g1, g2, hz⟩ := (HS.out w (Ext.refl _)).sys2 (k := 2) (s := z) rfl
      refine ⟨b, o, rfl, ⟨Bx, By, Bz, nx_, ny, nz, cx, cy, cz, fun W hW => ⟨fun j => ?_, hx.ext hW, hy.ext hW, hz.ext hW⟩⟩⟩
      match j with
      | 0 => exact Or.inl (hW.cell_some (by simpa using e0))
      | 1 => exact Or.inl (hW.cell_some (by simpa using e1))
      | 2 => exact Or.inl (hW.cell_some (by simpa using e2))
      | 3 => exact Or.inl (hW.cell_some (by simpa using f0))
      | 4 => exact Or.inl (hW.cell_some (by simpa [Nat.add_assoc] using f1))
      | 5 => exact Or.inl (hW.cell_some (by simpa [Nat.add_assoc] using f2))
      | 6 => exact Or.inl (hW.cell_some (by simpa using g0))
      | 7 => exact Or.inl (hW.cell_some (by simpa [Nat.add_assoc] using g1))
      | 8 => exact Or.inl (hW.cell_some (by simpa [Nat.add_assoc] using g2))
      | j + 9 => exact Or.inr (by omega)
    by_cases hV : (autValid f && autValid g) = true
    · simp only [Bool.and_eq_true] at hV
      have V1 := hide hV.1
      have V2 := hide hV.2
      clear hV
      by_cases hE1 : f.al = (q1 : Int)
      · by_cases hE2 : g.al = q2
        · -- the letters are right
          have hr := hide (show faultN [x, y, z] p f g = if (keepsU x f p && keepsU y g f) = false then 3 else if keepsP [z] g = false then 4 else 0 by
            unfold faultN
            rw [hT'.out, V1.out, V2.out, hc1.out, hq2.out, decide_eq_true hE1, decide_eq_true hE2]
            rfl)
          have He1 := hide hE1
          have He2 := hide hE2
          have hb1 : (f.al != (q1 : Int)) = false := by simp [hE1]
          have hb2 : (g.al != q2) = false := by simp [hE2]
          clear hE1 hE2
          obtain ⟨Bx, By, Bz, nx_, ny, nz, cx, cy, cz, HXw⟩ := HX.out
          have HX2 := hide HXw
          clear HX HXw
          have HK1 := hide (fun W (hW : Ext w W) => impl_KeepsUnder (c := cx) (d1 := d2) (d1' := d2') (d2 := d1) (d2' := d1') (HX2.out W hW).2.1 (HFa.out W hW) (HPa.out W hW) (HT.out W hW))
          have HK2 := hide (fun W (hW : Ext w W) => impl_KeepsUnder (c := cy) (d1 := d3) (d1' := d3') (d2 := d2) (d2' := d2') (HX2.out W hW).2.2.1 (HGa.out W hW) (HFa.out W hW) (HT.out W hW))
          have HK3 := hide (fun W (hW : Ext w W) => impl_KeepsProperty (c := cz) (d2 := d3) (d2' := d3') (HX2.out W hW).2.2.2 (HGa.out W hW) (HT.out W hW))
          generalize keepsU x f p = u1 at *
          generalize keepsU y g f = u2 at *
          generalize keepsP [z] g = u3 at *
          cases u1
          rotate_left
          · cases u2
            rotate_left
            · cases u3
              all_goals
                go_enter Tryz.func12, Tryz.ntmps12
                go_upto_region 1 with fail
                generalize (w.alloc (.cells #[.int .i64 p.al, .slice B m1 d1, .slice B' m1' d1'] 35)).alloc (.cells #[.int .i64 f.al, .slice C m2 d2, .slice C' m2' d2', .int .i64 g.al, .slice D m3 d3, .slice D' m3' d3'] 38) = w1 at *
                have c1 := b1.cell
                go_upto_region 6 with (first
                  | (go_at_call 32; refine (HCL.out _ hw1).mono ?_; rw [hc1.out, hq2.out]; rintro e w2 ⟨rfl, hx2⟩; have hw2 := hw1.trans hx2; have c22 := (b2.ext hx2).cell)
                  | (go_at_call 33; with_reducible refine (HF.out _ hw2).mono ?_; rw [V1.out]; rintro e w3 ⟨rfl, hx3⟩; have hw3 := hw2.trans hx3; have c32 := (b2.ext (hx2.trans hx3)).cell)
                  | (go_at_call 33; with_reducible refine (HG.out _ hw3).mono ?_; rw [V2.out]; rintro e w4 ⟨rfl, hx4⟩; have hw4 := hw3.trans hx4; have c42 := (b2.ext (hx2.trans (hx3.trans hx4))).cell))
                have hx14 := hx2.trans (hx3.trans hx4)
                have B1 := b1.ext hx14
                have B2 := b2.ext hx14
                have c6 : ∀ W, Ext w4 W → ∀ j, W.cell? ⟨w.heap.size, j, none⟩ = #[Value.int .i64 p.al, .slice B m1 d1, .slice B' m1' d1'][j]? := fun W hW => (B1.ext hW).cell
                have c8 : ∀ W, Ext w4 W → ∀ j, W.cell? ⟨w.heap.size + 1, j, none⟩ = #[Value.int .i64 f.al, .slice C m2 d2, .slice C' m2' d2', .int .i64 g.al, .slice D m3 d3, .slice D' m3' d3'][j]? := fun W hW => (B2.ext hW).cell
                have hcx : ∀ W, Ext w4 W → W.cell? ⟨b, o, none⟩ = some (.int .i64 x.al) ∧ W.cell? ⟨b, o + 1, none⟩ = some (.int .i64 x.st) ∧ W.cell? ⟨b, o + 2, none⟩ = some (.slice Bx nx_ cx) ∧ W.cell? ⟨b, o + 3, none⟩ = some (.int .i64 y.al) ∧ W.cell? ⟨b, o + 4, none⟩ = some (.int .i64 y.st) ∧ W.cell? ⟨b, o + 5, none⟩ = some (.slice By ny cy) ∧ W.cell? ⟨b, o + 6, none⟩ = some (.int .i64 z.al) ∧ W.cell? ⟨b, o + 7, none⟩ = some (.int .i64 z.st) ∧ W.cell? ⟨b, o + 8, none⟩ = some (.slice Bz nz cz) := fun W hW => by
                  have hh := (HX2.out W (hw4.trans hW)).1
                  refine ⟨(hh 0).resolve_right (by omega), (hh 1).resolve_right (by omega), (hh 2).resolve_right (by omega), (hh 3).resolve_right (by omega), (hh 4).resolve_right (by omega), (hh 5).resolve_right (by omega), (hh 6).resolve_right (by omega), (hh 7).resolve_right (by omega), (hh 8).resolve_right (by omega)⟩
                have hww := Ext.refl w4
                clear c1 c22 c32 c42 B1 B2
                refine wp_region_tailU (fun X => Ext w4 X) [16] (OrdU.of [0, 1, 2, 3, 4, 5, 6, 7, 8, 9, 10, 11, 12, 13, 14, 15, 16, 17, 18, 19]) (by kernel_rfl) (by kernel_rfl) (by kernel_rfl) (by kernel_rfl) (by kernel_rfl) (fun _ _ _ _ _ h => h) (by first | assumption | exact (Ext.refl _).drew | (refine Ext.drew ?_; assumption)) ?_
                repeat (first | (refine useq_skip rfl rfl (by assumption) ?_; simp only [Act.put, List.setIfInBounds_toArray, List.set_cons_zero, List.set_cons_succ]) | (refine useq_pure (v := ?_) rfl rfl rfl rfl (fun X => ?_) ?_; rotate_left; (focus (go_simp <;> with_reducible rfl)); simp only [Act.put, List.setIfInBounds_toArray, List.set_cons_zero, List.set_cons_succ]) | (refine useq_read (v := ?_) rfl rfl rfl rfl (fun X hX => ?_) ?_; rotate_left; (focus (go_simp <;> with_reducible rfl)); simp only [Act.put, List.setIfInBounds_toArray, List.set_cons_zero, List.set_cons_succ]))
                (refine useq_step rfl rfl rfl (fun K hK => ?_); go_simp)
                refine (HK1.out _ (hw4.trans hww.drew)).mono ?_
                rintro e w5 ⟨rfl, hy0⟩
                have hy := hww.drew.trans hy0
                refine hK.out _ _ hy ?_
                (try simp only [Act.put, List.setIfInBounds_toArray, List.set_cons_zero, List.set_cons_succ])
                repeat (first | (refine useq_skip rfl rfl (by assumption) ?_; simp only [Act.put, List.setIfInBounds_toArray, List.set_cons_zero, List.set_cons_succ]) | (refine useq_pure (v := ?_) rfl rfl rfl rfl (fun X => ?_) ?_; rotate_left; (focus (go_simp <;> with_reducible rfl)); simp only [Act.put, List.setIfInBounds_toArray, List.set_cons_zero, List.set_cons_succ]) | (refine useq_read (v := ?_) rfl rfl rfl rfl (fun X hX => ?_) ?_; rotate_left; (focus (go_simp <;> with_reducible rfl)); simp only [Act.put, List.setIfInBounds_toArray, List.set_cons_zero, List.set_cons_succ]))
                (refine useq_last rfl rfl rfl rfl (fun K hK => ?_))
                go_simp
                refine (HK2.out _ (hw4.trans hy)).mono ?_
                rintro e w6 ⟨rfl, hy1⟩
                have hyy := hy.trans hy1
                refine hK.out _ _ ?_
                (try simp only [Act.put, List.setIfInBounds_toArray, List.set_cons_zero, List.set_cons_succ])
                repeat (first | (refine useq_skip rfl rfl (by assumption) ?_; simp only [Act.put, List.setIfInBounds_toArray, List.set_cons_zero, List.set_cons_succ]) | (refine useq_pure (v := ?_) rfl rfl rfl rfl (fun X => ?_) ?_; rotate_left; (focus (go_simp <;> with_reducible rfl)); simp only [Act.put, List.setIfInBounds_toArray, List.set_cons_zero, List.set_cons_succ]) | (refine useq_read (v := ?_) rfl rfl rfl rfl (fun X hX => ?_) ?_; rotate_left; (focus (go_simp <;> with_reducible rfl)); simp only [Act.put, List.setIfInBounds_toArray, List.set_cons_zero, List.set_cons_succ]))
                refine useq_nil ?_
                go_wp2_with fail
                have hyy0 := hyy
                clear c6 c8 hcx hww
                go_upto_region 8 with fail
                have hcz : ∀ W, Ext w6 W → W.cell? ⟨b, o + 6, none⟩ = some (.int .i64 z.al) ∧ W.cell? ⟨b, o + 7, none⟩ = some (.int .i64 z.st) ∧ W.cell? ⟨b, o + 8, none⟩ = some (.slice Bz nz cz) := fun W hW => by
                  have hh := (HX2.out W (hw4.trans (hyy0.trans hW))).1
                  exact ⟨(hh 6).resolve_right (by omega), (hh 7).resolve_right (by omega), (hh 8).resolve_right (by omega)⟩
                have c8 : ∀ W, Ext w6 W → ∀ j, W.cell? ⟨w.heap.size + 1, j, none⟩ = #[Value.int .i64 f.al, .slice C m2 d2, .slice C' m2' d2', .int .i64 g.al, .slice D m3 d3, .slice D' m3' d3'][j]? := fun W hW => (b2.ext (hx14.trans (hyy0.trans hW))).cell
                have hww := Ext.refl w6
                refine wp_region_tailU (fun X => Ext w6 X) [5] (OrdU.of [0, 1, 2, 3, 4, 5, 6, 7]) (by kernel_rfl) (by kernel_rfl) (by kernel_rfl) (by kernel_rfl) (by kernel_rfl) (fun _ _ _ _ _ h => h) (by first | assumption | exact (Ext.refl _).drew | (refine Ext.drew ?_; assumption)) ?_
                repeat (first | (refine useq_skip rfl rfl (by assumption) ?_; simp only [Act.put, List.setIfInBounds_toArray, List.set_cons_zero, List.set_cons_succ]) | (refine useq_pure (v := ?_) rfl rfl rfl rfl (fun X => ?_) ?_; rotate_left; (focus (go_simp <;> with_reducible rfl)); simp only [Act.put, List.setIfInBounds_toArray, List.set_cons_zero, List.set_cons_succ]) | (refine useq_read (v := ?_) rfl rfl rfl rfl (fun X hX => ?_) ?_; rotate_left; (focus (go_simp <;> with_reducible rfl)); simp only [Act.put, List.setIfInBounds_toArray, List.set_cons_zero, List.set_cons_succ]))
                (refine useq_last rfl rfl rfl rfl (fun K hK => ?_))
                go_simp
                refine (HK3.out _ (hw4.trans (hyy0.trans hww.drew))).mono ?_
                rintro e w7 ⟨rfl, hy2⟩
                have hyy2 := hyy0.trans (hww.drew.trans hy2)
                refine hK.out _ _ ?_
                (try simp only [Act.put, List.setIfInBounds_toArray, List.set_cons_zero, List.set_cons_succ])
                repeat (first | (refine useq_skip rfl rfl (by assumption) ?_; simp only [Act.put, List.setIfInBounds_toArray, List.set_cons_zero, List.set_cons_succ]) | (refine useq_pure (v := ?_) rfl rfl rfl rfl (fun X => ?_) ?_; rotate_left; (focus (go_simp <;> with_reducible rfl)); simp only [Act.put, List.setIfInBounds_toArray, List.set_cons_zero, List.set_cons_succ]) | (refine useq_read (v := ?_) rfl rfl rfl rfl (fun X hX => ?_) ?_; rotate_left; (focus (go_simp <;> with_reducible rfl)); simp only [Act.put, List.setIfInBounds_toArray, List.set_cons_zero, List.set_cons_succ]))
                refine useq_nil ?_
                go_wp2_with fail
                go_ret
                exact ⟨ret_int (by rw [hr.out]; rfl), hw1.trans (hx14.trans hyy2)⟩
            · go_enter Tryz.func12, Tryz.ntmps12
              go_upto_region 1 with fail
              generalize (w.alloc (.cells #[.int .i64 p.al, .slice B m1 d1, .slice B' m1' d1'] 35)).alloc (.cells #[.int .i64 f.al, .slice C m2 d2, .slice C' m2' d2', .int .i64 g.al, .slice D m3 d3, .slice D' m3' d3'] 38) = w1 at *
              have c1 := b1.cell
              go_upto_region 6 with (first
                | (go_at_call 32; refine (HCL.out _ hw1).mono ?_; rw [hc1.out, hq2.out]; rintro e w2 ⟨rfl, hx2⟩; have hw2 := hw1.trans hx2; have c22 := (b2.ext hx2).cell)
                | (go_at_call 33; with_reducible refine (HF.out _ hw2).mono ?_; rw [V1.out]; rintro e w3 ⟨rfl, hx3⟩; have hw3 := hw2.trans hx3; have c32 := (b2.ext (hx2.trans hx3)).cell)
                | (go_at_call 33; with_reducible refine (HG.out _ hw3).mono ?_; rw [V2.out]; rintro e w4 ⟨rfl, hx4⟩; have hw4 := hw3.trans hx4; have c42 := (b2.ext (hx2.trans (hx3.trans hx4))).cell))
              have hx14 := hx2.trans (hx3.trans hx4)
              have B1 := b1.ext hx14
              have B2 := b2.ext hx14
              have c6 : ∀ W, Ext w4 W → ∀ j, W.cell? ⟨w.heap.size, j, none⟩ = #[Value.int .i64 p.al, .slice B m1 d1, .slice B' m1' d1'][j]? := fun W hW => (B1.ext hW).cell
              have c8 : ∀ W, Ext w4 W → ∀ j, W.cell? ⟨w.heap.size + 1, j, none⟩ = #[Value.int .i64 f.al, .slice C m2 d2, .slice C' m2' d2', .int .i64 g.al, .slice D m3 d3, .slice D' m3' d3'][j]? := fun W hW => (B2.ext hW).cell
              have hcx : ∀ W, Ext w4 W → W.cell? ⟨b, o, none⟩ = some (.int .i64 x.al) ∧ W.cell? ⟨b, o + 1, none⟩ = some (.int .i64 x.st) ∧ W.cell? ⟨b, o + 2, none⟩ = some (.slice Bx nx_ cx) ∧ W.cell? ⟨b, o + 3, none⟩ = some (.int .i64 y.al) ∧ W.cell? ⟨b, o + 4, none⟩ = some (.int .i64 y.st) ∧ W.cell? ⟨b, o + 5, none⟩ = some (.slice By ny cy) ∧ W.cell? ⟨b, o + 6, none⟩ = some (.int .i64 z.al) ∧ W.cell? ⟨b, o + 7, none⟩ = some (.int .i64 z.st) ∧ W.cell? ⟨b, o + 8, none⟩ = some (.slice Bz nz cz) := fun W hW => by
                have hh := (HX2.out W (hw4.trans hW)).1
                refine ⟨(hh 0).resolve_right (by omega), (hh 1).resolve_right (by omega), (hh 2).resolve_right (by omega), (hh 3).resolve_right (by omega), (hh 4).resolve_right (by omega), (hh 5).resolve_right (by omega), (hh 6).resolve_right (by omega), (hh 7).resolve_right (by omega), (hh 8).resolve_right (by omega)⟩
              have hww := Ext.refl w4
              clear c1 c22 c32 c42 B1 B2
              refine wp_region_tailU (fun X => Ext w4 X) [16] (OrdU.of [0, 1, 2, 3, 4, 5, 6, 7, 8, 9, 10, 11, 12, 13, 14, 15, 16, 17, 18, 19]) (by kernel_rfl) (by kernel_rfl) (by kernel_rfl) (by kernel_rfl) (by kernel_rfl) (fun _ _ _ _ _ h => h) (by first | assumption | exact (Ext.refl _).drew | (refine Ext.drew ?_; assumption)) ?_
              repeat (first | (refine useq_skip rfl rfl (by assumption) ?_; simp only [Act.put, List.setIfInBounds_toArray, List.set_cons_zero, List.set_cons_succ]) | (refine useq_pure (v := ?_) rfl rfl rfl rfl (fun X => ?_) ?_; rotate_left; (focus (go_simp <;> with_reducible rfl)); simp only [Act.put, List.setIfInBounds_toArray, List.set_cons_zero, List.set_cons_succ]) | (refine useq_read (v := ?_) rfl rfl rfl rfl (fun X hX => ?_) ?_; rotate_left; (focus (go_simp <;> with_reducible rfl)); simp only [Act.put, List.setIfInBounds_toArray, List.set_cons_zero, List.set_cons_succ]))
              (refine useq_step rfl rfl rfl (fun K hK => ?_); go_simp)
              refine (HK1.out _ (hw4.trans hww.drew)).mono ?_
              rintro e w5 ⟨rfl, hy0⟩
              have hy := hww.drew.trans hy0
              refine hK.out _ _ hy ?_
              (try simp only [Act.put, List.setIfInBounds_toArray, List.set_cons_zero, List.set_cons_succ])
              repeat (first | (refine useq_skip rfl rfl (by assumption) ?_; simp only [Act.put, List.setIfInBounds_toArray, List.set_cons_zero, List.set_cons_succ]) | (refine useq_pure (v := ?_) rfl rfl rfl rfl (fun X => ?_) ?_; rotate_left; (focus (go_simp <;> with_reducible rfl)); simp only [Act.put, List.setIfInBounds_toArray, List.set_cons_zero, List.set_cons_succ]) | (refine useq_read (v := ?_) rfl rfl rfl rfl (fun X hX => ?_) ?_; rotate_left; (focus (go_simp <;> with_reducible rfl)); simp only [Act.put, List.setIfInBounds_toArray, List.set_cons_zero, List.set_cons_succ]))
              (refine useq_last rfl rfl rfl rfl (fun K hK => ?_))
              go_simp
              refine (HK2.out _ (hw4.trans hy)).mono ?_
              rintro e w6 ⟨rfl, hy1⟩
              have hyy := hy.trans hy1
              refine hK.out _ _ ?_
              (try simp only [Act.put, List.setIfInBounds_toArray, List.set_cons_zero, List.set_cons_succ])
              repeat (first | (refine useq_skip rfl rfl (by assumption) ?_; simp only [Act.put, List.setIfInBounds_toArray, List.set_cons_zero, List.set_cons_succ]) | (refine useq_pure (v := ?_) rfl rfl rfl rfl (fun X => ?_) ?_; rotate_left; (focus (go_simp <;> with_reducible rfl)); simp only [Act.put, List.setIfInBounds_toArray, List.set_cons_zero, List.set_cons_succ]) | (refine useq_read (v := ?_) rfl rfl rfl rfl (fun X hX => ?_) ?_; rotate_left; (focus (go_simp <;> with_reducible rfl)); simp only [Act.put, List.setIfInBounds_toArray, List.set_cons_zero, List.set_cons_succ]))
              refine useq_nil ?_
              go_wp2_with fail
              go_ret
              exact ⟨ret_int (by rw [hr.out]; rfl), hw1.trans (hx14.trans hyy)⟩
          · go_enter Tryz.func12, Tryz.ntmps12
            go_upto_region 1 with fail
            generalize (w.alloc (.cells #[.int .i64 p.al, .slice B m1 d1, .slice B' m1' d1'] 35)).alloc (.cells #[.int .i64 f.al, .slice C m2 d2, .slice C' m2' d2', .int .i64 g.al, .slice D m3 d3, .slice D' m3' d3'] 38) = w1 at *
            have c1 := b1.cell
            go_upto_region 6 with (first
              | (go_at_call 32; refine (HCL.out _ hw1).mono ?_; rw [hc1.out, hq2.out]; rintro e w2 ⟨rfl, hx2⟩; have hw2 := hw1.trans hx2; have c22 := (b2.ext hx2).cell)
              | (go_at_call 33; with_reducible refine (HF.out _ hw2).mono ?_; rw [V1.out]; rintro e w3 ⟨rfl, hx3⟩; have hw3 := hw2.trans hx3; have c32 := (b2.ext (hx2.trans hx3)).cell)
              | (go_at_call 33; with_reducible refine (HG.out _ hw3).mono ?_; rw [V2.out]; rintro e w4 ⟨rfl, hx4⟩; have hw4 := hw3.trans hx4; have c42 := (b2.ext (hx2.trans (hx3.trans hx4))).cell))
            have hx14 := hx2.trans (hx3.trans hx4)
            have B1 := b1.ext hx14
            have B2 := b2.ext hx14
            have c6 : ∀ W, Ext w4 W → ∀ j, W.cell? ⟨w.heap.size, j, none⟩ = #[Value.int .i64 p.al, .slice B m1 d1, .slice B' m1' d1'][j]? := fun W hW => (B1.ext hW).cell
            have c8 : ∀ W, Ext w4 W → ∀ j, W.cell? ⟨w.heap.size + 1, j, none⟩ = #[Value.int .i64 f.al, .slice C m2 d2, .slice C' m2' d2', .int .i64 g.al, .slice D m3 d3, .slice D' m3' d3'][j]? := fun W hW => (B2.ext hW).cell
            have hcx : ∀ W, Ext w4 W → W.cell? ⟨b, o, none⟩ = some (.int .i64 x.al) ∧ W.cell? ⟨b, o + 1, none⟩ = some (.int .i64 x.st) ∧ W.cell? ⟨b, o + 2, none⟩ = some (.slice Bx nx_ cx) ∧ W.cell? ⟨b, o + 3, none⟩ = some (.int .i64 y.al) ∧ W.cell? ⟨b, o + 4, none⟩ = some (.int .i64 y.st) ∧ W.cell? ⟨b, o + 5, none⟩ = some (.slice By ny cy) ∧ W.cell? ⟨b, o + 6, none⟩ = some (.int .i64 z.al) ∧ W.cell? ⟨b, o + 7, none⟩ = some (.int .i64 z.st) ∧ W.cell? ⟨b, o + 8, none⟩ = some (.slice Bz nz cz) := fun W hW => by
              have hh := (HX2.out W (hw4.trans hW)).1
              refine ⟨(hh 0).resolve_right (by omega), (hh 1).resolve_right (by omega), (hh 2).resolve_right (by omega), (hh 3).resolve_right (by omega), (hh 4).resolve_right (by omega), (hh 5).resolve_right (by omega), (hh 6).resolve_right (by omega), (hh 7).resolve_right (by omega), (hh 8).resolve_right (by omega)⟩
            have hww := Ext.refl w4
            clear c1 c22 c32 c42 B1 B2
            refine wp_region_tailU (fun X => Ext w4 X) [16] (OrdU.of [0, 1, 2, 3, 4, 5, 6, 7, 8, 9, 10, 11, 12, 13, 14, 15, 16, 17, 18, 19]) (by kernel_rfl) (by kernel_rfl) (by kernel_rfl) (by kernel_rfl) (by kernel_rfl) (fun _ _ _ _ _ h => h) (by first | assumption | exact (Ext.refl _).drew | (refine Ext.drew ?_; assumption)) ?_
            repeat (first | (refine useq_skip rfl rfl (by assumption) ?_; simp only [Act.put, List.setIfInBounds_toArray, List.set_cons_zero, List.set_cons_succ]) | (refine useq_pure (v := ?_) rfl rfl rfl rfl (fun X => ?_) ?_; rotate_left; (focus (go_simp <;> with_reducible rfl)); simp only [Act.put, List.setIfInBounds_toArray, List.set_cons_zero, List.set_cons_succ]) | (refine useq_read (v := ?_) rfl rfl rfl rfl (fun X hX => ?_) ?_; rotate_left; (focus (go_simp <;> with_reducible rfl)); simp only [Act.put, List.setIfInBounds_toArray, List.set_cons_zero, List.set_cons_succ]))
            (refine useq_step rfl rfl rfl (fun K hK => ?_); go_simp)
            refine (HK1.out _ (hw4.trans hww.drew)).mono ?_
            rintro e w5 ⟨rfl, hy0⟩
            have hy := hww.drew.trans hy0
            refine hK.out _ _ hy ?_
            (try simp only [Act.put, List.setIfInBounds_toArray, List.set_cons_zero, List.set_cons_succ])
            repeat (first | (refine useq_skip rfl rfl (by assumption) ?_; simp only [Act.put, List.setIfInBounds_toArray, List.set_cons_zero, List.set_cons_succ]) | (refine useq_pure (v := ?_) rfl rfl rfl rfl (fun X => ?_) ?_; rotate_left; (focus (go_simp <;> with_reducible rfl)); simp only [Act.put, List.setIfInBounds_toArray, List.set_cons_zero, List.set_cons_succ]) | (refine useq_read (v := ?_) rfl rfl rfl rfl (fun X hX => ?_) ?_; rotate_left; (focus (go_simp <;> with_reducible rfl)); simp only [Act.put, List.setIfInBounds_toArray, List.set_cons_zero, List.set_cons_succ]))
            refine useq_nil ?_
            go_wp2_with fail
            go_ret
            exact ⟨ret_int (by rw [hr.out]; rfl), hw1.trans (hx14.trans hy)⟩
        · have hr := hide (show faultN [x, y, z] p f g = 2 by
            unfold faultN
            rw [hT'.out, V1.out, V2.out, hc1.out, hq2.out, decide_eq_false hE2]
            simp)
          have hb1 : (f.al != (q1 : Int)) = false := by simp [hE1]
          have hb2 : (g.al != q2) = true := by simp [hE2]
          clear hE1 hE2
          go_enter Tryz.func12, Tryz.ntmps12
          go_upto_region 1 with fail
          generalize (w.alloc (.cells #[.int .i64 p.al, .slice B m1 d1, .slice B' m1' d1'] 35)).alloc (.cells #[.int .i64 f.al, .slice C m2 d2, .slice C' m2' d2', .int .i64 g.al, .slice D m3 d3, .slice D' m3' d3'] 38) = w1 at *
          have c1 := b1.cell
          go_wp2_with (first
            | (go_at_call 32; refine (HCL.out _ hw1).mono ?_; rw [hc1.out, hq2.out]; rintro e w2 ⟨rfl, hx2⟩; have hw2 := hw1.trans hx2; have c22 := (b2.ext hx2).cell)
            | (go_at_call 33; with_reducible refine (HF.out _ hw2).mono ?_; rw [V1.out]; rintro e w3 ⟨rfl, hx3⟩; have hw3 := hw2.trans hx3; have c32 := (b2.ext (hx2.trans hx3)).cell)
            | (go_at_call 33; with_reducible refine (HG.out _ hw3).mono ?_; rw [V2.out]; rintro e w4 ⟨rfl, hx4⟩; have hw4 := hw3.trans hx4; have c42 := (b2.ext (hx2.trans (hx3.trans hx4))).cell))
          go_ret
          exact ⟨ret_int (by rw [hr.out]), hw4⟩
      · have hr := hide (show faultN [x, y, z] p f g = 2 by
          unfold faultN
          rw [hT'.out, V1.out, V2.out, hc1.out, hq2.out, decide_eq_false hE1]
          simp)
        have hb1 : (f.al != (q1 : Int)) = true := by simp [hE1]
        clear hE1
        go_enter Tryz.func12, Tryz.ntmps12
        go_upto_region 1 with fail
        generalize (w.alloc (.cells #[.int .i64 p.al, .slice B m1 d1, .slice B' m1' d1'] 35)).alloc (.cells #[.int .i64 f.al, .slice C m2 d2, .slice C' m2' d2', .int .i64 g.al, .slice D m3 d3, .slice D' m3' d3'] 38) = w1 at *
        have c1 := b1.cell
        go_wp2_with (first
          | (go_at_call 32; refine (HCL.out _ hw1).mono ?_; rw [hc1.out, hq2.out]; rintro e w2 ⟨rfl, hx2⟩; have hw2 := hw1.trans hx2; have c22 := (b2.ext hx2).cell)
          | (go_at_call 33; with_reducible refine (HF.out _ hw2).mono ?_; rw [V1.out]; rintro e w3 ⟨rfl, hx3⟩; have hw3 := hw2.trans hx3; have c32 := (b2.ext (hx2.trans hx3)).cell)
          | (go_at_call 33; with_reducible refine (HG.out _ hw3).mono ?_; rw [V2.out]; rintro e w4 ⟨rfl, hx4⟩; have hw4 := hw3.trans hx4; have c42 := (b2.ext (hx2.trans (hx3.trans hx4))).cell))
        go_ret
        exact ⟨ret_int (by rw [hr.out]), hw4⟩
    · have hV' := hide (show (autValid f && autValid g) = false by simpa using hV)
      have hr := hide (show faultN [x, y, z] p f g = 1 by unfold faultN; rw [hT'.out, hV'.out]; rfl)
      clear hV
      cases h2 : autValid f <;> cases h3 : autValid g
      all_goals first
        | (exfalso; have := hV'.out; rw [h2, h3] at this; cases this; done)
        | (have V1 := hide h2
           have V2 := hide h3
           clear h2 h3
           go_enter Tryz.func12, Tryz.ntmps12
           go_upto_region 1 with fail
           generalize (w.alloc (.cells #[.int .i64 p.al, .slice B m1 d1, .slice B' m1' d1'] 35)).alloc (.cells #[.int .i64 f.al, .slice C m2 d2, .slice C' m2' d2', .int .i64 g.al, .slice D m3 d3, .slice D' m3' d3'] 38) = w1 at *
           have c1 := b1.cell
           go_wp2_with (first
             | (go_at_call 32; refine (HCL.out _ hw1).mono ?_; rw [hc1.out, hq2.out]; rintro e w2 ⟨rfl, hx2⟩; have hw2 := hw1.trans hx2; have c22 := (b2.ext hx2).cell)
             | (go_at_call 33; with_reducible refine (HF.out _ hw2).mono ?_; rw [V1.out]; rintro e w3 ⟨rfl, hx3⟩; have hw3 := hw2.trans hx3; have c32 := (b2.ext (hx2.trans hx3)).cell)
             | (go_at_call 33; with_reducible refine (HG.out _ hw3).mono ?_; rw [V2.out]; rintro e w4 ⟨rfl, hx4⟩; have hw4 := hw3.trans hx4; have c42 := (b2.ext (hx2.trans (hx3.trans hx4))).cell))
           go_ret
           exact ⟨ret_int (by rw [hr.out]), by first | exact hw4 | exact hw3⟩)
end
end Go.Proofs.YtplllipekeomiaaGreatDoor

namespace Go.Proofs.YtplllipekeomiaaGreatDoor
open Go Go.RowKit
set_option maxHeartbeats 4000000

/-- What InterfaceOf returns. -/
def iface (s : Sys) (p : Aut) (t : Sys) : Int := if (sysValid s && (autValid p && sysValid t)) = true then (((s.al.toNat ||| p.al.toNat) &&& t.al.toNat : Nat) : Int) else -1
section
variable {lo hi n c : Nat} {A : Option Addr} {s : Sys} {lo1 hi1 m1 d1 m1' d1' : Nat} {B B' : Option Addr} {p : Aut} {lo2 hi2 k c2 : Nat} {C : Option Addr} {t : Sys} {w : World}
set_option maxRecDepth 100000 in
theorem spec_InterfaceOf (h : SysAt w lo hi A n s) (hp : AutAt w lo1 hi1 B m1 B' m1' p) (ht : SysAt w lo2 hi2 C k t) :
    Calls Tryz.prog 39 #[.agg #[.int .i64 s.al, .int .i64 s.st, .slice A n c], .agg #[.int .i64 p.al, .slice B m1 d1, .slice B' m1' d1'], .agg #[.int .i64 t.al, .int .i64 t.st, .slice C k c2]] w fun e w' => e = .returned (.int .i64 (iface s p t)) ∧ Ext w w' := by
  have HS := hide (fun W (hW : Ext w W) => spec_SystemValid (c := c) (h.ext hW))
  have HP := hide (fun W (hW : Ext w W) => spec_AutomatonValid _ _ _ _ d1 _ _ d1' _ _ (hp.ext hW))
  have HT := hide (fun W (hW : Ext w W) => spec_SystemValid (c := c2) (ht.ext hW))
  clear h hp ht
  cases h1 : sysValid s <;> cases h2 : autValid p <;> cases h3 : sysValid t
  case true.true.true =>
    have H1 := hide h1
    have H2 := hide h2
    have H3 := hide h3
    have v1 := sysValid_al h1
    have v2 := (autValid_row h2).1
    have v3 := sysValid_al h3
    obtain ⟨a, ha⟩ : ∃ a : Nat, Hid (s.al = a) := ⟨s.al.toNat, by unfold Hid; omega⟩
    obtain ⟨b, hb⟩ : ∃ a : Nat, Hid (p.al = a) := ⟨p.al.toNat, by unfold Hid; omega⟩
    obtain ⟨d, hd⟩ : ∃ a : Nat, Hid (t.al = a) := ⟨t.al.toNat, by unfold Hid; omega⟩
    have hr := hide (show iface s p t = ((((a ||| b) &&& d : Nat)) : Int) by unfold iface; rw [h1, h2, h3, ha.out, hb.out, hd.out]; rfl)
    rw [ha.out] at v1
    rw [hb.out] at v2
    rw [hd.out] at v3
    have a6 : a ≤ 63 := by omega
    have b6 : b ≤ 63 := by omega
    have d6 : d ≤ 63 := by omega
    have o6 := Nat.or_lt_two_pow (n := 6) (x := a) (y := b) (by omega) (by omega)
    have ho := bits_or (a := a) (b := b) (by unfold Sm; omega) (by unfold Sm; omega)
    have hn := bits_and (a := a ||| b) (b := d) (by unfold Sm; omega) (by unfold Sm; omega)
    clear h1 h2 h3 v1 v2 v3 o6
    rw [ha.out] at HS ⊢
    rw [hb.out] at HP ⊢
    rw [hd.out] at HT ⊢
    have hw1 : Ext w (((w.alloc (.cells #[.int .i64 a, .int .i64 s.st, .slice A n c] 54)).alloc (.cells #[.int .i64 b, .slice B m1 d1, .slice B' m1' d1'] 35)).alloc (.cells #[.int .i64 d, .int .i64 t.st, .slice C k c2] 54)) := (((Ext.refl w).alloc _).alloc _).alloc _
    obtain ⟨b1, b2, b3⟩ := ext_blk3 (Ext.refl (((w.alloc (.cells #[.int .i64 a, .int .i64 s.st, .slice A n c] 54)).alloc (.cells #[.int .i64 b, .slice B m1 d1, .slice B' m1' d1'] 35)).alloc (.cells #[.int .i64 d, .int .i64 t.st, .slice C k c2] 54)))
    go_enter Tryz.func39, Tryz.ntmps39
    go_upto_region 1 with fail
    generalize ((w.alloc (.cells #[.int .i64 a, .int .i64 s.st, .slice A n c] 54)).alloc (.cells #[.int .i64 b, .slice B m1 d1, .slice B' m1' d1'] 35)).alloc (.cells #[.int .i64 d, .int .i64 t.st, .slice C k c2] 54) = w1 at *
    have c1 := b1.cell
    go_wp2_with (first
      | (go_at_call 65; with_reducible refine (HS.out _ hw1).mono ?_; rw [H1.out]; rintro e w2 ⟨rfl, hx2⟩; have hw2 := hw1.trans hx2; have c2 := (b2.ext hx2).cell)
      | (go_at_call 27; with_reducible refine (HP.out _ hw2).mono ?_; rw [H2.out]; rintro e w3 ⟨rfl, hx3⟩; have hw3 := hw2.trans hx3; have c3 := (b3.ext (hx2.trans hx3)).cell)
      | (go_at_call 65; with_reducible refine (HT.out _ hw3).mono ?_; rw [H3.out]; rintro e w4 ⟨rfl, hx4⟩; have hw4 := hw3.trans hx4; have k1 := (b1.ext (hx2.trans (hx3.trans hx4))).cell; have k2 := (b2.ext (hx2.trans (hx3.trans hx4))).cell; have k3 := (b3.ext (hx2.trans (hx3.trans hx4))).cell))
    go_ret
    exact ⟨ret_int (by rw [hr.out]), hw4⟩
  all_goals
    have hr := hide (show iface s p t = -1 by unfold iface; rw [h1, h2, h3]; rfl)
    have H1 := hide h1
    have H2 := hide h2
    have H3 := hide h3
    clear h1 h2 h3
    have hw1 : Ext w (((w.alloc (.cells #[.int .i64 s.al, .int .i64 s.st, .slice A n c] 54)).alloc (.cells #[.int .i64 p.al, .slice B m1 d1, .slice B' m1' d1'] 35)).alloc (.cells #[.int .i64 t.al, .int .i64 t.st, .slice C k c2] 54)) := (((Ext.refl w).alloc _).alloc _).alloc _
    obtain ⟨b1, b2, b3⟩ := ext_blk3 (Ext.refl (((w.alloc (.cells #[.int .i64 s.al, .int .i64 s.st, .slice A n c] 54)).alloc (.cells #[.int .i64 p.al, .slice B m1 d1, .slice B' m1' d1'] 35)).alloc (.cells #[.int .i64 t.al, .int .i64 t.st, .slice C k c2] 54)))
    go_enter Tryz.func39, Tryz.ntmps39
    go_upto_region 1 with fail
    generalize ((w.alloc (.cells #[.int .i64 s.al, .int .i64 s.st, .slice A n c] 54)).alloc (.cells #[.int .i64 p.al, .slice B m1 d1, .slice B' m1' d1'] 35)).alloc (.cells #[.int .i64 t.al, .int .i64 t.st, .slice C k c2] 54) = w1 at *
    have c1 := b1.cell
    go_wp2_with (first
      | (go_at_call 65; with_reducible refine (HS.out _ hw1).mono ?_; rw [H1.out]; rintro e w2 ⟨rfl, hx2⟩; have hw2 := hw1.trans hx2; have c2 := (b2.ext hx2).cell)
      | (go_at_call 27; with_reducible refine (HP.out _ hw2).mono ?_; rw [H2.out]; rintro e w3 ⟨rfl, hx3⟩; have hw3 := hw2.trans hx3; have c3 := (b3.ext (hx2.trans hx3)).cell)
      | (go_at_call 65; with_reducible refine (HT.out _ hw3).mono ?_; rw [H3.out]; rintro e w4 ⟨rfl, hx4⟩; have hw4 := hw3.trans hx4))
    go_ret
    exact ⟨ret_int (by rw [hr.out]), by first | exact hw4 | exact hw3 | exact hw2⟩
set_option maxRecDepth 100000 in
theorem impl_InterfaceOf (h : SysAt w lo hi A n s) (hp : AutAt w lo1 hi1 B m1 B' m1' p) (ht : SysAt w lo2 hi2 C k t) :
    Calls Tryz.prog 80 #[.agg #[.int .i64 s.al, .int .i64 s.st, .slice A n c], .agg #[.int .i64 p.al, .slice B m1 d1, .slice B' m1' d1'], .agg #[.int .i64 t.al, .int .i64 t.st, .slice C k c2]] w fun e w' => e = .returned (.int .i64 (iface s p t)) ∧ Ext w w' := by
  have HS := hide (fun W (hW : Ext w W) => impl_SystemValid (c := c) (h.ext hW))
  have HP := hide (fun W (hW : Ext w W) => impl_AutomatonValid _ _ _ _ d1 _ _ d1' _ _ (hp.ext hW))
  have HT := hide (fun W (hW : Ext w W) => impl_SystemValid (c := c2) (ht.ext hW))
  clear h hp ht
  cases h1 : sysValid s <;> cases h2 : autValid p <;> cases h3 : sysValid t
  case true.true.true =>
    have H1 := hide h1
    have H2 := hide h2
    have H3 := hide h3
    have v1 := sysValid_al h1
    have v2 := (autValid_row h2).1
    have v3 := sysValid_al h3
    obtain ⟨a, ha⟩ : ∃ a : Nat, Hid (s.al = a) := ⟨s.al.toNat, by unfold Hid; omega⟩
    obtain ⟨b, hb⟩ : ∃ a : Nat, Hid (p.al = a) := ⟨p.al.toNat, by unfold Hid; omega⟩
    obtain ⟨d, hd⟩ : ∃ a : Nat, Hid (t.al = a) := ⟨t.al.toNat, by unfold Hid; omega⟩
    have hr := hide (show iface s p t = ((((a ||| b) &&& d : Nat)) : Int) by unfold iface; rw [h1, h2, h3, ha.out, hb.out, hd.out]; rfl)
    rw [ha.out] at v1
    rw [hb.out] at v2
    rw [hd.out] at v3
    have a6 : a ≤ 63 := by omega
    have b6 : b ≤ 63 := by omega
    have d6 : d ≤ 63 := by omega
    have o6 := Nat.or_lt_two_pow (n := 6) (x := a) (y := b) (by omega) (by omega)
    have ho := bits_or (a := a) (b := b) (by unfold Sm; omega) (by unfold Sm; omega)
    have hn := bits_and (a := a ||| b) (b := d) (by unfold Sm; omega) (by unfold Sm; omega)
    clear h1 h2 h3 v1 v2 v3 o6
    rw [ha.out] at HS ⊢
    rw [hb.out] at HP ⊢
    rw [hd.out] at HT ⊢
    have hw1 : Ext w (((w.alloc (.cells #[.int .i64 a, .int .i64 s.st, .slice A n c] 54)).alloc (.cells #[.int .i64 b, .slice B m1 d1, .slice B' m1' d1'] 35)).alloc (.cells #[.int .i64 d, .int .i64 t.st, .slice C k c2] 54)) := (((Ext.refl w).alloc _).alloc _).alloc _
    obtain ⟨b1, b2, b3⟩ := ext_blk3 (Ext.refl (((w.alloc (.cells #[.int .i64 a, .int .i64 s.st, .slice A n c] 54)).alloc (.cells #[.int .i64 b, .slice B m1 d1, .slice B' m1' d1'] 35)).alloc (.cells #[.int .i64 d, .int .i64 t.st, .slice C k c2] 54)))
    go_enter Tryz.func80, Tryz.ntmps80
    go_upto_region 1 with fail
    generalize ((w.alloc (.cells #[.int .i64 a, .int .i64 s.st, .slice A n c] 54)).alloc (.cells #[.int .i64 b, .slice B m1 d1, .slice B' m1' d1'] 35)).alloc (.cells #[.int .i64 d, .int .i64 t.st, .slice C k c2] 54) = w1 at *
    have c1 := b1.cell
    go_wp2_with (first
      | (go_at_call 44; with_reducible refine (HS.out _ hw1).mono ?_; rw [H1.out]; rintro e w2 ⟨rfl, hx2⟩; have hw2 := hw1.trans hx2; have c2 := (b2.ext hx2).cell)
      | (go_at_call 33; with_reducible refine (HP.out _ hw2).mono ?_; rw [H2.out]; rintro e w3 ⟨rfl, hx3⟩; have hw3 := hw2.trans hx3; have c3 := (b3.ext (hx2.trans hx3)).cell)
      | (go_at_call 44; with_reducible refine (HT.out _ hw3).mono ?_; rw [H3.out]; rintro e w4 ⟨rfl, hx4⟩; have hw4 := hw3.trans hx4; have k1 := (b1.ext (hx2.trans (hx3.trans hx4))).cell; have k2 := (b2.ext (hx2.trans (hx3.trans hx4))).cell; have k3 := (b3.ext (hx2.trans (hx3.trans hx4))).cell))
    go_ret
    exact ⟨ret_int (by rw [hr.out]), hw4⟩
  all_goals
    have hr := hide (show iface s p t = -1 by unfold iface; rw [h1, h2, h3]; rfl)
    have H1 := hide h1
    have H2 := hide h2
    have H3 := hide h3
    clear h1 h2 h3
    have hw1 : Ext w (((w.alloc (.cells #[.int .i64 s.al, .int .i64 s.st, .slice A n c] 54)).alloc (.cells #[.int .i64 p.al, .slice B m1 d1, .slice B' m1' d1'] 35)).alloc (.cells #[.int .i64 t.al, .int .i64 t.st, .slice C k c2] 54)) := (((Ext.refl w).alloc _).alloc _).alloc _
    obtain ⟨b1, b2, b3⟩ := ext_blk3 (Ext.refl (((w.alloc (.cells #[.int .i64 s.al, .int .i64 s.st, .slice A n c] 54)).alloc (.cells #[.int .i64 p.al, .slice B m1 d1, .slice B' m1' d1'] 35)).alloc (.cells #[.int .i64 t.al, .int .i64 t.st, .slice C k c2] 54)))
    go_enter Tryz.func80, Tryz.ntmps80
    go_upto_region 1 with fail
    generalize ((w.alloc (.cells #[.int .i64 s.al, .int .i64 s.st, .slice A n c] 54)).alloc (.cells #[.int .i64 p.al, .slice B m1 d1, .slice B' m1' d1'] 35)).alloc (.cells #[.int .i64 t.al, .int .i64 t.st, .slice C k c2] 54) = w1 at *
    have c1 := b1.cell
    go_wp2_with (first
      | (go_at_call 44; with_reducible refine (HS.out _ hw1).mono ?_; rw [H1.out]; rintro e w2 ⟨rfl, hx2⟩; have hw2 := hw1.trans hx2; have c2 := (b2.ext hx2).cell)
      | (go_at_call 33; with_reducible refine (HP.out _ hw2).mono ?_; rw [H2.out]; rintro e w3 ⟨rfl, hx3⟩; have hw3 := hw2.trans hx3; have c3 := (b3.ext (hx2.trans hx3)).cell)
      | (go_at_call 44; with_reducible refine (HT.out _ hw3).mono ?_; rw [H3.out]; rintro e w4 ⟨rfl, hx4⟩; have hw4 := hw3.trans hx4))
    go_ret
    exact ⟨ret_int (by rw [hr.out]), by first | exact hw4 | exact hw3 | exact hw2⟩
end
end Go.Proofs.YtplllipekeomiaaGreatDoor

namespace Go.Proofs.YtplllipekeomiaaGreatDoor
open Go Go.RowKit
set_option maxHeartbeats 4000000

theorem ext_blk4 {w w' : World} {cs ds es fs : Array Value} {t u v x : TypeId} (h : Ext ((((w.alloc (.cells cs t)).alloc (.cells ds u)).alloc (.cells es v)).alloc (.cells fs x)) w') : Blk w' w.heap.size t cs ∧ Blk w' (w.heap.size + 1) u ds ∧ Blk w' (w.heap.size + 1 + 1) v es ∧ Blk w' (w.heap.size + 1 + 1 + 1) x fs := by
  have h2 := ext_blk3 (((Ext.refl _).alloc _).trans h)
  refine ⟨h2.1, h2.2.1, h2.2.2, ?_⟩
  have := ext_blk1 h
  simpa using this
/-- What AssumptionFault returns. -/
noncomputable def faultA (s t : Sys) (p a : Aut) : Int := if iface s p t < 0 ∨ autValid a = false then 1 else if a.al ≠ iface s p t then 2 else if keepsU s a p = false then 3 else if keepsP [t] a = false then 4 else 0
section
variable {lo hi n c : Nat} {A : Option Addr} {s : Sys} {lo1 hi1 m1 d1 m1' d1' : Nat} {B B' : Option Addr} {p : Aut} {lo2 hi2 k c2 : Nat} {C : Option Addr} {t : Sys} {w : World}
variable {lo3 hi3 m2 d2 m2' d2' : Nat} {D D' : Option Addr} {a : Aut}
set_option maxRecDepth 100000 in
theorem spec_AssumptionFault (h : SysAt w lo hi A n s) (ht : SysAt w lo2 hi2 C k t) (hp : AutAt w lo1 hi1 B m1 B' m1' p) (ha : AutAt w lo3 hi3 D m2 D' m2' a) :
    Calls Tryz.prog 42 #[.agg #[.int .i64 s.al, .int .i64 s.st, .slice A n c], .agg #[.int .i64 t.al, .int .i64 t.st, .slice C k c2], .agg #[.int .i64 p.al, .slice B m1 d1, .slice B' m1' d1'], .agg #[.int .i64 a.al, .slice D m2 d2, .slice D' m2' d2']] w fun e w' => e = .returned (.int .i64 (faultA s t p a)) ∧ Ext w w' := by
  have HI := hide (fun W (hW : Ext w W) => spec_InterfaceOf (c := c) (d1 := d1) (d1' := d1') (c2 := c2) (h.ext hW) (hp.ext hW) (ht.ext hW))
  have HA := hide (fun W (hW : Ext w W) => spec_AutomatonValid _ _ _ _ d2 _ _ d2' _ _ (ha.ext hW))
  have HU := hide (fun W (hW : Ext w W) => spec_KeepsUnder (c := c) (d1 := d2) (d1' := d2') (d2 := d1) (d2' := d1') (h.ext hW) (ha.ext hW) (hp.ext hW))
  have HK := hide (fun W (hW : Ext w W) => spec_KeepsProperty (c := c2) (d2 := d2) (d2' := d2') (ht.ext hW) (ha.ext hW))
  have hr := hide (show faultA s t p a = if iface s p t < 0 ∨ autValid a = false then 1 else if a.al ≠ iface s p t then 2 else if keepsU s a p = false then 3 else if keepsP [t] a = false then 4 else 0 from rfl)
  clear h hp ht ha
  have hw1 : Ext w ((((w.alloc (.cells #[.int .i64 s.al, .int .i64 s.st, .slice A n c] 54)).alloc (.cells #[.int .i64 t.al, .int .i64 t.st, .slice C k c2] 54)).alloc (.cells #[.int .i64 p.al, .slice B m1 d1, .slice B' m1' d1'] 35)).alloc (.cells #[.int .i64 a.al, .slice D m2 d2, .slice D' m2' d2'] 35)) := ((((Ext.refl w).alloc _).alloc _).alloc _).alloc _
  obtain ⟨b1, b2, b3, b4⟩ := ext_blk4 (Ext.refl ((((w.alloc (.cells #[.int .i64 s.al, .int .i64 s.st, .slice A n c] 54)).alloc (.cells #[.int .i64 t.al, .int .i64 t.st, .slice C k c2] 54)).alloc (.cells #[.int .i64 p.al, .slice B m1 d1, .slice B' m1' d1'] 35)).alloc (.cells #[.int .i64 a.al, .slice D m2 d2, .slice D' m2' d2'] 35)))
  generalize iface s p t = I at *
  generalize keepsU s a p = u at *
  generalize keepsP [t] a = v at *
  by_cases hI : I < 0
  · rw [if_pos (Or.inl hI)] at hr
    obtain ⟨y, H1⟩ : ∃ y, Hid (autValid a = y) := ⟨_, rfl⟩
    have hI2 := hide hI
    go_enter Tryz.func42, Tryz.ntmps42
    go_upto_region 1 with fail
    generalize (((w.alloc (.cells #[.int .i64 s.al, .int .i64 s.st, .slice A n c] 54)).alloc (.cells #[.int .i64 t.al, .int .i64 t.st, .slice C k c2] 54)).alloc (.cells #[.int .i64 p.al, .slice B m1 d1, .slice B' m1' d1'] 35)).alloc (.cells #[.int .i64 a.al, .slice D m2 d2, .slice D' m2' d2'] 35) = w1 at *
    have c1 := b1.cell
    have c2 := b2.cell
    have c3 := b3.cell
    go_wp2_with (first
      | (go_at_call 39; with_reducible refine (HI.out _ hw1).mono ?_; rintro e w2 ⟨rfl, hx2⟩; have hw2 := hw1.trans hx2; have c42 := (b4.ext hx2).cell)
      | (go_at_call 27; with_reducible refine (HA.out _ hw2).mono ?_; rw [H1.out]; rintro e w3 ⟨rfl, hx3⟩; have hx13 := hx2.trans hx3; have hw3 := hw1.trans hx13; have c13 := (b1.ext hx13).cell; have c33 := (b3.ext hx13).cell; have c43 := (b4.ext hx13).cell)
      | (go_at_call 28; with_reducible refine (HU.out _ hw3).mono ?_; rintro e w4 ⟨rfl, hx4⟩; have hx14 := hx13.trans hx4; have hw4 := hw1.trans hx14; have c24 := (b2.ext hx14).cell; have c44 := (b4.ext hx14).cell)
      | (go_at_call 29; with_reducible refine (HK.out _ hw4).mono ?_; rintro e w5 ⟨rfl, hx5⟩; have hw5 := hw4.trans hx5))
    go_ret
    exact ⟨ret_int (by rw [hr.out]; try rfl), by first | exact hw5 | exact hw4 | exact hw3 | exact hw2⟩
  have hI0 : ¬ I < 0 := hI
  have hI1 : 0 ≤ I := by omega
  clear hI
  cases h1 : autValid a
  · rw [h1, if_pos (Or.inr rfl)] at hr
    have H1 := hide h1
    clear h1
    go_enter Tryz.func42, Tryz.ntmps42
    go_upto_region 1 with fail
    generalize (((w.alloc (.cells #[.int .i64 s.al, .int .i64 s.st, .slice A n c] 54)).alloc (.cells #[.int .i64 t.al, .int .i64 t.st, .slice C k c2] 54)).alloc (.cells #[.int .i64 p.al, .slice B m1 d1, .slice B' m1' d1'] 35)).alloc (.cells #[.int .i64 a.al, .slice D m2 d2, .slice D' m2' d2'] 35) = w1 at *
    have c1 := b1.cell
    have c2 := b2.cell
    have c3 := b3.cell
    go_wp2_with (first
      | (go_at_call 39; with_reducible refine (HI.out _ hw1).mono ?_; rintro e w2 ⟨rfl, hx2⟩; have hw2 := hw1.trans hx2; have c42 := (b4.ext hx2).cell)
      | (go_at_call 27; with_reducible refine (HA.out _ hw2).mono ?_; rw [H1.out]; rintro e w3 ⟨rfl, hx3⟩; have hx13 := hx2.trans hx3; have hw3 := hw1.trans hx13; have c13 := (b1.ext hx13).cell; have c33 := (b3.ext hx13).cell; have c43 := (b4.ext hx13).cell)
      | (go_at_call 28; with_reducible refine (HU.out _ hw3).mono ?_; rintro e w4 ⟨rfl, hx4⟩; have hx14 := hx13.trans hx4; have hw4 := hw1.trans hx14; have c24 := (b2.ext hx14).cell; have c44 := (b4.ext hx14).cell)
      | (go_at_call 29; with_reducible refine (HK.out _ hw4).mono ?_; rintro e w5 ⟨rfl, hx5⟩; have hw5 := hw4.trans hx5))
    go_ret
    exact ⟨ret_int (by rw [hr.out]; try rfl), by first | exact hw5 | exact hw4 | exact hw3 | exact hw2⟩
  rw [h1, if_neg (by rintro (h | h); exact hI0 h; cases h)] at hr
  have H1 := hide h1
  clear h1
  by_cases h2 : a.al = I
  · rw [if_neg (fun hn => hn h2)] at hr
    subst h2
    cases u <;> cases v
    all_goals
      have H3 := hide (rfl : true = true)
      have H4 := hide (rfl : true = true)
      go_enter Tryz.func42, Tryz.ntmps42
      go_upto_region 1 with fail
      generalize (((w.alloc (.cells #[.int .i64 s.al, .int .i64 s.st, .slice A n c] 54)).alloc (.cells #[.int .i64 t.al, .int .i64 t.st, .slice C k c2] 54)).alloc (.cells #[.int .i64 p.al, .slice B m1 d1, .slice B' m1' d1'] 35)).alloc (.cells #[.int .i64 a.al, .slice D m2 d2, .slice D' m2' d2'] 35) = w1 at *
      have c1 := b1.cell
      have c2 := b2.cell
      have c3 := b3.cell
      go_wp2_with (first
        | (go_at_call 39; with_reducible refine (HI.out _ hw1).mono ?_; rintro e w2 ⟨rfl, hx2⟩; have hw2 := hw1.trans hx2; have c42 := (b4.ext hx2).cell)
        | (go_at_call 27; with_reducible refine (HA.out _ hw2).mono ?_; rw [H1.out]; rintro e w3 ⟨rfl, hx3⟩; have hx13 := hx2.trans hx3; have hw3 := hw1.trans hx13; have c13 := (b1.ext hx13).cell; have c33 := (b3.ext hx13).cell; have c43 := (b4.ext hx13).cell)
        | (go_at_call 28; with_reducible refine (HU.out _ hw3).mono ?_; rintro e w4 ⟨rfl, hx4⟩; have hx14 := hx13.trans hx4; have hw4 := hw1.trans hx14; have c24 := (b2.ext hx14).cell; have c44 := (b4.ext hx14).cell)
        | (go_at_call 29; with_reducible refine (HK.out _ hw4).mono ?_; rintro e w5 ⟨rfl, hx5⟩; have hw5 := hw4.trans hx5))
      go_ret
      exact ⟨ret_int (by rw [hr.out]; try rfl), by first | exact hw5 | exact hw4 | exact hw3 | exact hw2⟩
  · rw [if_pos h2] at hr
    have h2b : (a.al == I) = false := by simpa using h2
    go_enter Tryz.func42, Tryz.ntmps42
    go_upto_region 1 with fail
    generalize (((w.alloc (.cells #[.int .i64 s.al, .int .i64 s.st, .slice A n c] 54)).alloc (.cells #[.int .i64 t.al, .int .i64 t.st, .slice C k c2] 54)).alloc (.cells #[.int .i64 p.al, .slice B m1 d1, .slice B' m1' d1'] 35)).alloc (.cells #[.int .i64 a.al, .slice D m2 d2, .slice D' m2' d2'] 35) = w1 at *
    have c1 := b1.cell
    have c2 := b2.cell
    have c3 := b3.cell
    go_wp2_with (first
      | (go_at_call 39; with_reducible refine (HI.out _ hw1).mono ?_; rintro e w2 ⟨rfl, hx2⟩; have hw2 := hw1.trans hx2; have c42 := (b4.ext hx2).cell)
      | (go_at_call 27; with_reducible refine (HA.out _ hw2).mono ?_; rw [H1.out]; rintro e w3 ⟨rfl, hx3⟩; have hx13 := hx2.trans hx3; have hw3 := hw1.trans hx13; have c13 := (b1.ext hx13).cell; have c33 := (b3.ext hx13).cell; have c43 := (b4.ext hx13).cell)
      | (go_at_call 28; with_reducible refine (HU.out _ hw3).mono ?_; rintro e w4 ⟨rfl, hx4⟩; have hx14 := hx13.trans hx4; have hw4 := hw1.trans hx14; have c24 := (b2.ext hx14).cell; have c44 := (b4.ext hx14).cell)
      | (go_at_call 29; with_reducible refine (HK.out _ hw4).mono ?_; rintro e w5 ⟨rfl, hx5⟩; have hw5 := hw4.trans hx5))
    go_ret
    exact ⟨ret_int (by rw [hr.out]; try rfl), by first | exact hw5 | exact hw4 | exact hw3 | exact hw2⟩
set_option maxRecDepth 100000 in
theorem impl_AssumptionFault (h : SysAt w lo hi A n s) (ht : SysAt w lo2 hi2 C k t) (hp : AutAt w lo1 hi1 B m1 B' m1' p) (ha : AutAt w lo3 hi3 D m2 D' m2' a) (hT : Tab w) :
    Calls Tryz.prog 48 #[.agg #[.int .i64 s.al, .int .i64 s.st, .slice A n c], .agg #[.int .i64 t.al, .int .i64 t.st, .slice C k c2], .agg #[.int .i64 p.al, .slice B m1 d1, .slice B' m1' d1'], .agg #[.int .i64 a.al, .slice D m2 d2, .slice D' m2' d2']] w fun e w' => e = .returned (.int .i64 (faultA s t p a)) ∧ Ext w w' := by
  have HI := hide (fun W (hW : Ext w W) => impl_InterfaceOf (c := c) (d1 := d1) (d1' := d1') (c2 := c2) (h.ext hW) (hp.ext hW) (ht.ext hW))
  have HA := hide (fun W (hW : Ext w W) => impl_AutomatonValid _ _ _ _ d2 _ _ d2' _ _ (ha.ext hW))
  have HU := hide (fun W (hW : Ext w W) => impl_KeepsUnder (c := c) (d1 := d2) (d1' := d2') (d2 := d1) (d2' := d1') (h.ext hW) (ha.ext hW) (hp.ext hW) (hT.ext hW))
  have HK := hide (fun W (hW : Ext w W) => impl_KeepsProperty (c := c2) (d2 := d2) (d2' := d2') (ht.ext hW) (ha.ext hW) (hT.ext hW))
  have hr := hide (show faultA s t p a = if iface s p t < 0 ∨ autValid a = false then 1 else if a.al ≠ iface s p t then 2 else if keepsU s a p = false then 3 else if keepsP [t] a = false then 4 else 0 from rfl)
  clear h hp ht ha
  have hw1 : Ext w ((((w.alloc (.cells #[.int .i64 s.al, .int .i64 s.st, .slice A n c] 54)).alloc (.cells #[.int .i64 t.al, .int .i64 t.st, .slice C k c2] 54)).alloc (.cells #[.int .i64 p.al, .slice B m1 d1, .slice B' m1' d1'] 35)).alloc (.cells #[.int .i64 a.al, .slice D m2 d2, .slice D' m2' d2'] 35)) := ((((Ext.refl w).alloc _).alloc _).alloc _).alloc _
  obtain ⟨b1, b2, b3, b4⟩ := ext_blk4 (Ext.refl ((((w.alloc (.cells #[.int .i64 s.al, .int .i64 s.st, .slice A n c] 54)).alloc (.cells #[.int .i64 t.al, .int .i64 t.st, .slice C k c2] 54)).alloc (.cells #[.int .i64 p.al, .slice B m1 d1, .slice B' m1' d1'] 35)).alloc (.cells #[.int .i64 a.al, .slice D m2 d2, .slice D' m2' d2'] 35)))
  generalize iface s p t = I at *
  generalize keepsU s a p = u at *
  generalize keepsP [t] a = v at *
  by_cases hI : I < 0
  · rw [if_pos (Or.inl hI)] at hr
    obtain ⟨y, H1⟩ : ∃ y, Hid (autValid a = y) := ⟨_, rfl⟩
    have hI2 := hide hI
    go_enter Tryz.func48, Tryz.ntmps48
    go_upto_region 1 with fail
    generalize (((w.alloc (.cells #[.int .i64 s.al, .int .i64 s.st, .slice A n c] 54)).alloc (.cells #[.int .i64 t.al, .int .i64 t.st, .slice C k c2] 54)).alloc (.cells #[.int .i64 p.al, .slice B m1 d1, .slice B' m1' d1'] 35)).alloc (.cells #[.int .i64 a.al, .slice D m2 d2, .slice D' m2' d2'] 35) = w1 at *
    have c1 := b1.cell
    have c2 := b2.cell
    have c3 := b3.cell
    go_wp2_with (first
      | (go_at_call 80; with_reducible refine (HI.out _ hw1).mono ?_; rintro e w2 ⟨rfl, hx2⟩; have hw2 := hw1.trans hx2; have c42 := (b4.ext hx2).cell)
      | (go_at_call 33; with_reducible refine (HA.out _ hw2).mono ?_; rw [H1.out]; rintro e w3 ⟨rfl, hx3⟩; have hx13 := hx2.trans hx3; have hw3 := hw1.trans hx13; have c13 := (b1.ext hx13).cell; have c33 := (b3.ext hx13).cell; have c43 := (b4.ext hx13).cell)
      | (go_at_call 34; with_reducible refine (HU.out _ hw3).mono ?_; rintro e w4 ⟨rfl, hx4⟩; have hx14 := hx13.trans hx4; have hw4 := hw1.trans hx14; have c24 := (b2.ext hx14).cell; have c44 := (b4.ext hx14).cell)
      | (go_at_call 35; with_reducible refine (HK.out _ hw4).mono ?_; rintro e w5 ⟨rfl, hx5⟩; have hw5 := hw4.trans hx5))
    go_ret
    exact ⟨ret_int (by rw [hr.out]; try rfl), by first | exact hw5 | exact hw4 | exact hw3 | exact hw2⟩
  have hI0 : ¬ I < 0 := hI
  have hI1 : 0 ≤ I := by omega
  clear hI
  cases h1 : autValid a
  · rw [h1, if_pos (Or.inr rfl)] at hr
    have H1 := hide h1
    clear h1
    go_enter Tryz.func48, Tryz.ntmps48
    go_upto_region 1 with fail
    generalize (((w.alloc (.cells #[.int .i64 s.al, .int .i64 s.st, .slice A n c] 54)).alloc (.cells #[.int .i64 t.al, .int .i64 t.st, .slice C k c2] 54)).alloc (.cells #[.int .i64 p.al, .slice B m1 d1, .slice B' m1' d1'] 35)).alloc (.cells #[.int .i64 a.al, .slice D m2 d2, .slice D' m2' d2'] 35) = w1 at *
    have c1 := b1.cell
    have c2 := b2.cell
    have c3 := b3.cell
    go_wp2_with (first
      | (go_at_call 80; with_reducible refine (HI.out _ hw1).mono ?_; rintro e w2 ⟨rfl, hx2⟩; have hw2 := hw1.trans hx2; have c42 := (b4.ext hx2).cell)
      | (go_at_call 33; with_reducible refine (HA.out _ hw2).mono ?_; rw [H1.out]; rintro e w3 ⟨rfl, hx3⟩; have hx13 := hx2.trans hx3; have hw3 := hw1.trans hx13; have c13 := (b1.ext hx13).cell; have c33 := (b3.ext hx13).cell; have c43 := (b4.ext hx13).cell)
      | (go_at_call 34; with_reducible refine (HU.out _ hw3).mono ?_; rintro e w4 ⟨rfl, hx4⟩; have hx14 := hx13.trans hx4; have hw4 := hw1.trans hx14; have c24 := (b2.ext hx14).cell; have c44 := (b4.ext hx14).cell)
      | (go_at_call 35; with_reducible refine (HK.out _ hw4).mono ?_; rintro e w5 ⟨rfl, hx5⟩; have hw5 := hw4.trans hx5))
    go_ret
    exact ⟨ret_int (by rw [hr.out]; try rfl), by first | exact hw5 | exact hw4 | exact hw3 | exact hw2⟩
  rw [h1, if_neg (by rintro (h | h); exact hI0 h; cases h)] at hr
  have H1 := hide h1
  clear h1
  by_cases h2 : a.al = I
  · rw [if_neg (fun hn => hn h2)] at hr
    subst h2
    cases u <;> cases v
    all_goals
      have H3 := hide (rfl : true = true)
      have H4 := hide (rfl : true = true)
      go_enter Tryz.func48, Tryz.ntmps48
      go_upto_region 1 with fail
      generalize (((w.alloc (.cells #[.int .i64 s.al, .int .i64 s.st, .slice A n c] 54)).alloc (.cells #[.int .i64 t.al, .int .i64 t.st, .slice C k c2] 54)).alloc (.cells #[.int .i64 p.al, .slice B m1 d1, .slice B' m1' d1'] 35)).alloc (.cells #[.int .i64 a.al, .slice D m2 d2, .slice D' m2' d2'] 35) = w1 at *
      have c1 := b1.cell
      have c2 := b2.cell
      have c3 := b3.cell
      go_wp2_with (first
        | (go_at_call 80; with_reducible refine (HI.out _ hw1).mono ?_; rintro e w2 ⟨rfl, hx2⟩; have hw2 := hw1.trans hx2; have c42 := (b4.ext hx2).cell)
        | (go_at_call 33; with_reducible refine (HA.out _ hw2).mono ?_; rw [H1.out]; rintro e w3 ⟨rfl, hx3⟩; have hx13 := hx2.trans hx3; have hw3 := hw1.trans hx13; have c13 := (b1.ext hx13).cell; have c33 := (b3.ext hx13).cell; have c43 := (b4.ext hx13).cell)
        | (go_at_call 34; with_reducible refine (HU.out _ hw3).mono ?_; rintro e w4 ⟨rfl, hx4⟩; have hx14 := hx13.trans hx4; have hw4 := hw1.trans hx14; have c24 := (b2.ext hx14).cell; have c44 := (b4.ext hx14).cell)
        | (go_at_call 35; with_reducible refine (HK.out _ hw4).mono ?_; rintro e w5 ⟨rfl, hx5⟩; have hw5 := hw4.trans hx5))
      go_ret
      exact ⟨ret_int (by rw [hr.out]; try rfl), by first | exact hw5 | exact hw4 | exact hw3 | exact hw2⟩
  · rw [if_pos h2] at hr
    have h2b : (a.al == I) = false := by simpa using h2
    go_enter Tryz.func48, Tryz.ntmps48
    go_upto_region 1 with fail
    generalize (((w.alloc (.cells #[.int .i64 s.al, .int .i64 s.st, .slice A n c] 54)).alloc (.cells #[.int .i64 t.al, .int .i64 t.st, .slice C k c2] 54)).alloc (.cells #[.int .i64 p.al, .slice B m1 d1, .slice B' m1' d1'] 35)).alloc (.cells #[.int .i64 a.al, .slice D m2 d2, .slice D' m2' d2'] 35) = w1 at *
    have c1 := b1.cell
    have c2 := b2.cell
    have c3 := b3.cell
    go_wp2_with (first
      | (go_at_call 80; with_reducible refine (HI.out _ hw1).mono ?_; rintro e w2 ⟨rfl, hx2⟩; have hw2 := hw1.trans hx2; have c42 := (b4.ext hx2).cell)
      | (go_at_call 33; with_reducible refine (HA.out _ hw2).mono ?_; rw [H1.out]; rintro e w3 ⟨rfl, hx3⟩; have hx13 := hx2.trans hx3; have hw3 := hw1.trans hx13; have c13 := (b1.ext hx13).cell; have c33 := (b3.ext hx13).cell; have c43 := (b4.ext hx13).cell)
      | (go_at_call 34; with_reducible refine (HU.out _ hw3).mono ?_; rintro e w4 ⟨rfl, hx4⟩; have hx14 := hx13.trans hx4; have hw4 := hw1.trans hx14; have c24 := (b2.ext hx14).cell; have c44 := (b4.ext hx14).cell)
      | (go_at_call 35; with_reducible refine (HK.out _ hw4).mono ?_; rintro e w5 ⟨rfl, hx5⟩; have hw5 := hw4.trans hx5))
    go_ret
    exact ⟨ret_int (by rw [hr.out]; try rfl), by first | exact hw5 | exact hw4 | exact hw3 | exact hw2⟩
end
end Go.Proofs.YtplllipekeomiaaGreatDoor

namespace Go.Proofs.YtplllipekeomiaaGreatDoor
open Go Go.RowKit
set_option maxHeartbeats 2000000

/-- The letters of a word. -/
def wl (s : ByteArray) : List Nat := s.data.toList.map fun b => b.toNat - 97
theorem wl_len (s : ByteArray) : (wl s).length = s.size := by simp [wl]
theorem wl_get {s : ByteArray} {k : Nat} (hk : k < s.size) : (wl s)[k]? = some (s[k].toNat - 97) := by
  unfold wl
  rw [List.getElem?_map, byte_get s k hk]; rfl
theorem word_byte {s : ByteArray} (h : wordB s = true) {k : Nat} (hk : k < s.size) : 97 ≤ s[k].toNat ∧ s[k].toNat ≤ 102 := by
  unfold wordB at h
  simp only [Bool.and_eq_true, List.all_eq_true] at h
  have := h.2 s[k] (List.mem_of_getElem? (byte_get s k hk))
  simp only [letterB, decide_eq_true_eq] at this
  omega
theorem word_size {s : ByteArray} (h : wordB s = true) : s.size ≤ 50000 := by
  unfold wordB at h
  simp only [Bool.and_eq_true, decide_eq_true_eq] at h
  exact h.1
theorem wl_lt {s : ByteArray} (h : wordB s = true) : ∀ l ∈ wl s, l < 6 := by
  intro l hl
  obtain ⟨k, hk⟩ := List.getElem?_of_mem hl
  have hkl := (List.getElem?_eq_some_iff.1 hk).1
  rw [wl_len] at hkl
  rw [wl_get hkl] at hk
  have := word_byte h hkl
  have := Option.some.inj hk
  omega
/-- The alphabet of letters. -/
def alB (ls : List Nat) : Nat := ls.foldl (fun u l => u ||| 2 ^ l) 0
theorem alB_snoc (ls : List Nat) (l : Nat) : alB (ls ++ [l]) = alB ls ||| 2 ^ l := by simp [alB]
theorem alB_bit (ls : List Nat) (k : Nat) : (alB ls).testBit k = true ↔ k ∈ ls := by
  have key : ∀ (ls : List Nat) (u : Nat), (ls.foldl (fun u l => u ||| 2 ^ l) u).testBit k = true ↔ u.testBit k = true ∨ k ∈ ls := by
    intro ls
    induction ls with
    | nil => intro u; simp
    | cons l r ih =>
      intro u
      rw [List.foldl_cons, ih, Nat.testBit_or, Nat.testBit_two_pow, Bool.or_eq_true, decide_eq_true_eq, List.mem_cons]
      constructor
      · rintro ((h | h) | h)
        · exact Or.inl h
        · exact Or.inr (Or.inl h.symm)
        · exact Or.inr (Or.inr h)
      · rintro (h | h | h)
        · exact Or.inl (Or.inl h)
        · exact Or.inl (Or.inr h.symm)
        · exact Or.inr h
  have := key ls 0
  simpa [alB] using this
theorem alB_lt {ls : List Nat} (h : ∀ l ∈ ls, l < 6) : alB ls < 64 := Nat.lt_pow_two_of_testBit (n := 6) _ fun k hk => by
  rw [Bool.eq_false_iff]
  intro hb
  have := h k ((alB_bit ls k).1 hb)
  omega
/-- A word over an alphabet. -/
def inB (s : ByteArray) (a : Nat) : Bool := decide (s.size ≤ 50000) && overB s a
theorem inB_word {s : ByteArray} {a : Nat} (h : inB s a = true) : wordB s = true := by
  unfold inB at h
  simp only [Bool.and_eq_true, decide_eq_true_eq] at h
  unfold wordB
  simp only [Bool.and_eq_true, decide_eq_true_eq]
  refine ⟨h.1, ?_⟩
  rw [List.all_eq_true]
  intro b hb
  have h2 := h.2
  unfold overB at h2
  rw [List.all_eq_true] at h2
  have h3 := h2 b hb
  unfold hasB ltr at h3
  simp only [Bool.and_eq_true, decide_eq_true_eq] at h3
  unfold letterB
  rw [decide_eq_true_eq]
  have h4 := h3.1
  split at h4 <;> omega
theorem inB_iff {s : ByteArray} {a : Nat} : inB s a = true ↔ wordB s = true ∧ alB (wl s) &&& a = alB (wl s) := by
  constructor
  · intro h
    have hw := inB_word h
    refine ⟨hw, Nat.eq_of_testBit_eq fun k => ?_⟩
    rw [Nat.testBit_and]
    cases hk : (alB (wl s)).testBit k
    · rfl
    · rw [Bool.true_and]
      have hm := (alB_bit _ k).1 hk
      obtain ⟨i, hi⟩ := List.getElem?_of_mem hm
      have hil := (List.getElem?_eq_some_iff.1 hi).1
      rw [wl_len] at hil
      rw [wl_get hil] at hi
      have hb := word_byte hw hil
      have e := Option.some.inj hi
      unfold inB overB at h
      simp only [Bool.and_eq_true, List.all_eq_true] at h
      have := h.2 s[i] (List.mem_of_getElem? (byte_get s i hil))
      unfold hasB ltr at this
      rw [if_neg (by omega)] at this
      simp only [Bool.and_eq_true] at this
      rw [← e, ← this.2]
      congr 1
      omega
  · rintro ⟨hw, h⟩
    unfold inB
    simp only [Bool.and_eq_true, decide_eq_true_eq]
    refine ⟨word_size hw, ?_⟩
    unfold overB
    rw [List.all_eq_true]
    intro b hb
    obtain ⟨i, hi⟩ := List.getElem?_of_mem hb
    have hil : i < s.size := by have := (List.getElem?_eq_some_iff.1 hi).1; simpa using this
    rw [byte_get s i hil] at hi
    obtain rfl := Option.some.inj hi
    have hb2 := word_byte hw hil
    unfold hasB ltr
    rw [if_neg (by omega)]
    have hm : (alB (wl s)).testBit (s[i].toNat - 97) = true := (alB_bit _ _).2 (List.mem_of_getElem? (wl_get hil))
    rw [← h, Nat.testBit_and, Bool.and_eq_true] at hm
    simp only [Bool.and_eq_true, decide_eq_true_eq]
    refine ⟨by omega, ?_⟩
    rw [show ((s[i].toNat : Int) - 97).toNat = s[i].toNat - 97 by omega]
    exact hm.2
theorem spec_AlphabetOf {s : ByteArray} {w : World} (hs : s.size ≤ 9223372036854775807) :
    Calls Tryz.prog 118 #[.string s] w fun e w' => e = .returned (.tuple #[.int .i64 (if wordB s = true then alB (wl s) else 0 : Nat), .bool (wordB s)]) ∧ w = w' := by
  cases hw : wordB s
  · have Hw := hide hw
    clear hw
    go_enter Tryz.func118, Tryz.ntmps118
    go_wp2_with (go_at_call 67; refine (spec_WordValid s _ hs).mono ?_; rw [Hw.out]; rintro e w' ⟨rfl, rfl⟩)
    go_ret2
    exact ⟨rfl, rfl⟩
  · have hsz := word_size hw
    have Hb := hide (fun k hk => word_byte hw (k := k) hk)
    have Hl := hide (wl_lt hw)
    have Hw := hide hw
    clear hw
    go_enter Tryz.func118, Tryz.ntmps118
    go_wp2_with (go_at_call 67; refine (spec_WordValid s _ hs).mono ?_; rw [Hw.out]; rintro e w' ⟨rfl, rfl⟩)
    go_loop [4, 5] (fun v i => ∃ k u : Nat, k ≤ s.size ∧ i = .int .i64 k ∧ v = .int .i64 u ∧ u < 64 ∧ Hid (u = alB ((wl s).take k))) (fun _ i => s.size - (intOf i).toNat)
    case atStart => exact ⟨0, 0, Nat.zero_le _, rfl, rfl, by omega, rfl⟩
    case round =>
      obtain ⟨k, u, hk, rfl, rfl, hu, hua⟩ := hrel
      by_cases hlt : k < s.size
      · have hbb := Hb.out k hlt
        obtain ⟨l, hl⟩ : ∃ l : Nat, Hid ((s[k].toNat : Int) - 97 = l) := ⟨s[k].toNat - 97, by unfold Hid; omega⟩
        have hl6 : l < 6 := by have := hl.out; omega
        have hst := hide (show alB ((wl s).take (k + 1)) = u ||| 2 ^ l by
          rw [List.take_add_one, wl_get hlt, Option.toList_some, alB_snoc, ← hua.out]
          congr 2
          have := hl.out; omega)
        have hor := hide (show bits .or .i64 (u : Nat) ((2 : Int) ^ l) = ((u ||| 2 ^ l : Nat) : Int) by
          have := bits_or (a := u) (by unfold Sm; omega) (Sm.bit (n := l) (by omega))
          rw [show (((2 : Nat) ^ l : Nat) : Int) = (2 : Int) ^ l by simp] at this
          exact this)
        have hlt2 : u ||| 2 ^ l < 64 := Nat.or_lt_two_pow (n := 6) hu (Nat.pow_lt_pow_right (by omega) hl6)
        have ho := hor.out
        clear hbb
        go_wp2_with (first
          | (go_at_call 92; refine (spec_l1At s k hlt _).mono ?_; rw [hl.out]; rintro e w' ⟨rfl, rfl⟩)
          | (go_at_call 131; refine (spec_l1Bit l (by omega) _).mono ?_; rintro e w' ⟨rfl, rfl⟩))
        go_round
        case rel => exact ⟨k + 1, u ||| 2 ^ l, by omega, by go_num, by first | rfl | rw [hor.out], hlt2, hst.symm⟩
        case measure => simp [intOf]; omega
      · obtain rfl : k = s.size := by omega
        have hfin := hide (show u = alB (wl s) by rw [hua.out, List.take_of_length_le (by rw [wl_len]; exact Nat.le_refl _)])
        go_wp2
        go_ret2
        exact ⟨by rw [hfin.out]; rfl, rfl⟩
theorem spec_WordWithin {s : ByteArray} {a : Nat} {w : World} (hs : s.size ≤ 9223372036854775807) (ha : a ≤ 63) :
    Calls Tryz.prog 93 #[.string s, .int .i64 a] w fun e w' => e = .returned (.bool (inB s a)) ∧ w = w' := by
  have hal := hide (show (decide ((0 : Int) ≤ a ∧ (a : Int) ≤ 63)) = true by simp; omega)
  cases hw : wordB s
  · have hr := hide (show inB s a = false by
      rw [Bool.eq_false_iff]
      intro h
      rw [inB_word h] at hw; cases hw)
    have Hw := hide hw
    clear hw
    go_enter Tryz.func93, Tryz.ntmps93
    go_wp2_with (go_at_call 118; refine (spec_AlphabetOf hs).mono ?_; rw [Hw.out]; rintro e w' ⟨rfl, rfl⟩)
    go_ret
    exact ⟨ret_bool (by rw [hr.out]), rfl⟩
  · obtain ⟨u, hu⟩ : ∃ u, Hid (alB (wl s) = u) := ⟨_, rfl⟩
    have hu64 : u < 64 := by rw [← hu.out]; exact alB_lt (wl_lt hw)
    have hbi := hide (bits_and (a := u) (b := a) (by unfold Sm; omega) (by unfold Sm; omega))
    have hb := hbi.out
    have hr := hide (show inB s a = (((u &&& a : Nat) : Int) == (u : Int)) by
      rw [Bool.eq_iff_iff, inB_iff, hu.out, beq_iff_eq]
      constructor
      · rintro ⟨_, h⟩; rw [h]
      · intro h; exact ⟨hw, by omega⟩)
    have Hw := hide hw
    clear hw
    go_enter Tryz.func93, Tryz.ntmps93
    go_wp2_with (first
      | (go_at_call 118; refine (spec_AlphabetOf hs).mono ?_; rw [Hw.out, if_pos rfl, hu.out]; rintro e w' ⟨rfl, rfl⟩)
      | (go_at_call 52; refine (spec_l1Alphabet _ _).mono ?_; rw [hal.out]; rintro e w' ⟨rfl, rfl⟩))
    go_ret
    exact ⟨ret_bool (by rw [hr.out]), rfl⟩
end Go.Proofs.YtplllipekeomiaaGreatDoor

namespace Go.Proofs.YtplllipekeomiaaGreatDoor
open Go Go.RowKit
set_option maxHeartbeats 2000000

/-- Bytes as numbers, and as cells. -/
def bnum (bs : List UInt8) : List Int := bs.map fun b => (b.toNat : Int)
def bcl (bs : List UInt8) : List Value := (bnum bs).map (Value.int .u8)
theorem bcl_length (bs : List UInt8) : (bcl bs).length = bs.length := by simp [bcl, bnum]
/-- The letters of a word that are in an alphabet. -/
def keepL (a : Nat) (bs : List UInt8) : List UInt8 := bs.filter fun b => hasB a (ltr b.toNat)
def restB (s : ByteArray) (a : Nat) : ByteArray := strOfNums (bnum (keepL a s.data.toList))
theorem keepL_take {s : ByteArray} {a k : Nat} (hk : k < s.size) : keepL a (s.data.toList.take (k + 1)) = keepL a (s.data.toList.take k) ++ if hasB a (ltr s[k].toNat) = true then [s[k]] else [] := by
  rw [List.take_add_one, byte_get s k hk, Option.toList_some]
  unfold keepL
  rw [List.filter_append]
  congr 1
  cases h : hasB a (ltr s[k].toNat) <;> simp [h]
theorem keepL_len (s : ByteArray) (a k : Nat) : (keepL a (s.data.toList.take k)).length ≤ s.size := by
  refine Nat.le_trans (List.length_filter_le _ _) ?_
  rw [List.length_take]
  have : s.data.toList.length = s.size := by simp
  omega
set_option maxRecDepth 100000 in
theorem conv_own {W : World} {base n : Nat} {A : Option Addr} {cap : Nat} {bs : List UInt8} (h : W.ownsRow base 5 1 (.slice A n cap) n (bcl bs)) :
    (convert 121 9 (.slice A n cap)).run Tryz.prog W = .ok (.string (strOfNums (bnum bs))) W := by
  have hl : bs.length = n := by have := own_len h; rw [bcl_length] at this; omega
  rcases h.2 with ⟨h1, h2⟩ | ⟨g, cap', cur, h1, _⟩
  · injection h1 with h1 h3 h4
    subst h1; subst h3; subst h4
    obtain rfl : bs = [] := List.eq_nil_of_length_eq_zero hl
    exact run_convert_bytes_nil (P := Tryz.prog) W 121 5 u8_row u8_und _ _ _ str_und
  · injection h1 with h1
    subst h1
    refine run_convert_bytes_arg (P := Tryz.prog) W 121 5 u8_row u8_und g 0 n cap (bnum bs) (by simp [bnum, hl]) (fun i hi => ?_) _ str_und
    rw [Nat.zero_add, h.cellAt i (by omega)]
    unfold bcl
    rw [List.getElem?_map]
    have hi2 : i < (bnum bs).length := by simp [bnum]; omega
    rw [List.getElem?_eq_getElem hi2]
    simp [List.getD, List.getElem?_eq_getElem hi2]
theorem own_u8_lit (w : World) : (w.alloc (.cells #[] 5)).ownsRow w.heap.size 5 1 (.slice (some ⟨w.heap.size, 0, none⟩) 0 0) 0 (bcl []) := World.ownsRow_lit w #[] 0 (Nat.le_refl _) (by unfold maxLen; omega) rfl
set_option maxRecDepth 100000 in
theorem spec_RestrictWord {s : ByteArray} {a : Nat} {w : World} (hw : wordB s = true) (ha : a ≤ 63) :
    Calls Tryz.prog 95 #[.string s, .int .i64 a] w fun e w' => e = .returned (.string (restB s a)) ∧ Ext w w' := by
  have hal := hide (show (decide ((0 : Int) ≤ a ∧ (a : Int) ≤ 63)) = true by simp; omega)
  have hsz := word_size hw
  have Hb := hide (fun k hk => word_byte hw (k := k) hk)
  have Hw := hide hw
  clear hw
  go_enter Tryz.func95, Tryz.ntmps95
  go_upto_region 3 with (first
    | (go_at_call 67; refine (spec_WordValid s _ (by omega)).mono ?_; rw [Hw.out]; rintro e w' ⟨rfl, rfl⟩)
    | (go_at_call 52; refine (spec_l1Alphabet _ _).mono ?_; rw [hal.out]; rintro e w' ⟨rfl, rfl⟩))
  go_upto_region 4 with fail
  have hown0 := own_u8_lit w
  have hx0 := (Ext.refl w).alloc (.cells #[] 5)
  generalize hA0 : (some ⟨w.heap.size, 0, none⟩ : Option Addr) = A0 at *
  clear hA0
  generalize w.alloc (.cells #[] 5) = w0 at *
  go_wp2_with fail
  go_loopw [5, 6] (fun v i wr => ∃ (k : Nat) (bs : List UInt8), k ≤ s.size ∧ i = .int .i64 k ∧ wr.ownsRow w.heap.size 5 1 v bs.length (bcl bs) ∧ Hid (bs = keepL a (s.data.toList.take k)) ∧ bs.length ≤ 50000 ∧ Ext w wr) (fun _ i _ => s.size - (intOf i).toNat)
  case atStart => exact ⟨0, [], Nat.zero_le _, rfl, hown0, rfl, by simp, hx0⟩
  case round =>
    clear hown0 hx0
    obtain ⟨k, bs, hk, rfl, hown, hbs, hbl, hx⟩ := hrel
    by_cases hlt : k < s.size
    · have hbb := Hb.out k hlt
      obtain ⟨l, hl⟩ : ∃ l : Nat, Hid ((s[k].toNat : Int) - 97 = l) := ⟨s[k].toNat - 97, by unfold Hid; omega⟩
      have hltr := hide (show hasB a (ltr s[k].toNat) = a.testBit l by
        unfold hasB ltr
        have := hl.out
        rw [if_neg (by omega), this]
        simp)
      have hst := hide (keepL_take (a := a) hlt)
      have hl2 := keepL_len s a (k + 1)
      have hasm : Sm a := by unfold Sm; omega
      have hgetB := hide (show s.data.toList[k]? = some s[k] from byte_get s k hlt)
      cases hb : a.testBit l
      · have Hbt := hide hb
        have hst2 := hide (show bs = keepL a (s.data.toList.take (k + 1)) by rw [hst.out, hltr.out, Hbt.out, hbs.out]; simp)
        clear hb
        go_wp2_with (first
          | (go_at_call 92; refine (spec_l1At s k hlt _).mono ?_; rw [hl.out]; rintro e w' ⟨rfl, rfl⟩)
          | (go_at_call 83; refine (spec_l1Has a l hasm _ (by have := hl.out; omega)).mono ?_; rw [Hbt.out]; rintro e w' ⟨rfl, rfl⟩))
        go_roundw
        case rel => exact ⟨k + 1, bs, by omega, by go_num, hown, hst2, hbl, hx⟩
        case measure => simp [intOf]; omega
      · have Hbt := hide hb
        have hst2 := hide (show bs ++ [s[k]] = keepL a (s.data.toList.take (k + 1)) by rw [hst.out, hltr.out, Hbt.out, hbs.out]; simp)
        have hl3 : (bs ++ [s[k]]).length ≤ 50000 := by rw [hst2.out]; omega
        rw [List.length_append, List.length_singleton] at hl3
        clear hb
        go_wp2_with (first
          | (go_at_call 92; refine (spec_l1At s k hlt _).mono ?_; rw [hl.out]; rintro e w' ⟨rfl, rfl⟩)
          | (go_at_call 83; refine (spec_l1Has a l hasm _ (by have := hl.out; omega)).mono ?_; rw [Hbt.out]; rintro e w' ⟨rfl, rfl⟩)
          | (at_builtin; refine wpList_push w wr rfl _ _ _ rfl 5 _ 1 1 Tryz.underlying121 info_u8 rfl (by decide) u5 _ _ _ _ rfl rfl hx hown rfl (cells_u8 _) (by unfold maxLen; omega) (by omega) ?_; intro v' w5 hext5 hown5 hg5 hat5))
        go_roundw
        case rel => exact ⟨k + 1, bs ++ [s[k]], by omega, by go_num, by rw [List.length_append]; simpa [bcl, bnum] using hown5, hst2, by rw [List.length_append]; exact hl3, hext5⟩
        case measure => simp [intOf]; omega
    · obtain rfl : k = s.size := by omega
      have hfin := hide (show strOfNums (bnum bs) = restB s a by rw [hbs.out, List.take_of_length_le (by simp)]; rfl)
      obtain ⟨A5, c5, rfl⟩ := own_form hown
      have hcv := conv_own hown
      clear hown
      go_wp2_with (simp only [hcv])
      go_ret
      exact ⟨by rw [hfin.out]; rfl, hx⟩
set_option maxRecDepth 100000 in
theorem impl_restrict {s : ByteArray} {a : Nat} {w : World} (hw : wordB s = true) (ha : a ≤ 63) :
    Calls Tryz.prog 78 #[.string s, .int .i64 a] w fun e w' => e = .returned (.string (restB s a)) ∧ Ext w w' := by
  have hsz := word_size hw
  have Hb := hide (fun k hk => word_byte hw (k := k) hk)
  clear hw
  have hasm : Sm a := by unfold Sm; omega
  go_enter Tryz.func78, Tryz.ntmps78
  go_wp2_with fail
  go_loopw [5, 6, 9] (fun v _ i wr => ∃ (k : Nat) (bs : List UInt8), k ≤ s.size ∧ i = .int .i64 k ∧ wr.ownsRow w.heap.size 5 1 v bs.length (bcl bs) ∧ Hid (bs = keepL a (s.data.toList.take k)) ∧ bs.length ≤ 50000 ∧ Ext w wr) (fun _ _ i _ => s.size - (intOf i).toNat)
  case atStart => exact ⟨0, [], Nat.zero_le _, rfl, World.ownsRow_nil _ _ _ _, rfl, by simp, Ext.refl _⟩
  case round =>
    obtain ⟨k, bs, hk, rfl, hown, hbs, hbl, hx⟩ := hrel
    by_cases hlt : k < s.size
    · have hbb := Hb.out k hlt
      have hst := hide (keepL_take (a := a) hlt)
      have hl2 := keepL_len s a (k + 1)
      cases hb : hasB a (ltr s[k].toNat)
      · have Hbt := hide hb
        have hst2 := hide (show bs = keepL a (s.data.toList.take (k + 1)) by rw [hst.out, Hbt.out, hbs.out]; simp)
        clear hb
        go_wp2_with (first
          | (go_at_call 99; refine (impl_letterAt s k hlt _).mono ?_; rintro e w' ⟨rfl, rfl⟩)
          | (go_at_call 72; refine (impl_has a _ hasm _).mono ?_; rw [Hbt.out]; rintro e w' ⟨rfl, rfl⟩))
        go_roundw
        case rel => exact ⟨k + 1, bs, by omega, by go_num, hown, hst2, hbl, hx⟩
        case measure => simp [intOf]; omega
      · have Hbt := hide hb
        have hst2 := hide (show bs ++ [s[k]] = keepL a (s.data.toList.take (k + 1)) by rw [hst.out, Hbt.out, hbs.out]; simp)
        have hl3 : (bs ++ [s[k]]).length ≤ 50000 := by rw [hst2.out]; omega
        rw [List.length_append, List.length_singleton] at hl3
        clear hb
        go_wp2_with (first
          | (go_at_call 99; refine (impl_letterAt s k hlt _).mono ?_; rintro e w' ⟨rfl, rfl⟩)
          | (go_at_call 72; refine (impl_has a _ hasm _).mono ?_; rw [Hbt.out]; rintro e w' ⟨rfl, rfl⟩)
          | (at_builtin; refine wpList_push w wr rfl _ _ _ rfl 5 _ 1 1 Tryz.underlying121 info_u8 rfl (by decide) u5 _ _ _ _ rfl rfl hx hown rfl (cells_u8 _) (by unfold maxLen; omega) (by omega) ?_; intro v' w5 hext5 hown5 hg5 hat5))
        go_roundw
        case rel => exact ⟨k + 1, bs ++ [s[k]], by omega, by go_num, by rw [List.length_append]; simpa [bcl, bnum] using hown5, hst2, by rw [List.length_append]; exact hl3, hext5⟩
        case measure => simp [intOf]; omega
    · obtain rfl : k = s.size := by omega
      have hfin := hide (show strOfNums (bnum bs) = restB s a by rw [hbs.out, List.take_of_length_le (by simp)]; rfl)
      obtain ⟨A5, c5, rfl⟩ := own_form hown
      have hcv := conv_own hown
      clear hown
      go_wp2_with (simp only [hcv])
      go_ret
      exact ⟨by rw [hfin.out]; rfl, hx⟩
end Go.Proofs.YtplllipekeomiaaGreatDoor

namespace Go.Proofs.YtplllipekeomiaaGreatDoor
open Go Go.RowKit
set_option maxHeartbeats 4000000

/-- The states to which a word leads. -/
def runB (es : List Edg) (x : Nat) (ls : List Nat) : Nat := ls.foldl (fun m (l : Nat) => stepB es m (l : Int)) x
theorem runB_snoc (es : List Edg) (x : Nat) (ls : List Nat) (l : Nat) : runB es x (ls ++ [l]) = stepB es (runB es x ls) (l : Int) := by simp [runB]
theorem runB_zero (es : List Edg) (ls : List Nat) : runB es 0 ls = 0 := by
  induction ls with
  | nil => rfl
  | cons l r ih => rw [runB, List.foldl_cons, stepB_zero]; exact ih
theorem runB_end {es : List Edg} {x k : Nat} {ls : List Nat} (h : runB es x (ls.take k) = 0) : runB es x ls = 0 := by
  have e : ls = ls.take k ++ ls.drop k := (List.take_append_drop k ls).symm
  rw [e, runB, List.foldl_append]
  show runB es (runB es x (ls.take k)) (ls.drop k) = 0
  rw [h, runB_zero]
section
variable {lo hi n c : Nat} {A : Option Addr} {s : Sys} {t : ByteArray} {w : World}
theorem runB_lt16 {p : Nat} {es : List Edg} (hf : Few p es) (hp : p ≤ 16) (ls : List Nat) : runB es 1 ls < 65536 := by
  rcases snoc_cases ls with rfl | ⟨u, l, rfl⟩
  · simp [runB]
  · rw [runB_snoc]
    refine Nat.lt_of_lt_of_le (stepB_lt hf _ _) ?_
    rw [show (65536 : Nat) = 2 ^ 16 from rfl]
    exact Nat.pow_le_pow_right (by omega) hp
set_option maxRecDepth 100000 in
theorem spec_l2Run (h : SysAt w lo hi A n s) (hv : sysValid s = true) (ht : wordB t = true) :
    Calls Tryz.prog 132 #[.agg #[.int .i64 s.al, .int .i64 s.st, .slice A n c], .int .i64 1, .string t] w fun e w' => e = .returned (.int .i64 (runB s.edges 1 (wl t) : Nat)) ∧ Ext w w' := by
  obtain ⟨p, hp, hp1, hp2, hf⟩ := valid_few hv
  have HS := hide (fun W (hW : Ext w W) => h.ext hW)
  have hsz := word_size ht
  have Hb := hide (fun k hk => word_byte ht (k := k) hk)
  have Hf := hide hf
  have H16 := hide (fun ls => runB_lt16 hf hp2 ls)
  clear h hv ht hf hp
  go_enter Tryz.func132, Tryz.ntmps132
  go_upto_region 1 with fail
  have hw1 : Ext w (w.alloc (.cells #[.int .i64 s.al, .int .i64 s.st, .slice A n c] 54)) := (Ext.refl w).alloc _
  have b1 := Blk.new w 54 #[.int .i64 s.al, .int .i64 s.st, .slice A n c]
  generalize w.alloc (.cells #[.int .i64 s.al, .int .i64 s.st, .slice A n c] 54) = w1 at *
  go_wp2_with fail
  go_loopw [1, 7] (fun v i wr => ∃ k x : Nat, i = .int .i64 k ∧ k ≤ t.size ∧ v = .int .i64 x ∧ x < 65536 ∧ Hid (x = runB s.edges 1 ((wl t).take k)) ∧ Ext w1 wr) (fun _ i _ => t.size - (intOf i).toNat)
  case atStart => exact ⟨0, 1, rfl, Nat.zero_le _, rfl, by omega, rfl, Ext.refl _⟩
  case round =>
    obtain ⟨k, x, rfl, hk, rfl, hx, hxo, hxr⟩ := hrel
    by_cases hlt : k < t.size
    · by_cases hx0 : x = 0
      · subst hx0
        have hfin := hide (show runB s.edges 1 (wl t) = 0 from runB_end hxo.out.symm)
        go_wp2
        go_ret
        exact ⟨ret_int (by rw [hfin.out]), hw1.trans hxr⟩
      · have hne : ((x : Int) != 0) = true := by simp; try omega
        have hbb := Hb.out k hlt
        obtain ⟨l, hl⟩ : ∃ l : Nat, Hid ((t[k].toNat : Int) - 97 = l) := ⟨t[k].toNat - 97, by unfold Hid; omega⟩
        have hst := hide (show stepB s.edges x (l : Int) = runB s.edges 1 ((wl t).take (k + 1)) by
          rw [List.take_add_one, wl_get hlt, Option.toList_some, runB_snoc, ← hxo.out]
          congr 1
          have := hl.out; omega)
        have h16 := H16.out ((wl t).take (k + 1))
        rw [← hst.out] at h16
        have HC := hide (fun W (hW : Ext w1 W) => spec_l2Step (c := c) (set := x) (l := (l : Int)) (HS.out W (hw1.trans hW)) Hf.out hp2 (by unfold Sm; omega))
        generalize stepB s.edges x (l : Int) = y at *
        have c1 : ∀ W, Ext wr W → ∀ j, W.cell? ⟨w.heap.size, j, none⟩ = #[Value.int .i64 s.al, .int .i64 s.st, .slice A n c][j]? := fun W hW => (b1.ext (hxr.trans hW)).cell
        have hww := Ext.refl wr
        clear hbb
        go_upto_region 4 with fail
        refine wp_region_tailU (fun X => Ext wr X) [5] (OrdU.of [0, 1, 2, 3, 4, 5, 6]) (by kernel_rfl) (by kernel_rfl) (by kernel_rfl) (by kernel_rfl) (by kernel_rfl) (fun _ _ _ _ _ h => h) (by first | assumption | exact (Ext.refl _).drew | (refine Ext.drew ?_; assumption)) ?_
        repeat (first | (refine useq_skip rfl rfl (by assumption) ?_; simp only [Act.put, List.setIfInBounds_toArray, List.set_cons_zero, List.set_cons_succ]) | (refine useq_pure (v := ?_) rfl rfl rfl rfl (fun X => ?_) ?_; rotate_left; (focus (go_simp <;> with_reducible rfl)); simp only [Act.put, List.setIfInBounds_toArray, List.set_cons_zero, List.set_cons_succ]) | (refine useq_read (v := ?_) rfl rfl rfl rfl (fun X hX => ?_) ?_; rotate_left; (focus (go_simp <;> with_reducible rfl)); simp only [Act.put, List.setIfInBounds_toArray, List.set_cons_zero, List.set_cons_succ]))
        (refine useq_step rfl rfl rfl (fun K hK => ?_); go_simp)
        refine (spec_l1At t k hlt _).mono ?_
        rw [hl.out]
        rintro e w' ⟨rfl, rfl⟩
        refine hK.out _ _ hww.drew ?_
        (try simp only [Act.put, List.setIfInBounds_toArray, List.set_cons_zero, List.set_cons_succ])
        (refine useq_last rfl rfl rfl rfl (fun K hK => ?_))
        go_simp
        refine (HC.out _ (hxr.trans hww.drew)).mono ?_
        rintro e w5 ⟨rfl, hx5⟩
        refine hK.out _ _ ?_
        (try simp only [Act.put, List.setIfInBounds_toArray, List.set_cons_zero, List.set_cons_succ])
        repeat (first | (refine useq_skip rfl rfl (by assumption) ?_; simp only [Act.put, List.setIfInBounds_toArray, List.set_cons_zero, List.set_cons_succ]) | (refine useq_pure (v := ?_) rfl rfl rfl rfl (fun X => ?_) ?_; rotate_left; (focus (go_simp <;> with_reducible rfl)); simp only [Act.put, List.setIfInBounds_toArray, List.set_cons_zero, List.set_cons_succ]) | (refine useq_read (v := ?_) rfl rfl rfl rfl (fun X hX => ?_) ?_; rotate_left; (focus (go_simp <;> with_reducible rfl)); simp only [Act.put, List.setIfInBounds_toArray, List.set_cons_zero, List.set_cons_succ]))
        refine useq_nil ?_
        have hx6 := hxr.trans (hww.drew.trans hx5)
        go_wp2_with fail
        go_roundw
        case rel => exact ⟨k + 1, y, by go_num, by omega, rfl, h16, hst, hx6⟩
        case measure => simp [intOf]; omega
    · obtain rfl : k = t.size := by omega
      have hfin := hide (show x = runB s.edges 1 (wl t) by rw [hxo.out, List.take_of_length_le (by rw [wl_len]; exact Nat.le_refl _)])
      go_wp2
      go_ret
      exact ⟨ret_int (by rw [hfin.out]), hw1.trans hxr⟩
/-- The states after a word. -/
def aftB (s : Sys) (t : ByteArray) : Nat := if (sysValid s && inB t s.al.toNat) = true then runB s.edges 1 (wl t) else 0
set_option maxRecDepth 100000 in
theorem spec_StatesAfter (h : SysAt w lo hi A n s) (ht : t.size ≤ 9223372036854775807) :
    Calls Tryz.prog 119 #[.agg #[.int .i64 s.al, .int .i64 s.st, .slice A n c], .string t] w fun e w' => e = .returned (.int .i64 (aftB s t : Nat)) ∧ Ext w w' := by
  have HS := hide (fun W (hW : Ext w W) => h.ext hW)
  have HV := hide (fun W (hW : Ext w W) => spec_SystemValid (c := c) (h.ext hW))
  clear h
  have hw1 : Ext w (w.alloc (.cells #[.int .i64 s.al, .int .i64 s.st, .slice A n c] 54)) := (Ext.refl w).alloc _
  have b1 := Blk.new w 54 #[.int .i64 s.al, .int .i64 s.st, .slice A n c]
  cases hv : sysValid s
  · have Hv := hide hv
    have hr := hide (show aftB s t = 0 by unfold aftB; rw [hv]; rfl)
    clear hv
    go_enter Tryz.func119, Tryz.ntmps119
    go_upto_region 1 with fail
    generalize w.alloc (.cells #[.int .i64 s.al, .int .i64 s.st, .slice A n c] 54) = w1 at *
    have c1 := b1.cell
    go_wp2_with (go_at_call 65; refine (HV.out _ hw1).mono ?_; rw [Hv.out]; rintro e w2 ⟨rfl, hx2⟩)
    go_ret
    exact ⟨ret_int (by rw [hr.out]; rfl), hw1.trans hx2⟩
  · have hal := sysValid_al hv
    obtain ⟨al, hae⟩ : ∃ al : Nat, Hid (s.al = al) := ⟨s.al.toNat, by unfold Hid; omega⟩
    have hal6 : al ≤ 63 := by have := hae.out; omega
    have hr := hide (show aftB s t = if inB t al = true then runB s.edges 1 (wl t) else 0 by unfold aftB; rw [hv, hae.out]; simp)
    have Hv := hide hv
    cases hi : inB t al
    · have Hi := hide hi
      rw [hi] at hr
      clear hv hi
      go_enter Tryz.func119, Tryz.ntmps119
      go_upto_region 1 with fail
      generalize w.alloc (.cells #[.int .i64 s.al, .int .i64 s.st, .slice A n c] 54) = w1 at *
      have c1 := b1.cell
      go_wp2_with (first
        | (go_at_call 65; refine (HV.out _ hw1).mono ?_; rw [Hv.out]; rintro e w2 ⟨rfl, hx2⟩; have c2 := ((b1.ext hx2).cell 0).trans (show #[Value.int .i64 s.al, .int .i64 s.st, .slice A n c][0]? = some (Value.int .i64 (al : Nat)) by rw [hae.out]; rfl))
        | (go_at_call 93; refine (spec_WordWithin ht hal6).mono ?_; rw [Hi.out]; rintro e w3 ⟨rfl, rfl⟩))
      go_ret
      exact ⟨ret_int (by rw [hr.out]; rfl), hw1.trans hx2⟩
    · have Hi := hide hi
      have hwd := hide (inB_word hi)
      rw [hi, if_pos rfl] at hr
      clear hv hi
      go_enter Tryz.func119, Tryz.ntmps119
      go_upto_region 1 with fail
      generalize w.alloc (.cells #[.int .i64 s.al, .int .i64 s.st, .slice A n c] 54) = w1 at *
      have c1 := b1.cell
      go_upto_region 3 with (first
        | (go_at_call 65; refine (HV.out _ hw1).mono ?_; rw [Hv.out]; rintro e w2 ⟨rfl, hx2⟩; have c2 := ((b1.ext hx2).cell 0).trans (show #[Value.int .i64 s.al, .int .i64 s.st, .slice A n c][0]? = some (Value.int .i64 (al : Nat)) by rw [hae.out]; rfl))
        | (go_at_call 93; refine (spec_WordWithin ht hal6).mono ?_; rw [Hi.out]; rintro e w3 ⟨rfl, rfl⟩))
      have hw2 := hw1.trans hx2
      have c3 := (b1.ext hx2).cell
      clear c2 c1
      go_wp2_with (go_at_call 132; refine (spec_l2Run (HS.out _ hw2) Hv.out hwd.out).mono ?_; rintro e w4 ⟨rfl, hx4⟩)
      go_ret
      exact ⟨ret_int (by rw [hr.out]), hw2.trans hx4⟩
set_option maxRecDepth 100000 in
theorem impl_StatesAfter (h : SysAt w lo hi A n s) (hT : Tab w) (ht : t.size ≤ 9223372036854775807) :
    Calls Tryz.prog 100 #[.agg #[.int .i64 s.al, .int .i64 s.st, .slice A n c], .string t] w fun e w' => e = .returned (.int .i64 (aftB s t : Nat)) ∧ Ext w w' := by
  have HS := hide (fun W (hW : Ext w W) => h.ext hW)
  have HT := hide (fun W (hW : Ext w W) => hT.ext hW)
  have HV := hide (fun W (hW : Ext w W) => impl_SystemValid (c := c) (h.ext hW))
  clear h hT
  have hw1 : Ext w (w.alloc (.cells #[.int .i64 s.al, .int .i64 s.st, .slice A n c] 54)) := (Ext.refl w).alloc _
  have b1 := Blk.new w 54 #[.int .i64 s.al, .int .i64 s.st, .slice A n c]
  cases hv : sysValid s
  · have Hv := hide hv
    have hr := hide (show aftB s t = 0 by unfold aftB; rw [hv]; rfl)
    clear hv
    go_enter Tryz.func100, Tryz.ntmps100
    go_upto_region 1 with fail
    generalize w.alloc (.cells #[.int .i64 s.al, .int .i64 s.st, .slice A n c] 54) = w1 at *
    have c1 := b1.cell
    go_wp2_with (go_at_call 44; refine (HV.out _ hw1).mono ?_; rw [Hv.out]; rintro e w2 ⟨rfl, hx2⟩)
    go_ret
    exact ⟨ret_int (by rw [hr.out]; rfl), hw1.trans hx2⟩
  · have hal := sysValid_al hv
    obtain ⟨al, hae⟩ : ∃ al : Nat, Hid (s.al = al) := ⟨s.al.toNat, by unfold Hid; omega⟩
    have hal6 : al ≤ 63 := by have := hae.out; omega
    have hr := hide (show aftB s t = if inB t al = true then runB s.edges 1 (wl t) else 0 by unfold aftB; rw [hv, hae.out]; simp)
    have Hv := hide hv
    cases hi : inB t al
    · have Hi := hide (show (decide (t.size ≤ 50000) && overB t al) = false from hi)
      rw [hi] at hr
      clear hv hi
      go_enter Tryz.func100, Tryz.ntmps100
      go_upto_region 1 with fail
      generalize w.alloc (.cells #[.int .i64 s.al, .int .i64 s.st, .slice A n c] 54) = w1 at *
      have c1 := b1.cell
      go_wp2_with (first
        | (go_at_call 44; refine (HV.out _ hw1).mono ?_; rw [Hv.out]; rintro e w2 ⟨rfl, hx2⟩; have c2 := ((b1.ext hx2).cell 0).trans (show #[Value.int .i64 s.al, .int .i64 s.st, .slice A n c][0]? = some (Value.int .i64 (al : Nat)) by rw [hae.out]; rfl))
        | (go_at_call 75; refine (impl_WordWithin t al _ ht hal6).mono ?_; rw [Hi.out]; rintro e w3 ⟨rfl, rfl⟩))
      go_ret
      exact ⟨ret_int (by rw [hr.out]; rfl), hw1.trans hx2⟩
    · have Hi := hide (show (decide (t.size ≤ 50000) && overB t al) = true from hi)
      have hwd := inB_word hi
      obtain ⟨p, hp, hp1, hp2, hf⟩ := valid_few hv
      have hsz := word_size hwd
      have Hb := hide (fun k hk => word_byte hwd (k := k) hk)
      have Hf := hide hf
      have H16 := hide (fun ls => runB_lt16 hf hp2 ls)
      rw [hi, if_pos rfl] at hr
      clear hv hi hf hp hwd
      go_enter Tryz.func100, Tryz.ntmps100
      go_upto_region 1 with fail
      generalize w.alloc (.cells #[.int .i64 s.al, .int .i64 s.st, .slice A n c] 54) = w1 at *
      have c1 := b1.cell
      go_upto_region 3 with (first
        | (go_at_call 44; refine (HV.out _ hw1).mono ?_; rw [Hv.out]; rintro e w2 ⟨rfl, hx2⟩; have c2 := ((b1.ext hx2).cell 0).trans (show #[Value.int .i64 s.al, .int .i64 s.st, .slice A n c][0]? = some (Value.int .i64 (al : Nat)) by rw [hae.out]; rfl))
        | (go_at_call 75; refine (impl_WordWithin t al _ ht hal6).mono ?_; rw [Hi.out]; rintro e w3 ⟨rfl, rfl⟩))
      have hw2 := hw1.trans hx2
      have c3 := (b1.ext hx2).cell
      clear c2 c1
      go_wp2_with (go_at_call 122; refine (impl_movesOf (HS.out _ hw2) (fun e he => by have := Hf.out e he; omega)).mono ?_; rintro e w4 ⟨bm, rfl, _, hm, hx4⟩)
      have hw4 := hw2.trans hx4
      have HM := hide (fun W (hW : Ext w4 W) => (hm.ext hW).at_)
      clear hm c3
      go_loopw [6, 7] (fun v i wr => ∃ k x : Nat, i = .int .i64 k ∧ k ≤ t.size ∧ v = .int .i64 x ∧ x < 65536 ∧ Hid (x = runB s.edges 1 ((wl t).take k)) ∧ Ext w4 wr) (fun _ i _ => t.size - (intOf i).toNat)
      case atStart => exact ⟨0, 1, rfl, Nat.zero_le _, rfl, by omega, rfl, Ext.refl _⟩
      case round =>
        obtain ⟨k, x, rfl, hk, rfl, hx, hxo, hxr⟩ := hrel
        by_cases hlt : k < t.size
        · by_cases hx0 : x = 0
          · subst hx0
            have hfin := hide (show runB s.edges 1 (wl t) = 0 from runB_end hxo.out.symm)
            go_wp2
            go_ret
            exact ⟨ret_int (by rw [hr.out, hfin.out]), hw4.trans hxr⟩
          · have hne : ((x : Int) != 0) = true := by simp; try omega
            have hbb := Hb.out k hlt
            obtain ⟨l, hl⟩ : ∃ l : Nat, Hid (ltr t[k].toNat = l ∧ l < 6 ∧ t[k].toNat - 97 = l) := ⟨t[k].toNat - 97, by unfold Hid ltr; rw [if_neg (by omega)]; omega⟩
            have hl6 := hl.out.2.1
            have hst := hide (show stepB s.edges x (l : Int) = runB s.edges 1 ((wl t).take (k + 1)) by
              rw [List.take_add_one, wl_get hlt, Option.toList_some, runB_snoc, ← hxo.out, hl.out.2.2])
            have h16 := H16.out ((wl t).take (k + 1))
            rw [← hst.out] at h16
            have HC := hide (fun W (hW : Ext w4 W) => impl_step (HM.out W hW) (HT.out W (hw4.trans hW)) (show x < 2 ^ 16 from hx) hl6 Hf.out hp2)
            generalize stepB s.edges x (l : Int) = y at *
            clear hbb
            go_wp2_with (first
              | (go_at_call 99; refine (impl_letterAt t k hlt _).mono ?_; rw [hl.out.1]; rintro e w' ⟨rfl, rfl⟩)
              | (go_at_call 123; refine (HC.out _ hxr).mono ?_; rintro e w6 ⟨rfl, hx6⟩))
            go_roundw
            case rel => exact ⟨k + 1, y, by go_num, by omega, rfl, h16, hst, hxr.trans hx6⟩
            case measure => simp [intOf]; omega
        · obtain rfl : k = t.size := by omega
          have hfin := hide (show x = runB s.edges 1 (wl t) by rw [hxo.out, List.take_of_length_le (by rw [wl_len]; exact Nat.le_refl _)])
          go_wp2
          go_ret
          exact ⟨ret_int (by rw [hr.out, hfin.out]), hw4.trans hxr⟩
theorem spec_HasTrace (h : SysAt w lo hi A n s) (ht : t.size ≤ 9223372036854775807) :
    Calls Tryz.prog 94 #[.agg #[.int .i64 s.al, .int .i64 s.st, .slice A n c], .string t] w fun e w' => e = .returned (.bool (aftB s t != 0)) ∧ Ext w w' := by
  have HS := hide (fun W (hW : Ext w W) => spec_StatesAfter (c := c) (h.ext hW) ht)
  have hr := hide (show (((aftB s t : Nat) : Int) != 0) = (aftB s t != 0) by rw [Bool.eq_iff_iff]; simp; try omega)
  generalize aftB s t = y at *
  go_enter Tryz.func94, Tryz.ntmps94
  go_wp2_with (go_at_call 119; refine (HS.out _ ((Ext.refl _).alloc _)).mono ?_; rintro e w2 ⟨rfl, hx2⟩)
  go_ret
  exact ⟨ret_bool (by rw [hr.out]), ((Ext.refl _).alloc _).trans hx2⟩
theorem impl_HasTrace (h : SysAt w lo hi A n s) (hT : Tab w) (ht : t.size ≤ 9223372036854775807) :
    Calls Tryz.prog 77 #[.agg #[.int .i64 s.al, .int .i64 s.st, .slice A n c], .string t] w fun e w' => e = .returned (.bool (aftB s t != 0)) ∧ Ext w w' := by
  have HS := hide (fun W (hW : Ext w W) => impl_StatesAfter (c := c) (h.ext hW) (hT.ext hW) ht)
  have hr := hide (show (((aftB s t : Nat) : Int) != 0) = (aftB s t != 0) by rw [Bool.eq_iff_iff]; simp; try omega)
  generalize aftB s t = y at *
  go_enter Tryz.func77, Tryz.ntmps77
  go_wp2_with (go_at_call 100; refine (HS.out _ ((Ext.refl _).alloc _)).mono ?_; rintro e w2 ⟨rfl, hx2⟩)
  go_ret
  exact ⟨ret_bool (by rw [hr.out]), ((Ext.refl _).alloc _).trans hx2⟩
end
end Go.Proofs.YtplllipekeomiaaGreatDoor
