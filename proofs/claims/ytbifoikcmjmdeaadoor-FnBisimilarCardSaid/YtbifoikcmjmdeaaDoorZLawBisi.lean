/- The law FnBisimilar, walked: it answers true, and leaves all old memory as it was. -/
import Derived.Test.YtbifoikcmjmdeaaDoorZLawSelf
import Derived.Test.YtbifoikcmjmdeaaDoorG10
namespace Go.Proofs.YtbifoikcmjmdeaaDoor
open Go Go.RowKit
set_option maxHeartbeats 2000000

set_option maxRecDepth 100000 in
theorem law_Bisimilar {A : Option Addr} {n c : Nat} {w : World} (h : Bytes w A n) (hn : n ≤ 9223372036854775807) (hc : n ≤ c) (hc2 : c ≤ 9223372036854775807) (hT : Tab w) :
    Calls Tryd.prog 4 #[.slice A n c] w fun e w' => e = .returned (.bool true) ∧ Ext w w' := by
  have Hh := hide h
  have HTab := hide (fun W (hW : Ext w W) => hT.ext hW)
  clear h hT
  by_cases hbig : 1048576 < n
  · have hbig' : (1048576 : Int) < (n : Int) := by omega
    go_enter Tryd.func4, Tryd.ntmps4
    go_wp2
    go_ret
    exact ⟨rfl, Ext.refl _⟩
  have hbig' : (n : Int) ≤ 1048576 := by omega
  clear hbig
  go_enter Tryd.func4, Tryd.ntmps4
  go_wp2_with fail
  refine (spec_DrawBisimilar Hh.out hn hc hc2).mono ?_
  rintro e w1 ⟨s, B1, n1, c1, t, B2, n2, c2, rfl, hs1, ht1, hn1, hn2, hx1⟩
  have hx2 : Ext w1 ((w1.alloc (.cells #[.int .i64 s.al, .int .i64 s.st, .slice B1 n1 c1] 25)).alloc (.cells #[.int .i64 t.al, .int .i64 t.st, .slice B2 n2 c2] 25)) := ((Ext.refl _).alloc _).alloc _
  obtain ⟨b1, b2⟩ := ext_blk2 (Ext.refl ((w1.alloc (.cells #[.int .i64 s.al, .int .i64 s.st, .slice B1 n1 c1] 25)).alloc (.cells #[.int .i64 t.al, .int .i64 t.st, .slice B2 n2 c2] 25)))
  have HS := hide (fun W (hW : Ext w1 W) => hs1.ext hW)
  have HT := hide (fun W (hW : Ext w1 W) => ht1.ext hW)
  have k1 := b1.cell
  have k2 := b2.cell
  clear hs1 ht1 Hh
  go_wp2_with fail
  generalize (w1.alloc (.cells #[.int .i64 s.al, .int .i64 s.st, .slice B1 n1 c1] 25)).alloc (.cells #[.int .i64 t.al, .int .i64 t.st, .slice B2 n2 c2] 25) = w2 at *
  have HI := hide (fun W (hW : Ext w1 W) => HTab.out _ (hx1.trans hW))
  obtain ⟨b, hb⟩ : ∃ b, Hid (simB true s t = b) := ⟨_, rfl⟩
  have hbb : (b != b) = false := by cases b <;> rfl
  have hbe : (b == b) = true := by cases b <;> rfl
  have hb2 := hide (show simB true t s = b by rw [bis_symm_eq]; exact hb.out)
  refine (impl_Bisimilar (HS.out _ hx2) (HT.out _ hx2) (HI.out _ hx2)).mono ?_
  rw [hb.out]
  rintro e w20 ⟨rfl, hx20⟩
  replace hx2 := hx2.trans hx20
  clear k1 k2
  replace b1 := b1.ext hx20
  replace b2 := b2.ext hx20
  have k1 := b1.cell
  have k2 := b2.cell
  go_wp2_with fail
  refine (spec_Bisimilar (HS.out _ hx2) (HT.out _ hx2)).mono ?_
  rw [hb.out]
  rintro e w21 ⟨rfl, hx21⟩
  replace hx2 := hx2.trans hx21
  clear k1 k2
  replace b1 := b1.ext hx21
  replace b2 := b2.ext hx21
  have k1 := b1.cell
  have k2 := b2.cell
  go_wp2_with fail
  refine (impl_Bisimilar (HT.out _ hx2) (HS.out _ hx2) (HI.out _ hx2)).mono ?_
  rw [hb2.out]
  rintro e w22 ⟨rfl, hx22⟩
  replace hx2 := hx2.trans hx22
  clear k1 k2
  replace b1 := b1.ext hx22
  replace b2 := b2.ext hx22
  have k1 := b1.cell
  have k2 := b2.cell
  cases b
  · go_wp2_with fail
    refine (spec_Bisimilar (HS.out _ hx2) (HT.out _ hx2)).mono ?_
    rw [hb.out]
    rintro e w23 ⟨rfl, hx23⟩
    replace hx2 := hx2.trans hx23
    clear k1 k2
    replace b1 := b1.ext hx23
    replace b2 := b2.ext hx23
    have k1 := b1.cell
    have k2 := b2.cell
    go_wp2_with fail
    refine (impl_Bisimilar (HT.out _ hx2) (HS.out _ hx2) (HI.out _ hx2)).mono ?_
    rw [hb2.out]
    rintro e w24 ⟨rfl, hx24⟩
    replace hx2 := hx2.trans hx24
    clear k1 k2
    replace b1 := b1.ext hx24
    replace b2 := b2.ext hx24
    have k1 := b1.cell
    have k2 := b2.cell
    go_wp2_with fail
    go_ret
    exact ⟨by first | rfl | simp [hbe], hx1.trans hx2⟩
  · have hs1 := hide (bis_weak hb.out)
    have hs2 := hide (bis_weak hb2.out)
    have hw := hide (show (withinB s t && withinB t s) = true by rw [sim_within hs1.out, sim_within hs2.out]; rfl)
    have hsame : sameB s t = true := by have := hb.out; unfold simB at this; cases hh : sameB s t <;> simp_all
    have hself := hide (sim_self (both := true) (same_valid hsame).1)
    clear hsame
    go_wp2_with fail
    refine (impl_Simulates (HS.out _ hx2) (HT.out _ hx2) (HI.out _ hx2)).mono ?_
    rw [hs1.out]
    rintro e w25 ⟨rfl, hx25⟩
    replace hx2 := hx2.trans hx25
    clear k1 k2
    replace b1 := b1.ext hx25
    replace b2 := b2.ext hx25
    have k1 := b1.cell
    have k2 := b2.cell
    go_wp2_with fail
    refine (impl_Simulates (HT.out _ hx2) (HS.out _ hx2) (HI.out _ hx2)).mono ?_
    rw [hs2.out]
    rintro e w26 ⟨rfl, hx26⟩
    replace hx2 := hx2.trans hx26
    clear k1 k2
    replace b1 := b1.ext hx26
    replace b2 := b2.ext hx26
    have k1 := b1.cell
    have k2 := b2.cell
    go_wp2_with fail
    refine (impl_SameTraces (HS.out _ hx2) (HT.out _ hx2) (HI.out _ hx2)).mono ?_
    rw [hw.out]
    rintro e w27 ⟨rfl, hx27⟩
    replace hx2 := hx2.trans hx27
    clear k1 k2
    replace b1 := b1.ext hx27
    replace b2 := b2.ext hx27
    have k1 := b1.cell
    have k2 := b2.cell
    go_wp2_with fail
    refine (impl_Bisimilar (HS.out _ hx2) (HS.out _ hx2) (HI.out _ hx2)).mono ?_
    rw [hself.out]
    rintro e w28 ⟨rfl, hx28⟩
    replace hx2 := hx2.trans hx28
    clear k1 k2
    replace b1 := b1.ext hx28
    replace b2 := b2.ext hx28
    have k1 := b1.cell
    have k2 := b2.cell
    go_wp2_with fail
    go_ret
    exact ⟨by first | rfl | simp [hbe], hx1.trans hx2⟩
end Go.Proofs.YtbifoikcmjmdeaaDoor
