/- The law FnSimulatesDeterministic, walked: it answers true, and leaves all old memory as it was. -/
import Derived.Test.YtbifoikcmjmdeaaDoorZLawSelf
import Derived.Test.YtbifoikcmjmdeaaDoorG10
namespace Go.Proofs.YtbifoikcmjmdeaaDoor
open Go Go.RowKit
set_option maxHeartbeats 2000000

set_option maxRecDepth 100000 in
theorem law_SimulatesDeterministic {A : Option Addr} {n c : Nat} {w : World} (h : Bytes w A n) (hn : n ≤ 9223372036854775807) (hc : n ≤ c) (hc2 : c ≤ 9223372036854775807) (hT : Tab w) :
    Calls Tryd.prog 6 #[.slice A n c] w fun e w' => e = .returned (.bool true) ∧ Ext w w' := by
  have Hh := hide h
  have HTab := hide (fun W (hW : Ext w W) => hT.ext hW)
  clear h hT
  by_cases hbig : 1048576 < n
  · have hbig' : (1048576 : Int) < (n : Int) := by omega
    go_enter Tryd.func6, Tryd.ntmps6
    go_wp2
    go_ret
    exact ⟨rfl, Ext.refl _⟩
  have hbig' : (n : Int) ≤ 1048576 := by omega
  clear hbig
  go_enter Tryd.func6, Tryd.ntmps6
  go_wp2_with fail
  refine (spec_DrawSimulates Hh.out hn hc hc2).mono ?_
  rintro e w1 ⟨s, B1, n1, c1, t, B2, n2, c2, rfl, hs1, ht1, hn1, hn2, hx1⟩
  have hx2 : Ext w1 ((w1.alloc (.cells #[.int .i64 s.al, .int .i64 s.st, .slice B1 n1 c1] 25)).alloc (.cells #[.int .i64 t.al, .int .i64 t.st, .slice B2 n2 c2] 25)) := ((Ext.refl _).alloc _).alloc _
  obtain ⟨b1, b2⟩ := ext_blk2 (Ext.refl ((w1.alloc (.cells #[.int .i64 s.al, .int .i64 s.st, .slice B1 n1 c1] 25)).alloc (.cells #[.int .i64 t.al, .int .i64 t.st, .slice B2 n2 c2] 25)))
  have HS := hide (fun W (hW : Ext w1 W) => hs1.ext hW)
  have HT := hide (fun W (hW : Ext w1 W) => ht1.ext hW)
  have k1 := b1.cell
  have k2 := b2.cell
  clear hs1 ht1 Hh
  go_wp2_with fail
  generalize (w1.alloc (.cells #[.int .i64 s.al, .int .i64 s.st, .slice B1 n1 c1] 25)).alloc (.cells #[.int .i64 t.al, .int .i64 t.st, .slice B2 n2 c2] 25) = w2 at *
  have HI := hide (fun W (hW : Ext w1 W) => HTab.out _ (hx1.trans hW))
  obtain ⟨b, hb⟩ : ∃ b, Hid (simB false s t = b) := ⟨_, rfl⟩
  have hbb : (b != b) = false := by cases b <;> rfl
  have hbe : (b == b) = true := by cases b <;> rfl
  refine (impl_Simulates (HS.out _ hx2) (HT.out _ hx2) (HI.out _ hx2)).mono ?_
  rw [hb.out]
  rintro e w15 ⟨rfl, hx15⟩
  replace hx2 := hx2.trans hx15
  clear k1 k2
  replace b1 := b1.ext hx15
  replace b2 := b2.ext hx15
  have k1 := b1.cell
  have k2 := b2.cell
  go_wp2_with fail
  refine (spec_Simulates (HS.out _ hx2) (HT.out _ hx2)).mono ?_
  rw [hb.out]
  rintro e w16 ⟨rfl, hx16⟩
  replace hx2 := hx2.trans hx16
  clear k1 k2
  replace b1 := b1.ext hx16
  replace b2 := b2.ext hx16
  have k1 := b1.cell
  have k2 := b2.cell
  go_wp2_with fail
  refine (impl_IsDeterministic (HT.out _ hx2) (HI.out _ hx2)).mono ?_
  rintro e w17 ⟨d, rfl, hd, hx17⟩
  replace hx2 := hx2.trans hx17
  clear k1 k2
  replace b1 := b1.ext hx17
  replace b2 := b2.ext hx17
  have k1 := b1.cell
  have k2 := b2.cell
  cases d
  · go_wp2_with fail
    refine (spec_Simulates (HS.out _ hx2) (HT.out _ hx2)).mono ?_
    rw [hb.out]
    rintro e w18 ⟨rfl, hx18⟩
    replace hx2 := hx2.trans hx18
    clear k1 k2
    replace b1 := b1.ext hx18
    replace b2 := b2.ext hx18
    have k1 := b1.cell
    have k2 := b2.cell
    go_wp2_with fail
    go_ret
    exact ⟨by first | rfl | simp [hbe], hx1.trans hx2⟩
  · have hw := hide (show withinB s t = b by rw [← det_sim (hd.out rfl).2]; exact hb.out)
    go_wp2_with fail
    refine (impl_TracesWithin (HS.out _ hx2) (HT.out _ hx2) (HI.out _ hx2)).mono ?_
    rw [hw.out]
    rintro e w19 ⟨rfl, hx19⟩
    replace hx2 := hx2.trans hx19
    clear k1 k2
    replace b1 := b1.ext hx19
    replace b2 := b2.ext hx19
    have k1 := b1.cell
    have k2 := b2.cell
    go_wp2_with fail
    go_ret
    exact ⟨by first | rfl | simp [hbe], hx1.trans hx2⟩
end Go.Proofs.YtbifoikcmjmdeaaDoor
