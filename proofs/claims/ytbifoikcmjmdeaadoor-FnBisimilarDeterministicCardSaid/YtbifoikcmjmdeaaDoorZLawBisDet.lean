/- The law FnBisimilarDeterministic, walked: it answers true, and leaves all old memory as it was. -/
import Derived.Test.YtbifoikcmjmdeaaDoorZLawSelf
import Derived.Test.YtbifoikcmjmdeaaDoorG10
namespace Go.Proofs.YtbifoikcmjmdeaaDoor
open Go Go.RowKit
set_option maxHeartbeats 2000000

set_option maxRecDepth 100000 in
theorem law_BisimilarDeterministic {A : Option Addr} {n c : Nat} {w : World} (h : Bytes w A n) (hn : n ≤ 9223372036854775807) (hc : n ≤ c) (hc2 : c ≤ 9223372036854775807) (hT : Tab w) :
    Calls Tryd.prog 7 #[.slice A n c] w fun e w' => e = .returned (.bool true) ∧ Ext w w' := by
  have Hh := hide h
  have HTab := hide (fun W (hW : Ext w W) => hT.ext hW)
  clear h hT
  by_cases hbig : 1048576 < n
  · have hbig' : (1048576 : Int) < (n : Int) := by omega
    go_enter Tryd.func7, Tryd.ntmps7
    go_wp2
    go_ret
    exact ⟨rfl, Ext.refl _⟩
  have hbig' : (n : Int) ≤ 1048576 := by omega
  clear hbig
  go_enter Tryd.func7, Tryd.ntmps7
  go_wp2_with fail
  refine (spec_DrawBisimilar Hh.out hn hc hc2).mono ?_
  rintro e w1 ⟨s, B1, n1, c1, t, B2, n2, c2, rfl, hs1, ht1, hn1, hn2, hx1⟩
  have hx2 : Ext w1 ((w1.alloc (.cells #[.int .i64 s.al, .int .i64 s.st, .slice B1 n1 c1] 25)).alloc (.cells #[.int .i64 t.al, .int .i64 t.st, .slice B2 n2 c2] 25)) := ((Ext.refl _).alloc _).alloc _
  obtain ⟨b1, b2⟩ := ext_blk2 (Ext.refl ((w1.alloc (.cells #[.int .i64 s.al, .int .i64 s.st, .slice B1 n1 c1] 25)).alloc (.cells #[.int .i64 t.al, .int .i64 t.st, .slice B2 n2 c2] 25)))
  have HS := hide (fun W (hW : Ext w1 W) => hs1.ext hW)
  have HT := hide (fun W (hW : Ext w1 W) => ht1.ext hW)
  have k1 := b1.cell
  have k2 := b2.cell
  clear hs1 ht1 Hh
  go_wp2_with fail
  generalize (w1.alloc (.cells #[.int .i64 s.al, .int .i64 s.st, .slice B1 n1 c1] 25)).alloc (.cells #[.int .i64 t.al, .int .i64 t.st, .slice B2 n2 c2] 25) = w2 at *
  have HI := hide (fun W (hW : Ext w1 W) => HTab.out _ (hx1.trans hW))
  obtain ⟨b, hb⟩ : ∃ b, Hid (simB true s t = b) := ⟨_, rfl⟩
  have hbb : (b != b) = false := by cases b <;> rfl
  have hbe : (b == b) = true := by cases b <;> rfl
  refine (impl_Bisimilar (HS.out _ hx2) (HT.out _ hx2) (HI.out _ hx2)).mono ?_
  rw [hb.out]
  rintro e w29 ⟨rfl, hx29⟩
  replace hx2 := hx2.trans hx29
  clear k1 k2
  replace b1 := b1.ext hx29
  replace b2 := b2.ext hx29
  have k1 := b1.cell
  have k2 := b2.cell
  go_wp2_with fail
  refine (spec_Bisimilar (HS.out _ hx2) (HT.out _ hx2)).mono ?_
  rw [hb.out]
  rintro e w30 ⟨rfl, hx30⟩
  replace hx2 := hx2.trans hx30
  clear k1 k2
  replace b1 := b1.ext hx30
  replace b2 := b2.ext hx30
  have k1 := b1.cell
  have k2 := b2.cell
  go_wp2_with fail
  refine (impl_IsDeterministic (HS.out _ hx2) (HI.out _ hx2)).mono ?_
  rintro e w31 ⟨d, rfl, hd, hx31⟩
  replace hx2 := hx2.trans hx31
  clear k1 k2
  replace b1 := b1.ext hx31
  replace b2 := b2.ext hx31
  have k1 := b1.cell
  have k2 := b2.cell
  cases d
  · go_wp2_with fail
    refine (spec_Bisimilar (HS.out _ hx2) (HT.out _ hx2)).mono ?_
    rw [hb.out]
    rintro e w32 ⟨rfl, hx32⟩
    replace hx2 := hx2.trans hx32
    clear k1 k2
    replace b1 := b1.ext hx32
    replace b2 := b2.ext hx32
    have k1 := b1.cell
    have k2 := b2.cell
    go_wp2_with fail
    go_ret
    exact ⟨by first | rfl | simp [hbe], hx1.trans hx2⟩
  · have hD := hide (hd.out rfl).2
    clear hd
    go_wp2_with fail
    refine (impl_IsDeterministic (HT.out _ hx2) (HI.out _ hx2)).mono ?_
    rintro e w33 ⟨d', rfl, hd', hx33⟩
    replace hx2 := hx2.trans hx33
    clear k1 k2
    replace b1 := b1.ext hx33
    replace b2 := b2.ext hx33
    have k1 := b1.cell
    have k2 := b2.cell
    cases d'
    · go_wp2_with fail
      refine (spec_Bisimilar (HS.out _ hx2) (HT.out _ hx2)).mono ?_
      rw [hb.out]
      rintro e w34 ⟨rfl, hx34⟩
      replace hx2 := hx2.trans hx34
      clear k1 k2
      replace b1 := b1.ext hx34
      replace b2 := b2.ext hx34
      have k1 := b1.cell
      have k2 := b2.cell
      go_wp2_with fail
      go_ret
      exact ⟨by first | rfl | simp [hbe], hx1.trans hx2⟩
    · have hw := hide (show (withinB s t && withinB t s) = b by rw [← det_bis hD.out (hd'.out rfl).2]; exact hb.out)
      go_wp2_with fail
      refine (impl_SameTraces (HS.out _ hx2) (HT.out _ hx2) (HI.out _ hx2)).mono ?_
      rw [hw.out]
      rintro e w35 ⟨rfl, hx35⟩
      replace hx2 := hx2.trans hx35
      clear k1 k2
      replace b1 := b1.ext hx35
      replace b2 := b2.ext hx35
      have k1 := b1.cell
      have k2 := b2.cell
      go_wp2_with fail
      go_ret
      exact ⟨by first | rfl | simp [hbe], hx1.trans hx2⟩
end Go.Proofs.YtbifoikcmjmdeaaDoor
