/- The law FnSimulatesTrim, walked: it answers true, and leaves all old memory as it was. -/
import Derived.Test.YtbifoikcmjmdeaaDoorZLawSelf
import Derived.Test.YtbifoikcmjmdeaaDoorG10
namespace Go.Proofs.YtbifoikcmjmdeaaDoor
open Go Go.RowKit
set_option maxHeartbeats 2000000

set_option maxRecDepth 100000 in
theorem law_SimulatesTrim {A : Option Addr} {n c : Nat} {w : World} (h : Bytes w A n) (hn : n ≤ 9223372036854775807) (hc : n ≤ c) (hc2 : c ≤ 9223372036854775807) (hT : Tab w) :
    Calls Tryd.prog 3 #[.slice A n c] w fun e w' => e = .returned (.bool true) ∧ Ext w w' := by
  have Hh := hide h
  have HTab := hide (fun W (hW : Ext w W) => hT.ext hW)
  clear h hT
  by_cases hbig : 1048576 < n
  · have hbig' : (1048576 : Int) < (n : Int) := by omega
    go_enter Tryd.func3, Tryd.ntmps3
    go_wp2
    go_ret
    exact ⟨rfl, Ext.refl _⟩
  have hbig' : (n : Int) ≤ 1048576 := by omega
  clear hbig
  go_enter Tryd.func3, Tryd.ntmps3
  go_wp2_with fail
  refine (spec_DrawSimulates Hh.out hn hc hc2).mono ?_
  rintro e w1 ⟨s, B1, n1, c1, t, B2, n2, c2, rfl, hs1, ht1, hn1, hn2, hx1⟩
  have hx2 : Ext w1 ((w1.alloc (.cells #[.int .i64 s.al, .int .i64 s.st, .slice B1 n1 c1] 25)).alloc (.cells #[.int .i64 t.al, .int .i64 t.st, .slice B2 n2 c2] 25)) := ((Ext.refl _).alloc _).alloc _
  obtain ⟨b1, b2⟩ := ext_blk2 (Ext.refl ((w1.alloc (.cells #[.int .i64 s.al, .int .i64 s.st, .slice B1 n1 c1] 25)).alloc (.cells #[.int .i64 t.al, .int .i64 t.st, .slice B2 n2 c2] 25)))
  have HS := hide (fun W (hW : Ext w1 W) => hs1.ext hW)
  have HT := hide (fun W (hW : Ext w1 W) => ht1.ext hW)
  have k1 := b1.cell
  have k2 := b2.cell
  clear hs1 ht1 Hh
  go_wp2_with fail
  generalize (w1.alloc (.cells #[.int .i64 s.al, .int .i64 s.st, .slice B1 n1 c1] 25)).alloc (.cells #[.int .i64 t.al, .int .i64 t.st, .slice B2 n2 c2] 25) = w2 at *
  have HI := hide (fun W (hW : Ext w1 W) => HTab.out _ (hx1.trans hW))
  obtain ⟨b, hb⟩ : ∃ b, Hid (simB false s t = b) := ⟨_, rfl⟩
  have hbb : (b != b) = false := by cases b <;> rfl
  have hbe : (b == b) = true := by cases b <;> rfl
  refine (impl_Simulates (HS.out _ hx2) (HT.out _ hx2) (HI.out _ hx2)).mono ?_
  rw [hb.out]
  rintro e w36 ⟨rfl, hx36⟩
  replace hx2 := hx2.trans hx36
  clear k1 k2
  replace b1 := b1.ext hx36
  replace b2 := b2.ext hx36
  have k1 := b1.cell
  have k2 := b2.cell
  go_wp2_with fail
  refine (spec_Simulates (HS.out _ hx2) (HT.out _ hx2)).mono ?_
  rw [hb.out]
  rintro e w37 ⟨rfl, hx37⟩
  replace hx2 := hx2.trans hx37
  clear k1 k2
  replace b1 := b1.ext hx37
  replace b2 := b2.ext hx37
  have k1 := b1.cell
  have k2 := b2.cell
  cases hsm : sameB s t
  · have Hsm := hide hsm
    have hbf := hide (show b = false by rw [← hb.out]; unfold simB; rw [hsm]; rfl)
    clear hsm
    go_wp2_with fail
    refine (agComparable_any (HS.out _ hx2) (HT.out _ hx2)).mono ?_
    rw [Hsm.out]
    rintro e w38 ⟨rfl, hx38⟩
    replace hx2 := hx2.trans hx38
    clear k1 k2
    replace b1 := b1.ext hx38
    replace b2 := b2.ext hx38
    have k1 := b1.cell
    have k2 := b2.cell
    go_wp2_with fail
    refine (spec_Simulates (HS.out _ hx2) (HT.out _ hx2)).mono ?_
    rw [hb.out]
    rintro e w39 ⟨rfl, hx39⟩
    replace hx2 := hx2.trans hx39
    clear k1 k2
    replace b1 := b1.ext hx39
    replace b2 := b2.ext hx39
    have k1 := b1.cell
    have k2 := b2.cell
    have hbf' := hbf.out
    subst hbf'
    go_wp2_with fail
    go_ret
    exact ⟨rfl, hx1.trans hx2⟩
  · have Hsm := hide hsm
    obtain ⟨v1, v2, -⟩ := same_valid hsm
    obtain ⟨p, hp, -⟩ := valid_few v1
    obtain ⟨q, hq, -⟩ := valid_few v2
    have V1 := hide v1
    have V2 := hide v2
    have Hp := hide hp
    have Hq := hide hq
    have hself := hide (sim_self (both := false) v1)
    clear hsm v1 v2 hp hq
    go_wp2_with fail
    refine (agComparable_any (HS.out _ hx2) (HT.out _ hx2)).mono ?_
    rw [Hsm.out]
    rintro e w40 ⟨rfl, hx40⟩
    replace hx2 := hx2.trans hx40
    clear k1 k2
    replace b1 := b1.ext hx40
    replace b2 := b2.ext hx40
    have k1 := b1.cell
    have k2 := b2.cell
    go_wp2_with fail
    refine (impl_TrimSystem (HS.out _ hx2) (HI.out _ hx2) V1.out Hp.out (by omega)).mono ?_
    rintro e w60 ⟨R, A3, n3, c3, rfl, hR, h3, hx60⟩
    replace hx2 := hx2.trans hx60
    clear k1 k2
    replace b1 := b1.ext hx60
    replace b2 := b2.ext hx60
    have k1 := b1.cell
    have k2 := b2.cell
    generalize hsu : subS s R = u at *
    have Hsu := hide hsu
    clear hsu
    go_upto_region 8 with fail
    have hxa := (Ext.refl w60).alloc (.cells #[.int .i64 u.al, .int .i64 u.st, .slice A3 n3 c3] 25)
    have b3 := Blk.new w60 25 #[.int .i64 u.al, .int .i64 u.st, .slice A3 n3 c3]
    replace hx2 := hx2.trans hxa
    replace h3 := h3.ext hxa
    clear k1 k2
    replace b1 := b1.ext hxa
    replace b2 := b2.ext hxa
    have k1 := b1.cell
    have k2 := b2.cell
    generalize w60.alloc (.cells #[.int .i64 u.al, .int .i64 u.st, .slice A3 n3 c3] 25) = w61 at *
    generalize w60.heap.size = g6 at *
    clear hxa
    go_wp2_with fail
    refine (impl_TrimSystem (HT.out _ hx2) (HI.out _ hx2) V2.out Hq.out (by omega)).mono ?_
    rintro e w62 ⟨R', A4, n4, c4, rfl, hR', h4, hx62⟩
    replace hx2 := hx2.trans hx62
    replace h3 := h3.ext hx62
    clear k1 k2
    replace b1 := b1.ext hx62
    replace b3 := b3.ext hx62
    have k1 := b1.cell
    have k3 := b3.cell
    generalize hsv : subS t R' = v at *
    have Hsv := hide hsv
    clear hsv b2
    go_upto_region 9 with fail
    have hxa := (Ext.refl w62).alloc (.cells #[.int .i64 v.al, .int .i64 v.st, .slice A4 n4 c4] 25)
    have b4 := Blk.new w62 25 #[.int .i64 v.al, .int .i64 v.st, .slice A4 n4 c4]
    replace hx2 := hx2.trans hxa
    replace h3 := h3.ext hxa
    replace h4 := h4.ext hxa
    clear k1 k3
    replace b1 := b1.ext hxa
    replace b3 := b3.ext hxa
    have k1 := b1.cell
    have k3 := b3.cell
    have k4 := b4.cell
    generalize w62.alloc (.cells #[.int .i64 v.al, .int .i64 v.st, .slice A4 n4 c4] 25) = w63 at *
    generalize w62.heap.size = g8 at *
    clear hxa
    have htr := hide (show simB false u v = b by rw [← Hsu.out, ← Hsv.out, trim_sim Hsm.out Hp.out Hq.out hR.out hR'.out]; exact hb.out)
    go_wp2_with fail
    refine (impl_Simulates h3 h4 (HI.out _ hx2)).mono ?_
    rw [htr.out]
    rintro e w64 ⟨rfl, hx64⟩
    replace hx2 := hx2.trans hx64
    clear k1 k3 k4
    have k1 := (b1.ext hx64).cell
    go_wp2_with fail
    refine (impl_Simulates (HS.out _ hx2) (HS.out _ hx2) (HI.out _ hx2)).mono ?_
    rw [hself.out]
    rintro e w65 ⟨rfl, hx65⟩
    replace hx2 := hx2.trans hx65
    go_wp2_with fail
    go_ret
    exact ⟨by first | rfl | simp [hbe], hx1.trans hx2⟩
end Go.Proofs.YtbifoikcmjmdeaaDoor
