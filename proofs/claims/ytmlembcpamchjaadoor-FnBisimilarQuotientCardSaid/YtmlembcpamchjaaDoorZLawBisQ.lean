/- The law FnBisimilarQuotient, walked: it answers true, and leaves all old memory as it was. -/
import Derived.Test.YtmlembcpamchjaaDoorZLawSelf
import Derived.Test.YtmlembcpamchjaaDoorG11
import Derived.Test.YtmlembcpamchjaaDoorG13
namespace Go.Proofs.YtmlembcpamchjaaDoor
open Go Go.RowKit
set_option maxHeartbeats 2000000

set_option maxRecDepth 100000 in
theorem law_BisimilarQuotient {A : Option Addr} {n c : Nat} {w : World} (h : Bytes w A n) (hn : n ≤ 9223372036854775807) (hc : n ≤ c) (hc2 : c ≤ 9223372036854775807) (hT : Tab w) :
    Calls Tryd.prog 5 #[.slice A n c] w fun e w' => e = .returned (.bool true) ∧ Ext w w' := by
  have Hh := hide h
  have HTab := hide (fun W (hW : Ext w W) => hT.ext hW)
  clear h hT
  by_cases hbig : 1048576 < n
  · have hbig' : (1048576 : Int) < (n : Int) := by omega
    go_enter Tryd.func5, Tryd.ntmps5
    go_wp2
    go_ret
    exact ⟨rfl, Ext.refl _⟩
  have hbig' : (n : Int) ≤ 1048576 := by omega
  clear hbig
  go_enter Tryd.func5, Tryd.ntmps5
  go_wp2_with fail
  refine (spec_DrawBisimilar Hh.out hn hc hc2).mono ?_
  rintro e w1 ⟨s, B1, n1, c1, t, B2, n2, c2, rfl, hs1, ht1, hn1, hn2, hx1⟩
  have hx2 : Ext w1 ((w1.alloc (.cells #[.int .i64 s.al, .int .i64 s.st, .slice B1 n1 c1] 28)).alloc (.cells #[.int .i64 t.al, .int .i64 t.st, .slice B2 n2 c2] 28)) := ((Ext.refl _).alloc _).alloc _
  obtain ⟨b1, b2⟩ := ext_blk2 (Ext.refl ((w1.alloc (.cells #[.int .i64 s.al, .int .i64 s.st, .slice B1 n1 c1] 28)).alloc (.cells #[.int .i64 t.al, .int .i64 t.st, .slice B2 n2 c2] 28)))
  have HS := hide (fun W (hW : Ext w1 W) => hs1.ext hW)
  have HT := hide (fun W (hW : Ext w1 W) => ht1.ext hW)
  have k1 := b1.cell
  have k2 := b2.cell
  clear hs1 ht1 Hh
  go_wp2_with fail
  generalize (w1.alloc (.cells #[.int .i64 s.al, .int .i64 s.st, .slice B1 n1 c1] 28)).alloc (.cells #[.int .i64 t.al, .int .i64 t.st, .slice B2 n2 c2] 28) = w2 at *
  have HI := hide (fun W (hW : Ext w1 W) => HTab.out _ (hx1.trans hW))
  obtain ⟨b, hb⟩ : ∃ b, Hid (simB true s t = b) := ⟨_, rfl⟩
  have hbb : (b != b) = false := by cases b <;> rfl
  have hbe : (b == b) = true := by cases b <;> rfl
  refine (impl_Bisimilar (HS.out _ hx2) (HT.out _ hx2) (HI.out _ hx2)).mono ?_
  rw [hb.out]
  rintro e w10 ⟨rfl, hx10⟩
  replace hx2 := hx2.trans hx10
  clear k1 k2
  replace b1 := b1.ext hx10
  replace b2 := b2.ext hx10
  have k1 := b1.cell
  have k2 := b2.cell
  go_wp2_with fail
  refine (spec_Bisimilar (HS.out _ hx2) (HT.out _ hx2)).mono ?_
  rw [hb.out]
  rintro e w11 ⟨rfl, hx11⟩
  replace hx2 := hx2.trans hx11
  clear k1 k2
  replace b1 := b1.ext hx11
  replace b2 := b2.ext hx11
  have k1 := b1.cell
  have k2 := b2.cell
  cases hsm : sameB s t
  · have Hsm := hide hsm
    have hbf := hide (show b = false by rw [← hb.out]; unfold simB; rw [hsm]; rfl)
    clear hsm
    go_wp2_with fail
    refine (agComparable_any (HS.out _ hx2) (HT.out _ hx2)).mono ?_
    rw [Hsm.out]
    rintro e w12 ⟨rfl, hx12⟩
    replace hx2 := hx2.trans hx12
    clear k1 k2
    replace b1 := b1.ext hx12
    replace b2 := b2.ext hx12
    have k1 := b1.cell
    have k2 := b2.cell
    go_wp2_with fail
    refine (spec_Bisimilar (HS.out _ hx2) (HT.out _ hx2)).mono ?_
    rw [hb.out]
    rintro e w13 ⟨rfl, hx13⟩
    replace hx2 := hx2.trans hx13
    clear k1 k2
    replace b1 := b1.ext hx13
    replace b2 := b2.ext hx13
    have k1 := b1.cell
    have k2 := b2.cell
    have hbf' := hbf.out
    subst hbf'
    go_wp2_with fail
    go_ret
    exact ⟨rfl, hx1.trans hx2⟩
  · have Hsm := hide hsm
    obtain ⟨v1, v2, -⟩ := same_valid hsm
    obtain ⟨p, hp, -⟩ := valid_few v1
    have V1 := hide v1
    have V2 := hide v2
    have Hp := hide hp
    clear hsm v1 v2 hp
    go_wp2_with fail
    refine (agComparable_any (HS.out _ hx2) (HT.out _ hx2)).mono ?_
    rw [Hsm.out]
    rintro e w14 ⟨rfl, hx14⟩
    replace hx2 := hx2.trans hx14
    clear k1 k2
    replace b1 := b1.ext hx14
    replace b2 := b2.ext hx14
    have k1 := b1.cell
    have k2 := b2.cell
    go_wp2_with fail
    refine (impl_QuotientSystem (HS.out _ hx2) (HI.out _ hx2) V1.out (by omega)).mono ?_
    rintro e wx0 ⟨A3, n3, c3, rfl, hx, -, hx'x⟩
    replace hx2 := hx2.trans hx'x
    clear k1 k2
    replace b1 := b1.ext hx'x
    replace b2 := b2.ext hx'x
    have k1 := b1.cell
    have k2 := b2.cell
    generalize hsux : quoS s = u at *
    have Hsux := hide hsux
    clear hsux
    go_upto_region 8 with fail
    have hxa := (Ext.refl wx0).alloc (.cells #[.int .i64 u.al, .int .i64 u.st, .slice A3 n3 c3] 28)
    have dx := Blk.new wx0 28 #[.int .i64 u.al, .int .i64 u.st, .slice A3 n3 c3]
    replace hx2 := hx2.trans hxa
    clear k1 k2
    replace b1 := b1.ext hxa
    replace b2 := b2.ext hxa
    replace hx := hx.ext hxa
    have k1 := b1.cell
    have k2 := b2.cell
    have dxc := dx.cell
    generalize wx0.alloc (.cells #[.int .i64 u.al, .int .i64 u.st, .slice A3 n3 c3] 28) = wx1 at *
    generalize wx0.heap.size = Gx at *
    clear hxa
    go_wp2_with fail
    refine (impl_QuotientSystem (HT.out _ hx2) (HI.out _ hx2) V2.out (by omega)).mono ?_
    rintro e wy0 ⟨A4, n4, c4, rfl, hy, -, hx'y⟩
    replace hx2 := hx2.trans hx'y
    clear k1 k2 dxc
    replace b1 := b1.ext hx'y
    replace b2 := b2.ext hx'y
    replace dx := dx.ext hx'y
    replace hx := hx.ext hx'y
    have k1 := b1.cell
    have k2 := b2.cell
    have dxc := dx.cell
    generalize hsuy : quoS t = v at *
    have Hsuy := hide hsuy
    clear hsuy
    go_upto_region 9 with fail
    have hxa := (Ext.refl wy0).alloc (.cells #[.int .i64 v.al, .int .i64 v.st, .slice A4 n4 c4] 28)
    have dy := Blk.new wy0 28 #[.int .i64 v.al, .int .i64 v.st, .slice A4 n4 c4]
    replace hx2 := hx2.trans hxa
    clear k1 k2 dxc
    replace b1 := b1.ext hxa
    replace b2 := b2.ext hxa
    replace dx := dx.ext hxa
    replace hx := hx.ext hxa
    replace hy := hy.ext hxa
    have k1 := b1.cell
    have k2 := b2.cell
    have dxc := dx.cell
    have dyc := dy.cell
    generalize wy0.alloc (.cells #[.int .i64 v.al, .int .i64 v.st, .slice A4 n4 c4] 28) = wy1 at *
    generalize wy0.heap.size = Gy at *
    clear hxa
    go_wp2_with fail
    refine (impl_TrimSystem (HS.out _ hx2) (HI.out _ hx2) V1.out Hp.out (by omega)).mono ?_
    rintro e wz0 ⟨R, A5, n5, c5, rfl, hR, hz, hx'z⟩
    replace hx2 := hx2.trans hx'z
    clear k1 k2 dxc dyc
    replace b1 := b1.ext hx'z
    replace b2 := b2.ext hx'z
    replace dx := dx.ext hx'z
    replace dy := dy.ext hx'z
    replace hx := hx.ext hx'z
    replace hy := hy.ext hx'z
    have k1 := b1.cell
    have k2 := b2.cell
    have dxc := dx.cell
    have dyc := dy.cell
    generalize hsuz : subS s R = u' at *
    have Hsuz := hide hsuz
    clear hsuz
    go_upto_region 10 with fail
    have hxa := (Ext.refl wz0).alloc (.cells #[.int .i64 u'.al, .int .i64 u'.st, .slice A5 n5 c5] 28)
    have dz := Blk.new wz0 28 #[.int .i64 u'.al, .int .i64 u'.st, .slice A5 n5 c5]
    replace hx2 := hx2.trans hxa
    clear k1 k2 dxc dyc
    replace b1 := b1.ext hxa
    replace b2 := b2.ext hxa
    replace dx := dx.ext hxa
    replace dy := dy.ext hxa
    replace hx := hx.ext hxa
    replace hy := hy.ext hxa
    replace hz := hz.ext hxa
    have k1 := b1.cell
    have k2 := b2.cell
    have dxc := dx.cell
    have dyc := dy.cell
    have dzc := dz.cell
    generalize wz0.alloc (.cells #[.int .i64 u'.al, .int .i64 u'.st, .slice A5 n5 c5] 28) = wz1 at *
    generalize wz0.heap.size = Gz at *
    clear hxa
    have hq1 := hide (show simB true u v = b by rw [← Hsux.out, ← Hsuy.out, quo_bis_eq Hsm.out]; exact hb.out)
    have hq2 := hide (show simB true u' t = b by rw [← Hsuz.out, trim_bis_eq Hsm.out Hp.out hR.out]; exact hb.out)
    go_wp2_with fail
    refine (impl_Bisimilar hx hy (HI.out _ hx2)).mono ?_
    rw [hq1.out]
    rintro e w80 ⟨rfl, hx80⟩
    replace hx2 := hx2.trans hx80
    clear k1 k2 dxc dyc dzc
    have k2 := (b2.ext hx80).cell
    have k5 := (dz.ext hx80).cell
    replace hz := hz.ext hx80
    go_wp2_with fail
    refine (impl_Bisimilar hz (HT.out _ hx2) (HI.out _ hx2)).mono ?_
    rw [hq2.out]
    rintro e w81 ⟨rfl, hx81⟩
    replace hx2 := hx2.trans hx81
    go_wp2_with fail
    go_ret
    exact ⟨by first | rfl | simp [hbe], hx1.trans hx2⟩
end Go.Proofs.YtmlembcpamchjaaDoor
