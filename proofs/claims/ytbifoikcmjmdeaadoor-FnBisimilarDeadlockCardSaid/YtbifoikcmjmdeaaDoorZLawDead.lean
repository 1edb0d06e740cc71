/- The law FnBisimilarDeadlock, walked: it answers true, and leaves all old memory as it was. -/
import Derived.Test.YtbifoikcmjmdeaaDoorZLawSelf
import Derived.Test.YtbifoikcmjmdeaaDoorG10
import Derived.Test.YtbifoikcmjmdeaaDoorG11
namespace Go.Proofs.YtbifoikcmjmdeaaDoor
open Go Go.RowKit
set_option maxHeartbeats 2000000

set_option maxRecDepth 100000 in
theorem law_BisimilarDeadlock {A : Option Addr} {n c : Nat} {w : World} (h : Bytes w A n) (hn : n ≤ 9223372036854775807) (hc : n ≤ c) (hc2 : c ≤ 9223372036854775807) (hT : Tab w) :
    Calls Tryd.prog 8 #[.slice A n c] w fun e w' => e = .returned (.bool true) ∧ Ext w w' := by
  have Hh := hide h
  have HTab := hide (fun W (hW : Ext w W) => hT.ext hW)
  clear h hT
  by_cases hbig : 1048576 < n
  · have hbig' : (1048576 : Int) < (n : Int) := by omega
    go_enter Tryd.func8, Tryd.ntmps8
    go_wp2
    go_ret
    exact ⟨rfl, Ext.refl _⟩
  have hbig' : (n : Int) ≤ 1048576 := by omega
  clear hbig
  go_enter Tryd.func8, Tryd.ntmps8
  go_wp2_with fail
  refine (spec_DrawBisimilar Hh.out hn hc hc2).mono ?_
  rintro e w1 ⟨s, B1, n1, c1, t, B2, n2, c2, rfl, hs1, ht1, hn1, hn2, hx1⟩
  have hx2 : Ext w1 ((w1.alloc (.cells #[.int .i64 s.al, .int .i64 s.st, .slice B1 n1 c1] 25)).alloc (.cells #[.int .i64 t.al, .int .i64 t.st, .slice B2 n2 c2] 25)) := ((Ext.refl _).alloc _).alloc _
  obtain ⟨b1, b2⟩ := ext_blk2 (Ext.refl ((w1.alloc (.cells #[.int .i64 s.al, .int .i64 s.st, .slice B1 n1 c1] 25)).alloc (.cells #[.int .i64 t.al, .int .i64 t.st, .slice B2 n2 c2] 25)))
  have HS := hide (fun W (hW : Ext w1 W) => hs1.ext hW)
  have HT := hide (fun W (hW : Ext w1 W) => ht1.ext hW)
  have k1 := b1.cell
  have k2 := b2.cell
  clear hs1 ht1 Hh
  go_wp2_with fail
  generalize (w1.alloc (.cells #[.int .i64 s.al, .int .i64 s.st, .slice B1 n1 c1] 25)).alloc (.cells #[.int .i64 t.al, .int .i64 t.st, .slice B2 n2 c2] 25) = w2 at *
  have HI := hide (fun W (hW : Ext w1 W) => HTab.out _ (hx1.trans hW))
  obtain ⟨b, hb⟩ : ∃ b, Hid (simB true s t = b) := ⟨_, rfl⟩
  have hbb : (b != b) = false := by cases b <;> rfl
  have hbe : (b == b) = true := by cases b <;> rfl
  refine (impl_Bisimilar (HS.out _ hx2) (HT.out _ hx2) (HI.out _ hx2)).mono ?_
  rw [hb.out]
  rintro e w10 ⟨rfl, hx10⟩
  replace hx2 := hx2.trans hx10
  clear k1 k2
  replace b1 := b1.ext hx10
  replace b2 := b2.ext hx10
  have k1 := b1.cell
  have k2 := b2.cell
  go_wp2_with fail
  refine (spec_Bisimilar (HS.out _ hx2) (HT.out _ hx2)).mono ?_
  rw [hb.out]
  rintro e w11 ⟨rfl, hx11⟩
  replace hx2 := hx2.trans hx11
  clear k1 k2
  replace b1 := b1.ext hx11
  replace b2 := b2.ext hx11
  have k1 := b1.cell
  have k2 := b2.cell
  cases b
  · go_wp2_with fail
    refine (spec_Bisimilar (HS.out _ hx2) (HT.out _ hx2)).mono ?_
    rw [hb.out]
    rintro e w12 ⟨rfl, hx12⟩
    replace hx2 := hx2.trans hx12
    clear k1 k2
    replace b1 := b1.ext hx12
    replace b2 := b2.ext hx12
    have k1 := b1.cell
    have k2 := b2.cell
    go_wp2_with fail
    go_ret
    exact ⟨by first | rfl | simp [hbe], hx1.trans hx2⟩
  · have hsame : sameB s t = true := by have := hb.out; unfold simB at this; cases hh : sameB s t <;> simp_all
    obtain ⟨v1, v2, v3⟩ := same_valid hsame
    obtain ⟨p, hp, hp1, hp2, hf⟩ := valid_few v1
    obtain ⟨q, hq, hq1, hq2, hg⟩ := valid_few v2
    obtain ⟨al, hal, hal2⟩ : ∃ al : Nat, s.al = al ∧ al < 64 := ⟨s.al.toNat, by have := (valid_iff.1 v1).1; omega, by have := (valid_iff.1 v1).1; omega⟩
    have hal' : t.al = al := by rw [← v3]; exact hal
    have HD := hide (fun g W lo hi A n c (h : One1 W g lo hi A n c s) (hT : Tab W) => deadlock_one h hT v1 hal hal2 hp hp1 hp2 hf)
    have HE := hide (fun g W lo hi A n c (h : One1 W g lo hi A n c t) (hT : Tab W) => deadlock_one h hT v2 hal' hal2 hq hq1 hq2 hg)
    clear v1 v2 v3 hp hq hf hg hal hal' hsame
    have hb' := hide (bis_symm hb.out)
    go_wp2_with fail
    have hxa := (Ext.refl w11).alloc (.cells #[.int .i64 s.al, .int .i64 s.st, .slice B1 n1 c1] 25)
    have bn := Blk.new w11 25 #[.int .i64 s.al, .int .i64 s.st, .slice B1 n1 c1]
    replace hx2 := hx2.trans hxa
    replace b1 := b1.ext hxa
    replace b2 := b2.ext hxa
    clear k1 k2 hxa
    generalize w11.alloc (.cells #[.int .i64 s.al, .int .i64 s.st, .slice B1 n1 c1] 25) = w20 at *
    refine (HD.out _ _ _ _ _ _ _ ⟨bn, HS.out _ hx2⟩ (HI.out _ hx2)).mono ?_
    rintro e w21 ⟨hx21, hcase⟩
    replace hx2 := hx2.trans hx21
    replace b2 := b2.ext hx21
    have k2 := b2.cell
    rcases hcase with ⟨v, rfl, hF⟩ | ⟨rfl, hF⟩
    · have hD := hide (dead_same hb.out hF)
      clear hF
      go_wp2_with fail
      have hxa := (Ext.refl w21).alloc (.cells #[.int .i64 t.al, .int .i64 t.st, .slice B2 n2 c2] 25)
      have bm := Blk.new w21 25 #[.int .i64 t.al, .int .i64 t.st, .slice B2 n2 c2]
      replace hx2 := hx2.trans hxa
      clear k2 hxa
      generalize w21.alloc (.cells #[.int .i64 t.al, .int .i64 t.st, .slice B2 n2 c2] 25) = w22 at *
      refine (HE.out _ _ _ _ _ _ _ ⟨bm, HT.out _ hx2⟩ (HI.out _ hx2)).mono ?_
      rintro e w23 ⟨hx23, hcase2⟩
      replace hx2 := hx2.trans hx23
      rcases hcase2 with ⟨u, rfl, hF2⟩ | ⟨rfl, hF2⟩
      · obtain rfl := hD.out.2 u (fun l hl => (mem_letters.1 hl).1) hF2
        clear hF2 hD
        go_wp2_with fail
        go_ret
        exact ⟨by first | rfl | simp, hx1.trans hx2⟩
      · exact absurd hF2 hD.out.1
    · have hF' := hide hF
      clear hF
      go_wp2_with fail
      have hxa := (Ext.refl w21).alloc (.cells #[.int .i64 t.al, .int .i64 t.st, .slice B2 n2 c2] 25)
      have bm := Blk.new w21 25 #[.int .i64 t.al, .int .i64 t.st, .slice B2 n2 c2]
      replace hx2 := hx2.trans hxa
      clear k2 hxa
      generalize w21.alloc (.cells #[.int .i64 t.al, .int .i64 t.st, .slice B2 n2 c2] 25) = w22 at *
      refine (HE.out _ _ _ _ _ _ _ ⟨bm, HT.out _ hx2⟩ (HI.out _ hx2)).mono ?_
      rintro e w23 ⟨hx23, hcase2⟩
      replace hx2 := hx2.trans hx23
      rcases hcase2 with ⟨u, rfl, hF2⟩ | ⟨rfl, hF2⟩
      · exact absurd hF'.out (dead_same hb'.out hF2).1
      · clear hF2
        go_wp2_with fail
        go_ret
        exact ⟨by first | rfl | simp, hx1.trans hx2⟩
end Go.Proofs.YtbifoikcmjmdeaaDoor
