/- The law FnBisimilarCompose, walked: it answers true, and leaves all old memory as it was. -/
import Derived.Test.YtcmgkekaeafgaaaDoorG13
import Derived.Test.YtcmgkekaeafgaaaDoorZLawSelf
namespace Go.Proofs.YtcmgkekaeafgaaaDoor
open Go Go.RowKit
set_option maxHeartbeats 2000000

set_option maxRecDepth 100000 in
theorem impl_ComposeSystems_not {lo hi lo' hi' n c m d : Nat} {A B : Option Addr} {s u : Sys} {w : World} (h : SysAt w lo hi A n s) (h' : SysAt w lo' hi' B m u) (hvs : sysValid s = true) (hvu : sysValid u = false) :
    Calls Tryd.prog 14 #[.agg #[.int .i64 s.al, .int .i64 s.st, .slice A n c], .agg #[.int .i64 u.al, .int .i64 u.st, .slice B m d]] w fun e w' => e = .returned (.tuple #[.agg #[.int .i64 0, .int .i64 0, .slice none 0 0], .bool false]) ∧ Ext w w' := by
  have HS := hide (fun W (hW : Ext w W) => h.ext hW)
  have HU := hide (fun W (hW : Ext w W) => h'.ext hW)
  have Hvs := hide hvs
  have Hvu := hide hvu
  clear h h' hvs hvu
  go_enter Tryd.func14, Tryd.ntmps14
  obtain ⟨b1, b2, bz⟩ := ext_blk3 (Ext.refl (((w.alloc (.cells #[.int .i64 s.al, .int .i64 s.st, .slice A n c] 25)).alloc (.cells #[.int .i64 u.al, .int .i64 u.st, .slice B m d] 25)).alloc (.cells #[.int .i64 0, .int .i64 0, .slice none 0 0] 25)))
  have hw2 : Ext w (((w.alloc (.cells #[.int .i64 s.al, .int .i64 s.st, .slice A n c] 25)).alloc (.cells #[.int .i64 u.al, .int .i64 u.st, .slice B m d] 25)).alloc (.cells #[.int .i64 0, .int .i64 0, .slice none 0 0] 25)) := (((Ext.refl w).alloc _).alloc _).alloc _
  have k1 := b1.cell
  have k2 := b2.cell
  go_upto_region 1 with fail
  generalize ((w.alloc (.cells #[.int .i64 s.al, .int .i64 s.st, .slice A n c] 25)).alloc (.cells #[.int .i64 u.al, .int .i64 u.st, .slice B m d] 25)).alloc (.cells #[.int .i64 0, .int .i64 0, .slice none 0 0] 25) = w2 at *
  go_wp2_with fail
  refine (impl_SystemValid (HS.out _ hw2)).mono ?_
  rw [Hvs.out]
  rintro e w3 ⟨rfl, hx3⟩
  replace b2 := b2.ext hx3
  replace bz := bz.ext hx3
  replace hw2 := hw2.trans hx3
  clear k1 k2
  have k2 := b2.cell
  go_wp2_with fail
  refine (impl_SystemValid (HU.out _ hw2)).mono ?_
  rw [Hvu.out]
  rintro e w4 ⟨rfl, hx4⟩
  replace bz := bz.ext hx4
  replace hw2 := hw2.trans hx4
  clear k2 hx3 hx4 b1 b2
  have cZ := bz.cell
  have fZ := bz.frozen
  have hfl := fillC_frm w4 (w.heap.size + 1 + 1) (.int .i64 0) (.int .i64 0) (.slice none 0 0)
  have hbf := fillC_blk bz rfl (.int .i64 0) (.int .i64 0) (.slice none 0 0)
  have hxf := hw2.frm hfl (fun k hk e => by omega)
  go_wp2_with fail
  generalize ((w4.setCell ⟨w.heap.size + 1 + 1, 0, none⟩ (.int .i64 0)).setCell ⟨w.heap.size + 1 + 1, 1, none⟩ (.int .i64 0)).setCell ⟨w.heap.size + 1 + 1, 2, none⟩ (.slice none 0 0) = wf at *
  have cf := hbf.cell
  exact bodyPost_ret (v := .tuple #[.agg #[.int .i64 0, .int .i64 0, .slice none 0 0], .bool false]) (by simp [results, Tryd.results14, go_sem, cf]) rfl ⟨rfl, hxf⟩
/-- What the composition of a valid system with another comes to: a system, and whether there is one. -/
def RetCX (w : World) (s u : Sys) (e : Ending) (w' : World) : Prop :=
  ∃ (x : Sys) (A : Option Addr) (n c : Nat) (ok : Bool), e = .returned (.tuple #[.agg #[.int .i64 x.al, .int .i64 x.st, .slice A n c], .bool ok]) ∧ (ok = true → Hid (CompOf s u u.st.toNat x ∧ 1 ≤ u.st.toNat)) ∧ SysAt w' w.heap.size w'.heap.size A n x ∧ Ext w w'
theorem impl_ComposeX {lo hi lo' hi' n c m d : Nat} {A B : Option Addr} {s u : Sys} {w : World} (h : SysAt w lo hi A n s) (h' : SysAt w lo' hi' B m u) (hT : Tab w) (hvs : sysValid s = true) :
    Calls Tryd.prog 14 #[.agg #[.int .i64 s.al, .int .i64 s.st, .slice A n c], .agg #[.int .i64 u.al, .int .i64 u.st, .slice B m d]] w (RetCX w s u) := by
  have hno : ∀ w', Ext w w' → RetCX w s u (.returned (.tuple #[.agg #[.int .i64 0, .int .i64 0, .slice none 0 0], .bool false])) w' := fun w' hx =>
    ⟨⟨0, 0, []⟩, none, 0, 0, false, rfl, (fun h => by cases h), ⟨rfl, Reads.nil⟩, hx⟩
  cases hvu : sysValid u
  · refine (impl_ComposeSystems_not h h' hvs hvu).mono ?_
    rintro e w' ⟨rfl, hx⟩
    exact hno w' hx
  · refine (impl_ComposeSystems h h' hT hvs hvu).mono ?_
    rintro e w' (⟨rfl, hx⟩ | ⟨x, A', n', c', rfl, hc, hs, hx⟩)
    · exact hno w' hx
    · exact ⟨x, A', n', c', true, rfl, fun _ => hide ⟨hc.out, by have := (sml_valid hvu).1; omega⟩, hs, hx⟩
set_option maxRecDepth 100000 in
theorem law_BisimilarCompose {A : Option Addr} {n c : Nat} {A' : Option Addr} {n' c' : Nat} {w : World} (h : Bytes w A n) (hn : n ≤ 9223372036854775807) (hc : n ≤ c) (hc2 : c ≤ 9223372036854775807) (h' : Bytes w A' n') (hn' : n' ≤ 9223372036854775807) (hc' : n' ≤ c') (hc2' : c' ≤ 9223372036854775807) (hT : Tab w) :
    Calls Tryd.prog 4 #[.slice A n c, .slice A' n' c'] w fun e w' => e = .returned (.bool true) ∧ Ext w w' := by
  have Hh := hide h
  have Hh' := hide (fun W (hW : Ext w W) => h'.ext hW)
  have HTab := hide (fun W (hW : Ext w W) => hT.ext hW)
  clear h h' hT
  by_cases hbig : 1048576 < n
  · have hbig' : (1048576 : Int) < (n : Int) := by omega
    go_enter Tryd.func4, Tryd.ntmps4
    go_wp2
    go_ret
    exact ⟨rfl, Ext.refl _⟩
  have hbig' : (n : Int) ≤ 1048576 := by omega
  by_cases hbig2 : 1048576 < n'
  · have hbig2' : (1048576 : Int) < (n' : Int) := by omega
    clear hbig
    go_enter Tryd.func4, Tryd.ntmps4
    go_wp2
    go_ret
    exact ⟨rfl, Ext.refl _⟩
  have hbig2' : (n' : Int) ≤ 1048576 := by omega
  clear hbig hbig2
  go_enter Tryd.func4, Tryd.ntmps4
  go_wp2_with fail
  refine (spec_DrawBisimilar Hh.out hn hc hc2).mono ?_
  rintro e w1 ⟨s, B1, n1, c1, t, B2, n2, c2, rfl, hs1, ht1, hn1, hn2, hx1⟩
  have hx2 : Ext w1 ((w1.alloc (.cells #[.int .i64 s.al, .int .i64 s.st, .slice B1 n1 c1] 25)).alloc (.cells #[.int .i64 t.al, .int .i64 t.st, .slice B2 n2 c2] 25)) := ((Ext.refl _).alloc _).alloc _
  obtain ⟨b1, b2⟩ := ext_blk2 (Ext.refl ((w1.alloc (.cells #[.int .i64 s.al, .int .i64 s.st, .slice B1 n1 c1] 25)).alloc (.cells #[.int .i64 t.al, .int .i64 t.st, .slice B2 n2 c2] 25)))
  have HS := hide (fun W (hW : Ext w1 W) => hs1.ext hW)
  have HT := hide (fun W (hW : Ext w1 W) => ht1.ext hW)
  have HI := hide (fun W (hW : Ext w1 W) => HTab.out _ (hx1.trans hW))
  have HC := hide (Hh'.out _ (hx1.trans hx2))
  clear hs1 ht1 Hh
  go_upto_region 4 with fail
  generalize (w1.alloc (.cells #[.int .i64 s.al, .int .i64 s.st, .slice B1 n1 c1] 25)).alloc (.cells #[.int .i64 t.al, .int .i64 t.st, .slice B2 n2 c2] 25) = w2 at *
  go_wp2_with fail
  refine (spec_DrawComposeSystems HC.out hn' hc' hc2').mono ?_
  rintro e w3 ⟨u, B3, n3, c3, v, B4, n4, c4, rfl, hu3, -, -, -, hx3⟩
  have hx4 : Ext w3 ((w3.alloc (.cells #[.int .i64 u.al, .int .i64 u.st, .slice B3 n3 c3] 25)).alloc (.cells #[.int .i64 v.al, .int .i64 v.st, .slice B4 n4 c4] 25)) := ((Ext.refl _).alloc _).alloc _
  obtain ⟨b7, -⟩ := ext_blk2 (Ext.refl ((w3.alloc (.cells #[.int .i64 u.al, .int .i64 u.st, .slice B3 n3 c3] 25)).alloc (.cells #[.int .i64 v.al, .int .i64 v.st, .slice B4 n4 c4] 25)))
  have HU := hide (fun W (hW : Ext w3 W) => hu3.ext hW)
  clear hu3 HC
  go_upto_region 5 with fail
  replace b1 := b1.ext (hx3.trans hx4)
  replace b2 := b2.ext (hx3.trans hx4)
  replace hx2 := (hx2.trans hx3).trans hx4
  generalize (w3.alloc (.cells #[.int .i64 u.al, .int .i64 u.st, .slice B3 n3 c3] 25)).alloc (.cells #[.int .i64 v.al, .int .i64 v.st, .slice B4 n4 c4] 25) = w4 at *
  obtain ⟨G7, hG7⟩ : ∃ G, Hid (G = w3.heap.size) := ⟨_, hide rfl⟩
  rw [← hG7.out] at b7 ⊢
  have k1 := b1.cell
  have k2 := b2.cell
  obtain ⟨b, hb⟩ : ∃ b, Hid (simB true s t = b) := ⟨_, rfl⟩
  have hbb : (b != b) = false := by cases b <;> rfl
  have hbe : (b == b) = true := by cases b <;> rfl
  go_wp2_with fail
  refine (impl_Bisimilar (HS.out _ hx2) (HT.out _ hx2) (HI.out _ hx2)).mono ?_
  rw [hb.out]
  rintro e w5 ⟨rfl, hx5⟩
  replace hx2 := hx2.trans hx5
  replace hx4 := hx4.trans hx5
  clear k1 k2
  replace b1 := b1.ext hx5
  replace b2 := b2.ext hx5
  replace b7 := b7.ext hx5
  have k1 := b1.cell
  have k2 := b2.cell
  go_wp2_with fail
  refine (spec_Bisimilar (HS.out _ hx2) (HT.out _ hx2)).mono ?_
  rw [hb.out]
  rintro e w6 ⟨rfl, hx6⟩
  replace hx2 := hx2.trans hx6
  replace hx4 := hx4.trans hx6
  clear k1 k2
  replace b1 := b1.ext hx6
  replace b2 := b2.ext hx6
  replace b7 := b7.ext hx6
  have k1 := b1.cell
  have k2 := b2.cell
  cases b
  · go_wp2_with fail
    refine (spec_Bisimilar (HS.out _ hx2) (HT.out _ hx2)).mono ?_
    rw [hb.out]
    rintro e w7 ⟨rfl, hx7⟩
    go_wp2_with fail
    go_ret
    exact ⟨by first | rfl | simp [hbe], hx1.trans (hx2.trans hx7)⟩
  · have hst := simB_sameC hb.out
    have hvs := hide (same_valid hst).1
    have hvt := hide (same_valid hst).2.1
    clear hst hbb hbe
    have k7 := b7.cell
    go_wp2_with fail
    refine (impl_ComposeX (HS.out _ hx2) (HU.out _ hx4) (HI.out _ hx2) hvs.out).mono ?_
    rintro e w8 ⟨x, A8, n8, c8, ok8, rfl, hc8, hs8, hx8⟩
    have hxa := (Ext.refl w8).alloc (.cells #[.int .i64 x.al, .int .i64 x.st, .slice A8 n8 c8] 25)
    have bx := Blk.new w8 25 #[.int .i64 x.al, .int .i64 x.st, .slice A8 n8 c8]
    clear k1 k2 k7
    replace hx2 := hx2.trans (hx8.trans hxa)
    replace hx4 := hx4.trans (hx8.trans hxa)
    replace b2 := b2.ext (hx8.trans hxa)
    replace b7 := b7.ext (hx8.trans hxa)
    replace hs8 := hs8.ext hxa
    obtain ⟨G8, hG8⟩ : ∃ G, Hid (G = w8.heap.size) := ⟨_, hide rfl⟩
    rw [← hG8.out] at bx
    go_upto_region 9 with fail
    rw [← hG8.out]
    generalize w8.alloc (.cells #[.int .i64 x.al, .int .i64 x.st, .slice A8 n8 c8] 25) = w9 at *
    have k2 := b2.cell
    have k7 := b7.cell
    go_wp2_with fail
    refine (impl_ComposeX (HT.out _ hx2) (HU.out _ hx4) (HI.out _ hx2) hvt.out).mono ?_
    rintro e w10 ⟨y, A10, n10, c10, ok10, rfl, hc10, hs10, hx10⟩
    have hxb := (Ext.refl w10).alloc (.cells #[.int .i64 y.al, .int .i64 y.st, .slice A10 n10 c10] 25)
    have bY := Blk.new w10 25 #[.int .i64 y.al, .int .i64 y.st, .slice A10 n10 c10]
    clear k2 k7
    replace hx2 := hx2.trans (hx10.trans hxb)
    replace bx := bx.ext (hx10.trans hxb)
    replace hs8 := hs8.ext (hx10.trans hxb)
    replace hs10 := hs10.ext hxb
    obtain ⟨G10, hG10⟩ : ∃ G, Hid (G = w10.heap.size) := ⟨_, hide rfl⟩
    rw [← hG10.out] at bY
    go_upto_region 10 with fail
    rw [← hG10.out]
    generalize w10.alloc (.cells #[.int .i64 y.al, .int .i64 y.st, .slice A10 n10 c10] 25) = w11 at *
    have kx := bx.cell
    have kY := bY.cell
    cases ok8
    · go_wp2_with fail
      go_ret
      exact ⟨rfl, hx1.trans hx2⟩
    · cases ok10
      · go_wp2_with fail
        go_ret
        exact ⟨rfl, hx1.trans hx2⟩
      · have hxy := hide (comp_bis hb.out (hc8 rfl).out.2 (hc8 rfl).out.1 (hc10 rfl).out.1)
        go_wp2_with fail
        refine (impl_Bisimilar hs8 hs10 (HI.out _ hx2)).mono ?_
        rw [hxy.out]
        rintro e w12 ⟨rfl, hx12⟩
        go_wp2_with fail
        go_ret
        exact ⟨rfl, hx1.trans (hx2.trans hx12)⟩
end Go.Proofs.YtcmgkekaeafgaaaDoor
