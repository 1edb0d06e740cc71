/- The law FnSimulates, walked: it answers true, and leaves all old memory as it was. -/
import Derived.Test.YtbifoikcmjmdeaaDoorZLawSelf
import Derived.Test.YtbifoikcmjmdeaaDoorG10
namespace Go.Proofs.YtbifoikcmjmdeaaDoor
open Go Go.RowKit
set_option maxHeartbeats 2000000

set_option maxRecDepth 100000 in
theorem law_Simulates {A : Option Addr} {n c : Nat} {w : World} (h : Bytes w A n) (hn : n ≤ 9223372036854775807) (hc : n ≤ c) (hc2 : c ≤ 9223372036854775807) (hT : Tab w) :
    Calls Tryd.prog 5 #[.slice A n c] w fun e w' => e = .returned (.bool true) ∧ Ext w w' := by
  have Hh := hide h
  have HTab := hide (fun W (hW : Ext w W) => hT.ext hW)
  clear h hT
  by_cases hbig : 1048576 < n
  · have hbig' : (1048576 : Int) < (n : Int) := by omega
    go_enter Tryd.func5, Tryd.ntmps5
    go_wp2
    go_ret
    exact ⟨rfl, Ext.refl _⟩
  have hbig' : (n : Int) ≤ 1048576 := by omega
  clear hbig
  go_enter Tryd.func5, Tryd.ntmps5
  go_wp2_with fail
  refine (spec_DrawSimulates Hh.out hn hc hc2).mono ?_
  rintro e w1 ⟨s, B1, n1, c1, t, B2, n2, c2, rfl, hs1, ht1, hn1, hn2, hx1⟩
  have hx2 : Ext w1 ((w1.alloc (.cells #[.int .i64 s.al, .int .i64 s.st, .slice B1 n1 c1] 25)).alloc (.cells #[.int .i64 t.al, .int .i64 t.st, .slice B2 n2 c2] 25)) := ((Ext.refl _).alloc _).alloc _
  obtain ⟨b1, b2⟩ := ext_blk2 (Ext.refl ((w1.alloc (.cells #[.int .i64 s.al, .int .i64 s.st, .slice B1 n1 c1] 25)).alloc (.cells #[.int .i64 t.al, .int .i64 t.st, .slice B2 n2 c2] 25)))
  have HS := hide (fun W (hW : Ext w1 W) => hs1.ext hW)
  have HT := hide (fun W (hW : Ext w1 W) => ht1.ext hW)
  have k1 := b1.cell
  have k2 := b2.cell
  clear hs1 ht1 Hh
  go_wp2_with fail
  generalize (w1.alloc (.cells #[.int .i64 s.al, .int .i64 s.st, .slice B1 n1 c1] 25)).alloc (.cells #[.int .i64 t.al, .int .i64 t.st, .slice B2 n2 c2] 25) = w2 at *
  have HI := hide (fun W (hW : Ext w1 W) => HTab.out _ (hx1.trans hW))
  obtain ⟨b, hb⟩ : ∃ b, Hid (simB false s t = b) := ⟨_, rfl⟩
  have hbb : (b != b) = false := by cases b <;> rfl
  have hbe : (b == b) = true := by cases b <;> rfl
  refine (impl_Simulates (HS.out _ hx2) (HT.out _ hx2) (HI.out _ hx2)).mono ?_
  rw [hb.out]
  rintro e w11 ⟨rfl, hx11⟩
  replace hx2 := hx2.trans hx11
  clear k1 k2
  replace b1 := b1.ext hx11
  replace b2 := b2.ext hx11
  have k1 := b1.cell
  have k2 := b2.cell
  go_wp2_with fail
  refine (spec_Simulates (HS.out _ hx2) (HT.out _ hx2)).mono ?_
  rw [hb.out]
  rintro e w12 ⟨rfl, hx12⟩
  replace hx2 := hx2.trans hx12
  clear k1 k2
  replace b1 := b1.ext hx12
  replace b2 := b2.ext hx12
  have k1 := b1.cell
  have k2 := b2.cell
  cases b
  · go_wp2_with fail
    refine (spec_Simulates (HS.out _ hx2) (HT.out _ hx2)).mono ?_
    rw [hb.out]
    rintro e w10 ⟨rfl, hx10⟩
    replace hx2 := hx2.trans hx10
    clear k1 k2
    replace b1 := b1.ext hx10
    replace b2 := b2.ext hx10
    have k1 := b1.cell
    have k2 := b2.cell
    go_wp2_with fail
    go_ret
    exact ⟨by first | rfl | simp [hbe], hx1.trans hx2⟩
  · have htw := hide (sim_within hb.out)
    have hsame : sameB s t = true := by have := hb.out; unfold simB at this; cases hh : sameB s t <;> simp_all
    obtain ⟨v1, v2, -⟩ := same_valid hsame
    obtain ⟨p, hp, hp1, hp2, hf⟩ := valid_few v1
    obtain ⟨q, hq, hq1, hq2, hg⟩ := valid_few v2
    have hG := hide (simR_gfp hsame hp hq)
    have hr0 := hide ((simB_rel2 hsame).1 hb.out)
    have hRe := hide (show simR s t = gfp false s t by unfold simR; rw [if_pos hsame])
    clear v1 v2 hsame hp hf hq hg
    go_wp2_with fail
    refine (impl_TracesWithin (HS.out _ hx2) (HT.out _ hx2) (HI.out _ hx2)).mono ?_
    rw [htw.out]
    rintro e w13 ⟨rfl, hx13⟩
    replace hx2 := hx2.trans hx13
    clear k1 k2
    replace b1 := b1.ext hx13
    replace b2 := b2.ext hx13
    have k1 := b1.cell
    have k2 := b2.cell
    go_wp2_with fail
    refine (impl_SimilarStates (HS.out _ hx2) (HT.out _ hx2) (HI.out _ hx2)).mono ?_
    rintro e w14 ⟨B3, n3, c3, rfl, own3, hx14⟩
    replace hx2 := hx2.trans hx14
    clear k1 k2
    replace b1 := b1.ext hx14
    replace b2 := b2.ext hx14
    have k1 := b1.cell
    have k2 := b2.cell
    have hn3 : n3 = p := own3.1.trans hG.out.len
    obtain ⟨r, hr0'⟩ := get_some (i := 0) own3.1.symm (by omega)
    have hr := hide hr0'
    clear hr0'
    have hrs := gfp_small hq2 hG.out r (List.mem_of_getElem? hr.out)
    have hrb := hide ((rel_iff hr.out 0).2 (by rw [hRe.out]; exact hr0.out))
    obtain ⟨g3, rfl⟩ : ∃ g3, B3 = some ⟨g3, 0, none⟩ := by
      rcases own3.2.2 with ⟨_, hh⟩ | ⟨g, cap, cur, hv, _⟩
      · omega
      · exact ⟨g, by injection hv⟩
    have hc0 := own3.2.cellAt 0 (by omega)
    rw [show (nats (simR s t))[0]? = some (.int .i64 (r : Nat)) by simp [nats, hr.out]] at hc0
    have hpos : (0 : Int) < (n3 : Int) := by omega
    go_wp2_with (go_at_call 19; refine (agHas_any r 0 hrs _ (by omega)).mono ?_; rw [hrb.out]; rintro e w' ⟨rfl, rfl⟩)
    go_ret
    exact ⟨rfl, hx1.trans hx2⟩
end Go.Proofs.YtbifoikcmjmdeaaDoor
