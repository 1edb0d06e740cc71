/- The law FnQuotientTraces, walked: it answers true, and leaves all old memory as it was. -/
import Derived.Test.YtmlembcpamchjaaDoorZLawSelf
import Derived.Test.YtmlembcpamchjaaDoorG13
import Derived.Test.YtmlembcpamchjaaDoorG14
namespace Go.Proofs.YtmlembcpamchjaaDoor
open Go Go.RowKit
set_option maxHeartbeats 4000000

theorem sys_none (w : World) : SysAt w w.heap.size w.heap.size none 0 ⟨0, 0, []⟩ := ⟨rfl, rfl, by omega, fun h => absurd h (by omega)⟩
set_option maxRecDepth 100000 in
theorem law_QuotientTraces {A : Option Addr} {n c : Nat} {w : World} (h : Bytes w A n) (hn : n ≤ 9223372036854775807) (hc : n ≤ c) (hc2 : c ≤ 9223372036854775807) (hT : Tab w) :
    Calls Tryd.prog 6 #[.slice A n c] w fun e w' => e = .returned (.bool true) ∧ Ext w w' := by
  have Hh := hide h
  have HTab := hide (fun W (hW : Ext w W) => hT.ext hW)
  clear h hT
  by_cases hbig : 1048576 < n
  · have hbig' : (1048576 : Int) < (n : Int) := by omega
    go_enter Tryd.func6, Tryd.ntmps6
    go_wp2
    go_ret
    exact ⟨rfl, Ext.refl _⟩
  have hbig' : (n : Int) ≤ 1048576 := by omega
  clear hbig
  go_enter Tryd.func6, Tryd.ntmps6
  go_wp2_with fail
  refine (spec_DrawQuotientSystem Hh.out hn hc hc2).mono ?_
  rintro e w1 ⟨s, B1, n1, c1, rfl, hs1, hn1, hx1⟩
  have hx2 := (Ext.refl w1).alloc (.cells #[.int .i64 s.al, .int .i64 s.st, .slice B1 n1 c1] 28)
  have b1 := Blk.new w1 28 #[.int .i64 s.al, .int .i64 s.st, .slice B1 n1 c1]
  have HS := hide (fun W (hW : Ext w1 W) => hs1.ext hW)
  have hsl := hide hs1.1
  have k1 := b1.cell
  clear hs1 Hh
  go_wp2_with fail
  generalize w1.alloc (.cells #[.int .i64 s.al, .int .i64 s.st, .slice B1 n1 c1] 28) = w2 at *
  generalize w1.heap.size = G3 at *
  have HI := hide (fun W (hW : Ext w1 W) => HTab.out _ (hx1.trans hW))
  cases hv : sysValid s
  · have Hv := hide hv
    clear hv
    refine (impl_QuotientSystem_not (HS.out _ hx2) Hv.out).mono ?_
    rintro e w3 ⟨rfl, hx3⟩
    clear k1
    have k1 := (b1.ext hx3).cell
    go_upto_region 5 with fail
    have hxa := (Ext.refl w3).alloc (.cells #[.int .i64 0, .int .i64 0, .slice none 0 0] 28)
    have b4 := Blk.new w3 28 #[.int .i64 0, .int .i64 0, .slice none 0 0]
    replace b1 := b1.ext (hx3.trans hxa)
    replace hx2 := (hx2.trans hx3).trans hxa
    clear k1 hxa
    generalize w3.alloc (.cells #[.int .i64 0, .int .i64 0, .slice none 0 0] 28) = w4 at *
    generalize w3.heap.size = G4 at *
    have k1 := b1.cell
    go_wp2_with fail
    refine (spec_QuotientSystem_not (HS.out _ hx2) Hv.out).mono ?_
    rintro e w5 ⟨rfl, hx5⟩
    go_upto_region 6 with fail
    have hxa := (Ext.refl w5).alloc (.cells #[.int .i64 0, .int .i64 0, .slice none 0 0] 28)
    have b6 := Blk.new w5 28 #[.int .i64 0, .int .i64 0, .slice none 0 0]
    replace b4 := b4.ext (hx5.trans hxa)
    replace hx2 := (hx2.trans hx5).trans hxa
    clear k1 hxa
    generalize w5.alloc (.cells #[.int .i64 0, .int .i64 0, .slice none 0 0] 28) = w6 at *
    generalize w5.heap.size = G6 at *
    have k4 := b4.cell
    have k6 := b6.cell
    go_wp2_with fail
    refine (agSystems_same (c := 0) (d := 0) (sys_none w6) (sys_none w6)).mono ?_
    rintro e w7 ⟨rfl, hx7⟩
    clear k4 k6
    have k4 := (b4.ext hx7).cell
    have k6 := (b6.ext hx7).cell
    go_wp2_with fail
    refine (agSystems_same (c := 0) (d := 0) (sys_none w7) (sys_none w7)).mono ?_
    rintro e w8 ⟨rfl, hx8⟩
    go_wp2_with fail
    go_ret
    exact ⟨rfl, ((hx1.trans hx2).trans hx7).trans hx8⟩
  · obtain ⟨p, hp, hp1, hp2, _⟩ := valid_few hv
    have hQ := quo_spec hv hp
    have hstle := hide (show (quoS s).st ≤ s.st by rw [hQ.st, hp]; have := hQ.le; omega)
    have hb := quo_bis hv
    have hw := hide (show (withinB s (quoS s) && withinB (quoS s) s) = true by rw [sim_within (bis_weak hb), sim_within (bis_weak (bis_symm hb))]; rfl)
    have hdet := hide (fun (hd : Det s.edges) => (show sysValid (quoS s) = true ∧ Det (quoS s).edges from ⟨hQ.valid hv, quo_det hv hd⟩))
    have Hv := hide hv
    clear hv hp hQ hb
    refine (impl_QuotientSystem (HS.out _ hx2) (HI.out _ hx2) Hv.out (by omega)).mono ?_
    rintro e w3 ⟨A3, n3, c3, rfl, hq3, hn3, hx3⟩
    clear k1
    have k1 := (b1.ext hx3).cell
    have hspec := hide (fun W (hW : Ext w1 W) => spec_QuotientSystem (c := c1) (HS.out W hW) Hv.out)
    unfold RetQs at hspec
    generalize quoS s = u at *
    go_upto_region 5 with fail
    have hxa := (Ext.refl w3).alloc (.cells #[.int .i64 u.al, .int .i64 u.st, .slice A3 n3 c3] 28)
    have b4 := Blk.new w3 28 #[.int .i64 u.al, .int .i64 u.st, .slice A3 n3 c3]
    replace b1 := b1.ext (hx3.trans hxa)
    replace hq3 := hq3.ext hxa
    replace hx2 := (hx2.trans hx3).trans hxa
    clear k1 hxa
    generalize w3.alloc (.cells #[.int .i64 u.al, .int .i64 u.st, .slice A3 n3 c3] 28) = w4 at *
    generalize w3.heap.size = G4 at *
    have k1 := b1.cell
    go_wp2_with fail
    refine (hspec.out _ hx2).mono ?_
    rintro e w5 ⟨A5, n5, c5, rfl, hq5, hx5⟩
    go_upto_region 6 with fail
    have hxa := (Ext.refl w5).alloc (.cells #[.int .i64 u.al, .int .i64 u.st, .slice A5 n5 c5] 28)
    have b6 := Blk.new w5 28 #[.int .i64 u.al, .int .i64 u.st, .slice A5 n5 c5]
    replace b4 := b4.ext (hx5.trans hxa)
    replace b1 := b1.ext (hx5.trans hxa)
    replace hq3 := hq3.ext (hx5.trans hxa)
    replace hq5 := hq5.ext hxa
    replace hx2 := (hx2.trans hx5).trans hxa
    clear k1 hxa
    generalize w5.alloc (.cells #[.int .i64 u.al, .int .i64 u.st, .slice A5 n5 c5] 28) = w6 at *
    generalize w5.heap.size = G6 at *
    have k4 := b4.cell
    have k6 := b6.cell
    go_wp2_with fail
    refine (agSystems_same hq3 hq5).mono ?_
    rintro e w7 ⟨rfl, hx7⟩
    replace hx2 := hx2.trans hx7
    replace hq3 := hq3.ext hx7
    replace b1 := b1.ext hx7
    replace b4 := b4.ext hx7
    clear k4 k6
    have k1 := b1.cell
    have k4 := b4.cell
    go_wp2_with fail
    refine (impl_SameTraces (HS.out _ hx2) hq3 (HI.out _ hx2)).mono ?_
    rw [hw.out]
    rintro e w8 ⟨rfl, hx8⟩
    replace hx2 := hx2.trans hx8
    replace hq3 := hq3.ext hx8
    replace b1 := b1.ext hx8
    replace b4 := b4.ext hx8
    clear k1 k4
    have k1 := b1.cell
    have k4 := b4.cell
    have hle1 := hstle.out
    have hle2 : (n3 : Int) ≤ (n1 : Int) := by have := hsl.out; omega
    go_wp2_with fail
    refine (impl_IsDeterministic (HS.out _ hx2) (HI.out _ hx2)).mono ?_
    rintro e w9 ⟨bd, rfl, hbd, hx9⟩
    replace hx2 := hx2.trans hx9
    replace hq3 := hq3.ext hx9
    clear k1 k4
    have k4 := (b4.ext hx9).cell
    cases bd
    · go_wp2_with fail
      go_ret
      exact ⟨by first | rfl | simp, hx1.trans hx2⟩
    · have hdd := hide (hdet.out (hbd.out.1 rfl).2)
      clear hbd
      go_wp2_with fail
      refine (impl_IsDeterministic hq3 (HI.out _ hx2)).mono ?_
      rintro e w10 ⟨bd', rfl, hbd', hx10⟩
      obtain rfl : bd' = true := hbd'.out.2 hdd.out
      clear hbd'
      go_wp2_with fail
      go_ret
      exact ⟨by first | rfl | simp, (hx1.trans hx2).trans hx10⟩
end Go.Proofs.YtmlembcpamchjaaDoor
