/- The law FnQuotient, walked: it answers true, and leaves all old memory as it was. -/
import Derived.Test.YtmlembcpamchjaaDoorZLawSelf
import Derived.Test.YtmlembcpamchjaaDoorG13
import Derived.Test.YtmlembcpamchjaaDoorG14
namespace Go.Proofs.YtmlembcpamchjaaDoor
open Go Go.RowKit
set_option maxHeartbeats 4000000

theorem sys_none' (w : World) : SysAt w w.heap.size w.heap.size none 0 ⟨0, 0, []⟩ := ⟨rfl, rfl, by omega, fun h => absurd h (by omega)⟩
theorem cls_get {s : Sys} {p : Nat} (hv : sysValid s = true) (hp : s.st = p) : (clsR s).length = p ∧ ∀ i, i < p → (clsR s)[i]? = some (cl (gfp true s s) i) := by
  have hcl : clsR s = (clsOf (gfp true s s) p).1 := by unfold clsR; rw [if_pos hv, hp]; rfl
  have hlen : (clsR s).length = p := by rw [hcl, clsOf_length]
  refine ⟨hlen, fun i hi => ?_⟩
  have h1 := clsOf_get (R := gfp true s s) hi
  rw [← hcl, List.getD_eq_getElem?_getD, List.getElem?_eq_getElem (by rw [hlen]; exact hi)] at h1
  rw [List.getElem?_eq_getElem (by rw [hlen]; exact hi)]
  exact congrArg some h1
theorem great_num {s : Sys} {p m : Nat} (hv : sysValid s = true) (hp : s.st = p) (hm : (m ∈ clsR s ∨ m = 0) ∧ ∀ x ∈ clsR s, x ≤ m) : (quoS s).st = (m : Int) + 1 := by
  have hQ := quo_spec hv hp
  obtain ⟨hlen, hget⟩ := cls_get hv hp
  have h1 := hQ.one
  have h16 := hQ.hp2
  have hN := hQ.num
  obtain ⟨j, hj, hjc⟩ := hQ.eqv.cl_onto (by omega) p (Nat.le_refl _) ((clsOf (gfp true s s) p).2 - 1) (by omega)
  have h4 := hm.2 _ (List.mem_of_getElem? (hget j hj))
  have h5 : m < (clsOf (gfp true s s) p).2 := by
    rcases hm.1 with h | h
    · obtain ⟨i, hi⟩ := List.getElem?_of_mem h
      have hip : i < p := by rw [← hlen]; exact (List.getElem?_eq_some_iff.1 hi).1
      rw [hget i hip] at hi
      have := hQ.eqv.cl_num (by omega) hip
      have := Option.some.inj hi
      omega
    · omega
  rw [hQ.st]
  omega
set_option maxRecDepth 100000 in
theorem law_Quotient {A : Option Addr} {n c : Nat} {w : World} (h : Bytes w A n) (hn : n ≤ 9223372036854775807) (hc : n ≤ c) (hc2 : c ≤ 9223372036854775807) (hT : Tab w) :
    Calls Tryd.prog 4 #[.slice A n c] w fun e w' => e = .returned (.bool true) ∧ Ext w w' := by
  have Hh := hide h
  have HTab := hide (fun W (hW : Ext w W) => hT.ext hW)
  clear h hT
  by_cases hbig : 1048576 < n
  · have hbig' : (1048576 : Int) < (n : Int) := by omega
    go_enter Tryd.func4, Tryd.ntmps4
    go_wp2
    go_ret
    exact ⟨rfl, Ext.refl _⟩
  have hbig' : (n : Int) ≤ 1048576 := by omega
  clear hbig
  go_enter Tryd.func4, Tryd.ntmps4
  go_wp2_with fail
  refine (spec_DrawQuotientSystem Hh.out hn hc hc2).mono ?_
  rintro e w1 ⟨s, B1, n1, c1, rfl, hs1, hn1, hx1⟩
  have hx2 := (Ext.refl w1).alloc (.cells #[.int .i64 s.al, .int .i64 s.st, .slice B1 n1 c1] 28)
  have b1 := Blk.new w1 28 #[.int .i64 s.al, .int .i64 s.st, .slice B1 n1 c1]
  have HS := hide (fun W (hW : Ext w1 W) => hs1.ext hW)
  have hsl := hide hs1.1
  have k1 := b1.cell
  clear hs1 Hh
  go_wp2_with fail
  generalize w1.alloc (.cells #[.int .i64 s.al, .int .i64 s.st, .slice B1 n1 c1] 28) = w2 at *
  generalize w1.heap.size = G3 at *
  have HI := hide (fun W (hW : Ext w1 W) => HTab.out _ (hx1.trans hW))
  cases hv : sysValid s
  · have Hv := hide hv
    clear hv
    refine (impl_QuotientSystem_not (HS.out _ hx2) Hv.out).mono ?_
    rintro e w3 ⟨rfl, hx3⟩
    clear k1
    have k1 := (b1.ext hx3).cell
    go_upto_region 5 with fail
    have hxa := (Ext.refl w3).alloc (.cells #[.int .i64 0, .int .i64 0, .slice none 0 0] 28)
    have b4 := Blk.new w3 28 #[.int .i64 0, .int .i64 0, .slice none 0 0]
    replace b1 := b1.ext (hx3.trans hxa)
    replace hx2 := (hx2.trans hx3).trans hxa
    clear k1 hxa
    generalize w3.alloc (.cells #[.int .i64 0, .int .i64 0, .slice none 0 0] 28) = w4 at *
    generalize w3.heap.size = G4 at *
    have k1 := b1.cell
    go_wp2_with fail
    refine (spec_QuotientSystem_not (HS.out _ hx2) Hv.out).mono ?_
    rintro e w5 ⟨rfl, hx5⟩
    go_upto_region 6 with fail
    have hxa := (Ext.refl w5).alloc (.cells #[.int .i64 0, .int .i64 0, .slice none 0 0] 28)
    have b6 := Blk.new w5 28 #[.int .i64 0, .int .i64 0, .slice none 0 0]
    replace b4 := b4.ext (hx5.trans hxa)
    replace b1 := b1.ext (hx5.trans hxa)
    replace hx2 := (hx2.trans hx5).trans hxa
    clear k1 hxa
    generalize w5.alloc (.cells #[.int .i64 0, .int .i64 0, .slice none 0 0] 28) = w6 at *
    generalize w5.heap.size = G6 at *
    have k4 := b4.cell
    have k6 := b6.cell
    go_wp2_with fail
    refine (agSystems_same (c := 0) (d := 0) (sys_none' w6) (sys_none' w6)).mono ?_
    rintro e w7 ⟨rfl, hx7⟩
    clear k4 k6
    have k3 := (b1.ext hx7).cell
    have k4 := (b4.ext hx7).cell
    have k6 := (b6.ext hx7).cell
    go_wp2_with fail
    refine (impl_SystemValid (HS.out _ (hx2.trans hx7))).mono ?_
    rw [Hv.out]
    rintro e w8 ⟨rfl, hx8⟩
    clear k3 k4 k6
    have k3 := (b1.ext (hx7.trans hx8)).cell
    have k4 := (b4.ext (hx7.trans hx8)).cell
    have k6 := (b6.ext (hx7.trans hx8)).cell
    go_wp2_with fail
    refine (agSystems_same (c := 0) (d := 0) (sys_none' w8) (sys_none' w8)).mono ?_
    rintro e w9 ⟨rfl, hx9⟩
    clear k3
    have k3 := (b1.ext ((hx7.trans hx8).trans hx9)).cell
    go_wp2_with fail
    refine (impl_SystemValid (HS.out _ (((hx2.trans hx7).trans hx8).trans hx9))).mono ?_
    rw [Hv.out]
    rintro e w10 ⟨rfl, hx10⟩
    go_wp2_with fail
    go_ret
    exact ⟨rfl, ((((hx1.trans hx2).trans hx7).trans hx8).trans hx9).trans hx10⟩
  · obtain ⟨p, hp, hp1, hp2, _⟩ := valid_few hv
    have hQ := quo_spec hv hp
    have hb := quo_bis hv
    have hgn := hide (fun m hm => great_num (m := m) hv hp hm)
    have hcg := hide (cls_get hv hp).1
    have hcs := hide (show ∀ x ∈ clsR s, x < 32 from fun x hx => by
      obtain ⟨i, hi⟩ := List.getElem?_of_mem hx
      have hip : i < p := by rw [← (cls_get hv hp).1]; exact (List.getElem?_eq_some_iff.1 hi).1
      rw [(cls_get hv hp).2 i hip] at hi
      have := cl_lt hQ.eqv (by omega) hip
      have := Option.some.inj hi
      omega)
    have hqq := hide (quo_quo hv)
    have hqv := hide (hQ.valid hv)
    have Hb := hide hb
    have Hv := hide hv
    clear hv hp hQ hb
    refine (impl_QuotientSystem (HS.out _ hx2) (HI.out _ hx2) Hv.out (by omega)).mono ?_
    rintro e w3 ⟨A3, n3, c3, rfl, hq3, hn3, hx3⟩
    clear k1
    have k1 := (b1.ext hx3).cell
    have hspec := hide (fun W (hW : Ext w1 W) => spec_QuotientSystem (c := c1) (HS.out W hW) Hv.out)
    unfold RetQs at hspec
    generalize quoS s = u at *
    go_upto_region 5 with fail
    have hxa := (Ext.refl w3).alloc (.cells #[.int .i64 u.al, .int .i64 u.st, .slice A3 n3 c3] 28)
    have b4 := Blk.new w3 28 #[.int .i64 u.al, .int .i64 u.st, .slice A3 n3 c3]
    replace b1 := b1.ext (hx3.trans hxa)
    replace hq3 := hq3.ext hxa
    replace hx2 := (hx2.trans hx3).trans hxa
    clear k1 hxa
    generalize w3.alloc (.cells #[.int .i64 u.al, .int .i64 u.st, .slice A3 n3 c3] 28) = w4 at *
    generalize w3.heap.size = G4 at *
    have k1 := b1.cell
    go_wp2_with fail
    refine (hspec.out _ hx2).mono ?_
    rintro e w5 ⟨A5, n5, c5, rfl, hq5, hx5⟩
    go_upto_region 6 with fail
    have hxa := (Ext.refl w5).alloc (.cells #[.int .i64 u.al, .int .i64 u.st, .slice A5 n5 c5] 28)
    have b6 := Blk.new w5 28 #[.int .i64 u.al, .int .i64 u.st, .slice A5 n5 c5]
    replace b4 := b4.ext (hx5.trans hxa)
    replace b1 := b1.ext (hx5.trans hxa)
    replace hq3 := hq3.ext (hx5.trans hxa)
    replace hq5 := hq5.ext hxa
    replace hx2 := (hx2.trans hx5).trans hxa
    clear k1 hxa
    generalize w5.alloc (.cells #[.int .i64 u.al, .int .i64 u.st, .slice A5 n5 c5] 28) = w6 at *
    generalize w5.heap.size = G6 at *
    have k4 := b4.cell
    have k6 := b6.cell
    go_wp2_with fail
    refine (agSystems_same hq3 hq5).mono ?_
    rintro e w7 ⟨rfl, hx7⟩
    replace hx2 := hx2.trans hx7
    replace hq3 := hq3.ext hx7
    replace b1 := b1.ext hx7
    replace b4 := b4.ext hx7
    clear k4 k6
    have k1 := b1.cell
    have k4 := b4.cell
    go_wp2_with fail
    refine (impl_SystemValid (HS.out _ hx2)).mono ?_
    rw [Hv.out]
    rintro e w8 ⟨rfl, hx8⟩
    replace hx2 := hx2.trans hx8
    replace hq3 := hq3.ext hx8
    replace b1 := b1.ext hx8
    replace b4 := b4.ext hx8
    clear k1 k4
    have k1 := b1.cell
    have k4 := b4.cell
    go_wp2_with fail
    refine (impl_QuotientSystem hq3 (HI.out _ hx2) hqv.out (by have := hsl.out; omega)).mono ?_
    unfold RetQ
    rw [hqq.out]
    rintro e w9 ⟨A9, n9, c9, rfl, hq9, _, hx9⟩
    clear k1 k4
    go_upto_region 9 with fail
    have hxa := (Ext.refl w9).alloc (.cells #[.int .i64 u.al, .int .i64 u.st, .slice A9 n9 c9] 28)
    have b8 := Blk.new w9 28 #[.int .i64 u.al, .int .i64 u.st, .slice A9 n9 c9]
    replace b4 := b4.ext (hx9.trans hxa)
    replace b1 := b1.ext (hx9.trans hxa)
    replace hq3 := hq3.ext (hx9.trans hxa)
    replace hq9 := hq9.ext hxa
    replace hx2 := (hx2.trans hx9).trans hxa
    clear hxa
    generalize w9.alloc (.cells #[.int .i64 u.al, .int .i64 u.st, .slice A9 n9 c9] 28) = w10 at *
    generalize w9.heap.size = G8 at *
    have k1 := b1.cell
    go_wp2_with fail
    refine (impl_BisimClasses (HS.out _ hx2) (HI.out _ hx2)).mono ?_
    rintro e w11 ⟨Ac, nc, cc, rfl, ⟨hnc, hownc⟩, hx11⟩
    have Hnc := hide hnc
    clear hnc
    replace hx2 := hx2.trans hx11
    replace b1 := b1.ext hx11
    replace b4 := b4.ext hx11
    replace b8 := b8.ext hx11
    replace hq3 := hq3.ext hx11
    replace hq9 := hq9.ext hx11
    have hIc := IntsAt.own hownc
    have hnc16 : nc ≤ 16 := by rw [Hnc.out, hcg.out]; exact hp2
    clear k1 hownc
    generalize clsR s = xs at *
    go_wp2_with fail
    go_loopw [11, 12] (fun vm vi wr => ∃ k m : Nat, k ≤ nc ∧ vi = .int .i64 k ∧ vm = .int .i64 m ∧ m < 32 ∧ Hid ((m ∈ xs ∨ m = 0) ∧ ∀ x ∈ xs.take k, x ≤ m) ∧ Ext w11 wr) (fun _ vi _ => nc - (intOf vi).toNat)
    case atStart => exact ⟨0, 0, Nat.zero_le _, rfl, rfl, by omega, (show Hid _ from ⟨Or.inr rfl, fun x hx => by simp at hx⟩), Ext.refl _⟩
    case round =>
      obtain ⟨k, m, hk, rfl, rfl, hm, hG, hxr⟩ := hrel
      by_cases hlt : k < nc
      · obtain ⟨ga, oa, x, rfl, hx, hcx⟩ := (hIc.ext hxr).at_ hlt
        have hxs := hcs.out x (List.mem_of_getElem? hx.out)
        have htk := hide (show xs.take (k + 1) = xs.take k ++ [x] by rw [List.take_add_one, hx.out]; rfl)
        have hkc : (k : Int) < (nc : Int) := by omega
        by_cases hmx : m < x
        · have hG2 := hide (show (x ∈ xs ∨ x = 0) ∧ ∀ y ∈ xs.take (k + 1), y ≤ x from ⟨Or.inl (List.mem_of_getElem? hx.out), fun y hy => by
            rw [htk.out] at hy
            rcases List.mem_append.1 hy with h | h
            · have := hG.out.2 y h; omega
            · rw [List.mem_singleton.1 h]; exact Nat.le_refl _⟩)
          have hmc : (m : Int) < (x : Int) := by omega
          clear hG
          go_wp2_with fail
          go_roundw
          case rel => exact ⟨k + 1, x, by omega, by go_num, rfl, hxs, hG2, hxr⟩
          case measure => simp [intOf]; omega
        · have hG2 := hide (show (m ∈ xs ∨ m = 0) ∧ ∀ y ∈ xs.take (k + 1), y ≤ m from ⟨hG.out.1, fun y hy => by
            rw [htk.out] at hy
            rcases List.mem_append.1 hy with h | h
            · exact hG.out.2 y h
            · rw [List.mem_singleton.1 h]; omega⟩)
          have hmc : ¬ (m : Int) < (x : Int) := by omega
          clear hG
          go_wp2_with fail
          go_roundw
          case rel => exact ⟨k + 1, m, by omega, by go_num, rfl, hm, hG2, hxr⟩
          case measure => simp [intOf]; omega
      · obtain rfl : k = nc := by omega
        have hst := hide (hgn.out m (by have h1 := hG.out; rwa [List.take_of_length_le (by rw [Hnc.out]; exact Nat.le_refl _)] at h1))
        replace hx2 := hx2.trans hxr
        replace b1 := b1.ext hxr
        replace b4 := b4.ext hxr
        replace b8 := b8.ext hxr
        replace hq3 := hq3.ext hxr
        replace hq9 := hq9.ext hxr
        have k4 := b4.cell
        have k8 := b8.cell
        go_wp2_with fail
        refine (agSystems_same hq3 hq9).mono ?_
        rintro e w13 ⟨rfl, hx13⟩
        replace hx2 := hx2.trans hx13
        replace hq3 := hq3.ext hx13
        clear k4 k8
        have k1 := (b1.ext hx13).cell
        have k4 := (b4.ext hx13).cell
        go_wp2_with fail
        refine (impl_Bisimilar (HS.out _ hx2) hq3 (HI.out _ hx2)).mono ?_
        rw [Hb.out]
        rintro e w14 ⟨rfl, hx14⟩
        clear k1 k4
        have b44 := (b4.ext hx13).ext hx14
        rw [hst.out] at b44
        have k4 := b44.cell
        go_wp2_with fail
        go_ret
        exact ⟨by first | rfl | simp, (hx1.trans hx2).trans hx14⟩
end Go.Proofs.YtmlembcpamchjaaDoor
