/- The law FnSimilarSelf, walked: it answers true, and leaves all old memory as it was. -/
import Derived.Test.YtddecgjkmdaobaaDoorG07
import Derived.Test.YtddecgjkmdaobaaDoorG08
namespace Go.Proofs.YtddecgjkmdaobaaDoor
open Go Go.RowKit
set_option maxHeartbeats 2000000

theorem sameB_self {s : Sys} (h : sysValid s = true) : sameB s s = true := by simp [sameB, h]
theorem simR_gfp {s t : Sys} {p q : Nat} (h : sameB s t = true) (hp : s.st = p) (hq : t.st = q) : Gfp false s.edges t.edges p q (simR s t) := by
  have := gfp_spec false s t
  rw [hp, hq] at this
  unfold simR
  rw [if_pos h]
  exact this
theorem get_some {R : List Nat} {p i : Nat} (h : R.length = p) (hi : i < p) : ∃ r, R[i]? = some r := ⟨_, List.getElem?_eq_getElem (by omega)⟩
set_option maxRecDepth 100000 in
theorem law_SimilarSelf {A : Option Addr} {n c : Nat} {w : World} (h : Bytes w A n) (hn : n ≤ 9223372036854775807) (hc : n ≤ c) (hc2 : c ≤ 9223372036854775807) (hT : Tab w) :
    Calls Tryd.prog 6 #[.slice A n c] w fun e w' => e = .returned (.bool true) ∧ Ext w w' := by
  have Hh := hide h
  have HTab := hide (fun W (hW : Ext w W) => hT.ext hW)
  clear h hT
  by_cases hbig : 1048576 < n
  · have hbig' : (1048576 : Int) < (n : Int) := by omega
    go_enter Tryd.func6, Tryd.ntmps6
    go_wp2
    go_ret
    exact ⟨rfl, Ext.refl _⟩
  have hbig' : (n : Int) ≤ 1048576 := by omega
  clear hbig
  go_enter Tryd.func6, Tryd.ntmps6
  go_wp2_with fail
  refine (spec_DrawSimilarStates Hh.out hn hc hc2).mono ?_
  rintro e w1 ⟨s, B1, n1, c1, t, B2, n2, c2, rfl, hs1, ht1, hn1, hn2, hx1⟩
  have hx2 : Ext w1 ((w1.alloc (.cells #[.int .i64 s.al, .int .i64 s.st, .slice B1 n1 c1] 25)).alloc (.cells #[.int .i64 t.al, .int .i64 t.st, .slice B2 n2 c2] 25)) := ((Ext.refl _).alloc _).alloc _
  obtain ⟨b1, b2⟩ := ext_blk2 (Ext.refl ((w1.alloc (.cells #[.int .i64 s.al, .int .i64 s.st, .slice B1 n1 c1] 25)).alloc (.cells #[.int .i64 t.al, .int .i64 t.st, .slice B2 n2 c2] 25)))
  have hw2 := hx1.trans hx2
  have HS := hide (fun W (hW : Ext w1 W) => hs1.ext hW)
  have HT := hide (fun W (hW : Ext w1 W) => ht1.ext hW)
  have k1 := b1.cell
  have k2 := b2.cell
  clear hs1 ht1 Hh
  go_wp2_with fail
  generalize (w1.alloc (.cells #[.int .i64 s.al, .int .i64 s.st, .slice B1 n1 c1] 25)).alloc (.cells #[.int .i64 t.al, .int .i64 t.st, .slice B2 n2 c2] 25) = w2 at *
  refine (impl_SimilarStates (HS.out _ hx2) (HT.out _ hx2) (HTab.out _ hw2)).mono ?_
  rintro e w3 ⟨B3, n3, c3, rfl, own3, hx3⟩
  clear k1 k2
  have k1 := (b1.ext hx3).cell
  have k2 := (b2.ext hx3).cell
  go_wp2_with fail
  refine (spec_SimilarStates (HS.out _ (hx2.trans hx3)) (HT.out _ (hx2.trans hx3))).mono ?_
  rintro e w4 ⟨B4, n4, c4, rfl, own4, hx4⟩
  have r3 := (Reads.of_own own3.2).ext hx4
  clear k1 k2
  go_wp2_with fail
  refine (agInts_same r3 (Reads.of_own own4.2)).mono ?_
  rintro e w5 ⟨rfl, hx5⟩
  have hx25 := (hx3.trans hx4).trans hx5
  have k1 := (b1.ext hx25).cell
  have r35 := r3.ext hx5
  cases hv : sysValid s
  · have Hv := hide hv
    clear hv
    go_wp2_with fail
    refine (impl_SystemValid (HS.out _ (hx2.trans hx25))).mono ?_
    rw [Hv.out]
    rintro e w6 ⟨rfl, hx6⟩
    have hx26 := hx25.trans hx6
    clear k1
    have k1 := (b1.ext hx26).cell
    have k2 := (b2.ext hx26).cell
    go_wp2_with fail
    refine (spec_SimilarStates (HS.out _ (hx2.trans hx26)) (HT.out _ (hx2.trans hx26))).mono ?_
    rintro e w7 ⟨B7, n7, c7, rfl, own7, hx7⟩
    clear k1 k2
    go_wp2_with fail
    refine (agInts_same (r35.ext (hx6.trans hx7)) (Reads.of_own own7.2)).mono ?_
    rintro e w8 ⟨rfl, hx8⟩
    go_wp2_with fail
    go_ret
    exact ⟨rfl, ((hw2.trans hx26).trans hx7).trans hx8⟩
  · obtain ⟨p, hp, hp1, hp2, hf⟩ := valid_few hv
    have hG := simR_gfp (sameB_self hv) hp hp
    have hG2 := hide hG
    have hGs := hide (gfp_small hp2 hG)
    have hGl := hide hG.len
    have Hf := hide hf
    have Hp := hide hp
    have Hv := hide hv
    clear hv hp hf hG
    go_wp2_with fail
    refine (impl_SystemValid (HS.out _ (hx2.trans hx25))).mono ?_
    rw [Hv.out]
    rintro e w6 ⟨rfl, hx6⟩
    have hx26 := hx25.trans hx6
    clear k1 r35 r3 own3 own4
    have k1 := (b1.ext hx26).cell
    go_wp2_with fail
    refine (impl_SimilarStates (HS.out _ (hx2.trans hx26)) (HS.out _ (hx2.trans hx26)) (HTab.out _ (hw2.trans hx26))).mono ?_
    rintro e w7 ⟨B7, n7, c7, rfl, own7, hx7⟩
    have hx27 := hx26.trans hx7
    have b17 := b1.ext hx27
    rw [Hp.out] at b17
    have r7 := Reads.of_own own7.2
    have hww := hw2.trans hx27
    obtain rfl : p = n7 := (own7.1.trans hGl.out).symm
    clear k1 own7 hx7 hx26 hx25 hx6 hx5 hx4 hx3 hx27 hx2 hx1 b1 b2 hw2
    go_wp2_with fail
    generalize simR s s = R at *
    go_loopw [7] (fun v wr => ∃ i : Nat, i ≤ p ∧ v = .int .i64 i ∧ Ext w7 wr) (fun v _ => p - (intOf v).toNat)
    case atStart => exact ⟨0, Nat.zero_le _, rfl, Ext.refl _⟩
    case round =>
      obtain ⟨i, hi, rfl, hxr⟩ := hrel
      have k1 := (b17.ext hxr).cell
      by_cases hlt : i < p
      · obtain ⟨ri, hri⟩ := get_some hGl.out hlt
        obtain ⟨ad, rfl, _, _, hci⟩ := (r7.ext hxr).nat2 hri
        have hris := hGs.out ri (List.mem_of_getElem? hri)
        have hrii := hide ((rel_iff hri i).2 (gfp_self Hf.out hG2.out hlt))
        have Hri := hide hri
        clear hri
        go_wp2_with (go_at_call 14; refine (agHas_any ri i hris _ (by omega)).mono ?_; rw [hrii.out]; rintro e w' ⟨rfl, rfl⟩)
        clear k1
        go_loopw [8] (fun v wr => ∃ j : Nat, j ≤ p ∧ v = .int .i64 j ∧ Ext w7 wr) (fun v _ => p - (intOf v).toNat)
        case atStart => exact ⟨0, Nat.zero_le _, rfl, hxr⟩
        case round =>
          clear hci hxr
          obtain ⟨j, hj, rfl, hxr⟩ := hrel
          have k1 := (b17.ext hxr).cell
          by_cases hlj : j < p
          · obtain ⟨rj, hrj⟩ := get_some hGl.out hlj
            obtain ⟨ad', had, _, _, hcj⟩ := (r7.ext hxr).nat2 hrj
            obtain rfl : ad = ad' := by injection had
            obtain ⟨ad', had', _, _, hci⟩ := (r7.ext hxr).nat2 Hri.out
            obtain rfl : ad = ad' := by injection had'
            have hrjs := hGs.out rj (List.mem_of_getElem? hrj)
            have ci : ∀ W, Ext wr W → W.cell? (ad.add i) = some (.int .i64 (ri : Nat)) := fun W hW => hW.cell_some hci
            have cj : ∀ W, Ext wr W → W.cell? (ad.add j) = some (.int .i64 (rj : Nat)) := fun W hW => hW.cell_some hcj
            have hww' := Ext.refl wr
            clear had had' hci hcj
            cases hb : ri.testBit j
            · have Hb := hide hb
              clear hb hrj
              go_wp2_with fail
              refine wp_region_ord (fun X => Ext wr X) [0, 1, 2, 3, 4, 5, 6, 7, 8, 9, 10, 11, 12, 13, 14, 15, 16, 17, 18, 19, 20, 21] (by kernel_rfl) rfl (by kernel_rfl) (by kernel_rfl) (fun _ _ _ _ _ h => h) (by first | assumption | exact (Ext.refl _).drew | (refine Ext.drew ?_; assumption)) (fun hS => ?_)
              repeat (first | (refine seq_skip rfl rfl (by assumption) ?_; simp only [Act.put, List.setIfInBounds_toArray, List.set_cons_zero, List.set_cons_succ]) | (refine seq_read (v := ?_) rfl rfl rfl (fun X hX => ?_) (by assumption) ?_; rotate_left; (focus (go_simp <;> with_reducible rfl)); simp only [Act.put, List.setIfInBounds_toArray, List.set_cons_zero, List.set_cons_succ]))
              (refine seq_step rfl rfl rfl (fun K hK => ?_); go_simp)
              refine (agHas_any ri j hris _ (by omega)).mono ?_
              rw [Hb.out]
              rintro e w' ⟨rfl, rfl⟩
              refine hK.out _ _ (by assumption) ?_
              (try simp only [Act.put, List.setIfInBounds_toArray, List.set_cons_zero, List.set_cons_succ])
              intro hS
              repeat (first | (refine seq_skip rfl rfl (by assumption) ?_; simp only [Act.put, List.setIfInBounds_toArray, List.set_cons_zero, List.set_cons_succ]) | (refine seq_read (v := ?_) rfl rfl rfl (fun X hX => ?_) (by assumption) ?_; rotate_left; (focus (go_simp <;> with_reducible rfl)); simp only [Act.put, List.setIfInBounds_toArray, List.set_cons_zero, List.set_cons_succ]))
              refine seq_nil ?_
              go_wp2_with fail
              go_roundw
              case rel => exact ⟨j + 1, by omega, by go_num, hxr.drew⟩
              case measure => simp [intOf]; omega
            · have hij := (rel_iff Hri.out j).1 hb
              have hor : bits .or .i64 (rj : Int) (ri : Int) = (ri : Int) := by
                rw [bits_or hrjs hris, or_same (fun k hk => (rel_iff Hri.out k).2 (hG2.out.trans hG2.out hG2.out hij ((rel_iff hrj k).1 hk)))]
              have Hb := hide hb
              clear hb hrj hij
              go_wp2_with fail
              refine wp_region_ord (fun X => Ext wr X) [0, 1, 2, 3, 4, 5, 6, 7, 8, 9, 10, 11, 12, 13, 14, 15, 16, 17, 18, 19, 20, 21] (by kernel_rfl) rfl (by kernel_rfl) (by kernel_rfl) (fun _ _ _ _ _ h => h) (by first | assumption | exact (Ext.refl _).drew | (refine Ext.drew ?_; assumption)) (fun hS => ?_)
              repeat (first | (refine seq_skip rfl rfl (by assumption) ?_; simp only [Act.put, List.setIfInBounds_toArray, List.set_cons_zero, List.set_cons_succ]) | (refine seq_read (v := ?_) rfl rfl rfl (fun X hX => ?_) (by assumption) ?_; rotate_left; (focus (go_simp <;> with_reducible rfl)); simp only [Act.put, List.setIfInBounds_toArray, List.set_cons_zero, List.set_cons_succ]))
              (refine seq_step rfl rfl rfl (fun K hK => ?_); go_simp)
              refine (agHas_any ri j hris _ (by omega)).mono ?_
              rw [Hb.out]
              rintro e w' ⟨rfl, rfl⟩
              refine hK.out _ _ (by assumption) ?_
              (try simp only [Act.put, List.setIfInBounds_toArray, List.set_cons_zero, List.set_cons_succ])
              intro hS
              repeat (first | (refine seq_skip rfl rfl (by assumption) ?_; simp only [Act.put, List.setIfInBounds_toArray, List.set_cons_zero, List.set_cons_succ]) | (refine seq_read (v := ?_) rfl rfl rfl (fun X hX => ?_) (by assumption) ?_; rotate_left; (focus (go_simp <;> with_reducible rfl)); simp only [Act.put, List.setIfInBounds_toArray, List.set_cons_zero, List.set_cons_succ]))
              refine seq_nil ?_
              go_wp2_with fail
              go_roundw
              case rel => exact ⟨j + 1, by omega, by go_num, hxr.drew⟩
              case measure => simp [intOf]; omega
          · obtain rfl : j = p := by omega
            go_wp2_with fail
            go_roundw
            case rel => exact ⟨i + 1, by omega, by go_num, hxr⟩
            case measure => simp [intOf]; omega
      · obtain rfl : i = p := by omega
        go_wp2_with fail
        go_ret
        exact ⟨rfl, hww.trans hxr⟩
end Go.Proofs.YtddecgjkmdaobaaDoor
