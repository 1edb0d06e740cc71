/- The law FnSimilarStates, walked: it answers true, and leaves all old memory as it was. -/
import Derived.Test.YtddecgjkmdaobaaDoorZLawSelf
namespace Go.Proofs.YtddecgjkmdaobaaDoor
open Go Go.RowKit
set_option maxHeartbeats 2000000

set_option maxRecDepth 100000 in
theorem law_SimStates {A : Option Addr} {n c : Nat} {w : World} (h : Bytes w A n) (hn : n ≤ 9223372036854775807) (hc : n ≤ c) (hc2 : c ≤ 9223372036854775807) (hT : Tab w) :
    Calls Tryd.prog 8 #[.slice A n c] w fun e w' => e = .returned (.bool true) ∧ Ext w w' := by
  have Hh := hide h
  have HTab := hide (fun W (hW : Ext w W) => hT.ext hW)
  clear h hT
  by_cases hbig : 1048576 < n
  · have hbig' : (1048576 : Int) < (n : Int) := by omega
    go_enter Tryd.func8, Tryd.ntmps8
    go_wp2
    go_ret
    exact ⟨rfl, Ext.refl _⟩
  have hbig' : (n : Int) ≤ 1048576 := by omega
  clear hbig
  go_enter Tryd.func8, Tryd.ntmps8
  go_wp2_with fail
  refine (spec_DrawSimilarStates Hh.out hn hc hc2).mono ?_
  rintro e w1 ⟨s, B1, n1, c1, t, B2, n2, c2, rfl, hs1, ht1, hn1, hn2, hx1⟩
  have hx2 : Ext w1 ((w1.alloc (.cells #[.int .i64 s.al, .int .i64 s.st, .slice B1 n1 c1] 25)).alloc (.cells #[.int .i64 t.al, .int .i64 t.st, .slice B2 n2 c2] 25)) := ((Ext.refl _).alloc _).alloc _
  obtain ⟨b1, b2⟩ := ext_blk2 (Ext.refl ((w1.alloc (.cells #[.int .i64 s.al, .int .i64 s.st, .slice B1 n1 c1] 25)).alloc (.cells #[.int .i64 t.al, .int .i64 t.st, .slice B2 n2 c2] 25)))
  have hw2 := hx1.trans hx2
  have HS := hide (fun W (hW : Ext w1 W) => hs1.ext hW)
  have HT := hide (fun W (hW : Ext w1 W) => ht1.ext hW)
  have k1 := b1.cell
  have k2 := b2.cell
  clear hs1 ht1 Hh
  go_wp2_with fail
  generalize (w1.alloc (.cells #[.int .i64 s.al, .int .i64 s.st, .slice B1 n1 c1] 25)).alloc (.cells #[.int .i64 t.al, .int .i64 t.st, .slice B2 n2 c2] 25) = w2 at *
  refine (impl_SimilarStates (HS.out _ hx2) (HT.out _ hx2) (HTab.out _ hw2)).mono ?_
  rintro e w3 ⟨B3, n3, c3, rfl, own3, hx3⟩
  clear k1 k2
  have k1 := (b1.ext hx3).cell
  have k2 := (b2.ext hx3).cell
  go_wp2_with fail
  refine (spec_SimilarStates (HS.out _ (hx2.trans hx3)) (HT.out _ (hx2.trans hx3))).mono ?_
  rintro e w4 ⟨B4, n4, c4, rfl, own4, hx4⟩
  have r3 := (Reads.of_own own3.2).ext hx4
  have hn3 := hide own3.1
  clear k1 k2
  go_wp2_with fail
  refine (agInts_same r3 (Reads.of_own own4.2)).mono ?_
  rintro e w5 ⟨rfl, hx5⟩
  have hx25 := (hx3.trans hx4).trans hx5
  have k1 := (b1.ext hx25).cell
  have k2 := (b2.ext hx25).cell
  have r35 := r3.ext hx5
  cases hv : sameB s t
  · have Hv := hide hv
    have hR0 := hide (show simR s t = [] by unfold simR; rw [hv]; rfl)
    clear hv
    go_wp2_with fail
    refine (agComparable_any (HS.out _ (hx2.trans hx25)) (HT.out _ (hx2.trans hx25))).mono ?_
    rw [Hv.out]
    rintro e w6 ⟨rfl, hx6⟩
    have hx26 := hx25.trans hx6
    clear k1 k2
    have k1 := (b1.ext hx26).cell
    have k2 := (b2.ext hx26).cell
    go_wp2_with fail
    refine (spec_SimilarStates (HS.out _ (hx2.trans hx26)) (HT.out _ (hx2.trans hx26))).mono ?_
    rintro e w7 ⟨B7, n7, c7, rfl, own7, hx7⟩
    have r37 := r35.ext (hx6.trans hx7)
    have r77 := Reads.of_own own7.2
    clear k1 k2
    obtain rfl : n3 = 0 := by rw [hn3.out, hR0.out]; rfl
    go_wp2_with fail
    refine (agInts_same r37 r77).mono ?_
    rintro e w8 ⟨rfl, hx8⟩
    go_wp2_with fail
    go_ret
    exact ⟨rfl, ((hw2.trans hx26).trans hx7).trans hx8⟩
  · obtain ⟨v1, v2, -⟩ := same_valid hv
    obtain ⟨p, hp, hp1, hp2, hf⟩ := valid_few v1
    obtain ⟨q, hq, hq1, hq2, hg⟩ := valid_few v2
    have hG := simR_gfp hv hp hq
    have hG2 := hide hG
    have hGs := hide (gfp_small hq2 hG)
    have hGl := hide hG.len
    have Hf := hide hf
    have Hg := hide hg
    have Hp := hide hp
    have Hq := hide hq
    have Hv := hide hv
    clear hv hp hq hf hg hG v1 v2
    obtain rfl : p = n3 := (hn3.out.trans hGl.out).symm
    go_wp2_with fail
    refine (agComparable_any (HS.out _ (hx2.trans hx25)) (HT.out _ (hx2.trans hx25))).mono ?_
    rw [Hv.out]
    rintro e w6 ⟨rfl, hx6⟩
    have hx26 := hx25.trans hx6
    have r6 := r35.ext hx6
    clear k1 k2 r35 r3 own3 own4
    have b17 := b1.ext hx26
    have b27 := b2.ext hx26
    rw [Hp.out] at b17
    rw [Hq.out] at b27
    have hww := hw2.trans hx26
    have hs6 := hide (HS.out _ (hx2.trans hx26))
    have ht6 := hide (HT.out _ (hx2.trans hx26))
    have hln := hs6.out.2.len
    clear hx26 hx25 hx6 hx5 hx4 hx3 hx2 hx1 b1 b2 hw2 HS HT
    go_wp2_with fail
    generalize simR s t = R at *
    go_loopw [6] (fun v wr => ∃ k : Nat, k ≤ n1 ∧ v = .int .i64 k ∧ Ext w6 wr) (fun v _ => n1 - (intOf v).toNat)
    case atStart => exact ⟨0, Nat.zero_le _, rfl, Ext.refl _⟩
    case round =>
      obtain ⟨k, hk, rfl, hxr⟩ := hrel
      have k1 := (b17.ext hxr).cell
      by_cases hlt : k < n1
      · obtain ⟨b0, o0, ed, rfl, _, _, he, c0, c1, c2⟩ := ((hs6.out.ext hxr).2).edge hlt
        have hed := Hf.out ed (List.mem_of_getElem? he.out)
        obtain ⟨f, hfe, hfp⟩ : ∃ f : Nat, ed.fr = f ∧ f < p := ⟨ed.fr.toNat, by omega, by omega⟩
        obtain ⟨u, hue, hup⟩ : ∃ u : Nat, ed.to = u ∧ u < p := ⟨ed.to.toNat, by omega, by omega⟩
        obtain ⟨l, hle⟩ : ∃ l : Nat, ed.le = l := ⟨ed.le.toNat, by omega⟩
        have hE := hide (show E s.edges f l u from ⟨ed, List.mem_of_getElem? he.out, hfe, hle, hue⟩)
        rw [hfe] at c0
        rw [hle] at c1
        rw [hue] at c2
        obtain ⟨rf, hrf⟩ := get_some hGl.out hfp
        obtain ⟨ru, hru⟩ := get_some hGl.out hup
        have hrfs := hGs.out rf (List.mem_of_getElem? hrf)
        have hrus := hGs.out ru (List.mem_of_getElem? hru)
        have Hrf := hide hrf
        have Hru := hide hru
        have hbE := Blk.new wr 40 #[.int .i64 f, .int .i64 l, .int .i64 u]
        have hxE := (Ext.refl wr).alloc (.cells #[.int .i64 f, .int .i64 l, .int .i64 u] 40)
        have hxr2 := hxr.trans hxE
        clear hed hfe hue hle hrf hru
        go_wp2_with fail
        generalize hgE : wr.alloc (.cells #[.int .i64 f, .int .i64 l, .int .i64 u] 40) = wF at *
        obtain ⟨E0, hE0⟩ : ∃ E0, E0 = wr.heap.size := ⟨_, rfl⟩
        rw [← hE0] at hbE ⊢
        clear hE0 hgE hxE k1 c0 c1 c2
        go_loopw [8] (fun v wr => ∃ j : Nat, j ≤ q ∧ v = .int .i64 j ∧ Ext wF wr) (fun v _ => q - (intOf v).toNat)
        case atStart => exact ⟨0, Nat.zero_le _, rfl, Ext.refl _⟩
        case round =>
          obtain ⟨j, hj, rfl, hxj⟩ := hrel
          have k2 := (b27.ext (hxr2.trans hxj)).cell
          by_cases hlj : j < q
          · obtain ⟨ad, rfl, _, _, hcf⟩ := (r6.ext (hxr2.trans hxj)).nat2 Hrf.out
            obtain ⟨ad', had', _, _, hcu⟩ := (r6.ext (hxr2.trans hxj)).nat2 Hru.out
            obtain rfl : ad = ad' := by injection had'
            have cf : ∀ W, Ext wr W → W.cell? (ad.add f) = some (.int .i64 (rf : Nat)) := fun W hW => hW.cell_some hcf
            have cu : ∀ W, Ext wr W → W.cell? (ad.add u) = some (.int .i64 (ru : Nat)) := fun W hW => hW.cell_some hcu
            have cE : ∀ W, Ext wr W → ∀ a, W.cell? ⟨E0, a, none⟩ = #[Value.int .i64 f, .int .i64 l, .int .i64 u][a]? := fun W hW => (hbE.ext (hxj.trans hW)).cell
            have cT : ∀ W, Ext wr W → ∀ a, W.cell? ⟨w1.heap.size + 1, a, none⟩ = #[Value.int .i64 t.al, .int .i64 q, .slice B2 n2 c2][a]? := fun W hW => (b27.ext ((hxr2.trans hxj).trans hW)).cell
            have cA : ∀ W, Ext wr W → Calls Tryd.prog 15 #[.agg #[.int .i64 t.al, .int .i64 q, .slice B2 n2 c2], .int .i64 ((2 : Int) ^ j), .int .i64 l] W fun e w' => e = .returned (.int .i64 (stepB t.edges (2 ^ j) l : Nat)) ∧ Ext W w' := fun W hW => by
              rw [show ((2 : Int) ^ j) = ((2 ^ j : Nat) : Int) by simp, ← Hq.out]
              exact agStep_any (ht6.out.ext ((hxr2.trans hxj).trans hW)) Hg.out hq2 (Sm.bit (by omega))
            have CA := hide cA
            have hsS : Sm (stepB t.edges (2 ^ j) l) := Nat.lt_of_lt_of_le (stepB_lt Hg.out _ _) (by rw [show (4294967296 : Nat) = 2 ^ 32 from rfl]; exact Nat.pow_le_pow_right (by omega) (by omega))
            have hww' := Ext.refl wr
            have hu : IntKind.u64.wrap (j : Int) = j := by rw [IntKind.wrap_u64]; omega
            have h64 : (j : Int) ≤ 64 := by omega
            have hwp : IntKind.i64.wrap ((2 : Int) ^ j) = (2 : Int) ^ j := by
              have hb := (Sm.bit (n := j) (by omega)).lt
              rw [show ((2 : Int) ^ j) = ((2 ^ j : Nat) : Int) by simp]
              generalize (2 : Nat) ^ j = x2 at *
              exact IntWalk.i64_in _ (by omega)
            have hand := hide (fun (hb : rf.testBit j = true) => (show (bits .and .i64 (stepB t.edges (2 ^ j) l : Nat) (ru : Nat) == 0) = false by
              rw [bits_and hsS hrus]
              obtain ⟨k', hk1, hk2⟩ := (hG2.out.post f j ((rel_iff Hrf.out j).1 hb)).1 l u hE.out
              have h1 := (E_iff Hg.out j l k').1 hk1
              rw [← stepB_one Hg.out] at h1
              have h2 := (rel_iff Hru.out k').2 hk2
              have : stepB t.edges (2 ^ j) l &&& ru ≠ 0 := ne_zero_bit.2 ⟨k', by rw [Nat.testBit_and, h1, h2]; rfl⟩
              simp; omega))
            clear hcf hcu had' cA k2
            generalize stepB t.edges (2 ^ j) l = sx at *
            cases hb : rf.testBit j
            · have Hb := hide hb
              clear hb
              go_wp2_with fail
              refine wp_region_ord (fun X => Ext wr X) [0, 1, 2, 3, 4, 5, 6, 7, 8, 9, 10, 11, 12, 13, 15, 16, 17, 18, 19, 14, 20, 21, 22] (by kernel_rfl) rfl (by kernel_rfl) (by kernel_rfl) (fun _ _ _ _ _ h => h) (by first | assumption | exact (Ext.refl _).drew | (refine Ext.drew ?_; assumption)) (fun hS => ?_)
              repeat (first | (refine seq_skip rfl rfl (by assumption) ?_; simp only [Act.put, List.setIfInBounds_toArray, List.set_cons_zero, List.set_cons_succ]) | (refine seq_read (v := ?_) rfl rfl rfl (fun X hX => ?_) (by assumption) ?_; rotate_left; (focus (go_simp <;> with_reducible rfl)); simp only [Act.put, List.setIfInBounds_toArray, List.set_cons_zero, List.set_cons_succ]))
              (refine seq_step rfl rfl rfl (fun K hK => ?_); go_simp)
              refine (agHas_any rf j hrfs _ (by omega)).mono ?_
              rw [Hb.out]
              rintro e w' ⟨rfl, rfl⟩
              refine hK.out _ _ (by assumption) ?_
              (try simp only [Act.put, List.setIfInBounds_toArray, List.set_cons_zero, List.set_cons_succ])
              intro hS
              repeat (first | (refine seq_skip rfl rfl (by assumption) ?_; simp only [Act.put, List.setIfInBounds_toArray, List.set_cons_zero, List.set_cons_succ]) | (refine seq_read (v := ?_) rfl rfl rfl (fun X hX => ?_) (by assumption) ?_; rotate_left; (focus (go_simp <;> with_reducible rfl)); simp only [Act.put, List.setIfInBounds_toArray, List.set_cons_zero, List.set_cons_succ]))
              refine seq_nil ?_
              go_wp2_with fail
              go_roundw
              case rel => exact ⟨j + 1, by omega, by go_num, hxj.drew⟩
              case measure => simp [intOf]; omega
            · have Hb := hide hb
              have hand' := hand.out hb
              clear hb
              go_wp2_with fail
              refine wp_region_ord (fun X => Ext wr X) [0, 1, 2, 3, 4, 5, 6, 7, 8, 9, 10, 11, 12, 13, 15, 16, 17, 18, 19, 14, 20, 21, 22] (by kernel_rfl) rfl (by kernel_rfl) (by kernel_rfl) (fun _ _ _ _ _ h => h) (by first | assumption | exact (Ext.refl _).drew | (refine Ext.drew ?_; assumption)) (fun hS => ?_)
              repeat (first | (refine seq_skip rfl rfl (by assumption) ?_; simp only [Act.put, List.setIfInBounds_toArray, List.set_cons_zero, List.set_cons_succ]) | (refine seq_read (v := ?_) rfl rfl rfl (fun X hX => ?_) (by assumption) ?_; rotate_left; (focus (go_simp <;> with_reducible rfl)); simp only [Act.put, List.setIfInBounds_toArray, List.set_cons_zero, List.set_cons_succ]))
              (refine seq_step rfl rfl rfl (fun K hK => ?_); go_simp)
              refine (agHas_any rf j hrfs _ (by omega)).mono ?_
              rw [Hb.out]
              rintro e w' ⟨rfl, rfl⟩
              refine hK.out _ _ (by assumption) ?_
              (try simp only [Act.put, List.setIfInBounds_toArray, List.set_cons_zero, List.set_cons_succ])
              intro hS
              repeat (first | (refine seq_skip rfl rfl (by assumption) ?_; simp only [Act.put, List.setIfInBounds_toArray, List.set_cons_zero, List.set_cons_succ]) | (refine seq_read (v := ?_) rfl rfl rfl (fun X hX => ?_) (by assumption) ?_; rotate_left; (focus (go_simp <;> with_reducible rfl)); simp only [Act.put, List.setIfInBounds_toArray, List.set_cons_zero, List.set_cons_succ]))
              (refine seq_step rfl rfl rfl (fun K hK => ?_); go_simp)
              with_reducible refine (CA.out _ ?_).mono ?_
              · assumption
              rintro e w7 ⟨rfl, hx7⟩
              have hx7' := (show Ext wr wr.drew from (Ext.refl _).drew).trans hx7
              refine hK.out _ _ hx7' ?_
              (try simp only [Act.put, List.setIfInBounds_toArray, List.set_cons_zero, List.set_cons_succ])
              intro hS
              repeat (first | (refine seq_skip rfl rfl (by assumption) ?_; simp only [Act.put, List.setIfInBounds_toArray, List.set_cons_zero, List.set_cons_succ]) | (refine seq_read (v := ?_) rfl rfl rfl (fun X hX => ?_) (by assumption) ?_; rotate_left; (focus (go_simp <;> with_reducible rfl)); simp only [Act.put, List.setIfInBounds_toArray, List.set_cons_zero, List.set_cons_succ]))
              refine seq_nil ?_
              go_wp2_with fail
              go_roundw
              case rel => exact ⟨j + 1, by omega, by go_num, hxj.trans hx7'⟩
              case measure => simp [intOf]; omega
          · obtain rfl : j = q := by omega
            go_wp2_with fail
            go_roundw
            case rel => exact ⟨k + 1, by omega, by go_num, hxr2.trans hxj⟩
            case measure => simp [intOf]; omega
      · obtain rfl : k = n1 := by omega
        go_wp2_with fail
        go_ret
        exact ⟨by first | rfl | simp, hww.trans hxr⟩
end Go.Proofs.YtddecgjkmdaobaaDoor
