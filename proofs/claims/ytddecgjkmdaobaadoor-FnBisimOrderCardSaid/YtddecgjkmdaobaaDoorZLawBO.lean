/- The law FnBisimOrder, walked: it answers true, and leaves all old memory as it was. -/
import Derived.Test.YtddecgjkmdaobaaDoorZLawBC
import Derived.Deep.DeepCutAuto
import Derived.Test.YtddecgjkmdaobaaDoorG08
namespace Go.Proofs.YtddecgjkmdaobaaDoor
open Go Go.RowKit
set_option maxHeartbeats 2000000

theorem weak_both {s : Sys} {p i j : Nat} {R O : List Nat} (h : Gfp true s.edges s.edges p p R) (h' : Gfp false s.edges s.edges p p O) (r : rel R i j) : rel O i j ∧ rel O j i := ⟨h.weak h' r, h.weak h' (h.symm h r)⟩
set_option maxRecDepth 100000 in
theorem law_BisOrder {A : Option Addr} {n c : Nat} {w : World} (h : Bytes w A n) (hn : n ≤ 9223372036854775807) (hc : n ≤ c) (hc2 : c ≤ 9223372036854775807) (hT : Tab w) :
    Calls Tryd.prog 4 #[.slice A n c] w fun e w' => e = .returned (.bool true) ∧ Ext w w' := by
  have Hh := hide h
  have HTab := hide (fun W (hW : Ext w W) => hT.ext hW)
  clear h hT
  by_cases hbig : 1048576 < n
  · have hbig' : (1048576 : Int) < (n : Int) := by omega
    go_enter Tryd.func4, Tryd.ntmps4
    go_wp2
    go_ret
    exact ⟨rfl, Ext.refl _⟩
  have hbig' : (n : Int) ≤ 1048576 := by omega
  clear hbig
  go_enter Tryd.func4, Tryd.ntmps4
  go_wp2_with fail
  refine (spec_DrawBisimClasses Hh.out hn hc hc2).mono ?_
  rintro e w1 ⟨s, B1, n1, c1, rfl, hs1, hn1, hx1⟩
  have hx2 := (Ext.refl w1).alloc (.cells #[.int .i64 s.al, .int .i64 s.st, .slice B1 n1 c1] 25)
  have b1 := Blk.new w1 25 #[.int .i64 s.al, .int .i64 s.st, .slice B1 n1 c1]
  have hw2 := hx1.trans hx2
  have HS := hide (fun W (hW : Ext w1 W) => hs1.ext hW)
  have k1 := b1.cell
  clear hs1 Hh
  go_wp2_with fail
  generalize w1.alloc (.cells #[.int .i64 s.al, .int .i64 s.st, .slice B1 n1 c1] 25) = w2 at *
  refine (impl_BisimClasses (HS.out _ hx2) (HTab.out _ hw2)).mono ?_
  rintro e w3 ⟨B3, n3, c3, rfl, own3, hx3⟩
  clear k1
  have k1 := (b1.ext hx3).cell
  go_wp2_with fail
  refine (spec_BisimClasses (HS.out _ (hx2.trans hx3))).mono ?_
  rintro e w4 ⟨B4, n4, c4, rfl, own4, hx4⟩
  have r3 := (Reads.of_own own3.2).ext hx4
  have hn3 := hide own3.1
  clear k1
  go_wp2_with fail
  refine (agInts_same r3 (Reads.of_own own4.2)).mono ?_
  rintro e w5 ⟨rfl, hx5⟩
  have hx25 := (hx3.trans hx4).trans hx5
  have k1 := (b1.ext hx25).cell
  have r35 := r3.ext hx5
  cases hv : sysValid s
  · have Hv := hide hv
    clear hv
    go_wp2_with fail
    refine (impl_SystemValid (HS.out _ (hx2.trans hx25))).mono ?_
    rw [Hv.out]
    rintro e w6 ⟨rfl, hx6⟩
    have hx26 := hx25.trans hx6
    clear k1
    have k1 := (b1.ext hx26).cell
    go_wp2_with fail
    refine (spec_BisimClasses (HS.out _ (hx2.trans hx26))).mono ?_
    rintro e w7 ⟨B7, n7, c7, rfl, own7, hx7⟩
    have r37 := r35.ext (hx6.trans hx7)
    have r77 := Reads.of_own own7.2
    clear k1
    go_wp2_with fail
    refine (agInts_same r37 r77).mono ?_
    rintro e w8 ⟨rfl, hx8⟩
    go_wp2_with fail
    go_ret
    exact ⟨rfl, ((hw2.trans hx26).trans hx7).trans hx8⟩
  · obtain ⟨p, hp, hp1, hp2, hf⟩ := valid_few hv
    have hG : Gfp true s.edges s.edges p p (gfp true s s) := by
      have := gfp_spec true s s
      rw [hp] at this
      exact this
    have hG2 := hide hG
    have hV := hide (hG.eqv hf)
    have hcl := hide (show clsR s = (clsOf (gfp true s s) p).1 by unfold clsR; rw [hv, hp]; rfl)
    have hcn := hide (show n3 = p by rw [hn3.out, hcl.out, clsOf_length])
    have Hf := hide hf
    have Hp := hide hp
    have Hv := hide hv
    have hO := simR_gfp (sameB_self hv) hp hp
    have hO2 := hide hO
    have hOs := hide (gfp_small hp2 hO)
    have hOl := hide hO.len
    clear hO
    clear hv hp hf hG
    obtain rfl : p = n3 := hcn.out.symm
    go_wp2_with fail
    refine (impl_SystemValid (HS.out _ (hx2.trans hx25))).mono ?_
    rw [Hv.out]
    rintro e w6 ⟨rfl, hx6⟩
    have hx26 := hx25.trans hx6
    have r6 := r35.ext hx6
    rw [hcl.out] at r6
    clear k1 r35 r3 own3 own4
    have k1 := (b1.ext hx26).cell
    go_wp2_with fail
    refine (impl_SimilarStates (HS.out _ (hx2.trans hx26)) (HS.out _ (hx2.trans hx26)) (HTab.out _ (hw2.trans hx26))).mono ?_
    rintro e w7 ⟨B7, n7, c7, rfl, own7, hx7⟩
    have hx27 := hx26.trans hx7
    have b17 := b1.ext hx27
    rw [Hp.out] at b17
    have r7 := Reads.of_own own7.2
    have r67 := r6.ext hx7
    have hww := hw2.trans hx27
    obtain rfl : p = n7 := (own7.1.trans hOl.out).symm
    clear k1 own7 hx7 hx26 hx25 hx6 hx5 hx4 hx3 hx27 hx2 hx1 b1 hw2 r6 HS
    go_wp2_with fail
    generalize gfp true s s = R at *
    generalize simR s s = O at *
    have hord := hide (fun i (hi : i < p) => hV.out.cl_order (by omega) hi)
    go_loopw [6, 7] (fun v q wr => ∃ i : Nat, i ≤ p ∧ q = .int .i64 i ∧ v = .int .i64 ((clsOf R i).2 : Nat) ∧ Ext w7 wr) (fun _ q _ => p - (intOf q).toNat)
    case atStart => exact ⟨0, Nat.zero_le _, rfl, rfl, Ext.refl _⟩
    case round =>
      obtain ⟨i, hi, rfl, rfl, hxr⟩ := hrel
      have k1 := (b17.ext hxr).cell
      by_cases hlt : i < p
      · obtain ⟨ad, rfl, _, _, hci⟩ := (r67.ext hxr).nat2 (cls_get hlt)
        obtain ⟨ho1, ho2⟩ := hord.out i hlt
        have Ho2 := hide ho2
        have hnl := hide (clsOf_le R i)
        clear ho2
        obtain ⟨x, hx⟩ : ∃ x, Hid (cl R i = x) := ⟨_, rfl⟩
        obtain ⟨y, hy⟩ : ∃ y, Hid ((clsOf R i).2 = y) := ⟨_, rfl⟩
        rw [hx.out] at hci ho1 Ho2
        rw [hy.out] at ho1 Ho2 ⊢
        have hyl : y ≤ 16 := by have := hnl.out; rw [hy.out] at this; omega
        have h1 : (0 : Int) ≤ (x : Int) := by omega
        have h2 : (x : Int) ≤ (y : Int) := by omega
        have hnx : ∃ z, Hid ((clsOf R (i + 1)).2 = z) ∧ Hid (z = if x = y then y + 1 else y) := ⟨_, rfl, Ho2.out⟩
        obtain ⟨z, hz1, hz2⟩ := hnx
        go_upto_if 57 with fail
        go_cut [6] (fun v wx => v = .int .i64 (z : Nat) ∧ wr = wx)
        case first =>
          by_cases hxy : x = y
          · have hzz := hide (hz2.out.trans (if_pos hxy))
            subst hxy
            go_wp2_with fail
            go_meet
            exact ⟨by rw [hzz.out]; go_num, rfl⟩
          · have hzz := hide (hz2.out.trans (if_neg hxy))
            have hxy' : ((x : Int) == (y : Int)) = false := by simp; omega
            go_wp2_with fail
            go_meet
            exact ⟨by rw [hzz.out], rfl⟩
        case rest =>
          obtain ⟨rfl, hwc⟩ := hcut
          subst hwc
          go_wp2_with fail
          clear k1 hci
          go_loopw [8] (fun v wr => ∃ j : Nat, j ≤ i ∧ v = .int .i64 j ∧ Ext w7 wr) (fun v _ => i - (intOf v).toNat)
          case atStart => exact ⟨0, Nat.zero_le _, rfl, hxr⟩
          case round =>
            clear hxr
            obtain ⟨j, hj, rfl, hxr⟩ := hrel
            by_cases hlj : j < i
            · have hjp : j < p := by omega
              obtain ⟨ad', had', _, _, hci⟩ := (r67.ext hxr).nat2 (cls_get hlt)
              obtain rfl : ad = ad' := by injection had'
              obtain ⟨ad', had2, _, _, hcj⟩ := (r67.ext hxr).nat2 (cls_get hjp)
              obtain rfl : ad = ad' := by injection had2
              rw [hx.out] at hci
              have ci : ∀ W, Ext wr W → W.cell? (ad.add i) = some (.int .i64 (x : Nat)) := fun W hW => hW.cell_some hci
              have cj : ∀ W, Ext wr W → W.cell? (ad.add j) = some (.int .i64 (cl R j : Nat)) := fun W hW => hW.cell_some hcj
              have hww' := Ext.refl wr
              clear hci hcj had' had2
              by_cases he : x = cl R j
              · have hr := (hV.out.cl_iff (by omega) hlt hjp).1 (hx.out.trans he)
                obtain ⟨q1, q2⟩ := weak_both hG2.out hO2.out hr
                obtain ⟨oi, hoi⟩ := get_some hOl.out hlt
                obtain ⟨oj, hoj⟩ := get_some hOl.out hjp
                have hbi := hide ((rel_iff hoi j).2 q1)
                have hbj := hide ((rel_iff hoj i).2 q2)
                have hois := hOs.out oi (List.mem_of_getElem? hoi)
                have hojs := hOs.out oj (List.mem_of_getElem? hoj)
                obtain ⟨ae, rfl, _, _, hdi⟩ := (r7.ext hxr).nat2 hoi
                obtain ⟨ae', hae, _, _, hdj⟩ := (r7.ext hxr).nat2 hoj
                obtain rfl : ae = ae' := by injection hae
                have di : ∀ W, Ext wr W → W.cell? (ae.add i) = some (.int .i64 (oi : Nat)) := fun W hW => hW.cell_some hdi
                have dj : ∀ W, Ext wr W → W.cell? (ae.add j) = some (.int .i64 (oj : Nat)) := fun W hW => hW.cell_some hdj
                have he' : ((x : Int) == (cl R j : Int)) = true := by rw [he]; simp
                clear hdi hdj hae hoi hoj q1 q2 hr he
                go_wp2_with fail
                refine wp_region_ord (fun X => Ext wr X) [0, 1, 2, 3, 4, 5, 6, 7, 8, 9, 10, 11, 12, 13, 14, 15, 16, 17, 18, 19, 20, 21, 22, 23, 24, 25] (by kernel_rfl) rfl (by kernel_rfl) (by kernel_rfl) (fun _ _ _ _ _ h => h) (by first | assumption | exact (Ext.refl _).drew | (refine Ext.drew ?_; assumption)) (fun hS => ?_)
                repeat (first | (refine seq_skip rfl rfl (by assumption) ?_; simp only [Act.put, List.setIfInBounds_toArray, List.set_cons_zero, List.set_cons_succ]) | (refine seq_read (v := ?_) rfl rfl rfl (fun X hX => ?_) (by assumption) ?_; rotate_left; (focus (go_simp <;> with_reducible rfl)); simp only [Act.put, List.setIfInBounds_toArray, List.set_cons_zero, List.set_cons_succ]))
                (refine seq_step rfl rfl rfl (fun K hK => ?_); go_simp)
                refine (agHas_any oi j hois _ (by omega)).mono ?_
                rw [hbi.out]
                rintro e w' ⟨rfl, rfl⟩
                refine hK.out _ _ (by assumption) ?_
                (try simp only [Act.put, List.setIfInBounds_toArray, List.set_cons_zero, List.set_cons_succ])
                intro hS
                repeat (first | (refine seq_skip rfl rfl (by assumption) ?_; simp only [Act.put, List.setIfInBounds_toArray, List.set_cons_zero, List.set_cons_succ]) | (refine seq_read (v := ?_) rfl rfl rfl (fun X hX => ?_) (by assumption) ?_; rotate_left; (focus (go_simp <;> with_reducible rfl)); simp only [Act.put, List.setIfInBounds_toArray, List.set_cons_zero, List.set_cons_succ]))
                (refine seq_step rfl rfl rfl (fun K hK => ?_); go_simp)
                refine (agHas_any oj i hojs _ (by omega)).mono ?_
                rw [hbj.out]
                rintro e w' ⟨rfl, rfl⟩
                refine hK.out _ _ (by assumption) ?_
                (try simp only [Act.put, List.setIfInBounds_toArray, List.set_cons_zero, List.set_cons_succ])
                intro hS
                repeat (first | (refine seq_skip rfl rfl (by assumption) ?_; simp only [Act.put, List.setIfInBounds_toArray, List.set_cons_zero, List.set_cons_succ]) | (refine seq_read (v := ?_) rfl rfl rfl (fun X hX => ?_) (by assumption) ?_; rotate_left; (focus (go_simp <;> with_reducible rfl)); simp only [Act.put, List.setIfInBounds_toArray, List.set_cons_zero, List.set_cons_succ]))
                refine seq_nil ?_
                go_wp2_with fail
                go_roundw
                case rel => exact ⟨j + 1, by omega, by go_num, hxr.drew⟩
                case measure => simp [intOf]; omega
              · have he' : ((x : Int) == (cl R j : Int)) = false := by simp; omega
                clear he
                go_wp2_with fail
                refine wp_region_ord (fun X => Ext wr X) [0, 1, 2, 3, 4, 5, 6, 7, 8, 9, 10, 11, 12, 13, 14, 15, 16, 17, 18, 19, 20, 21, 22, 23, 24, 25] (by kernel_rfl) rfl (by kernel_rfl) (by kernel_rfl) (fun _ _ _ _ _ h => h) (by first | assumption | exact (Ext.refl _).drew | (refine Ext.drew ?_; assumption)) (fun hS => ?_)
                repeat (first | (refine seq_skip rfl rfl (by assumption) ?_; simp only [Act.put, List.setIfInBounds_toArray, List.set_cons_zero, List.set_cons_succ]) | (refine seq_read (v := ?_) rfl rfl rfl (fun X hX => ?_) (by assumption) ?_; rotate_left; (focus (go_simp <;> with_reducible rfl)); simp only [Act.put, List.setIfInBounds_toArray, List.set_cons_zero, List.set_cons_succ]))
                refine seq_nil ?_
                go_wp2_with fail
                go_roundw
                case rel => exact ⟨j + 1, by omega, by go_num, hxr.drew⟩
                case measure => simp [intOf]; omega
            · obtain rfl : j = i := by omega
              go_wp2_with fail
              go_roundw
              case rel => exact ⟨j + 1, by omega, by go_num, by rw [hz1.out], hxr⟩
              case measure => simp [intOf]; omega
      · obtain rfl : i = p := by omega
        have hz := hide (hV.out.cl_zero (by omega) (by omega))
        obtain ⟨ad, rfl, _, _, hc0⟩ := (r67.ext hxr).nat2 (cls_get (R := R) (show 0 < i by omega))
        rw [hz.out] at hc0
        have hc1 := hc0
        rw [addr_zero] at hc1
        go_wp2_with fail
        go_ret
        exact ⟨by first | rfl | simp, hww.trans hxr⟩
end Go.Proofs.YtddecgjkmdaobaaDoor
