/- The law FnBisimClasses, walked: it answers true, and leaves all old memory as it was. -/
import Derived.Test.YtddecgjkmdaobaaDoorZLawSelf
import Derived.Test.YtddecgjkmdaobaaDoorG08
namespace Go.Proofs.YtddecgjkmdaobaaDoor
open Go Go.RowKit
set_option maxHeartbeats 2000000

theorem cls_get {R : List Nat} {p i : Nat} (hi : i < p) : (clsOf R p).1[i]? = some (cl R i) := by
  have hl := clsOf_length R p
  have := clsOf_get (R := R) hi
  rw [List.getD_eq_getElem?_getD] at this
  rw [List.getElem?_eq_getElem (by omega)] at this ⊢
  simpa using this
set_option maxRecDepth 100000 in
theorem law_BisClasses {A : Option Addr} {n c : Nat} {w : World} (h : Bytes w A n) (hn : n ≤ 9223372036854775807) (hc : n ≤ c) (hc2 : c ≤ 9223372036854775807) (hT : Tab w) :
    Calls Tryd.prog 3 #[.slice A n c] w fun e w' => e = .returned (.bool true) ∧ Ext w w' := by
  have Hh := hide h
  have HTab := hide (fun W (hW : Ext w W) => hT.ext hW)
  clear h hT
  by_cases hbig : 1048576 < n
  · have hbig' : (1048576 : Int) < (n : Int) := by omega
    go_enter Tryd.func3, Tryd.ntmps3
    go_wp2
    go_ret
    exact ⟨rfl, Ext.refl _⟩
  have hbig' : (n : Int) ≤ 1048576 := by omega
  clear hbig
  go_enter Tryd.func3, Tryd.ntmps3
  go_wp2_with fail
  refine (spec_DrawBisimClasses Hh.out hn hc hc2).mono ?_
  rintro e w1 ⟨s, B1, n1, c1, rfl, hs1, hn1, hx1⟩
  have hx2 := (Ext.refl w1).alloc (.cells #[.int .i64 s.al, .int .i64 s.st, .slice B1 n1 c1] 25)
  have b1 := Blk.new w1 25 #[.int .i64 s.al, .int .i64 s.st, .slice B1 n1 c1]
  have hw2 := hx1.trans hx2
  have HS := hide (fun W (hW : Ext w1 W) => hs1.ext hW)
  have k1 := b1.cell
  clear hs1 Hh
  go_wp2_with fail
  generalize w1.alloc (.cells #[.int .i64 s.al, .int .i64 s.st, .slice B1 n1 c1] 25) = w2 at *
  refine (impl_BisimClasses (HS.out _ hx2) (HTab.out _ hw2)).mono ?_
  rintro e w3 ⟨B3, n3, c3, rfl, own3, hx3⟩
  clear k1
  have k1 := (b1.ext hx3).cell
  go_wp2_with fail
  refine (spec_BisimClasses (HS.out _ (hx2.trans hx3))).mono ?_
  rintro e w4 ⟨B4, n4, c4, rfl, own4, hx4⟩
  have r3 := (Reads.of_own own3.2).ext hx4
  have hn3 := hide own3.1
  clear k1
  go_wp2_with fail
  refine (agInts_same r3 (Reads.of_own own4.2)).mono ?_
  rintro e w5 ⟨rfl, hx5⟩
  have hx25 := (hx3.trans hx4).trans hx5
  have k1 := (b1.ext hx25).cell
  have r35 := r3.ext hx5
  cases hv : sysValid s
  · have Hv := hide hv
    have hR0 := hide (show clsR s = [] by unfold clsR; rw [hv]; rfl)
    clear hv
    go_wp2_with fail
    refine (impl_SystemValid (HS.out _ (hx2.trans hx25))).mono ?_
    rw [Hv.out]
    rintro e w6 ⟨rfl, hx6⟩
    have hx26 := hx25.trans hx6
    clear k1
    have k1 := (b1.ext hx26).cell
    go_wp2_with fail
    refine (spec_BisimClasses (HS.out _ (hx2.trans hx26))).mono ?_
    rintro e w7 ⟨B7, n7, c7, rfl, own7, hx7⟩
    have r37 := r35.ext (hx6.trans hx7)
    have r77 := Reads.of_own own7.2
    clear k1
    obtain rfl : n3 = 0 := by rw [hn3.out, hR0.out]; rfl
    go_wp2_with fail
    refine (agInts_same r37 r77).mono ?_
    rintro e w8 ⟨rfl, hx8⟩
    go_wp2_with fail
    go_ret
    exact ⟨rfl, ((hw2.trans hx26).trans hx7).trans hx8⟩
  · obtain ⟨p, hp, hp1, hp2, hf⟩ := valid_few hv
    have hG : Gfp true s.edges s.edges p p (gfp true s s) := by
      have := gfp_spec true s s
      rw [hp] at this
      exact this
    have hG2 := hide hG
    have hV := hide (hG.eqv hf)
    have hcl := hide (show clsR s = (clsOf (gfp true s s) p).1 by unfold clsR; rw [hv, hp]; rfl)
    have hcn := hide (show n3 = p by rw [hn3.out, hcl.out, clsOf_length])
    have Hf := hide hf
    have Hp := hide hp
    have Hv := hide hv
    clear hv hp hf hG
    obtain rfl : p = n3 := hcn.out.symm
    go_wp2_with fail
    refine (impl_SystemValid (HS.out _ (hx2.trans hx25))).mono ?_
    rw [Hv.out]
    rintro e w6 ⟨rfl, hx6⟩
    have hx26 := hx25.trans hx6
    have r6 := r35.ext hx6
    rw [hcl.out] at r6
    clear k1 r35 r3 own3 own4
    have b17 := b1.ext hx26
    rw [Hp.out] at b17
    have hww := hw2.trans hx26
    have hs6 := hide (HS.out _ (hx2.trans hx26))
    clear hx26 hx25 hx6 hx5 hx4 hx3 hx2 hx1 b1 hw2 HS
    go_wp2_with fail
    generalize gfp true s s = R at *
    have hcp := hide (fun i (hi : i < p) => cl_lt hV.out (by omega) hi)
    go_loopw [5] (fun v wr => ∃ i : Nat, i ≤ p ∧ v = .int .i64 i ∧ Ext w6 wr) (fun v _ => p - (intOf v).toNat)
    case atStart => exact ⟨0, Nat.zero_le _, rfl, Ext.refl _⟩
    case round =>
      obtain ⟨i, hi, rfl, hxr⟩ := hrel
      have k1 := (b17.ext hxr).cell
      by_cases hlt : i < p
      · go_wp2_with fail
        clear k1
        go_loopw [6] (fun v wr => ∃ j : Nat, j ≤ i ∧ v = .int .i64 j ∧ Ext w6 wr) (fun v _ => i - (intOf v).toNat)
        case atStart => exact ⟨0, Nat.zero_le _, rfl, hxr⟩
        case round =>
          clear hxr
          obtain ⟨j, hj, rfl, hxr⟩ := hrel
          by_cases hlj : j < i
          · have hjp : j < p := by omega
            obtain ⟨ad, rfl, _, _, hci⟩ := (r6.ext hxr).nat2 (cls_get hlt)
            obtain ⟨ad', had', _, _, hcj⟩ := (r6.ext hxr).nat2 (cls_get hjp)
            obtain rfl : ad = ad' := by injection had'
            have ci : ∀ W, Ext wr W → W.cell? (ad.add i) = some (.int .i64 (cl R i : Nat)) := fun W hW => hW.cell_some hci
            have cj : ∀ W, Ext wr W → W.cell? (ad.add j) = some (.int .i64 (cl R j : Nat)) := fun W hW => hW.cell_some hcj
            have hww' := Ext.refl wr
            clear hci hcj had'
            by_cases he : cl R i = cl R j
            · have hne : ((cl R i : Int) != (cl R j : Int)) = false := by simp [he]
              have Hsame := hide (fun l : Nat => img_same hG2.out Hf.out (by omega) hlt hjp he l)
              have He := hide he
              clear he
              go_wp2_with fail
              refine wp_region_ord (fun X => Ext wr X) [0, 1, 2, 3, 4, 5, 6, 7, 8] (by kernel_rfl) rfl (by kernel_rfl) (by kernel_rfl) (fun _ _ _ _ _ h => h) (by first | assumption | exact (Ext.refl _).drew | (refine Ext.drew ?_; assumption)) (fun hS => ?_)
              repeat (first | (refine seq_skip rfl rfl (by assumption) ?_; simp only [Act.put, List.setIfInBounds_toArray, List.set_cons_zero, List.set_cons_succ]) | (refine seq_read (v := ?_) rfl rfl rfl (fun X hX => ?_) (by assumption) ?_; rotate_left; (focus (go_simp <;> with_reducible rfl)); simp only [Act.put, List.setIfInBounds_toArray, List.set_cons_zero, List.set_cons_succ]))
              refine seq_nil ?_
              clear ci cj hne
              go_wp2_with fail
              go_loopw [7] (fun v wr => ∃ l : Nat, l ≤ 6 ∧ v = .int .i64 l ∧ Ext w6 wr) (fun v _ => 6 - (intOf v).toNat)
              case atStart => exact ⟨0, Nat.zero_le _, rfl, hxr.drew⟩
              case round =>
                clear hxr hww'
                obtain ⟨l, hl, rfl, hxr⟩ := hrel
                by_cases hll : l < 6
                · have hll' : (l : Int) < 6 := by omega
                  have cA := hide (fun (x : Nat) (hx : x < p) W (hW : Ext w6 W) => (show Calls Tryd.prog 15 #[.agg #[.int .i64 s.al, .int .i64 p, .slice B1 n1 c1], .int .i64 ((2 : Int) ^ x), .int .i64 l] W fun e w' => e = .returned (.int .i64 (succ s.edges x l : Nat)) ∧ Ext W w' by
                    rw [show ((2 : Int) ^ x) = ((2 ^ x : Nat) : Int) by simp, ← Hp.out, ← stepB_one Hf.out]
                    exact agStep_any (hs6.out.ext hW) Hf.out hp2 (Sm.bit (by omega))))
                  have hsi := succ_sm Hf.out hp2 i l
                  have hsj := succ_sm Hf.out hp2 j l
                  have hsame := hide (Hsame.out l)
                  have ui : IntKind.u64.wrap (i : Int) = i := by rw [IntKind.wrap_u64]; omega
                  have ui2 : (i : Int) ≤ 64 := by omega
                  have ui3 := wrap_pow2 (t := i) (by omega)
                  have uj : IntKind.u64.wrap (j : Int) = j := by rw [IntKind.wrap_u64]; omega
                  have uj2 : (j : Int) ≤ 64 := by omega
                  have uj3 := wrap_pow2 (t := j) (by omega)
                  have cAi := hide (cA.out i hlt)
                  have cAj := hide (cA.out j hjp)
                  clear cA
                  generalize succ s.edges i l = xi at *
                  generalize succ s.edges j l = xj at *
                  go_wp2_with fail
                  go_loopw [8, 9, 10] (fun v u q wr => ∃ k : Nat, k ≤ p ∧ q = .int .i64 k ∧ v = .int .i64 (img R xi k : Nat) ∧ u = .int .i64 (img R xj k : Nat) ∧ Ext w6 wr) (fun _ _ q _ => p - (intOf q).toNat)
                  case atStart => exact ⟨0, Nat.zero_le _, rfl, rfl, rfl, hxr⟩
                  case round =>
                    clear hxr
                    obtain ⟨k, hk, rfl, rfl, rfl, hxr⟩ := hrel
                    have k1 := (b17.ext hxr).cell
                    by_cases hlk : k < p
                    · have hck := hcp.out k hlk
                      have hmi := hide (show Sm (img R xi k) from Nat.lt_of_lt_of_le (img_lt (B := 16) (fun n hn => by have := hcp.out n (by omega); omega)) (by decide))
                      have hmj := hide (show Sm (img R xj k) from Nat.lt_of_lt_of_le (img_lt (B := 16) (fun n hn => by have := hcp.out n (by omega); omega)) (by decide))
                      have Hi1 := hide (show img R xi (k + 1) = if xi.testBit k then img R xi k ||| 2 ^ cl R k else img R xi k from rfl)
                      have Hj1 := hide (show img R xj (k + 1) = if xj.testBit k then img R xj k ||| 2 ^ cl R k else img R xj k from rfl)
                      have ck := cls_get (R := R) hlk
                      have Ck := hide ck
                      clear ck
                      obtain ⟨m, hm⟩ : ∃ m, Hid (cl R k = m) := ⟨_, rfl⟩
                      rw [hm.out] at hck Ck Hi1 Hj1
                      obtain ⟨a, ha⟩ : ∃ a, Hid (img R xi k = a) := ⟨_, rfl⟩
                      obtain ⟨b, hb⟩ : ∃ b, Hid (img R xj k = b) := ⟨_, rfl⟩
                      rw [ha.out] at hmi Hi1 ⊢
                      rw [hb.out] at hmj Hj1 ⊢
                      have uk : IntKind.u64.wrap (m : Int) = m := by rw [IntKind.wrap_u64]; omega
                      have uk2 : (m : Int) ≤ 64 := by omega
                      have uk3 := wrap_pow2 (t := m) (by omega)
                      have ori := hide (show bits .or .i64 (a : Nat) ((2 : Int) ^ m) = ((a ||| 2 ^ m : Nat) : Int) by have := bits_or hmi.out (Sm.bit (n := m) (by omega)); rw [show (((2 : Nat) ^ m : Nat) : Int) = (2 : Int) ^ m by simp] at this; exact this)
                      have orj := hide (show bits .or .i64 (b : Nat) ((2 : Int) ^ m) = ((b ||| 2 ^ m : Nat) : Int) by have := bits_or hmj.out (Sm.bit (n := m) (by omega)); rw [show (((2 : Nat) ^ m : Nat) : Int) = (2 : Int) ^ m by simp] at this; exact this)
                      go_wp2_with fail
                      refine (cAi.out _ hxr).mono ?_
                      rintro e w7 ⟨rfl, hx7⟩
                      have hxr7 := hxr.trans hx7
                      clear k1
                      have k1 := (b17.ext hxr7).cell
                      obtain ⟨ad2, had2, _, _, hck2⟩ := (r6.ext hxr7).nat2 Ck.out
                      obtain rfl : ad = ad2 := by injection had2
                      clear had2
                      cases hbi : xi.testBit k
                      all_goals
                        have Hbi := hide hbi
                        clear hbi
                        go_wp2_with fail
                        refine (agHas_any xi k hsi _ (by omega)).mono ?_
                        rw [Hbi.out]
                        rintro e w' ⟨rfl, rfl⟩
                        go_wp2_with fail
                        refine (cAj.out _ hxr7).mono ?_
                        rintro e w8 ⟨rfl, hx8⟩
                        have hxr8 := hxr7.trans hx8
                        have hck3 := hx8.cell_some hck2
                        cases hbj : xj.testBit k
                        all_goals
                          have Hbj := hide hbj
                          clear hbj
                          go_wp2_with fail
                          refine (agHas_any xj k hsj _ (by omega)).mono ?_
                          rw [Hbj.out]
                          rintro e w' ⟨rfl, rfl⟩
                          go_wp2_with fail
                          go_roundw
                          case rel => exact ⟨k + 1, by omega, by go_num, by rw [Hi1.out, Hbi.out]; first | rfl | (simp only [if_true]; rw [← ori.out]), by rw [Hj1.out, Hbj.out]; first | rfl | (simp only [if_true]; rw [← orj.out]), hxr8⟩
                          case measure => simp [intOf]; omega
                    · obtain rfl : k = p := by omega
                      have hne : ((img R xi k : Int) != (img R xj k : Int)) = false := by rw [hsame.out]; simp
                      go_wp2_with fail
                      go_roundw
                      case rel => exact ⟨l + 1, by omega, by go_num, hxr⟩
                      case measure => simp [intOf]; omega
                · obtain rfl : l = 6 := by omega
                  go_wp2_with fail
                  go_roundw
                  case rel => exact ⟨j + 1, by omega, by go_num, hxr⟩
                  case measure => simp [intOf]; omega
            · have hne : ((cl R i : Int) != (cl R j : Int)) = true := by simp; omega
              clear he
              go_wp2_with fail
              refine wp_region_ord (fun X => Ext wr X) [0, 1, 2, 3, 4, 5, 6, 7, 8] (by kernel_rfl) rfl (by kernel_rfl) (by kernel_rfl) (fun _ _ _ _ _ h => h) (by first | assumption | exact (Ext.refl _).drew | (refine Ext.drew ?_; assumption)) (fun hS => ?_)
              repeat (first | (refine seq_skip rfl rfl (by assumption) ?_; simp only [Act.put, List.setIfInBounds_toArray, List.set_cons_zero, List.set_cons_succ]) | (refine seq_read (v := ?_) rfl rfl rfl (fun X hX => ?_) (by assumption) ?_; rotate_left; (focus (go_simp <;> with_reducible rfl)); simp only [Act.put, List.setIfInBounds_toArray, List.set_cons_zero, List.set_cons_succ]))
              refine seq_nil ?_
              go_wp2_with fail
              go_roundw
              case rel => exact ⟨j + 1, by omega, by go_num, hxr.drew⟩
              case measure => simp [intOf]; omega
          · obtain rfl : j = i := by omega
            go_wp2_with fail
            go_roundw
            case rel => exact ⟨j + 1, by omega, by go_num, hxr⟩
            case measure => simp [intOf]; omega
      · obtain rfl : i = p := by omega
        go_wp2_with fail
        go_ret
        exact ⟨by first | rfl | simp, hww.trans hxr⟩
end Go.Proofs.YtddecgjkmdaobaaDoor
