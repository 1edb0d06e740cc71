/- spec.l15Backs, walked. -/
import Derived.Test.YtdeopnjheeekcaaDoorStep
import Derived.Test.YtdeopnjheeekcaaDoorBakLaw
import Derived.Test.YtdeopnjheeekcaaDoorAns
import Derived.Test.YtdeopnjheeekcaaDoorSeq
import Derived.BigQuiet
import Derived.Deep.RegionHeld3
namespace Go.Proofs.YtdeopnjheeekcaaDoor
open Go Go.RowKit
set_option maxHeartbeats 2000000

theorem spec_l15Backs {lo hi lo' hi' lo2 hi2 : Nat} {A : Option Addr} {n c : Nat} {B : Option Addr} {m d : Nat} {C : Option Addr} {r f : Nat} {s t : Sys} {R : List Nat} {p q i j : Nat} {w : World} (h : SysAt w lo hi A n s) (h' : SysAt w lo' hi' B m t) (hR : Reads w lo2 hi2 1 C r (nats R)) (hs : ∀ r ∈ R, Sm r)
    (hsp : s.st = p) (hf : Few p s.edges) (hg : Few q t.edges) (hp : p ≤ 16) (hq : q ≤ 16) (hi : i < 32) (hl : R.length = p) :
    Calls Tryd.prog 38 #[.agg #[.int .i64 s.al, .int .i64 s.st, .slice A n c], .agg #[.int .i64 t.al, .int .i64 t.st, .slice B m d], .slice C r f, .int .i64 i, .int .i64 j] w fun e w' => e = .returned (.bool (t.edges.all (bakE p s.edges R i j))) ∧ Ext w w' := by
  have hm := h'.2.len
  have hL := hide h'.1
  have HR := hide (fun W (hW : Ext w W) => h'.2.ext hW)
  have HS := hide (fun W (hW : Ext w W) => h.ext hW)
  have HC := hide (fun W (hW : Ext w W) => hR.ext hW)
  have hrl := hide (show R.length = r by have := hR.length; rw [nats_length] at this; omega)
  have Hf := hide hf
  have Hg := hide hg
  have Hs := hide hs
  clear hf hg hs h h'
  rw [hsp]
  go_enter Tryd.func38, Tryd.ntmps38
  go_wp2
  go_loopw [11] (fun i' wr => ∃ k : Nat, k ≤ m ∧ i' = .int .i64 k ∧ Hid ((t.edges.take k).all (bakE p s.edges R i j) = true) ∧ Ext ((w.alloc (.cells #[.int .i64 s.al, .int .i64 p, .slice A n c] 29)).alloc (.cells #[.int .i64 t.al, .int .i64 t.st, .slice B m d] 29)) wr) (fun i' _ => m - (intOf i').toNat)
  case atStart => exact ⟨0, Nat.zero_le _, rfl, rfl, Ext.refl _⟩
  case round =>
    obtain ⟨k, hk, rfl, hall, hexb⟩ := hrel
    have hext := (((Ext.refl w).alloc _).alloc _).trans hexb
    obtain ⟨bk1, bk2⟩ := ext_blk2 hexb
    have cb2 := bk2.cell
    by_cases hlt : k < m
    · obtain ⟨b, o, x, rfl, _, _, hx, c0, c1, c2⟩ := (HR.out wr hext).edge hlt
      obtain ⟨⟨f0, f1⟩, ⟨g0, g1⟩, ⟨t0, t1⟩⟩ := Hg.out x (List.mem_of_getElem? hx.out)
      have Htk := hide (show t.edges.take (k + 1) = t.edges.take k ++ [x] by rw [List.take_add_one, hx.out]; rfl)
      obtain ⟨g, hge⟩ : ∃ g : Nat, x.fr = g := ⟨x.fr.toNat, by omega⟩
      obtain ⟨u, hue⟩ : ∃ u : Nat, x.to = u := ⟨x.to.toNat, by omega⟩
      rw [hge] at c0 f0 f1
      rw [hue] at c2 t0 t1
      have hE := hide (show bakE p s.edges R i j x = (!((g : Int) == (j : Int)) || (List.range p).any fun n => (stepB s.edges (2 ^ i) x.le).testBit n && (R.getD n 0).testBit u) by unfold bakE; rw [hge, hue]; rfl)
      have hsm := hide (show Sm (stepB s.edges (2 ^ i) x.le) from Nat.lt_of_lt_of_le (stepB_lt Hf.out _ _) (by rw [show (4294967296 : Nat) = 2 ^ 32 from rfl]; exact Nat.pow_le_pow_right (by omega) (by omega)))
      by_cases hgi : g = j
      · subst hgi
        have hgi' : ((g : Int) != (g : Int)) = false := by simp
        go_wp2_with fail
        have hxq := (Ext.refl wr).alloc (.cells #[.int .i64 g, .int .i64 x.le, .int .i64 u] 53)
        have hbq := Blk.new wr 53 #[.int .i64 g, .int .i64 x.le, .int .i64 u]
        generalize wr.alloc (.cells #[.int .i64 g, .int .i64 x.le, .int .i64 u] 53) = wq at *
        have hbq' : ∀ W, Ext wq W → ∀ a, W.cell? ⟨wr.heap.size, a, none⟩ = #[Value.int .i64 g, .int .i64 x.le, .int .i64 u][a]? := fun W hW => (hbq.ext hW).cell
        have bk3 : ∀ W, Ext wq W → ∀ a, W.cell? ⟨w.heap.size, a, none⟩ = #[Value.int .i64 s.al, .int .i64 p, .slice A n c][a]? := fun W hW => (bk1.ext (hxq.trans hW)).cell
        have cS : ∀ W, Ext wq W → Calls Tryd.prog 51 #[.agg #[.int .i64 s.al, .int .i64 p, .slice A n c], .int .i64 (2 ^ i : Nat), .int .i64 x.le] W fun e w' => e = .returned (.int .i64 (stepB s.edges (2 ^ i) x.le : Nat)) ∧ Ext W w' := fun W hW => by
          rw [← hsp]
          exact spec_l2Step (HS.out W ((hext.trans hxq).trans hW)) Hf.out hp (Sm.bit hi)
        have CS := hide cS
        have hqq := Ext.refl wq
        clear cS bk1 bk2 cb2 c0 c1 c2
        go_region_held3 (fun W => Ext wq W) (first | assumption | (refine Ext.drew ?_; assumption) | (refine Ext.trans ?_ (by assumption); assumption) | (refine Ext.trans ?_ (by assumption); refine Ext.drew ?_; assumption)) (first
          | (go_at_call 36; with_reducible refine (spec_l1Bit i hi _).mono ?_; rintro e w5 ⟨rfl, rfl⟩)
          | (go_at_call 51; refine (CS.out _ ?_).mono ?_; (first | assumption | (refine Ext.drew ?_; assumption)); rintro e w6 ⟨rfl, hx6⟩))
        go_wp2_with fail
        obtain ⟨wo, rfl⟩ : ∃ wo : World, wo = wr := ⟨_, rfl⟩
        have hw6 : Ext wq w6 := by assumption
        go_loopw [13, 15] (fun v i' wr => ∃ y : Nat, y ≤ p ∧ i' = .int .i64 y ∧ ∃ fd : Bool, v = .bool fd ∧ Hid (fd = (List.range y).any fun n => (stepB s.edges (2 ^ i) x.le).testBit n && (R.getD n 0).testBit u) ∧ Ext w6 wr) (fun _ i' _ => p - (intOf i').toNat)
        case atStart => exact ⟨0, Nat.zero_le _, rfl, false, rfl, rfl, Ext.refl _⟩
        case round =>
          obtain ⟨y, hy, rfl, fd, rfl, hfd, hx7⟩ := hrel
          have bk4 := bk3 _ (hw6.trans hx7)
          have hb4 := hbq' _ (hw6.trans hx7)
          by_cases hyp : y < p
          · obtain ⟨ad, v, rfl, _, _, hv, hvc⟩ := (HC.out wr (((hext.trans hxq).trans hw6).trans hx7)).nat (k := y) (by have := hrl.out; omega)
            have hvs := Hs.out v (List.mem_of_getElem? hv.out)
            have hyr : y < r := by have := hrl.out; omega
            have hvD := hide (show R.getD y 0 = v by rw [List.getD_eq_getElem?_getD, hv.out]; rfl)
            have hstep := hide (show ((List.range (y + 1)).any fun n => (stepB s.edges (2 ^ i) x.le).testBit n && (R.getD n 0).testBit u) = (fd || ((stepB s.edges (2 ^ i) x.le).testBit y && v.testBit u)) by rw [List.range_succ, List.any_append, ← hfd.out]; simp only [List.any_cons, List.any_nil, Bool.or_false, hvD.out])
            have hx8 : ∀ W, Ext wr W → Ext w6 W := fun W hW => hx7.trans hW
            have Hx8 := hide hx8
            clear hx8
            have c1 : ∀ W, Ext wr W → W.cell? (ad.add y) = some (.int .i64 (v : Nat)) := fun W hW => hW.cell_some hvc
            have c2 : ∀ W, Ext wr W → ∀ a, W.cell? ⟨wo.heap.size, a, none⟩ = #[Value.int .i64 g, .int .i64 x.le, .int .i64 u][a]? := fun W hW => hbq' _ (hw6.trans (hx7.trans hW))
            clear hb4 hbq' bk3 hvc
            have hyr0 : (0 : Int) ≤ (y : Int) := by omega
            have hyr1 : (y : Int) < (r : Int) := by omega
            have hrr := Ext.refl wr
            cases fd
            · cases hb1 : (stepB s.edges (2 ^ i) x.le).testBit y
              · have Hb1 := hide hb1
                clear hb1
                go_wp2_with fail
                refine wp_region_ord (fun X => Ext wr X) [0, 1, 2, 3, 4, 5, 6, 7, 8, 9, 10, 11, 12, 13, 14, 15] (by kernel_rfl) rfl (by kernel_rfl) (by kernel_rfl) (fun _ _ _ _ _ h => h) (by first | assumption | exact (Ext.refl _).drew | (refine Ext.drew ?_; assumption)) (fun hS => ?_)
                repeat (first | (refine seq_skip rfl rfl (by assumption) ?_; simp only [Act.put, List.setIfInBounds_toArray, List.set_cons_zero, List.set_cons_succ]) | (refine seq_read (v := ?_) rfl rfl rfl (fun X hX => ?_) (by assumption) ?_; rotate_left; (focus (go_simp <;> with_reducible rfl)); simp only [Act.put, List.setIfInBounds_toArray, List.set_cons_zero, List.set_cons_succ]))
                (refine seq_step rfl rfl rfl (fun K hK => ?_); go_simp)
                refine (spec_l1Has _ y hsm.out _ (by omega)).mono ?_
                rw [Hb1.out]; rintro e w9 ⟨rfl, rfl⟩
                refine hK.out _ _ (by assumption) (fun hS => ?_)
                (try simp only [Act.put, List.setIfInBounds_toArray, List.set_cons_zero, List.set_cons_succ])
                repeat (first | (refine seq_skip rfl rfl (by assumption) ?_; simp only [Act.put, List.setIfInBounds_toArray, List.set_cons_zero, List.set_cons_succ]) | (refine seq_read (v := ?_) rfl rfl rfl (fun X hX => ?_) (by assumption) ?_; rotate_left; (focus (go_simp <;> with_reducible rfl)); simp only [Act.put, List.setIfInBounds_toArray, List.set_cons_zero, List.set_cons_succ]))
                refine seq_nil ?_
                go_wp2_with fail
                go_roundw
                case rel => exact ⟨y + 1, by omega, by go_num, false, rfl, by unfold Hid; rw [hstep.out, Hb1.out]; simp, Hx8.out _ (by assumption)⟩
                case measure => simp [intOf]; omega
              · have Hb1 := hide hb1
                clear hb1
                go_wp2_with fail
                refine wp_region_ord (fun X => Ext wr X) [0, 1, 2, 3, 4, 5, 6, 7, 8, 9, 10, 11, 12, 13, 14, 15] (by kernel_rfl) rfl (by kernel_rfl) (by kernel_rfl) (fun _ _ _ _ _ h => h) (by first | assumption | exact (Ext.refl _).drew | (refine Ext.drew ?_; assumption)) (fun hS => ?_)
                repeat (first | (refine seq_skip rfl rfl (by assumption) ?_; simp only [Act.put, List.setIfInBounds_toArray, List.set_cons_zero, List.set_cons_succ]) | (refine seq_read (v := ?_) rfl rfl rfl (fun X hX => ?_) (by assumption) ?_; rotate_left; (focus (go_simp <;> with_reducible rfl)); simp only [Act.put, List.setIfInBounds_toArray, List.set_cons_zero, List.set_cons_succ]))
                (refine seq_step rfl rfl rfl (fun K hK => ?_); go_simp)
                refine (spec_l1Has _ y hsm.out _ (by omega)).mono ?_
                rw [Hb1.out]; rintro e w9 ⟨rfl, rfl⟩
                refine hK.out _ _ (by assumption) (fun hS => ?_)
                (try simp only [Act.put, List.setIfInBounds_toArray, List.set_cons_zero, List.set_cons_succ])
                repeat (first | (refine seq_skip rfl rfl (by assumption) ?_; simp only [Act.put, List.setIfInBounds_toArray, List.set_cons_zero, List.set_cons_succ]) | (refine seq_read (v := ?_) rfl rfl rfl (fun X hX => ?_) (by assumption) ?_; rotate_left; (focus (go_simp <;> with_reducible rfl)); simp only [Act.put, List.setIfInBounds_toArray, List.set_cons_zero, List.set_cons_succ]))
                (refine seq_step rfl rfl rfl (fun K hK => ?_); go_simp)
                refine (spec_l1Has v u hvs _ (by omega)).mono ?_
                rintro e w9 ⟨rfl, rfl⟩
                refine hK.out _ _ (by assumption) (fun hS => ?_)
                (try simp only [Act.put, List.setIfInBounds_toArray, List.set_cons_zero, List.set_cons_succ])
                repeat (first | (refine seq_skip rfl rfl (by assumption) ?_; simp only [Act.put, List.setIfInBounds_toArray, List.set_cons_zero, List.set_cons_succ]) | (refine seq_read (v := ?_) rfl rfl rfl (fun X hX => ?_) (by assumption) ?_; rotate_left; (focus (go_simp <;> with_reducible rfl)); simp only [Act.put, List.setIfInBounds_toArray, List.set_cons_zero, List.set_cons_succ]))
                refine seq_nil ?_
                go_wp2_with fail
                go_roundw
                case rel => exact ⟨y + 1, by omega, by go_num, v.testBit u, rfl, by unfold Hid; rw [hstep.out, Hb1.out]; simp, Hx8.out _ (by assumption)⟩
                case measure => simp [intOf]; omega
            · go_wp2_with fail
              refine wp_region_ord (fun X => Ext wr X) [0, 1, 2, 3, 4, 5, 6, 7, 8, 9, 10, 11, 12, 13, 14, 15] (by kernel_rfl) rfl (by kernel_rfl) (by kernel_rfl) (fun _ _ _ _ _ h => h) (by first | assumption | exact (Ext.refl _).drew | (refine Ext.drew ?_; assumption)) (fun hS => ?_)
              repeat (first | (refine seq_skip rfl rfl (by assumption) ?_; simp only [Act.put, List.setIfInBounds_toArray, List.set_cons_zero, List.set_cons_succ]) | (refine seq_read (v := ?_) rfl rfl rfl (fun X hX => ?_) (by assumption) ?_; rotate_left; (focus (go_simp <;> with_reducible rfl)); simp only [Act.put, List.setIfInBounds_toArray, List.set_cons_zero, List.set_cons_succ]))
              refine seq_nil ?_
              go_wp2_with fail
              go_roundw
              case rel => exact ⟨y + 1, by omega, by go_num, true, rfl, by unfold Hid; rw [hstep.out]; simp, Hx8.out _ (by assumption)⟩
              case measure => simp [intOf]; omega
          · obtain rfl : p = y := by omega
            cases fd
            · go_wp2_with fail
              go_ret
              refine ⟨ret_bool ?_, ((hext.trans hxq).trans hw6).trans hx7⟩
              have hF : bakE p s.edges R i g x = false := by rw [hE.out, ← hfd.out]; simp
              refine (Bool.eq_false_iff.2 fun hc => ?_).symm
              have := List.all_eq_true.1 hc x (List.mem_of_getElem? hx.out)
              rw [hF] at this
              cases this
            · go_wp2_with fail
              go_roundw
              case rel => exact ⟨k + 1, by omega, by go_num, by
                have hF : bakE p s.edges R i g x = true := by rw [hE.out, ← hfd.out]; simp
                unfold Hid; rw [Htk.out, List.all_append, hall.out]; simp [hF], ((hexb.trans hxq).trans hw6).trans hx7⟩
              case measure => simp [intOf]; omega
      · have hgi' : ((g : Int) != (j : Int)) = true := by simp; omega
        have hE2 := hide (show bakE p s.edges R i j x = true by rw [hE.out, show ((g : Int) == (j : Int)) = false by simp; omega]; rfl)
        go_wp2_with fail
        go_roundw
        case rel => exact ⟨k + 1, by omega, by go_num, by unfold Hid; rw [Htk.out, List.all_append, hall.out]; simp [hE2.out], hexb.alloc _⟩
        case measure => simp [intOf]; omega
    · obtain rfl : m = k := by omega
      go_wp2
      go_ret
      have := hall.out
      rw [hL.out, List.take_length] at this
      exact ⟨ret_bool this.symm, hext⟩
end Go.Proofs.YtdeopnjheeekcaaDoor
