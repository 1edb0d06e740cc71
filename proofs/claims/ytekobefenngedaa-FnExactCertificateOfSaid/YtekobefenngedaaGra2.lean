/- spec.l3Copy, walked. -/
import Derived.Test.YtekobefenngedaaGra
namespace Go.Proofs.Ytekobefenngedaa
open Go Go.RowKit
set_option maxHeartbeats 2000000

set_option maxRecDepth 100000 in
theorem spec_l3Copy {lo hi : Nat} {A : Option Addr} {n c : Nat} {A' : Option Addr} {n' c' : Nat} {a : Aut} {w : World} (h : AutAt w lo hi A n A' n' a) (hs : a.size ≤ 1048576) :
    Calls Try.prog 14 #[.agg #[.int .i64 a.al, .slice A n c, .slice A' n' c']] w (RetAut w a) := by
  have h1 : n ≤ 1048576 := by have := h.n1; unfold Aut.size at hs; omega
  have h2 : n' ≤ 1048576 := by have := h.n2; unfold Aut.size at hs; omega
  have hrow : ∀ (k : Nat) (l : List Int), a.next[k]? = some l → l.length ≤ 1048576 := fun k l hl => by
    have h1 := tot_take_succ hl
    have h2 := tot_take_le a.next (k + 1)
    unfold Aut.size at hs
    omega
  have Hrow := hide hrow
  have hL := hide h.n1
  have hL' := hide h.n2
  have HS := hide (fun W (hW : Ext w W) => h.1.ext hW)
  have HA := hide (fun W (hW : Ext w W) => h.2.2.ext hW)
  have hlen := h.1.len
  clear hrow h hs
  go_enter Try.func14, Try.ntmps14
  obtain ⟨b1, bz⟩ := ext_blk2 (Ext.refl ((w.alloc (.cells #[.int .i64 a.al, .slice A n c, .slice A' n' c'] 29)).alloc (.cells #[.int .i64 0, .slice none 0 0, .slice none 0 0] 29)))
  have hw2 : Ext w ((w.alloc (.cells #[.int .i64 a.al, .slice A n c, .slice A' n' c'] 29)).alloc (.cells #[.int .i64 0, .slice none 0 0, .slice none 0 0] 29)) := ((Ext.refl w).alloc _).alloc _
  have hsz2 : w.heap.size + 2 = ((w.alloc (.cells #[.int .i64 a.al, .slice A n c, .slice A' n' c'] 29)).alloc (.cells #[.int .i64 0, .slice none 0 0, .slice none 0 0] 29)).heap.size := by simp
  go_upto_region 1 with fail
  generalize (w.alloc (.cells #[.int .i64 a.al, .slice A n c, .slice A' n' c'] 29)).alloc (.cells #[.int .i64 0, .slice none 0 0, .slice none 0 0] 29) = w2 at *
  go_cut [3] (fun v wx => ∃ (G : Nat) (vA : Value), v = .pointer (some ⟨G, 0, none⟩) ∧ Gra w2 wx G a.al (.slice none 0 0) [] vA a.acc)
  case first =>
    have c1 := fun W (hW : Ext w2 W) => (b1.ext hW).cell
    have hww := Ext.refl w2
    refine wp_region_tailU (fun X => Ext w2 X) [8] (OrdU.app [0, 1, 3, 4] (OrdU.two 2 (OrdU.two 5 (OrdU.of [6, 7, 8]) 7 (OrdU.of [5, 6, 8])) 7 (OrdU.of [2, 5, 6, 8]))) (by kernel_rfl) (by kernel_rfl) (by kernel_rfl) (by kernel_rfl) (by kernel_rfl) (fun _ _ _ _ _ h => h) (by first | assumption | exact (Ext.refl _).drew | (refine Ext.drew ?_; assumption)) ?_
    repeat (first | (refine useq_skip rfl rfl (by assumption) ?_; simp only [Act.put, List.setIfInBounds_toArray, List.set_cons_zero, List.set_cons_succ]) | (refine useq_pure (v := ?_) rfl rfl rfl rfl (fun X => ?_) ?_; rotate_left; (focus (go_simp <;> with_reducible rfl)); simp only [Act.put, List.setIfInBounds_toArray, List.set_cons_zero, List.set_cons_succ]) | (refine useq_read (v := ?_) rfl rfl rfl rfl (fun X hX => ?_) ?_; rotate_left; (focus (go_simp <;> with_reducible rfl)); simp only [Act.put, List.setIfInBounds_toArray, List.set_cons_zero, List.set_cons_succ]))
    have hx0 : Ext w2 w2.drew := hww.drew
    generalize w2.drew = wd at *
    refine useq_both rfl rfl rfl rfl (fun K hK => ?_) (fun K hK => ?_)
    · go_simp
      have hm := World.ownsRow_made (base := w2.heap.size) (e := 4) (size := 1) wd #[] 0 hx0.size (Nat.zero_le _) rfl
      have hx1 := (Ext.refl wd).alloc (.cells #[] 4)
      replace hx0 := hx0.trans hx1
      refine hK.out _ _ hx0 ?_
      generalize wd.alloc (.cells #[] 4) = wm at *
      generalize wd.heap.size = M at *
      (try simp only [Act.put, List.setIfInBounds_toArray, List.set_cons_zero, List.set_cons_succ])
      repeat (first | (refine useq_skip rfl rfl (by assumption) ?_; simp only [Act.put, List.setIfInBounds_toArray, List.set_cons_zero, List.set_cons_succ]) | (refine useq_pure (v := ?_) rfl rfl rfl rfl (fun X => ?_) ?_; rotate_left; (focus (go_simp <;> with_reducible rfl)); simp only [Act.put, List.setIfInBounds_toArray, List.set_cons_zero, List.set_cons_succ]) | (refine useq_read (v := ?_) rfl rfl rfl rfl (fun X hX => ?_) ?_; rotate_left; (focus (go_simp <;> with_reducible rfl)); simp only [Act.put, List.setIfInBounds_toArray, List.set_cons_zero, List.set_cons_succ]))
      clear hK
      refine useq_both rfl rfl rfl rfl (fun K hK => ?_) (fun K hK => ?_)
      · skip
        refine wp_onto wm _ _ 23 rfl w2.heap.size 4 _ 1 1 Try.underlying23 info_bool rfl (by decide) (.slice (some ⟨M, 0, none⟩) 0 0) 0 [] rfl hm _ _ A' n' c' (bools a.acc) rfl (HA.out _ (hw2.trans hx0)) (bools_one _) (by unfold maxLen; omega) (by omega) hx0.size ?_
        intro vA w4 hownA hgA hatA
        rw [Nat.zero_add, List.nil_append] at hownA
        obtain ⟨BA, dA, rfl⟩ := own_form hownA
        have hxA : Ext w2 w4 := hx0.grown hgA (fun k hk => (hm.lt k hk).1)
        replace hx0 := hxA
        refine hK.out _ _ hx0 ?_
        (try simp only [Act.put, List.setIfInBounds_toArray, List.set_cons_zero, List.set_cons_succ])
        repeat (first | (refine useq_skip rfl rfl (by assumption) ?_; simp only [Act.put, List.setIfInBounds_toArray, List.set_cons_zero, List.set_cons_succ]) | (refine useq_pure (v := ?_) rfl rfl rfl rfl (fun X => ?_) ?_; rotate_left; (focus (go_simp <;> with_reducible rfl)); simp only [Act.put, List.setIfInBounds_toArray, List.set_cons_zero, List.set_cons_succ]) | (refine useq_read (v := ?_) rfl rfl rfl rfl (fun X hX => ?_) ?_; rotate_left; (focus (go_simp <;> with_reducible rfl)); simp only [Act.put, List.setIfInBounds_toArray, List.set_cons_zero, List.set_cons_succ]))
        (refine useq_step rfl rfl rfl (fun K hK => ?_); go_simp)
        have hx1 := (Ext.refl w4).alloc (.cells #[.int .i64 0, .slice none 0 0, .slice none 0 0] 29)
        have hb := Blk.new w4 29 #[.int .i64 0, .slice none 0 0, .slice none 0 0]
        have hG := hx0.size
        replace hownA := own_ext hownA hx1
        replace hx0 := hx0.trans hx1
        refine hK.out _ _ hx0 ?_
        generalize w4.alloc (.cells #[.int .i64 0, .slice none 0 0, .slice none 0 0] 29) = wg at *
        generalize w4.heap.size = G at *
        (try simp only [Act.put, List.setIfInBounds_toArray, List.set_cons_zero, List.set_cons_succ])
        repeat (first | (refine useq_skip rfl rfl (by assumption) ?_; simp only [Act.put, List.setIfInBounds_toArray, List.set_cons_zero, List.set_cons_succ]) | (refine useq_pure (v := ?_) rfl rfl rfl rfl (fun X => ?_) ?_; rotate_left; (focus (go_simp <;> with_reducible rfl)); simp only [Act.put, List.setIfInBounds_toArray, List.set_cons_zero, List.set_cons_succ]) | (refine useq_read (v := ?_) rfl rfl rfl rfl (fun X hX => ?_) ?_; rotate_left; (focus (go_simp <;> with_reducible rfl)); simp only [Act.put, List.setIfInBounds_toArray, List.set_cons_zero, List.set_cons_succ]))
        have cG := hb.cell
        have fG := hb.frozen
        (refine useq_last rfl rfl rfl rfl (fun K hK => ?_))
        go_simp
        refine hK.out _ _ ?_
        refine useq_nil ?_
        have hfin : Gra w2 (((wg.setCell ⟨G, 0, none⟩ (.int .i64 a.al)).setCell ⟨G, 1, none⟩ (.slice none 0 0)).setCell ⟨G, 2, none⟩ (.slice BA n' dA)) G a.al (.slice none 0 0) [] (.slice BA n' dA) a.acc := ⟨fillA_blk hb rfl _ _ _, ⟨[], World.ownsRow_nil _ _ _ _, RowsOwn.nil _ _⟩, by
          rw [← hL'.out]
          exact own_frm hownA (fillA_frm wg G _ _ _) (fun b hv hS => own_far hownA hb (by decide) hv hS), hx0.frm (fillA_frm wg G _ _ _) (fun k hk e => by omega), hG⟩
        go_wp2_with fail
        go_meet
        exact ⟨G, _, rfl, hfin⟩
      · go_simp
        have hx1 := (Ext.refl wm).alloc (.cells #[.int .i64 0, .slice none 0 0, .slice none 0 0] 29)
        have hb := Blk.new wm 29 #[.int .i64 0, .slice none 0 0, .slice none 0 0]
        have hG := hx0.size
        replace hm := own_ext hm hx1
        replace hx0 := hx0.trans hx1
        refine hK.out _ _ hx0 ?_
        generalize wm.alloc (.cells #[.int .i64 0, .slice none 0 0, .slice none 0 0] 29) = wg at *
        generalize wm.heap.size = G at *
        (try simp only [Act.put, List.setIfInBounds_toArray, List.set_cons_zero, List.set_cons_succ])
        repeat (first | (refine useq_skip rfl rfl (by assumption) ?_; simp only [Act.put, List.setIfInBounds_toArray, List.set_cons_zero, List.set_cons_succ]) | (refine useq_pure (v := ?_) rfl rfl rfl rfl (fun X => ?_) ?_; rotate_left; (focus (go_simp <;> with_reducible rfl)); simp only [Act.put, List.setIfInBounds_toArray, List.set_cons_zero, List.set_cons_succ]) | (refine useq_read (v := ?_) rfl rfl rfl rfl (fun X hX => ?_) ?_; rotate_left; (focus (go_simp <;> with_reducible rfl)); simp only [Act.put, List.setIfInBounds_toArray, List.set_cons_zero, List.set_cons_succ]))
        refine useq_step rfl rfl rfl (fun K hK => ?_)
        refine wp_onto wg _ _ 23 rfl w2.heap.size 4 _ 1 1 Try.underlying23 info_bool rfl (by decide) (.slice (some ⟨M, 0, none⟩) 0 0) 0 [] rfl hm _ _ A' n' c' (bools a.acc) rfl (HA.out _ (hw2.trans hx0)) (bools_one _) (by unfold maxLen; omega) (by omega) hx0.size ?_
        intro vA w4 hownA hgA hatA
        rw [Nat.zero_add, List.nil_append] at hownA
        obtain ⟨BA, dA, rfl⟩ := own_form hownA
        have hxA : Ext w2 w4 := hx0.grown hgA (fun k hk => (hm.lt k hk).1)
        have hb : Blk w4 G 29 #[.int .i64 0, .slice none 0 0, .slice none 0 0] := (hgA.block G hb.lt (fun e => own_far hm hb (by decide) e.symm rfl)).trans hb
        replace hx0 := hxA
        refine hK.out _ _ hx0 ?_
        (try simp only [Act.put, List.setIfInBounds_toArray, List.set_cons_zero, List.set_cons_succ])
        repeat (first | (refine useq_skip rfl rfl (by assumption) ?_; simp only [Act.put, List.setIfInBounds_toArray, List.set_cons_zero, List.set_cons_succ]) | (refine useq_pure (v := ?_) rfl rfl rfl rfl (fun X => ?_) ?_; rotate_left; (focus (go_simp <;> with_reducible rfl)); simp only [Act.put, List.setIfInBounds_toArray, List.set_cons_zero, List.set_cons_succ]) | (refine useq_read (v := ?_) rfl rfl rfl rfl (fun X hX => ?_) ?_; rotate_left; (focus (go_simp <;> with_reducible rfl)); simp only [Act.put, List.setIfInBounds_toArray, List.set_cons_zero, List.set_cons_succ]))
        have cG := hb.cell
        have fG := hb.frozen
        (refine useq_last rfl rfl rfl rfl (fun K hK => ?_))
        go_simp
        refine hK.out _ _ ?_
        refine useq_nil ?_
        have hfin : Gra w2 (((w4.setCell ⟨G, 0, none⟩ (.int .i64 a.al)).setCell ⟨G, 1, none⟩ (.slice none 0 0)).setCell ⟨G, 2, none⟩ (.slice BA n' dA)) G a.al (.slice none 0 0) [] (.slice BA n' dA) a.acc := ⟨fillA_blk hb rfl _ _ _, ⟨[], World.ownsRow_nil _ _ _ _, RowsOwn.nil _ _⟩, by
          rw [← hL'.out]
          exact own_frm hownA (fillA_frm w4 G _ _ _) (fun b hv hS => own_far hownA hb (by decide) hv hS), hx0.frm (fillA_frm w4 G _ _ _) (fun k hk e => by omega), hG⟩
        go_wp2_with fail
        go_meet
        exact ⟨G, _, rfl, hfin⟩
    · go_simp
      have hx1 := (Ext.refl wd).alloc (.cells #[.int .i64 0, .slice none 0 0, .slice none 0 0] 29)
      have hb := Blk.new wd 29 #[.int .i64 0, .slice none 0 0, .slice none 0 0]
      have hG := hx0.size
      replace hx0 := hx0.trans hx1
      refine hK.out _ _ hx0 ?_
      generalize wd.alloc (.cells #[.int .i64 0, .slice none 0 0, .slice none 0 0] 29) = wg at *
      generalize wd.heap.size = G at *
      (try simp only [Act.put, List.setIfInBounds_toArray, List.set_cons_zero, List.set_cons_succ])
      repeat (first | (refine useq_skip rfl rfl (by assumption) ?_; simp only [Act.put, List.setIfInBounds_toArray, List.set_cons_zero, List.set_cons_succ]) | (refine useq_pure (v := ?_) rfl rfl rfl rfl (fun X => ?_) ?_; rotate_left; (focus (go_simp <;> with_reducible rfl)); simp only [Act.put, List.setIfInBounds_toArray, List.set_cons_zero, List.set_cons_succ]) | (refine useq_read (v := ?_) rfl rfl rfl rfl (fun X hX => ?_) ?_; rotate_left; (focus (go_simp <;> with_reducible rfl)); simp only [Act.put, List.setIfInBounds_toArray, List.set_cons_zero, List.set_cons_succ]))
      (refine useq_step rfl rfl rfl (fun K hK => ?_); go_simp)
      have hm := World.ownsRow_made (base := w2.heap.size) (e := 4) (size := 1) wg #[] 0 hx0.size (Nat.zero_le _) rfl
      have hx1 := (Ext.refl wg).alloc (.cells #[] 4)
      replace hb := hb.ext hx1
      replace hx0 := hx0.trans hx1
      refine hK.out _ _ hx0 ?_
      generalize wg.alloc (.cells #[] 4) = wm at *
      generalize wg.heap.size = M at *
      (try simp only [Act.put, List.setIfInBounds_toArray, List.set_cons_zero, List.set_cons_succ])
      repeat (first | (refine useq_skip rfl rfl (by assumption) ?_; simp only [Act.put, List.setIfInBounds_toArray, List.set_cons_zero, List.set_cons_succ]) | (refine useq_pure (v := ?_) rfl rfl rfl rfl (fun X => ?_) ?_; rotate_left; (focus (go_simp <;> with_reducible rfl)); simp only [Act.put, List.setIfInBounds_toArray, List.set_cons_zero, List.set_cons_succ]) | (refine useq_read (v := ?_) rfl rfl rfl rfl (fun X hX => ?_) ?_; rotate_left; (focus (go_simp <;> with_reducible rfl)); simp only [Act.put, List.setIfInBounds_toArray, List.set_cons_zero, List.set_cons_succ]))
      refine useq_step rfl rfl rfl (fun K hK => ?_)
      refine wp_onto wm _ _ 23 rfl w2.heap.size 4 _ 1 1 Try.underlying23 info_bool rfl (by decide) (.slice (some ⟨M, 0, none⟩) 0 0) 0 [] rfl hm _ _ A' n' c' (bools a.acc) rfl (HA.out _ (hw2.trans hx0)) (bools_one _) (by unfold maxLen; omega) (by omega) hx0.size ?_
      intro vA w4 hownA hgA hatA
      rw [Nat.zero_add, List.nil_append] at hownA
      obtain ⟨BA, dA, rfl⟩ := own_form hownA
      have hxA : Ext w2 w4 := hx0.grown hgA (fun k hk => (hm.lt k hk).1)
      have hb : Blk w4 G 29 #[.int .i64 0, .slice none 0 0, .slice none 0 0] := (hgA.block G hb.lt (fun e => own_far hm hb (by decide) e.symm rfl)).trans hb
      replace hx0 := hxA
      refine hK.out _ _ hx0 ?_
      (try simp only [Act.put, List.setIfInBounds_toArray, List.set_cons_zero, List.set_cons_succ])
      repeat (first | (refine useq_skip rfl rfl (by assumption) ?_; simp only [Act.put, List.setIfInBounds_toArray, List.set_cons_zero, List.set_cons_succ]) | (refine useq_pure (v := ?_) rfl rfl rfl rfl (fun X => ?_) ?_; rotate_left; (focus (go_simp <;> with_reducible rfl)); simp only [Act.put, List.setIfInBounds_toArray, List.set_cons_zero, List.set_cons_succ]) | (refine useq_read (v := ?_) rfl rfl rfl rfl (fun X hX => ?_) ?_; rotate_left; (focus (go_simp <;> with_reducible rfl)); simp only [Act.put, List.setIfInBounds_toArray, List.set_cons_zero, List.set_cons_succ]))
      have cG := hb.cell
      have fG := hb.frozen
      (refine useq_last rfl rfl rfl rfl (fun K hK => ?_))
      go_simp
      refine hK.out _ _ ?_
      refine useq_nil ?_
      have hfin : Gra w2 (((w4.setCell ⟨G, 0, none⟩ (.int .i64 a.al)).setCell ⟨G, 1, none⟩ (.slice none 0 0)).setCell ⟨G, 2, none⟩ (.slice BA n' dA)) G a.al (.slice none 0 0) [] (.slice BA n' dA) a.acc := ⟨fillA_blk hb rfl _ _ _, ⟨[], World.ownsRow_nil _ _ _ _, RowsOwn.nil _ _⟩, by
        rw [← hL'.out]
        exact own_frm hownA (fillA_frm w4 G _ _ _) (fun b hv hS => own_far hownA hb (by decide) hv hS), hx0.frm (fillA_frm w4 G _ _ _) (fun k hk e => by omega), hG⟩
      go_wp2_with fail
      go_meet
      exact ⟨G, _, rfl, hfin⟩
  case rest =>
    obtain ⟨G, vA, rfl, hgr⟩ := hcut
    have k1 := (b1.ext hgr.ext).cell
    go_wp2_with fail
    go_loopw [4] (fun i wr => ∃ (k : Nat) (v : Value), k ≤ n ∧ i = .int .i64 k ∧ Gra w2 wr G a.al v (a.next.take k) vA a.acc) (fun i _ => n - (intOf i).toNat)
    case atStart => exact ⟨0, _, Nat.zero_le _, rfl, by simpa using hgr⟩
    case round =>
      clear hgr k1
      obtain ⟨k, v, hk, rfl, hgr⟩ := hrel
      by_cases hlt : k < n
      · obtain ⟨ad, Ak, ck, l, rfl, _, _, hl, hc0, hrk⟩ := (HS.out wr (hw2.trans hgr.ext)).row hlt
        have hll := Hrow.out k l hl.out
        have Htk := hide (show a.next.take (k + 1) = a.next.take k ++ [l] by rw [List.take_add_one, hl.out]; rfl)
        have htl := hide (show (a.next.take k).length = k by rw [List.length_take]; have := hL.out; omega)
        obtain ⟨rows, hv, hrows⟩ := hgr.own
        have k1 := (b1.ext hgr.ext).cell
        go_upto_region 5 with fail
        clear k1
        have cG : ∀ W, Ext wr W → ∀ q, W.cell? ⟨G, q, none⟩ = #[Value.int .i64 a.al, v, vA][q]? := fun W hW => (hgr.blk.ext hW).cell
        have hww := Ext.refl wr
        have Hrk := hide (fun W (hW : Ext wr W) => hrk.ext hW)
        have C1 : ∀ W, Ext wr W → ∀ q, W.cell? ⟨w.heap.size, q, none⟩ = #[Value.int .i64 a.al, .slice (some ad) n c, .slice A' n' c'][q]? := fun W hW => ((b1.ext hgr.ext).ext hW).cell
        have Cr : ∀ W, Ext wr W → W.cell? (ad.add k) = some (.slice Ak l.length ck) := fun W hW => hW.cell_some hc0
        have hkn : (k : Int) < (n : Int) := by omega
        clear hc0 hrk
        refine wp_region_tailU (fun X => Ext wr X) [10, 12] (OrdU.of [0, 1, 3, 4, 5, 6, 7, 2, 8, 9, 10, 11, 12]) (by kernel_rfl) (by kernel_rfl) (by kernel_rfl) (by kernel_rfl) (by kernel_rfl) (fun _ _ _ _ _ h => h) (by first | assumption | exact (Ext.refl _).drew | (refine Ext.drew ?_; assumption)) ?_
        repeat (first | (refine useq_skip rfl rfl (by assumption) ?_; simp only [Act.put, List.setIfInBounds_toArray, List.set_cons_zero, List.set_cons_succ]) | (refine useq_pure (v := ?_) rfl rfl rfl rfl (fun X => ?_) ?_; rotate_left; (focus (go_simp <;> with_reducible rfl)); simp only [Act.put, List.setIfInBounds_toArray, List.set_cons_zero, List.set_cons_succ]) | (refine useq_read (v := ?_) rfl rfl rfl rfl (fun X hX => ?_) ?_; rotate_left; (focus (go_simp <;> with_reducible rfl)); simp only [Act.put, List.setIfInBounds_toArray, List.set_cons_zero, List.set_cons_succ]))
        have hx0 : Ext wr wr.drew := hww.drew
        generalize wr.drew = wd at *
        (refine useq_step rfl rfl rfl (fun K hK => ?_); go_simp)
        have hm := World.ownsRow_made (base := wr.heap.size) (e := 3) (size := 1) wd #[] 0 hx0.size (Nat.zero_le _) rfl
        have hx1 := (Ext.refl wd).alloc (.cells #[] 3)
        replace hx0 := hx0.trans hx1
        refine hK.out _ _ hx0 ?_
        generalize wd.alloc (.cells #[] 3) = wm at *
        generalize wd.heap.size = M at *
        (try simp only [Act.put, List.setIfInBounds_toArray, List.set_cons_zero, List.set_cons_succ])
        repeat (first | (refine useq_skip rfl rfl (by assumption) ?_; simp only [Act.put, List.setIfInBounds_toArray, List.set_cons_zero, List.set_cons_succ]) | (refine useq_pure (v := ?_) rfl rfl rfl rfl (fun X => ?_) ?_; rotate_left; (focus (go_simp <;> with_reducible rfl)); simp only [Act.put, List.setIfInBounds_toArray, List.set_cons_zero, List.set_cons_succ]) | (refine useq_read (v := ?_) rfl rfl rfl rfl (fun X hX => ?_) ?_; rotate_left; (focus (go_simp <;> with_reducible rfl)); simp only [Act.put, List.setIfInBounds_toArray, List.set_cons_zero, List.set_cons_succ]))
        refine useq_step rfl rfl rfl (fun K hK => ?_)
        refine wp_onto wm _ _ 50 rfl wr.heap.size 3 _ 1 8 Try.underlying50 info_int rfl (by decide) (.slice (some ⟨M, 0, none⟩) 0 0) 0 [] rfl hm _ _ Ak l.length ck (ints l) rfl (Hrk.out _ hx0) (ints_one _) (by unfold maxLen; omega) (by omega) hx0.size ?_
        intro vR w3 hrow hgR hatR
        rw [Nat.zero_add, List.nil_append] at hrow
        obtain ⟨BR, dR, rfl⟩ := own_form hrow
        have hww3 : Ext wr w3 := hx0.grown hgR (fun k hk => (hm.lt k hk).1)
        refine hK.out _ _ hww3 ?_
        (try simp only [Act.put, List.setIfInBounds_toArray, List.set_cons_zero, List.set_cons_succ])
        repeat (first | (refine useq_skip rfl rfl (by assumption) ?_; simp only [Act.put, List.setIfInBounds_toArray, List.set_cons_zero, List.set_cons_succ]) | (refine useq_pure (v := ?_) rfl rfl rfl rfl (fun X => ?_) ?_; rotate_left; (focus (go_simp <;> with_reducible rfl)); simp only [Act.put, List.setIfInBounds_toArray, List.set_cons_zero, List.set_cons_succ]) | (refine useq_read (v := ?_) rfl rfl rfl rfl (fun X hX => ?_) ?_; rotate_left; (focus (go_simp <;> with_reducible rfl)); simp only [Act.put, List.setIfInBounds_toArray, List.set_cons_zero, List.set_cons_succ]))
        (refine useq_step rfl rfl rfl (fun K hK => ?_); go_simp)
        refine hK.out _ _ (hww3.alloc _) ?_
        (try simp only [Act.put, List.setIfInBounds_toArray, List.set_cons_zero, List.set_cons_succ])
        (refine useq_last rfl rfl rfl rfl (fun K hK => ?_))
        refine wp_push w2 w3 _ _ _ rfl 50 _ 1 24 Try.underlying22 info_ints rfl (by decide) v (a.next.take k).length rows _ _ rfl rfl (hgr.ext.trans hww3).size (own_ext hv hww3) rfl (cells_slice _ _ _) (by unfold maxLen; have := htl.out; omega) (by have := htl.out; omega) ?_
        intro g5 cap5 w5 hown5 hg5 hat5 hlt5
        refine hK.out _ _ ?_
        (try simp only [Act.put, List.setIfInBounds_toArray, List.set_cons_zero, List.set_cons_succ])
        repeat (first | (refine useq_skip rfl rfl (by assumption) ?_; simp only [Act.put, List.setIfInBounds_toArray, List.set_cons_zero, List.set_cons_succ]) | (refine useq_pure (v := ?_) rfl rfl rfl rfl (fun X => ?_) ?_; rotate_left; (focus (go_simp <;> with_reducible rfl)); simp only [Act.put, List.setIfInBounds_toArray, List.set_cons_zero, List.set_cons_succ]) | (refine useq_read (v := ?_) rfl rfl rfl rfl (fun X hX => ?_) ?_; rotate_left; (focus (go_simp <;> with_reducible rfl)); simp only [Act.put, List.setIfInBounds_toArray, List.set_cons_zero, List.set_cons_succ]))
        obtain ⟨p1, p2, p3⟩ := hgr.push hrows hv hww3 hrow (W' := w5) hown5 hg5 hat5
        have p1' := p1.out
        (refine useq_last rfl rfl rfl rfl (fun K hK => ?_))
        go_simp
        refine hK.out _ _ ?_
        refine useq_nil ?_
        go_wp2_with fail
        go_roundw
        case rel => exact ⟨k + 1, _, by omega, by go_num, by rw [Htk.out]; first | exact p3 | simpa using p3⟩
        case measure => simp [intOf]; omega
      · obtain rfl : n = k := by omega
        obtain ⟨A5, c5, rfl⟩ : ∃ A5 c5, v = .slice A5 n c5 := by
          obtain ⟨rows, hv, _⟩ := hgr.own
          rw [List.take_of_length_le (by have := hL.out; omega), ← hL.out] at hv
          exact own_form hv
        obtain ⟨B5, d5, rfl⟩ := own_form hgr.acc
        have k1 := (b1.ext hgr.ext).cell
        have cG := hgr.blk.cell
        have hbz := bz.ext hgr.ext
        have cZ := hbz.cell
        have fZ := hbz.frozen
        have hfl := fillA_frm wr (w.heap.size + 1) (.int .i64 a.al) (.slice A5 n c5) (.slice B5 a.acc.length d5)
        have hbf := fillA_blk hbz rfl (.int .i64 a.al) (.slice A5 n c5) (.slice B5 a.acc.length d5)
        have hxf := (hw2.trans hgr.ext).frm hfl (fun k hk e => by omega)
        have hfin := hide (show RetAut w a (.returned (.agg #[.int .i64 a.al, .slice A5 n c5, .slice B5 a.acc.length d5])) (((wr.setCell ⟨w.heap.size + 1, 0, none⟩ (.int .i64 a.al)).setCell ⟨w.heap.size + 1, 1, none⟩ (.slice A5 n c5)).setCell ⟨w.heap.size + 1, 2, none⟩ (.slice B5 a.acc.length d5)) from by
          refine ⟨A5, n, c5, B5, a.acc.length, d5, rfl, ⟨?_, hL.out, ?_, rfl⟩, hxf⟩
          · have ho := hgr.own
            rw [List.take_of_length_le (by have := hL.out; omega)] at ho
            exact (ho.keep hfl (fun b h1 e => by omega)).less (by omega)
          · exact own_less (own_keep hgr.acc hfl (fun b h1 e => by omega)) (by omega))
        go_wp2_with fail
        generalize ((wr.setCell ⟨w.heap.size + 1, 0, none⟩ (.int .i64 a.al)).setCell ⟨w.heap.size + 1, 1, none⟩ (.slice A5 n c5)).setCell ⟨w.heap.size + 1, 2, none⟩ (.slice B5 a.acc.length d5) = wf at *
        have cf := hbf.cell
        exact bodyPost_ret (v := .agg #[.int .i64 a.al, .slice A5 n c5, .slice B5 a.acc.length d5]) (by simp [results, Try.results14, go_sem, cf]) rfl hfin.out
end Go.Proofs.Ytekobefenngedaa
