/- spec.l2Wrong, walked. | spec.l15Split, walked. | Two variables that hold systems which were drawn. They hold of every program, without conditions. | spec.l15Any, walked. | spec.l6Pair, walked. | spec.l15Pair and what the laws on simulation draw, walked. | The laws' own small functions on numbers, sets and systems, walked. | spec.l2Least, walked. -/
import Derived.Test.YtbifoikcmjmdeaaDoorG06
import Derived.Deep.CutBlock
import Derived.Test.YtbifoikcmjmdeaaDoorG04
import Derived.Test.YtbifoikcmjmdeaaDoorG05
import Derived.Test.YtbifoikcmjmdeaaDoorG03
namespace Go.Proofs.YtbifoikcmjmdeaaDoor
open Go Go.RowKit
set_option maxHeartbeats 4000000

/-- The copy of a system behind a new variable. -/
theorem wrong_acc {R M G : Nat} {al st : Int} {es : List Edg} {w w1 W : World} {v : Value} (hr : Rd w R M) (hx : Ext w w1) (hR : R < w.heap.size) (hxW : Ext w1 W) (hown : W.ownsRow w1.heap.size 48 3 v es.length (edgeCells es)) (hG : w1.heap.size ≤ G) (hB : Blk W G 25 #[.int .i64 al, .int .i64 st, v]) :
    Acc w w1 W R G M al st v es :=
  ⟨hB, hown, hr.ext (hx.trans hxW), (hx.trans hxW).dr, hxW.toFrm, hR, hx.size, Nat.le_trans hx.size hG⟩
theorem edge_lit (w : World) : (w.alloc (.cells #[] 48)).drew.ownsRow w.heap.size 48 3 (.slice (some ⟨w.heap.size, 0, none⟩) 0 0) 0 [] :=
  World.ownsRow_lit w #[] 0 (Nat.le_refl _) (by unfold maxLen; omega) rfl
theorem edge_own {W : World} {base n : Nat} {v : Value} {es : List Edg} (hn : n = es.length) (h : W.ownsRow base 48 3 v n (edgeCells es)) : W.ownsRow base 48 3 v es.length (edgeCells es) := by
  subst hn
  exact h
theorem wrong_filled {R M G : Nat} {al st : Int} {es : List Edg} {w w1 W : World} {v : Value} (hr : Rd w R M) (hx : Ext w w1) (hR : R < w.heap.size) (hxW : Ext w1 W) (hown : W.ownsRow w1.heap.size 48 3 v es.length (edgeCells es)) (hB : Blk W G 25 #[.int .i64 0, .int .i64 0, .slice none 0 0]) (hG : w1.heap.size ≤ G) :
    ∃ (G' : Nat) (v' : Value), Value.pointer (some ⟨G, 0, none⟩) = .pointer (some ⟨G', 0, none⟩) ∧ w1.heap.size ≤ G' ∧ Acc w w1 (((W.setCell ⟨G, 0, none⟩ (.int .i64 al)).setCell ⟨G, 1, none⟩ (.int .i64 st)).setCell ⟨G, 2, none⟩ v) R G' M al st v' es := by
  have hf := frm_fill W G (.int .i64 al) (.int .i64 st) v
  have hne : ∀ b, v.ownBlock = some b → b ≠ G := by
    rintro b hv rfl
    rcases hown.2 with ⟨rfl, _⟩ | ⟨g, cap, cur, rfl, _, hh, _⟩
    · simp [Value.ownBlock] at hv
    · have hg : g = b := by simpa [Value.ownBlock] using hv
      subst hg
      unfold Blk at hB
      rw [hh] at hB
      injection hB with hB
      injection hB with _ ht
      exact absurd ht (by decide)
  refine ⟨G, v, rfl, hG, wrong_acc hr hx hR ?_ (own_frm hown hf (fun b hv hS => hne b hv hS)) hG (by simpa using ((hB.set_ 0 (.int .i64 al)).set_ 1 (.int .i64 st)).set_ 2 v)⟩
  exact ((hxW.setCell (p := ⟨G, 0, none⟩) hG _).setCell (p := ⟨G, 1, none⟩) hG _).setCell (p := ⟨G, 2, none⟩) hG _
theorem acc_some {w0 wB W : World} {R G M : Nat} {al st : Int} {A : Option Addr} {n c : Nat} {es : List Edg} (h : Acc w0 wB W R G M al st (.slice A n c) es) (hn : 0 < n) : ∃ g, A = some ⟨g, 0, none⟩ := by
  rcases h.own.2 with ⟨hv, h0⟩ | ⟨g, cap, cur, hv, _⟩
  · injection hv with _ h2 _; omega
  · injection hv with h1
    exact ⟨g, h1⟩
set_option maxRecDepth 100000 in
theorem spec_l2Wrong {R M n c L : Nat} {A : Option Addr} {s : Sys} {w : World} (h : Rd w R M) (hM : M ≤ 900000000) (hs : SysIn w R A n s) (hn : n ≤ L) (hL : L ≤ 100000) :
    Calls Tryd.prog 72 #[.pointer (some ⟨R, 0, none⟩), .agg #[.int .i64 s.al, .int .i64 s.st, .slice A n c]] w (RetA R (M + 10) (L + 1) w) := by
  have hRl := h.lt
  have hr0 := hs.at_.2
  have hen := hide hs.1
  obtain ⟨al, st, es⟩ := s
  simp only at hr0 hen ⊢
  have hx1 : Ext w ((w.alloc (.cells #[.int .i64 al, .int .i64 st, .slice A n c] 25)).alloc (.cells #[.int .i64 0, .int .i64 0, .slice none 0 0] 25)) := ((Ext.refl _).alloc _).alloc _
  obtain ⟨bS, bZ⟩ := ext_blk2 (Ext.refl ((w.alloc (.cells #[.int .i64 al, .int .i64 st, .slice A n c] 25)).alloc (.cells #[.int .i64 0, .int .i64 0, .slice none 0 0] 25)))
  have hsz : ((w.alloc (.cells #[.int .i64 al, .int .i64 st, .slice A n c] 25)).alloc (.cells #[.int .i64 0, .int .i64 0, .slice none 0 0] 25)).heap.size = w.heap.size + 2 := by simp
  have HbS := hide bS
  have HbZ := hide bZ
  have Hx1 := hide hx1
  have Hsz := hide hsz
  clear bS bZ hx1 hsz hs
  go_enter Tryd.func72, Tryd.ntmps72
  go_wp2_with fail
  generalize (w.alloc (.cells #[.int .i64 al, .int .i64 st, .slice A n c] 25)).alloc (.cells #[.int .i64 0, .int .i64 0, .slice none 0 0] 25) = w1 at *
  have hz1 : w.heap.size + 2 ≤ w1.heap.size := by rw [Hsz.out]; exact Nat.le_refl _
  go_upto_region 1 with fail
  go_cut [5] (fun s5 wx => ∃ (G : Nat) (v : Value), s5 = .pointer (some ⟨G, 0, none⟩) ∧ w1.heap.size ≤ G ∧ Acc w w1 wx R G M al st v es)
  case first =>
    have cS : ∀ W, Ext w1 W → ∀ q, W.cell? ⟨w.heap.size, q, none⟩ = #[Value.int .i64 al, .int .i64 st, .slice A n c][q]? := fun W hW => (HbS.out.ext hW).cell
    refine wp_region_tail (fun X => Ext w1 X) [10] (Ord.app [0, 1, 2, 3, 5, 6] (Ord.two 4 (Ord.two 7 (Ord.of [8, 9, 10]) 9 (Ord.of [7, 8, 10])) 9 (Ord.of [4, 7, 8, 10]))) (by kernel_rfl) rfl (by kernel_rfl) (by kernel_rfl) (by kernel_rfl) (fun _ _ _ _ _ h => h) (by first | assumption | exact (Ext.refl _).drew | exact (Dr.refl _ _).drew | (refine Ext.drew ?_; assumption)) ?_
    repeat (first | (refine tseq_skip rfl rfl (by assumption) ?_; simp only [Act.put, List.setIfInBounds_toArray, List.set_cons_zero, List.set_cons_succ]) | (refine tseq_pure (v := ?_) rfl rfl rfl rfl (fun X => ?_) ?_; rotate_left; (focus (go_simp <;> with_reducible rfl)); simp only [Act.put, List.setIfInBounds_toArray, List.set_cons_zero, List.set_cons_succ]) | (refine tseq_read (v := ?_) rfl rfl rfl rfl (fun X hX => ?_) ?_; rotate_left; (focus (go_simp <;> with_reducible rfl)); simp only [Act.put, List.setIfInBounds_toArray, List.set_cons_zero, List.set_cons_succ]))
    refine tseq_both rfl rfl rfl rfl (fun K hK => ?_) (fun K hK => ?_)
    · go_simp
      have hx2 : Ext w1 (w1.alloc (.cells #[] 48)).drew := ((Ext.refl w1).alloc _).drew
      have hown : (w1.alloc (.cells #[] 48)).drew.ownsRow w1.heap.size 48 3 (.slice (some ⟨w1.heap.size, 0, none⟩) 0 0) 0 [] := edge_lit w1
      have hz2 : (w1.alloc (.cells #[] 48)).drew.heap.size = w1.heap.size + 1 := by simp
      refine hK.out _ _ hx2 ?_
      (try simp only [Act.put, List.setIfInBounds_toArray, List.set_cons_zero, List.set_cons_succ])
      generalize (w1.alloc (.cells #[] 48)).drew = w2 at *
      refine tseq_both rfl rfl rfl rfl (fun K hK => ?_) (fun K hK => ?_)
      · refine wp_onto _ _ _ _ rfl w1.heap.size 48 _ 3 24 Tryd.underlying23 info_edge rfl (by decide) (.slice (some ⟨w1.heap.size, 0, none⟩) 0 0) 0 [] rfl hown (R + 1) w.heap.size A n c (edgeCells es) rfl (hr0.ext (Hx1.out.trans hx2)) (edgeCells_one es) (by unfold maxLen; omega) (by omega) hx2.size ?_
        intro v w3 hown3 hg3 hat3
        rw [Nat.zero_add, List.nil_append] at hown3
        obtain ⟨A3, c3, rfl⟩ := own_form hown3
        have hx3 : Ext w1 w3 := hx2.grown hg3 (fun k hk => by simp [Value.ownBlock] at hk; omega)
        refine hK.out _ _ hx3 ?_
        (try simp only [Act.put, List.setIfInBounds_toArray, List.set_cons_zero, List.set_cons_succ])
        repeat (first | (refine tseq_skip rfl rfl (by assumption) ?_; simp only [Act.put, List.setIfInBounds_toArray, List.set_cons_zero, List.set_cons_succ]) | (refine tseq_pure (v := ?_) rfl rfl rfl rfl (fun X => ?_) ?_; rotate_left; (focus (go_simp <;> with_reducible rfl)); simp only [Act.put, List.setIfInBounds_toArray, List.set_cons_zero, List.set_cons_succ]) | (refine tseq_read (v := ?_) rfl rfl rfl rfl (fun X hX => ?_) ?_; rotate_left; (focus (go_simp <;> with_reducible rfl)); simp only [Act.put, List.setIfInBounds_toArray, List.set_cons_zero, List.set_cons_succ]))
        (refine tseq_step rfl rfl rfl (fun K hK => ?_); go_simp)
        refine hK.out _ _ (hx3.alloc _) ?_
        (try simp only [Act.put, List.setIfInBounds_toArray, List.set_cons_zero, List.set_cons_succ])
        repeat (first | (refine tseq_skip rfl rfl (by assumption) ?_; simp only [Act.put, List.setIfInBounds_toArray, List.set_cons_zero, List.set_cons_succ]) | (refine tseq_pure (v := ?_) rfl rfl rfl rfl (fun X => ?_) ?_; rotate_left; (focus (go_simp <;> with_reducible rfl)); simp only [Act.put, List.setIfInBounds_toArray, List.set_cons_zero, List.set_cons_succ]) | (refine tseq_read (v := ?_) rfl rfl rfl rfl (fun X hX => ?_) ?_; rotate_left; (focus (go_simp <;> with_reducible rfl)); simp only [Act.put, List.setIfInBounds_toArray, List.set_cons_zero, List.set_cons_succ]))
        (refine tseq_last rfl rfl rfl rfl (fun K hK => ?_))
        go_simp
        refine hK.out _ _ ?_
        refine tseq_nil ?_
        go_wp2_with fail
        go_meet
        exact ⟨w3.heap.size, .slice A3 n c3, rfl, hx3.size, wrong_acc h Hx1.out hRl (hx3.alloc _) (own_ext (edge_own hen.out hown3) ((Ext.refl _).alloc _)) hx3.size (Blk.new _ _ _)⟩
      · go_simp
        have hx3 := hx2.alloc (.cells #[.int .i64 0, .int .i64 0, .slice none 0 0] 25)
        have hx23 := (Ext.refl w2).alloc (.cells #[.int .i64 0, .int .i64 0, .slice none 0 0] 25)
        have hb3 := Blk.new w2 25 #[.int .i64 0, .int .i64 0, .slice none 0 0]
        replace hown := own_ext hown hx23
        refine hK.out _ _ hx3 ?_
        generalize w2.alloc (.cells #[.int .i64 0, .int .i64 0, .slice none 0 0] 25) = w2' at *
        rw [hz2] at hb3
        have hx2 := hx3
        (try simp only [Act.put, List.setIfInBounds_toArray, List.set_cons_zero, List.set_cons_succ])
        refine tseq_step rfl rfl rfl (fun K hK => ?_)
        refine wp_onto _ _ _ _ rfl w1.heap.size 48 _ 3 24 Tryd.underlying23 info_edge rfl (by decide) (.slice (some ⟨w1.heap.size, 0, none⟩) 0 0) 0 [] rfl hown (R + 1) w.heap.size A n c (edgeCells es) rfl (hr0.ext (Hx1.out.trans hx2)) (edgeCells_one es) (by unfold maxLen; omega) (by omega) hx2.size ?_
        intro v w3 hown3 hg3 hat3
        rw [Nat.zero_add, List.nil_append] at hown3
        obtain ⟨A3, c3, rfl⟩ := own_form hown3
        have hx3 : Ext w1 w3 := hx2.grown hg3 (fun k hk => by simp [Value.ownBlock] at hk; omega)
        have hb4 : Blk w3 (w1.heap.size + 1) 25 #[.int .i64 0, .int .i64 0, .slice none 0 0] := hb3.frm (Frm.of_grown hg3) (by simp [Value.ownBlock])
        refine hK.out _ _ hx3 ?_
        (try simp only [Act.put, List.setIfInBounds_toArray, List.set_cons_zero, List.set_cons_succ])
        repeat (first | (refine tseq_skip rfl rfl (by assumption) ?_; simp only [Act.put, List.setIfInBounds_toArray, List.set_cons_zero, List.set_cons_succ]) | (refine tseq_pure (v := ?_) rfl rfl rfl rfl (fun X => ?_) ?_; rotate_left; (focus (go_simp <;> with_reducible rfl)); simp only [Act.put, List.setIfInBounds_toArray, List.set_cons_zero, List.set_cons_succ]) | (refine tseq_read (v := ?_) rfl rfl rfl rfl (fun X hX => ?_) ?_; rotate_left; (focus (go_simp <;> with_reducible rfl)); simp only [Act.put, List.setIfInBounds_toArray, List.set_cons_zero, List.set_cons_succ]))
        have cE := hb4.cell
        have fE := hb4.frozen
        (refine tseq_last rfl rfl rfl rfl (fun K hK => ?_))
        go_simp
        refine hK.out _ _ ?_
        refine tseq_nil ?_
        go_wp2_with fail
        go_meet
        exact wrong_filled h Hx1.out hRl hx3 (edge_own hen.out hown3) hb4 (by omega)
    · go_simp
      have hx2 : Ext w1 (w1.alloc (.cells #[.int .i64 0, .int .i64 0, .slice none 0 0] 25)).drew := ((Ext.refl w1).alloc _).drew
      have hb2 : Blk (w1.alloc (.cells #[.int .i64 0, .int .i64 0, .slice none 0 0] 25)).drew w1.heap.size 25 #[.int .i64 0, .int .i64 0, .slice none 0 0] := Blk.new w1 _ _
      have hz2 : (w1.alloc (.cells #[.int .i64 0, .int .i64 0, .slice none 0 0] 25)).drew.heap.size = w1.heap.size + 1 := by simp
      refine hK.out _ _ hx2 ?_
      (try simp only [Act.put, List.setIfInBounds_toArray, List.set_cons_zero, List.set_cons_succ])
      generalize (w1.alloc (.cells #[.int .i64 0, .int .i64 0, .slice none 0 0] 25)).drew = w2 at *
      (refine tseq_step rfl rfl rfl (fun K hK => ?_); go_simp)
      have hx3 := hx2.alloc (.cells #[] 48)
      have hown : (w2.alloc (.cells #[] 48)).ownsRow w1.heap.size 48 3 (.slice (some ⟨w1.heap.size + 1, 0, none⟩) 0 0) 0 [] := by
        rw [← hz2]
        exact World.ownsRow_lit w2 #[] 0 hx2.size (by unfold maxLen; omega) rfl
      have hb3 := hb2.ext ((Ext.refl w2).alloc (.cells #[] 48))
      refine hK.out _ _ hx3 ?_
      generalize w2.alloc (.cells #[] 48) = w3 at *
      (try simp only [Act.put, List.setIfInBounds_toArray, List.set_cons_zero, List.set_cons_succ])
      refine tseq_step rfl rfl rfl (fun K hK => ?_)
      refine wp_onto _ _ _ _ rfl w1.heap.size 48 _ 3 24 Tryd.underlying23 info_edge rfl (by decide) (.slice (some ⟨w1.heap.size + 1, 0, none⟩) 0 0) 0 [] rfl hown (R + 1) w.heap.size A n c (edgeCells es) rfl (hr0.ext (Hx1.out.trans hx3)) (edgeCells_one es) (by unfold maxLen; omega) (by omega) hx3.size ?_
      intro v w4 hown4 hg4 hat4
      rw [Nat.zero_add, List.nil_append] at hown4
      obtain ⟨A4, c4, rfl⟩ := own_form hown4
      have hx4 : Ext w1 w4 := hx3.grown hg4 (fun k hk => by simp [Value.ownBlock] at hk; omega)
      have hb4 : Blk w4 w1.heap.size 25 #[.int .i64 0, .int .i64 0, .slice none 0 0] := hb3.frm (Frm.of_grown hg4) (by simp [Value.ownBlock])
      refine hK.out _ _ hx4 ?_
      (try simp only [Act.put, List.setIfInBounds_toArray, List.set_cons_zero, List.set_cons_succ])
      repeat (first | (refine tseq_skip rfl rfl (by assumption) ?_; simp only [Act.put, List.setIfInBounds_toArray, List.set_cons_zero, List.set_cons_succ]) | (refine tseq_pure (v := ?_) rfl rfl rfl rfl (fun X => ?_) ?_; rotate_left; (focus (go_simp <;> with_reducible rfl)); simp only [Act.put, List.setIfInBounds_toArray, List.set_cons_zero, List.set_cons_succ]) | (refine tseq_read (v := ?_) rfl rfl rfl rfl (fun X hX => ?_) ?_; rotate_left; (focus (go_simp <;> with_reducible rfl)); simp only [Act.put, List.setIfInBounds_toArray, List.set_cons_zero, List.set_cons_succ]))
      have cE := hb4.cell
      have fE := hb4.frozen
      (refine tseq_last rfl rfl rfl rfl (fun K hK => ?_))
      go_simp
      refine hK.out _ _ ?_
      refine tseq_nil ?_
      go_wp2_with fail
      go_meet
      exact wrong_filled h Hx1.out hRl hx4 (edge_own hen.out hown4) hb4 (Nat.le_refl _)
  case rest =>
    obtain ⟨G, v, rfl, hGw, hacc⟩ := hcut
    obtain ⟨A1, n1, c1, rfl⟩ := hacc.form
    obtain ⟨rfl, hsa⟩ := hacc.reads
    have hGz := hacc.hG
    have cG := hacc.blk.cell
    have hln := hsa.2.len
    clear hsa
    have hnL : es.length ≤ L := by have := hen.out; omega
    have HnL := hide hnL
    go_wp2_with fail
    refine (l19Rd_pick (n := es.length) hacc.rd (by omega)).mono ?_
    rintro e w3 ⟨k, rfl, hk1, hk0, hr3, hd3⟩
    replace hacc := hacc.drawn hd3 hr3
    clear hd3 hr3 cG
    have Hk := hide hk1
    clear hk1 hk0
    go_wp2_with fail
    refine (l19Rd_pick (n := 30) hacc.rd (by omega)).mono ?_
    rintro e w4 ⟨y, rfl, -, -, hr4, hd4⟩
    replace hacc := hacc.drawn hd4 hr4
    clear hd4 hr4
    go_upto_block 0 with fail
    go_cut [] (fun wx => ∃ (al st : Int) (v : Value) (fs : List Edg), Acc w w1 wx R G (M + 10) al st v fs ∧ fs.length ≤ L + 1)
    case first =>
      have Hen := hide hln
      clear hln
      have hcases : y = 0 ∨ y = 1 ∨ y = 2 ∨ y = 3 ∨ y = 4 ∨ y = 5 ∨ y = 6 ∨ 7 ≤ y := by omega
      rcases hcases with hy | hy | hy | hy | hy | hy | hy | hy
      · subst hy
        have hy0 : True := trivial
        go_wp2_with fail
        refine (num_lit [64, (-1), 1, 63] 4 #[.int .i64 64, .int .i64 (-1), .int .i64 1, .int .i64 63] rfl rfl (by omega) (by omega) hacc.rd (by omega)).mono ?_
        rintro e w5 ⟨x, -, rfl, hr5, hd5⟩
        replace hacc := (hacc.ext ((Ext.refl _).alloc _)).drawn hd5 hr5
        have cG := hacc.blk.cell
        have fG := hacc.blk.frozen
        go_wp2_with fail
        go_meet
        exact ⟨_, _, _, es, (hacc.setAl x).more (by omega), by have := HnL.out; omega⟩
      · subst hy
        have hy0 : True := trivial
        go_wp2_with fail
        refine (num_lit [0, 17, (-1), 16, 1] 5 #[.int .i64 0, .int .i64 17, .int .i64 (-1), .int .i64 16, .int .i64 1] rfl rfl (by omega) (by omega) hacc.rd (by omega)).mono ?_
        rintro e w5 ⟨x, -, rfl, hr5, hd5⟩
        replace hacc := (hacc.ext ((Ext.refl _).alloc _)).drawn hd5 hr5
        have cG := hacc.blk.cell
        have fG := hacc.blk.frozen
        go_wp2_with fail
        go_meet
        exact ⟨_, _, _, es, (hacc.setSt x).more (by omega), by have := HnL.out; omega⟩
      · subst hy
        by_cases hn0 : 0 < es.length
        · have hk := Hk.out (by omega)
          have hkl : k < es.length := by omega
          obtain ⟨g, rfl⟩ := acc_some hacc hn0
          have hne0 : es.length ≠ 0 := by omega
          have hG1 : R < w1.heap.size := by have := hacc.hR; have := hacc.hB; omega
          have cG : ∀ W, Dr R w4 W → ∀ q, W.cell? ⟨G, q, none⟩ = #[Value.int .i64 al, .int .i64 st, .slice (some ⟨g, 0, none⟩) es.length c1][q]? := fun W hW => (hacc.blk.dr hW (by have := hacc.hG; omega)).cell
          clear hk hne0
          go_wp2_with fail
          refine wp_region_tail (fun X => Dr R w4 X) [8] (Ord.of [0, 1, 2, 3, 4, 5, 6, 7, 8]) (by kernel_rfl) rfl (by kernel_rfl) (by kernel_rfl) (by kernel_rfl) (fun _ _ _ _ _ h => h) (by first | assumption | exact (Ext.refl _).drew | exact (Dr.refl _ _).drew | (refine Ext.drew ?_; assumption)) ?_
          repeat (first | (refine tseq_skip rfl rfl (by assumption) ?_; simp only [Act.put, List.setIfInBounds_toArray, List.set_cons_zero, List.set_cons_succ]) | (refine tseq_pure (v := ?_) rfl rfl rfl rfl (fun X => ?_) ?_; rotate_left; (focus (go_simp <;> with_reducible rfl)); simp only [Act.put, List.setIfInBounds_toArray, List.set_cons_zero, List.set_cons_succ]) | (refine tseq_read (v := ?_) rfl rfl rfl rfl (fun X hX => ?_) ?_; rotate_left; (focus (go_simp <;> with_reducible rfl)); simp only [Act.put, List.setIfInBounds_toArray, List.set_cons_zero, List.set_cons_succ]))
          (refine tseq_step rfl rfl rfl (fun K hK => ?_); go_simp)
          refine hK.out _ _ ((Dr.refl R w4).drew.alloc _) ?_
          (try simp only [Act.put, List.setIfInBounds_toArray, List.set_cons_zero, List.set_cons_succ])
          repeat (first | (refine tseq_skip rfl rfl (by assumption) ?_; simp only [Act.put, List.setIfInBounds_toArray, List.set_cons_zero, List.set_cons_succ]) | (refine tseq_pure (v := ?_) rfl rfl rfl rfl (fun X => ?_) ?_; rotate_left; (focus (go_simp <;> with_reducible rfl)); simp only [Act.put, List.setIfInBounds_toArray, List.set_cons_zero, List.set_cons_succ]) | (refine tseq_read (v := ?_) rfl rfl rfl rfl (fun X hX => ?_) ?_; rotate_left; (focus (go_simp <;> with_reducible rfl)); simp only [Act.put, List.setIfInBounds_toArray, List.set_cons_zero, List.set_cons_succ]))
          (refine tseq_step rfl rfl rfl (fun K hK => ?_); go_simp)
          refine (num_lit (w := w4.drew) [(-1), 16, 0, 2] 4 #[.int .i64 (-1), .int .i64 16, .int .i64 0, .int .i64 2] rfl rfl (by omega) (by omega) (hacc.rd.ext (Ext.refl _).drew) (by omega)).mono ?_
          rintro e w5 ⟨x, -, rfl, hr5, hd5⟩
          have hd45 : Dr R w4 w5 := ((Dr.refl R w4).drew.alloc _).trans hd5
          have hacc5 := hacc.drawn hd45 hr5
          refine hK.out _ _ hd45 ?_
          (try simp only [Act.put, List.setIfInBounds_toArray, List.set_cons_zero, List.set_cons_succ])
          repeat (first | (refine tseq_skip rfl rfl (by assumption) ?_; simp only [Act.put, List.setIfInBounds_toArray, List.set_cons_zero, List.set_cons_succ]) | (refine tseq_pure (v := ?_) rfl rfl rfl rfl (fun X => ?_) ?_; rotate_left; (focus (go_simp <;> with_reducible rfl)); simp only [Act.put, List.setIfInBounds_toArray, List.set_cons_zero, List.set_cons_succ]) | (refine tseq_read (v := ?_) rfl rfl rfl rfl (fun X hX => ?_) ?_; rotate_left; (focus (go_simp <;> with_reducible rfl)); simp only [Act.put, List.setIfInBounds_toArray, List.set_cons_zero, List.set_cons_succ]))
          have hown := hacc5.own
          obtain ⟨o0, c0⟩ := own_cell hown (k * 3) (by omega)
          have f0 := hown.frozenAt (k * 3)
          have hst := hacc5.turn rfl (edgeCells_set (List.getElem?_eq_getElem hkl) x).1 (by simp)
          (refine tseq_last rfl rfl rfl rfl (fun K hK => ?_))
          go_simp
          refine hK.out _ _ ?_
          refine tseq_nil ?_
          go_wp2_with fail
          go_meet
          exact ⟨_, _, _, _, hst.more (by omega), by have := HnL.out; simp; omega⟩
        · have hn1 : es.length = 0 := by omega
          clear hn0
          go_wp2_with fail
          go_meet
          exact ⟨_, _, _, es, hacc.more (by omega), by have := HnL.out; omega⟩
      · subst hy
        by_cases hn0 : 0 < es.length
        · have hk := Hk.out (by omega)
          have hkl : k < es.length := by omega
          obtain ⟨g, rfl⟩ := acc_some hacc hn0
          have hne0 : es.length ≠ 0 := by omega
          have hG1 : R < w1.heap.size := by have := hacc.hR; have := hacc.hB; omega
          have cG : ∀ W, Dr R w4 W → ∀ q, W.cell? ⟨G, q, none⟩ = #[Value.int .i64 al, .int .i64 st, .slice (some ⟨g, 0, none⟩) es.length c1][q]? := fun W hW => (hacc.blk.dr hW (by have := hacc.hG; omega)).cell
          clear hk hne0
          go_wp2_with fail
          refine wp_region_tail (fun X => Dr R w4 X) [8] (Ord.of [0, 1, 2, 3, 4, 5, 6, 7, 8]) (by kernel_rfl) rfl (by kernel_rfl) (by kernel_rfl) (by kernel_rfl) (fun _ _ _ _ _ h => h) (by first | assumption | exact (Ext.refl _).drew | exact (Dr.refl _ _).drew | (refine Ext.drew ?_; assumption)) ?_
          repeat (first | (refine tseq_skip rfl rfl (by assumption) ?_; simp only [Act.put, List.setIfInBounds_toArray, List.set_cons_zero, List.set_cons_succ]) | (refine tseq_pure (v := ?_) rfl rfl rfl rfl (fun X => ?_) ?_; rotate_left; (focus (go_simp <;> with_reducible rfl)); simp only [Act.put, List.setIfInBounds_toArray, List.set_cons_zero, List.set_cons_succ]) | (refine tseq_read (v := ?_) rfl rfl rfl rfl (fun X hX => ?_) ?_; rotate_left; (focus (go_simp <;> with_reducible rfl)); simp only [Act.put, List.setIfInBounds_toArray, List.set_cons_zero, List.set_cons_succ]))
          (refine tseq_step rfl rfl rfl (fun K hK => ?_); go_simp)
          refine hK.out _ _ ((Dr.refl R w4).drew.alloc _) ?_
          (try simp only [Act.put, List.setIfInBounds_toArray, List.set_cons_zero, List.set_cons_succ])
          repeat (first | (refine tseq_skip rfl rfl (by assumption) ?_; simp only [Act.put, List.setIfInBounds_toArray, List.set_cons_zero, List.set_cons_succ]) | (refine tseq_pure (v := ?_) rfl rfl rfl rfl (fun X => ?_) ?_; rotate_left; (focus (go_simp <;> with_reducible rfl)); simp only [Act.put, List.setIfInBounds_toArray, List.set_cons_zero, List.set_cons_succ]) | (refine tseq_read (v := ?_) rfl rfl rfl rfl (fun X hX => ?_) ?_; rotate_left; (focus (go_simp <;> with_reducible rfl)); simp only [Act.put, List.setIfInBounds_toArray, List.set_cons_zero, List.set_cons_succ]))
          (refine tseq_step rfl rfl rfl (fun K hK => ?_); go_simp)
          refine (num_lit (w := w4.drew) [(-1), 16, 0, 3] 4 #[.int .i64 (-1), .int .i64 16, .int .i64 0, .int .i64 3] rfl rfl (by omega) (by omega) (hacc.rd.ext (Ext.refl _).drew) (by omega)).mono ?_
          rintro e w5 ⟨x, -, rfl, hr5, hd5⟩
          have hd45 : Dr R w4 w5 := ((Dr.refl R w4).drew.alloc _).trans hd5
          have hacc5 := hacc.drawn hd45 hr5
          refine hK.out _ _ hd45 ?_
          (try simp only [Act.put, List.setIfInBounds_toArray, List.set_cons_zero, List.set_cons_succ])
          repeat (first | (refine tseq_skip rfl rfl (by assumption) ?_; simp only [Act.put, List.setIfInBounds_toArray, List.set_cons_zero, List.set_cons_succ]) | (refine tseq_pure (v := ?_) rfl rfl rfl rfl (fun X => ?_) ?_; rotate_left; (focus (go_simp <;> with_reducible rfl)); simp only [Act.put, List.setIfInBounds_toArray, List.set_cons_zero, List.set_cons_succ]) | (refine tseq_read (v := ?_) rfl rfl rfl rfl (fun X hX => ?_) ?_; rotate_left; (focus (go_simp <;> with_reducible rfl)); simp only [Act.put, List.setIfInBounds_toArray, List.set_cons_zero, List.set_cons_succ]))
          have hown := hacc5.own
          obtain ⟨o0, c0⟩ := own_cell hown (k * 3 + 2) (by omega)
          have f0 := hown.frozenAt (k * 3 + 2)
          have hst := hacc5.turn rfl (edgeCells_set (List.getElem?_eq_getElem hkl) x).2.2 (by simp)
          (refine tseq_last rfl rfl rfl rfl (fun K hK => ?_))
          go_simp
          refine hK.out _ _ ?_
          refine tseq_nil ?_
          go_wp2_with fail
          go_meet
          exact ⟨_, _, _, _, hst.more (by omega), by have := HnL.out; simp; omega⟩
        · have hn1 : es.length = 0 := by omega
          clear hn0
          go_wp2_with fail
          go_meet
          exact ⟨_, _, _, es, hacc.more (by omega), by have := HnL.out; omega⟩
      · subst hy
        by_cases hn0 : 0 < es.length
        · have hk := Hk.out (by omega)
          have hkl : k < es.length := by omega
          obtain ⟨g, rfl⟩ := acc_some hacc hn0
          have hne0 : es.length ≠ 0 := by omega
          have hG1 : R < w1.heap.size := by have := hacc.hR; have := hacc.hB; omega
          have cG : ∀ W, Dr R w4 W → ∀ q, W.cell? ⟨G, q, none⟩ = #[Value.int .i64 al, .int .i64 st, .slice (some ⟨g, 0, none⟩) es.length c1][q]? := fun W hW => (hacc.blk.dr hW (by have := hacc.hG; omega)).cell
          clear hk hne0
          go_wp2_with fail
          refine wp_region_tail (fun X => Dr R w4 X) [8] (Ord.of [0, 1, 2, 3, 4, 5, 6, 7, 8]) (by kernel_rfl) rfl (by kernel_rfl) (by kernel_rfl) (by kernel_rfl) (fun _ _ _ _ _ h => h) (by first | assumption | exact (Ext.refl _).drew | exact (Dr.refl _ _).drew | (refine Ext.drew ?_; assumption)) ?_
          repeat (first | (refine tseq_skip rfl rfl (by assumption) ?_; simp only [Act.put, List.setIfInBounds_toArray, List.set_cons_zero, List.set_cons_succ]) | (refine tseq_pure (v := ?_) rfl rfl rfl rfl (fun X => ?_) ?_; rotate_left; (focus (go_simp <;> with_reducible rfl)); simp only [Act.put, List.setIfInBounds_toArray, List.set_cons_zero, List.set_cons_succ]) | (refine tseq_read (v := ?_) rfl rfl rfl rfl (fun X hX => ?_) ?_; rotate_left; (focus (go_simp <;> with_reducible rfl)); simp only [Act.put, List.setIfInBounds_toArray, List.set_cons_zero, List.set_cons_succ]))
          (refine tseq_step rfl rfl rfl (fun K hK => ?_); go_simp)
          refine hK.out _ _ ((Dr.refl R w4).drew.alloc _) ?_
          (try simp only [Act.put, List.setIfInBounds_toArray, List.set_cons_zero, List.set_cons_succ])
          repeat (first | (refine tseq_skip rfl rfl (by assumption) ?_; simp only [Act.put, List.setIfInBounds_toArray, List.set_cons_zero, List.set_cons_succ]) | (refine tseq_pure (v := ?_) rfl rfl rfl rfl (fun X => ?_) ?_; rotate_left; (focus (go_simp <;> with_reducible rfl)); simp only [Act.put, List.setIfInBounds_toArray, List.set_cons_zero, List.set_cons_succ]) | (refine tseq_read (v := ?_) rfl rfl rfl rfl (fun X hX => ?_) ?_; rotate_left; (focus (go_simp <;> with_reducible rfl)); simp only [Act.put, List.setIfInBounds_toArray, List.set_cons_zero, List.set_cons_succ]))
          (refine tseq_step rfl rfl rfl (fun K hK => ?_); go_simp)
          refine (num_lit (w := w4.drew) [(-1), 6, 70, 5, 0] 5 #[.int .i64 (-1), .int .i64 6, .int .i64 70, .int .i64 5, .int .i64 0] rfl rfl (by omega) (by omega) (hacc.rd.ext (Ext.refl _).drew) (by omega)).mono ?_
          rintro e w5 ⟨x, -, rfl, hr5, hd5⟩
          have hd45 : Dr R w4 w5 := ((Dr.refl R w4).drew.alloc _).trans hd5
          have hacc5 := hacc.drawn hd45 hr5
          refine hK.out _ _ hd45 ?_
          (try simp only [Act.put, List.setIfInBounds_toArray, List.set_cons_zero, List.set_cons_succ])
          repeat (first | (refine tseq_skip rfl rfl (by assumption) ?_; simp only [Act.put, List.setIfInBounds_toArray, List.set_cons_zero, List.set_cons_succ]) | (refine tseq_pure (v := ?_) rfl rfl rfl rfl (fun X => ?_) ?_; rotate_left; (focus (go_simp <;> with_reducible rfl)); simp only [Act.put, List.setIfInBounds_toArray, List.set_cons_zero, List.set_cons_succ]) | (refine tseq_read (v := ?_) rfl rfl rfl rfl (fun X hX => ?_) ?_; rotate_left; (focus (go_simp <;> with_reducible rfl)); simp only [Act.put, List.setIfInBounds_toArray, List.set_cons_zero, List.set_cons_succ]))
          have hown := hacc5.own
          obtain ⟨o0, c0⟩ := own_cell hown (k * 3 + 1) (by omega)
          have f0 := hown.frozenAt (k * 3 + 1)
          have hst := hacc5.turn rfl (edgeCells_set (List.getElem?_eq_getElem hkl) x).2.1 (by simp)
          (refine tseq_last rfl rfl rfl rfl (fun K hK => ?_))
          go_simp
          refine hK.out _ _ ?_
          refine tseq_nil ?_
          go_wp2_with fail
          go_meet
          exact ⟨_, _, _, _, hst.more (by omega), by have := HnL.out; simp; omega⟩
        · have hn1 : es.length = 0 := by omega
          clear hn0
          go_wp2_with fail
          go_meet
          exact ⟨_, _, _, es, hacc.more (by omega), by have := HnL.out; omega⟩
      · subst hy
        by_cases hn0 : 0 < es.length
        · have hk := Hk.out (by omega)
          have hkl : k < es.length := by omega
          obtain ⟨g, rfl⟩ := acc_some hacc hn0
          have hne0 : es.length ≠ 0 := by omega
          have hown := hacc.own
          have hE := hide (List.getElem?_eq_getElem hkl)
          obtain ⟨ed, hed⟩ : ∃ ed, Hid (es[k]? = some ed) := ⟨_, hE.out⟩
          obtain ⟨d0, d1, d2⟩ := edgeCells_get hed.out
          have cG : ∀ W, Ext w4 W → ∀ q, W.cell? ⟨G, q, none⟩ = #[Value.int .i64 al, .int .i64 st, .slice (some ⟨g, 0, none⟩) es.length c1][q]? := fun W hW => (hacc.blk.ext hW).cell
          have C0 : ∀ W, Ext w4 W → W.cell? ⟨g, k * 3, none⟩ = some (.int .i64 ed.fr) := fun W hW => hW.cell_some (by rw [hown.cellAt _ (by omega)]; exact d0)
          have C1 : ∀ W, Ext w4 W → W.cell? ⟨g, k * 3 + 1, none⟩ = some (.int .i64 ed.le) := fun W hW => hW.cell_some (by rw [hown.cellAt _ (by omega)]; exact d1)
          have C2 : ∀ W, Ext w4 W → W.cell? ⟨g, k * 3 + 2, none⟩ = some (.int .i64 ed.to) := fun W hW => hW.cell_some (by rw [hown.cellAt _ (by omega)]; exact d2)
          clear hk hne0 d0 d1 d2
          go_wp2_with fail
          refine wp_region_tail (fun X => Ext w4 X) [8, 10] (Ord.of [0, 1, 2, 3, 4, 5, 6, 7, 8, 9, 10]) (by kernel_rfl) rfl (by kernel_rfl) (by kernel_rfl) (by kernel_rfl) (fun _ _ _ _ _ h => h) (by first | assumption | exact (Ext.refl _).drew | exact (Dr.refl _ _).drew | (refine Ext.drew ?_; assumption)) ?_
          repeat (first | (refine tseq_skip rfl rfl (by assumption) ?_; simp only [Act.put, List.setIfInBounds_toArray, List.set_cons_zero, List.set_cons_succ]) | (refine tseq_pure (v := ?_) rfl rfl rfl rfl (fun X => ?_) ?_; rotate_left; (focus (go_simp <;> with_reducible rfl)); simp only [Act.put, List.setIfInBounds_toArray, List.set_cons_zero, List.set_cons_succ]) | (refine tseq_read (v := ?_) rfl rfl rfl rfl (fun X hX => ?_) ?_; rotate_left; (focus (go_simp <;> with_reducible rfl)); simp only [Act.put, List.setIfInBounds_toArray, List.set_cons_zero, List.set_cons_succ]))
          (refine tseq_step rfl rfl rfl (fun K hK => ?_); go_simp)
          refine hK.out _ _ ((Ext.refl _).drew.alloc _) ?_
          (try simp only [Act.put, List.setIfInBounds_toArray, List.set_cons_zero, List.set_cons_succ])
          (refine tseq_last rfl rfl rfl rfl (fun K hK => ?_))
          refine wp_push w1 w4.drew _ _ _ rfl 48 _ 3 24 Tryd.underlying23 info_edge rfl (by decide) (.slice (some ⟨g, 0, none⟩) es.length c1) es.length (edgeCells es) _ _ rfl rfl hacc.fr.size hown rfl (by simp [Value.oneCell']) (by unfold maxLen; omega) (by omega) ?_
          intro g5 cap5 w5 hown5 hg5 hat5 hlt5
          refine hK.out _ _ ?_
          (try simp only [Act.put, List.setIfInBounds_toArray, List.set_cons_zero, List.set_cons_succ])
          repeat (first | (refine tseq_skip rfl rfl (by assumption) ?_; simp only [Act.put, List.setIfInBounds_toArray, List.set_cons_zero, List.set_cons_succ]) | (refine tseq_pure (v := ?_) rfl rfl rfl rfl (fun X => ?_) ?_; rotate_left; (focus (go_simp <;> with_reducible rfl)); simp only [Act.put, List.setIfInBounds_toArray, List.set_cons_zero, List.set_cons_succ]) | (refine tseq_read (v := ?_) rfl rfl rfl rfl (fun X hX => ?_) ?_; rotate_left; (focus (go_simp <;> with_reducible rfl)); simp only [Act.put, List.setIfInBounds_toArray, List.set_cons_zero, List.set_cons_succ]))
          obtain ⟨h1, h2, h3⟩ := (hacc.ext ((Ext.refl _).drew)).push (e := ed) (W' := w5) hown5 hg5 hat5
          have h1' := h1.out
          (refine tseq_last rfl rfl rfl rfl (fun K hK => ?_))
          go_simp
          refine hK.out _ _ ?_
          refine tseq_nil ?_
          go_wp2_with fail
          go_meet
          exact ⟨_, _, _, _, h3.more (by omega), by have := HnL.out; simp; omega⟩
        · have hn1 : es.length = 0 := by omega
          clear hn0
          go_wp2_with fail
          go_meet
          exact ⟨_, _, _, es, hacc.more (by omega), by have := HnL.out; omega⟩
      · subst hy
        have hG1 : R < w1.heap.size := by have := hacc.hR; have := hacc.hB; omega
        have cG : ∀ W, Dr R w4 W → ∀ q, W.cell? ⟨G, q, none⟩ = #[Value.int .i64 al, .int .i64 st, .slice A1 es.length c1][q]? := fun W hW => (hacc.blk.dr hW (by have := hacc.hG; omega)).cell
        go_wp2_with fail
        refine wp_region_tail (fun X => Dr R w4 X) [10, 12] (Ord.of [0, 1, 2, 4, 6, 3, 5, 7, 8, 9, 10, 11, 12]) (by kernel_rfl) rfl (by kernel_rfl) (by kernel_rfl) (by kernel_rfl) (fun _ _ _ _ _ h => h) (by first | assumption | exact (Ext.refl _).drew | exact (Dr.refl _ _).drew | (refine Ext.drew ?_; assumption)) ?_
        repeat (first | (refine tseq_skip rfl rfl (by assumption) ?_; simp only [Act.put, List.setIfInBounds_toArray, List.set_cons_zero, List.set_cons_succ]) | (refine tseq_pure (v := ?_) rfl rfl rfl rfl (fun X => ?_) ?_; rotate_left; (focus (go_simp <;> with_reducible rfl)); simp only [Act.put, List.setIfInBounds_toArray, List.set_cons_zero, List.set_cons_succ]) | (refine tseq_read (v := ?_) rfl rfl rfl rfl (fun X hX => ?_) ?_; rotate_left; (focus (go_simp <;> with_reducible rfl)); simp only [Act.put, List.setIfInBounds_toArray, List.set_cons_zero, List.set_cons_succ]))
        (refine tseq_step rfl rfl rfl (fun K hK => ?_); go_simp)
        refine (l19Rd_pick (n := 4) (hacc.rd.ext (Ext.refl _).drew) (by omega)).mono ?_
        rintro e w5 ⟨x, rfl, -, -, hr5, hd5⟩
        replace hd5 := ((Dr.refl R w4).drew).trans hd5
        refine hK.out _ _ hd5 ?_
        (try simp only [Act.put, List.setIfInBounds_toArray, List.set_cons_zero, List.set_cons_succ])
        repeat (first | (refine tseq_skip rfl rfl (by assumption) ?_; simp only [Act.put, List.setIfInBounds_toArray, List.set_cons_zero, List.set_cons_succ]) | (refine tseq_pure (v := ?_) rfl rfl rfl rfl (fun X => ?_) ?_; rotate_left; (focus (go_simp <;> with_reducible rfl)); simp only [Act.put, List.setIfInBounds_toArray, List.set_cons_zero, List.set_cons_succ]) | (refine tseq_read (v := ?_) rfl rfl rfl rfl (fun X hX => ?_) ?_; rotate_left; (focus (go_simp <;> with_reducible rfl)); simp only [Act.put, List.setIfInBounds_toArray, List.set_cons_zero, List.set_cons_succ]))
        (refine tseq_step rfl rfl rfl (fun K hK => ?_); go_simp)
        refine (l19Rd_pick (n := 3) hr5 (by omega)).mono ?_
        rintro e w6 ⟨z, rfl, -, -, hr6, hd6⟩
        replace hd6 := hd5.trans hd6
        refine hK.out _ _ hd6 ?_
        (try simp only [Act.put, List.setIfInBounds_toArray, List.set_cons_zero, List.set_cons_succ])
        repeat (first | (refine tseq_skip rfl rfl (by assumption) ?_; simp only [Act.put, List.setIfInBounds_toArray, List.set_cons_zero, List.set_cons_succ]) | (refine tseq_pure (v := ?_) rfl rfl rfl rfl (fun X => ?_) ?_; rotate_left; (focus (go_simp <;> with_reducible rfl)); simp only [Act.put, List.setIfInBounds_toArray, List.set_cons_zero, List.set_cons_succ]) | (refine tseq_read (v := ?_) rfl rfl rfl rfl (fun X hX => ?_) ?_; rotate_left; (focus (go_simp <;> with_reducible rfl)); simp only [Act.put, List.setIfInBounds_toArray, List.set_cons_zero, List.set_cons_succ]))
        (refine tseq_step rfl rfl rfl (fun K hK => ?_); go_simp)
        refine (l19Rd_pick (n := 4) hr6 (by omega)).mono ?_
        rintro e w7 ⟨u, rfl, -, -, hr7, hd7⟩
        replace hd7 := hd6.trans hd7
        refine hK.out _ _ hd7 ?_
        have hacc7 := hacc.drawn hd7 hr7
        (try simp only [Act.put, List.setIfInBounds_toArray, List.set_cons_zero, List.set_cons_succ])
        repeat (first | (refine tseq_skip rfl rfl (by assumption) ?_; simp only [Act.put, List.setIfInBounds_toArray, List.set_cons_zero, List.set_cons_succ]) | (refine tseq_pure (v := ?_) rfl rfl rfl rfl (fun X => ?_) ?_; rotate_left; (focus (go_simp <;> with_reducible rfl)); simp only [Act.put, List.setIfInBounds_toArray, List.set_cons_zero, List.set_cons_succ]) | (refine tseq_read (v := ?_) rfl rfl rfl rfl (fun X hX => ?_) ?_; rotate_left; (focus (go_simp <;> with_reducible rfl)); simp only [Act.put, List.setIfInBounds_toArray, List.set_cons_zero, List.set_cons_succ]))
        (refine tseq_step rfl rfl rfl (fun K hK => ?_); go_simp)
        refine hK.out _ _ (hd7.alloc _) ?_
        (try simp only [Act.put, List.setIfInBounds_toArray, List.set_cons_zero, List.set_cons_succ])
        (refine tseq_last rfl rfl rfl rfl (fun K hK => ?_))
        refine wp_push w1 w7 _ _ _ rfl 48 _ 3 24 Tryd.underlying23 info_edge rfl (by decide) (.slice A1 es.length c1) es.length (edgeCells es) _ _ rfl rfl hacc7.fr.size hacc7.own rfl (by simp [Value.oneCell']) (by unfold maxLen; have := HnL.out; omega) (by have := HnL.out; omega) ?_
        intro g8 cap8 w8 hown8 hg8 hat8 hlt8
        refine hK.out _ _ ?_
        (try simp only [Act.put, List.setIfInBounds_toArray, List.set_cons_zero, List.set_cons_succ])
        repeat (first | (refine tseq_skip rfl rfl (by assumption) ?_; simp only [Act.put, List.setIfInBounds_toArray, List.set_cons_zero, List.set_cons_succ]) | (refine tseq_pure (v := ?_) rfl rfl rfl rfl (fun X => ?_) ?_; rotate_left; (focus (go_simp <;> with_reducible rfl)); simp only [Act.put, List.setIfInBounds_toArray, List.set_cons_zero, List.set_cons_succ]) | (refine tseq_read (v := ?_) rfl rfl rfl rfl (fun X hX => ?_) ?_; rotate_left; (focus (go_simp <;> with_reducible rfl)); simp only [Act.put, List.setIfInBounds_toArray, List.set_cons_zero, List.set_cons_succ]))
        obtain ⟨h1, h2, h3⟩ := hacc7.push (e := ⟨x, z, u⟩) (W' := w8) hown8 hg8 hat8
        have h1' := h1.out
        (refine tseq_last rfl rfl rfl rfl (fun K hK => ?_))
        go_simp
        refine hK.out _ _ ?_
        refine tseq_nil ?_
        go_wp2_with fail
        go_meet
        exact ⟨_, _, _, _, h3.more (by omega), by have := HnL.out; simp; omega⟩
      · have h0 : ((y : Int) == 0) = false := by simp; omega
        have h1 : ((y : Int) == 1) = false := by simp; omega
        have h2 : ((y : Int) == 2) = false := by simp; omega
        have h3 : ((y : Int) == 3) = false := by simp; omega
        have h4 : ((y : Int) == 4) = false := by simp; omega
        have h5 : ((y : Int) == 5) = false := by simp; omega
        have h6 : ((y : Int) == 6) = false := by simp; omega
        clear hy
        go_wp2_with fail
        go_meet
        exact ⟨_, _, _, es, hacc.more (by omega), by have := HnL.out; omega⟩
    case rest =>
      clear hacc
      obtain ⟨al', st', v', fs, hacc, hlen⟩ := hcut
      obtain ⟨A', n', c', rfl⟩ := hacc.form
      obtain ⟨rfl, _⟩ := hacc.reads
      have cG := hacc.blk.cell
      have bz2 := HbZ.out.frm hacc.fr (by omega)
      have cz := bz2.cell
      have hzz := HbZ.out.lt
      have fz := bz2.frozen
      obtain ⟨f1, f2, f3⟩ := hacc.fin (Z := w.heap.size + 1) (by omega) (by omega) (.int .i64 al') (.int .i64 st') (.slice A' fs.length c')
      have Hfin := hide (show RetA R (M + 10) (L + 1) w (.returned (.agg #[.int .i64 al', .int .i64 st', .slice A' fs.length c'])) _ from ⟨⟨al', st', fs⟩, A', fs.length, c', rfl, f1, ⟨hlen, own_cap hacc.own⟩, f2, f3⟩)
      clear f1 f2 f3
      go_wp2_with fail
      exact bodyPost_ret (v := .agg #[.int .i64 al', .int .i64 st', .slice A' fs.length c']) (by simp [results, Tryd.results72, go_sem, cz]) rfl Hfin.out
end Go.Proofs.YtbifoikcmjmdeaaDoor

namespace Go.Proofs.YtbifoikcmjmdeaaDoor
open Go Go.RowKit
set_option maxHeartbeats 4000000

theorem few_more {p q : Nat} {es : List Edg} (h : Few p es) (hq : p ≤ q) : Few q es := fun e he => by
  have := h e he
  omega
set_option maxRecDepth 100000 in
theorem spec_l15Split_ {R M n c L a p : Nat} {A : Option Addr} {es : List Edg} {w : World} (h : Rd w R M) (hM : M ≤ 800000000) (hs : SysIn w R A n ⟨a, p, es⟩) (ha : a < 64) (hp1 : 1 ≤ p) (hp : p ≤ 16) (hfew : Few p es) (hn : n ≤ L) (hnc : n ≤ c) (hL : L ≤ 100000) :
    Calls Tryd.prog 48 #[.pointer (some ⟨R, 0, none⟩), .agg #[.int .i64 a, .int .i64 p, .slice A n c]] w (RetG R (M + 16 * L + 10) (L + 2000) w) := by
  have hRl := h.lt
  have hr0 := hs.at_.2
  have hen := hide hs.1
  have Hfew := hide hfew
  have hsm : Sm a := by unfold Sm; omega
  have hx1 : Ext w ((w.alloc (.cells #[.int .i64 a, .int .i64 p, .slice A n c] 25)).alloc (.cells #[.int .i64 0, .int .i64 0, .slice none 0 0] 25)) := ((Ext.refl _).alloc _).alloc _
  obtain ⟨bS, bZ⟩ := ext_blk2 (Ext.refl ((w.alloc (.cells #[.int .i64 a, .int .i64 p, .slice A n c] 25)).alloc (.cells #[.int .i64 0, .int .i64 0, .slice none 0 0] 25)))
  have hsz : ((w.alloc (.cells #[.int .i64 a, .int .i64 p, .slice A n c] 25)).alloc (.cells #[.int .i64 0, .int .i64 0, .slice none 0 0] 25)).heap.size = w.heap.size + 2 := by simp
  have HbS := hide bS
  have HbZ := hide bZ
  have Hx1 := hide hx1
  have Hsz := hide hsz
  have hg := hide (show Good ⟨a, p, es⟩ from ⟨a, p, rfl, ha, rfl, hp1, hp, hfew⟩)
  replace hs := hide hs
  clear bS bZ hx1 hsz hfew
  by_cases hp16 : p = 16
  · subst hp16
    have hfin := hide (fun W (hx : Ext w W) => (show RetG R (M + 16 * L + 10) (L + 2000) w (.returned (.agg #[.int .i64 a, .int .i64 (16 : Nat), .slice A n c])) W from ⟨⟨a, (16 : Nat), es⟩, A, n, c, rfl, hs.out.ext hx, hg.out, by omega, (h.ext hx).more (by omega), hx.dr⟩))
    go_enter Tryd.func48, Tryd.ntmps48
    go_wp2_with fail
    exact bodyPost_ret (v := .agg #[.int .i64 a, .int .i64 (16 : Nat), .slice A n c]) (by simp [results, Tryd.results48, go_sem]) rfl (hfin.out _ (((Ext.refl _).alloc _).alloc _))
  · have hpe : ((p : Int) == 16) = false := by simp; omega
    have Hp16 := hide hp16
    clear hp16
    go_enter Tryd.func48, Tryd.ntmps48
    go_wp2_with fail
    generalize (w.alloc (.cells #[.int .i64 a, .int .i64 p, .slice A n c] 25)).alloc (.cells #[.int .i64 0, .int .i64 0, .slice none 0 0] 25) = w1 at *
    have hz1 : w.heap.size + 2 ≤ w1.heap.size := by rw [Hsz.out]; exact Nat.le_refl _
    refine (l19Rd_pick (n := p) (h.ext Hx1.out) (by omega)).mono ?_
    rintro e w2 ⟨k, rfl, -, -, hr2, hd2⟩
    have bS2 := HbS.out.dr hd2 (by omega)
    have bZ2 := HbZ.out.dr hd2 (by omega)
    have cS2 := bS2.cell
    have hw2 := Hx1.out.dr.trans hd2
    have hz2 := hd2.size
    have hx3 := (Ext.refl w2).alloc (.cells #[.int .i64 a, .int .i64 ((p : Int) + 1), .slice none 0 0] 25)
    have bG3 := Blk.new w2 25 #[.int .i64 a, .int .i64 ((p : Int) + 1), .slice none 0 0]
    have hz3 : (w2.alloc (.cells #[.int .i64 a, .int .i64 ((p : Int) + 1), .slice none 0 0] 25)).heap.size = w2.heap.size + 1 := by simp
    have hacc : Acc w _ _ R w2.heap.size (M + 1) a ((p : Int) + 1) (.slice none 0 0) [] := ⟨bG3, World.ownsRow_nil _ _ _ _, hr2.ext hx3, hw2.ext hx3, Frm.refl _ _, hRl, (hw2.ext hx3).size, hw2.size⟩
    have bS3 := bS2.ext hx3
    have bZ3 := bZ2.ext hx3
    clear hd2 bG3 hr2 bS2
    go_wp2_with fail
    generalize w2.alloc (.cells #[.int .i64 a, .int .i64 ((p : Int) + 1), .slice none 0 0] 25) = w3 at *
    go_loopw [7] (fun v wr => ∃ i : Nat, i ≤ p + 1 ∧ v = .int .i64 i ∧ ∃ (u : Value) (fs : List Edg), Acc w w3 wr R w2.heap.size (M + 1 + i * L) a ((p : Int) + 1) u fs ∧ fs.length ≤ i * L ∧ Hid (Few (p + 1) fs)) (fun v _ => p + 1 - (intOf v).toNat)
    case atStart => exact ⟨0, Nat.zero_le _, rfl, _, [], hacc.more (by omega), Nat.zero_le _, few_nil _⟩
    case round =>
      clear hacc
      obtain ⟨i, hi, rfl, u, fs, hacc, hlen, hfw⟩ := hrel
      have hiL : i * L ≤ (p + 1) * L := Nat.mul_le_mul_right _ hi
      have hpL : (p + 1) * L ≤ 16 * L := Nat.mul_le_mul_right _ (by have := Hp16.out; omega)
      have cG := hacc.blk.cell
      have bS4 := bS3.frm hacc.fr (by omega)
      by_cases hlt : i < p + 1
      · have cS := bS4.cell
        have hi1 : (i + 1) * L ≤ (p + 1) * L := Nat.mul_le_mul_right _ (by omega)
        have hi2 : (i + 1) * L = i * L + L := Nat.succ_mul i L
        go_upto_if 41 with fail
        go_cut [8] (fun v wx => ∃ f : Nat, v = .int .i64 f ∧ wr = wx)
        case first =>
          by_cases hip : i = p
          · subst hip
            go_wp2_with fail
            go_meet
            exact ⟨k, rfl, rfl⟩
          · have hip' : ((i : Int) == (p : Int)) = false := by simp; omega
            go_wp2_with fail
            go_meet
            exact ⟨i, rfl, rfl⟩
        case rest =>
          obtain ⟨f, rfl, hwc⟩ := hcut
          subst hwc
          go_wp2_with fail
          clear cG cS bS4
          go_loopw [9] (fun v wr => ∃ j : Nat, j ≤ n ∧ v = .int .i64 j ∧ ∃ (u : Value) (fs : List Edg), Acc w w3 wr R w2.heap.size (M + 1 + i * L + j) a ((p : Int) + 1) u fs ∧ fs.length ≤ i * L + j ∧ Hid (Few (p + 1) fs)) (fun v _ => n - (intOf v).toNat)
          case atStart => exact ⟨0, Nat.zero_le _, rfl, u, fs, hacc.more (by omega), by omega, hfw⟩
          case round =>
            clear hacc hlen hfw
            obtain ⟨j, hj, rfl, u, fs, hacc, hlen, hfw⟩ := hrel
            have cG := hacc.blk.cell
            have bS4 := bS3.frm hacc.fr (by omega)
            have cS := bS4.cell
            by_cases hlj : j < n
            · obtain ⟨b0, o0, ed, rfl, hlo, hhi, he, c0, c1, c2⟩ := (hr0.dr hacc.dr (by omega)).edge hlj
              have hedf := hide (Hfew.out ed (List.mem_of_getElem? he.out))
              cases hfe : (ed.fr != (f : Int))
              · obtain ⟨ed0, rfl⟩ : ∃ ed0, ed0 = ed := ⟨_, rfl⟩
                obtain ⟨t, hte, htp⟩ : ∃ t : Nat, ed0.to = t ∧ t < p := ⟨ed0.to.toNat, by have := hedf.out; omega, by have := hedf.out; omega⟩
                obtain ⟨l, hle, hl6⟩ : ∃ l : Nat, ed0.le = l ∧ l < 6 := ⟨ed0.le.toNat, by have := hedf.out; omega, by have := hedf.out; omega⟩
                rw [hte] at c2
                rw [hle] at c1
                have hb5 := Blk.new wr 48 #[.int .i64 i, .int .i64 l, .int .i64 t]
                have hx6 : Ext wr (wr.alloc (.cells #[.int .i64 i, .int .i64 l, .int .i64 t] 48)) := (Ext.refl wr).alloc _
                have hRr := hacc.rd.lt
                go_upto_region 17 with fail
                go_cut [69] (fun s wx => ∃ q : Bool, s = .bool q ∧ Blk wx wr.heap.size 48 #[.int .i64 i, .int .i64 l, .int .i64 t] ∧ Rd wx R (M + 1 + i * L + j + 1) ∧ Dr R wr wx)
                case first =>
                  by_cases htk : t = k
                  · subst htk
                    go_wp2_with fail
                    refine (l19Rd_pick (hacc.rd.ext hx6) (by omega)).mono ?_
                    rintro e w6 ⟨y, rfl, -, -, hr6, hd6⟩
                    go_wp2_with fail
                    go_meet
                    exact ⟨_, rfl, hb5.dr hd6 (by omega), hr6, hx6.dr.trans hd6⟩
                  · have htk' : ((t : Int) == (k : Int)) = false := by simp; omega
                    go_wp2_with fail
                    go_meet
                    exact ⟨false, rfl, hb5, (hacc.rd.ext hx6).more (by omega), hx6.dr⟩
                case rest =>
                  obtain ⟨q, rfl, hb6, hr6, hd6⟩ := hcut
                  clear hb5 hx6
                  have hb6c := hb6.cell
                  have hb6f := hb6.frozen
                  have cS6 := (bS4.dr hd6 (by omega)).cell
                  go_upto_if 69 with fail
                  go_cut [] (fun wx => ∃ t' : Nat, t' < p + 1 ∧ Blk wx wr.heap.size 48 #[.int .i64 i, .int .i64 l, .int .i64 t'] ∧ Rd wx R (M + 1 + i * L + j + 1) ∧ Dr R wr wx)
                  case first =>
                    cases q
                    · go_wp2_with fail
                      go_meet
                      exact ⟨t, by omega, hb6, hr6, hd6⟩
                    · go_wp2_with fail
                      go_meet
                      exact ⟨p, by omega, by simpa using hb6.set_ 2 (.int .i64 (p : Nat)), hr6.frm (Frm.setCell _ _ 2 _) (fun x h1 h2 => by omega), hd6.setNew (by dsimp only; omega) _⟩
                  case rest =>
                    clear hb6 hr6 hd6 hb6c hb6f cS6 hte hle htp
                    obtain ⟨t', ht', hb7, hr7, hd7⟩ := hcut
                    replace hacc := hacc.drawn hd7 hr7
                    clear hd7 hr7 cG cS c0 c1 c2
                    have cG := hacc.blk.cell
                    have cE := hb7.cell
                    go_wp2_with (at_builtin; refine wpList_push3 w3 _ rfl _ _ _ rfl 48 _ 3 24 Tryd.underlying23 info_edge rfl (by decide) u fs.length (edgeCells fs) _ _ rfl rfl hacc.fr.size hacc.own rfl (by simp [Value.oneCell']) (by unfold maxLen; omega) (by omega) ?_; intro g cap w8 hown8 hg8 hat8 hlt8; obtain ⟨h1, h2, h3⟩ := hacc.push (e := ⟨i, l, t'⟩) hown8 hg8 hat8; have h1' := h1.out)
                    go_roundw
                    case rel => exact ⟨j + 1, by omega, by go_num, _, _, h3.more (by omega), by simp; omega, few_snoc hfw.out (by simp; omega)⟩
                    case measure => simp [intOf]; omega
              · go_wp2_with fail
                go_roundw
                case rel => exact ⟨j + 1, by omega, by go_num, u, fs, (hacc.more (by omega)).ext ((Ext.refl _).alloc _), by omega, hfw⟩
                case measure => simp [intOf]; omega
            · obtain rfl : j = n := by omega
              go_wp2_with fail
              go_roundw
              case rel => exact ⟨i + 1, by omega, by go_num, u, fs, hacc.more (by omega), by omega, hfw⟩
              case measure => simp [intOf]; omega
      · obtain rfl : i = p + 1 := by omega
        obtain ⟨wx, hwx⟩ : ∃ wx, wx = wr := ⟨_, rfl⟩
        subst hwx
        obtain ⟨B, m, d, rfl⟩ := hacc.form
        obtain ⟨rfl, hsx⟩ := hacc.reads
        have bZ4 := bZ3.frm hacc.fr (by omega)
        have hx5 : Ext wx (wx.alloc (.cells #[.int .i64 a, .int .i64 ((p : Int) + 1), .slice none 0 0] 25)) := (Ext.refl wx).alloc _
        have cG5 := (hacc.blk.ext hx5).cell
        have hw4 := hacc.dr
        have hz34 := hacc.fr.size
        have hGr := hacc.blk.lt
        have hRr := hacc.rd.lt
        go_wp2_with fail
        refine (spec_l1Letters a hsm _).mono ?_
        rintro e w5 ⟨C, q, rfl, hown5, hx5'⟩
        have hx45 := hx5.trans hx5'
        have hb2 := ext_blk1 hx5'
        have hl6 := letters_length a 6
        have hlm := hide (fun k (hk : k ∈ letters a 6) => (mem_letters.1 hk).1)
        have hrd5 := (Reads.of_own hown5).more (lo' := wx.heap.size + 1) (hi' := w5.heap.size) (by simp) (Nat.le_refl _)
        have hacc2 : Acc w w5 w5 R wx.heap.size (M + 16 * L + 10) a ((p : Int) + 1) (.slice none 0 0) [] := ⟨hb2, World.ownsRow_nil _ _ _ _, (hacc.rd.ext hx45).more (by omega), hacc.dr.ext hx45, Frm.refl _ _, hRl, (hacc.dr.ext hx45).size, hw4.size⟩
        have bX := hacc.blk.ext hx45
        have hsx5 := hide (hsx.ext hx45)
        have bZ5 := bZ4.ext hx45
        have hz45 := hx45.size
        clear cG5 cG bS4 hown5 hx5' hx5 hb2 bZ4 hsx hacc cS2 bS3 bZ3 bZ2
        generalize letters a 6 = ls at *
        go_wp2_with fail
        go_loopw [13] (fun v wr => ∃ i : Nat, i ≤ p + 1 ∧ v = .int .i64 i ∧ ∃ (u : Value) (gs : List Edg), Acc w w5 wr R wx.heap.size (M + 16 * L + 10) a ((p : Int) + 1) u gs ∧ gs.length ≤ i * 100 ∧ Hid (Few (p + 1) gs)) (fun v _ => p + 1 - (intOf v).toNat)
        case atStart => exact ⟨0, Nat.zero_le _, rfl, _, [], hacc2, Nat.zero_le _, few_nil _⟩
        case round =>
          clear hacc2
          obtain ⟨i, hi, rfl, u, gs, hacc2, hgl, hgf⟩ := hrel
          have bX6 := bX.frm hacc2.fr (by omega)
          have cX := bX6.cell
          by_cases hlt : i < p + 1
          · have hlt' : (i : Int) < (p : Int) + 1 := by omega
            go_wp2_with fail
            go_loopw [14] (fun v wr => ∃ j : Nat, j ≤ ls.length ∧ v = .int .i64 j ∧ ∃ (u : Value) (gs : List Edg), Acc w w5 wr R wx.heap.size (M + 16 * L + 10) a ((p : Int) + 1) u gs ∧ gs.length ≤ i * 100 + j * 16 ∧ Hid (Few (p + 1) gs)) (fun v _ => ls.length - (intOf v).toNat)
            case atStart => exact ⟨0, Nat.zero_le _, rfl, u, gs, hacc2, by omega, hgf⟩
            case round =>
              clear hacc2 hgl hgf
              obtain ⟨j, hj, rfl, u, gs, hacc2, hgl, hgf⟩ := hrel
              by_cases hlj : j < ls.length
              · obtain ⟨ad, l, rfl, hadlo, _, hl, hlc⟩ := (hacc2.old hrd5 (fun k h1 h2 => by omega)).nat hlj
                have hl6' := hlm.out l (List.mem_of_getElem? hl.out)
                have hi32 : i < 32 := by have := Hp16.out; omega
                have bX7 := bX.frm hacc2.fr (by omega)
                have hsx7 : SysAt wr w3.heap.size wx.heap.size B fs.length ⟨a, (p : Int) + 1, fs⟩ := ⟨hsx5.out.1, hacc2.old hsx5.out.2 (fun k h1 h2 => by omega)⟩
                have cXX : ∀ W, Ext wr W → ∀ q, W.cell? ⟨w2.heap.size, q, none⟩ = #[Value.int .i64 a, .int .i64 ((p : Int) + 1), .slice B fs.length d][q]? := fun W hW => (bX7.ext hW).cell
                have cL : ∀ W, Ext wr W → W.cell? (ad.add j) = some (.int .i64 (l : Nat)) := fun W hW => hW.cell_some hlc
                have cS : ∀ W, Ext wr W → Calls Tryd.prog 78 #[.agg #[.int .i64 a, .int .i64 ((p : Int) + 1), .slice B fs.length d], .int .i64 ((2 : Int) ^ i), .int .i64 (l : Nat)] W fun e w' => e = .returned (.int .i64 (stepB fs (2 ^ i) l : Nat)) ∧ Ext W w' := fun W hW => by
                  rw [show ((2 : Int) ^ i) = ((2 ^ i : Nat) : Int) by simp]
                  exact spec_l2Step (s := ⟨a, (p : Int) + 1, fs⟩) (hsx7.ext hW) hfw.out (by have := Hp16.out; omega) (Sm.bit hi32)
                have CS := hide cS
                have hqq := Ext.refl wr
                have hj1 : (j : Int) < (ls.length : Int) := by omega
                clear cS cX
                go_upto_region 28 with fail
                go_cut [15] (fun v wx' => ∃ x : Nat, v = .int .i64 x ∧ Sm x ∧ Ext wr wx')
                case first =>
                  refine wp_region_ord (fun X => Ext wr X) [0, 1, 3, 4, 5, 6, 2, 7, 8] (by kernel_rfl) rfl (by kernel_rfl) (by kernel_rfl) (fun _ _ _ _ _ h => h) (by first | assumption | exact (Ext.refl _).drew | (refine Ext.drew ?_; assumption)) (fun hS => ?_)
                  repeat (first | (refine seq_skip rfl rfl (by assumption) ?_; simp only [Act.put, List.setIfInBounds_toArray, List.set_cons_zero, List.set_cons_succ]) | (refine seq_read (v := ?_) rfl rfl rfl (fun X hX => ?_) (by assumption) ?_; rotate_left; (focus (go_simp <;> with_reducible rfl)); simp only [Act.put, List.setIfInBounds_toArray, List.set_cons_zero, List.set_cons_succ]))
                  (refine seq_step rfl rfl rfl (fun K hK => ?_); go_simp)
                  (with_reducible refine (spec_l1Bit i hi32 _).mono ?_)
                  rintro e w6 ⟨rfl, rfl⟩
                  refine hK.out _ _ (by assumption) ?_
                  (try simp only [Act.put, List.setIfInBounds_toArray, List.set_cons_zero, List.set_cons_succ])
                  intro hS
                  (refine seq_step rfl rfl rfl (fun K hK => ?_); go_simp)
                  with_reducible refine (CS.out _ ?_).mono ?_
                  · assumption
                  rintro e w7 ⟨rfl, hx7⟩
                  have hx7' := (show Ext wr wr.drew from (Ext.refl _).drew).trans hx7
                  refine hK.out _ _ hx7' ?_
                  (try simp only [Act.put, List.setIfInBounds_toArray, List.set_cons_zero, List.set_cons_succ])
                  intro hS
                  repeat (first | (refine seq_skip rfl rfl (by assumption) ?_; simp only [Act.put, List.setIfInBounds_toArray, List.set_cons_zero, List.set_cons_succ]) | (refine seq_read (v := ?_) rfl rfl rfl (fun X hX => ?_) (by assumption) ?_; rotate_left; (focus (go_simp <;> with_reducible rfl)); simp only [Act.put, List.setIfInBounds_toArray, List.set_cons_zero, List.set_cons_succ]))
                  refine seq_nil ?_
                  go_wp2_with fail
                  go_meet
                  exact ⟨_, rfl, Nat.lt_of_lt_of_le (stepB_lt hfw.out _ _) (by rw [show (4294967296 : Nat) = 2 ^ 32 from rfl]; exact Nat.pow_le_pow_right (by omega) (by have := Hp16.out; omega)), by assumption⟩
                case rest =>
                  obtain ⟨x, rfl, hxs, hx7⟩ := hcut
                  replace hacc2 := hacc2.ext hx7
                  clear CS cXX cL hqq hsx7 bX7 hx7
                  go_wp2_with fail
                  go_loopw [16] (fun v wr => ∃ z : Nat, z ≤ p + 1 ∧ v = .int .i64 z ∧ ∃ (u : Value) (gs : List Edg), Acc w w5 wr R wx.heap.size (M + 16 * L + 10) a ((p : Int) + 1) u gs ∧ gs.length ≤ i * 100 + j * 16 + z ∧ Hid (Few (p + 1) gs)) (fun v _ => p + 1 - (intOf v).toNat)
                  case atStart => exact ⟨0, Nat.zero_le _, rfl, u, gs, hacc2, by omega, hgf⟩
                  case round =>
                    clear hacc2 hgl hgf
                    obtain ⟨z, hz, rfl, u, gs, hacc2, hgl, hgf⟩ := hrel
                    have bX7 := bX.frm hacc2.fr (by omega)
                    have cX := bX7.cell
                    by_cases hlz : z < p + 1
                    · have hlz' : (z : Int) < (p : Int) + 1 := by omega
                      cases hb : x.testBit z
                      · have Hb := hide hb
                        clear hb
                        go_wp2_with (go_at_call 29; refine (spec_l1Has x z hxs _ (by omega)).mono ?_; rw [Hb.out]; rintro e w' ⟨rfl, rfl⟩)
                        go_roundw
                        case rel => exact ⟨z + 1, by omega, by go_num, u, gs, hacc2, by omega, hgf⟩
                        case measure => simp [intOf]; omega
                      · have Hb := hide hb
                        clear hb
                        obtain ⟨ad', l', hadd, _, _, hl', hlc⟩ := (hacc2.old hrd5 (fun k h1 h2 => by omega)).nat hlj
                        obtain rfl : ad = ad' := by injection hadd
                        obtain rfl : l = l' := by have h1 := hl.out; have h2 := hl'.out; rw [h1] at h2; exact Option.some.inj h2
                        have cG : ∀ W, Ext wr W → ∀ q, W.cell? ⟨wx.heap.size, q, none⟩ = #[Value.int .i64 a, .int .i64 ((p : Int) + 1), u][q]? := fun W hW => (hacc2.blk.ext hW).cell
                        have cL : ∀ W, Ext wr W → W.cell? (ad.add j) = some (.int .i64 (l : Nat)) := fun W hW => hW.cell_some hlc
                        go_wp2_with (go_at_call 29; refine (spec_l1Has x z hxs _ (by omega)).mono ?_; rw [Hb.out]; rintro e w' ⟨rfl, rfl⟩)
                        refine wp_region_tail (fun X => Ext wr X) [10, 12] (Ord.of [0, 1, 2, 3, 4, 5, 6, 7, 8, 9, 10, 11, 12]) (by kernel_rfl) rfl (by kernel_rfl) (by kernel_rfl) (by kernel_rfl) (fun _ _ _ _ _ h => h) (by first | assumption | exact (Ext.refl _).drew | exact (Dr.refl _ _).drew | (refine Ext.drew ?_; assumption)) ?_
                        repeat (first | (refine tseq_skip rfl rfl (by assumption) ?_; simp only [Act.put, List.setIfInBounds_toArray, List.set_cons_zero, List.set_cons_succ]) | (refine tseq_pure (v := ?_) rfl rfl rfl rfl (fun X => ?_) ?_; rotate_left; (focus (go_simp <;> with_reducible rfl)); simp only [Act.put, List.setIfInBounds_toArray, List.set_cons_zero, List.set_cons_succ]) | (refine tseq_read (v := ?_) rfl rfl rfl rfl (fun X hX => ?_) ?_; rotate_left; (focus (go_simp <;> with_reducible rfl)); simp only [Act.put, List.setIfInBounds_toArray, List.set_cons_zero, List.set_cons_succ]))
                        (refine tseq_step rfl rfl rfl (fun K hK => ?_); go_simp)
                        refine hK.out _ _ ((Ext.refl _).drew.alloc _) ?_
                        (try simp only [Act.put, List.setIfInBounds_toArray, List.set_cons_zero, List.set_cons_succ])
                        (refine tseq_last rfl rfl rfl rfl (fun K hK => ?_))
                        refine wp_push w5 wr.drew _ _ _ rfl 48 _ 3 24 Tryd.underlying23 info_edge rfl (by decide) u gs.length (edgeCells gs) _ _ rfl rfl hacc2.fr.size hacc2.own rfl (by simp [Value.oneCell']) (by unfold maxLen; omega) (by omega) ?_
                        intro g cap w8 hown8 hg8 hat8 hlt8
                        refine hK.out _ _ ?_
                        (try simp only [Act.put, List.setIfInBounds_toArray, List.set_cons_zero, List.set_cons_succ])
                        repeat (first | (refine tseq_skip rfl rfl (by assumption) ?_; simp only [Act.put, List.setIfInBounds_toArray, List.set_cons_zero, List.set_cons_succ]) | (refine tseq_pure (v := ?_) rfl rfl rfl rfl (fun X => ?_) ?_; rotate_left; (focus (go_simp <;> with_reducible rfl)); simp only [Act.put, List.setIfInBounds_toArray, List.set_cons_zero, List.set_cons_succ]) | (refine tseq_read (v := ?_) rfl rfl rfl rfl (fun X hX => ?_) ?_; rotate_left; (focus (go_simp <;> with_reducible rfl)); simp only [Act.put, List.setIfInBounds_toArray, List.set_cons_zero, List.set_cons_succ]))
                        obtain ⟨h1, h2, h3⟩ := (hacc2.ext ((Ext.refl _).drew)).push (e := ⟨i, l, z⟩) (W' := w8) hown8 hg8 hat8
                        have h1' := h1.out
                        (refine tseq_last rfl rfl rfl rfl (fun K hK => ?_))
                        go_simp
                        refine hK.out _ _ ?_
                        refine tseq_nil ?_
                        go_wp2_with fail
                        go_roundw
                        case rel => exact ⟨z + 1, by omega, by go_num, _, _, h3, by simp; omega, few_snoc hgf.out (by simp; omega)⟩
                        case measure => simp [intOf]; omega
                    · obtain rfl : z = p + 1 := by omega
                      go_wp2_with fail
                      go_roundw
                      case rel => exact ⟨j + 1, by omega, by go_num, u, gs, hacc2, by have := Hp16.out; omega, hgf⟩
                      case measure => simp [intOf]; omega
              · obtain rfl : j = ls.length := by omega
                go_wp2_with fail
                go_roundw
                case rel => exact ⟨i + 1, by omega, by go_num, u, gs, hacc2, by omega, hgf⟩
                case measure => simp [intOf]; omega
          · obtain rfl : i = p + 1 := by omega
            obtain ⟨A', n', c', rfl⟩ := hacc2.form
            obtain ⟨rfl, _⟩ := hacc2.reads
            have hcap := own_cap hacc2.own
            have cG := hacc2.blk.cell
            have bz2 := bZ5.frm hacc2.fr (by omega)
            have cz := bz2.cell
            have fz := bz2.frozen
            obtain ⟨f1, f2, f3⟩ := hacc2.fin (Z := w.heap.size + 1) (by omega) (by omega) (.int .i64 a) (.int .i64 ((p : Int) + 1)) (.slice A' gs.length c')
            have Hfin := hide (show RetG R (M + 16 * L + 10) (L + 2000) w (.returned (.agg #[.int .i64 a, .int .i64 ((p : Int) + 1), .slice A' gs.length c'])) _ from ⟨⟨a, (p : Int) + 1, gs⟩, A', gs.length, c', rfl, f1, ⟨a, p + 1, rfl, ha, by simp, by omega, by have := Hp16.out; omega, hgf.out⟩, by have := Hp16.out; omega, f2.more (by omega), f3⟩)
            clear f1 f2 f3
            go_wp2_with fail
            exact bodyPost_ret (v := .agg #[.int .i64 a, .int .i64 ((p : Int) + 1), .slice A' gs.length c']) (by simp [results, Tryd.results48, go_sem, cz]) rfl Hfin.out
end Go.Proofs.YtbifoikcmjmdeaaDoor

namespace Go.Proofs.YtbifoikcmjmdeaaDoor
open Go Go.RowKit
set_option maxHeartbeats 4000000

/-- The cells of a system. -/
abbrev sysCells (s : Sys) (A : Option Addr) (n c : Nat) : Array Value := #[.int .i64 s.al, .int .i64 s.st, .slice A n c]
/-- The variables G and H hold the systems s and t; the first two blocks behind w0 are the results. -/
structure Two (w0 W : World) (R G H M : Nat) (s : Sys) (A : Option Addr) (n c : Nat) (t : Sys) (B : Option Addr) (m d : Nat) : Prop where
  z1 : Blk W w0.heap.size 25 #[.int .i64 0, .int .i64 0, .slice none 0 0]
  z2 : Blk W (w0.heap.size + 1) 25 #[.int .i64 0, .int .i64 0, .slice none 0 0]
  va : Blk W G 25 #[.int .i64 s.al, .int .i64 s.st, .slice A n c]
  ia : SysIn W R A n s
  vb : Blk W H 25 #[.int .i64 t.al, .int .i64 t.st, .slice B m d]
  ib : SysIn W R B m t
  rd : Rd W R M
  dr : Dr R w0 W
  hR : R < w0.heap.size
  hG : w0.heap.size + 2 ≤ G
  hH : G < H
section
variable {w0 W W' : World} {R G H M N : Nat} {s t : Sys} {A B : Option Addr} {n c m d : Nat}
theorem Two.ext (h : Two w0 W R G H M s A n c t B m d) (hx : Ext W W') : Two w0 W' R G H M s A n c t B m d :=
  ⟨h.z1.ext hx, h.z2.ext hx, h.va.ext hx, h.ia.ext hx, h.vb.ext hx, h.ib.ext hx, h.rd.ext hx, h.dr.ext hx, h.hR, h.hG, h.hH⟩
theorem Two.more (h : Two w0 W R G H M s A n c t B m d) (hM : M ≤ N) : Two w0 W R G H N s A n c t B m d := { h with rd := h.rd.more hM }
theorem Two.drawn (h : Two w0 W R G H M s A n c t B m d) (hd : Dr R W W') (hr : Rd W' R N) : Two w0 W' R G H N s A n c t B m d :=
  ⟨h.z1.dr hd (by have := h.hR; omega), h.z2.dr hd (by have := h.hR; omega), h.va.dr hd (by have := h.hR; have := h.hG; omega), h.ia.dr hd, h.vb.dr hd (by have := h.hR; have := h.hG; have := h.hH; omega), h.ib.dr hd, hr, h.dr.trans hd, h.hR, h.hG, h.hH⟩
theorem blk_fill {w : World} {Z : Nat} {cs : Array Value} {t : TypeId} (h : Blk w Z t cs) (hc : cs.size = 3) (u0 u1 u2 : Value) : Blk (((w.setCell ⟨Z, 0, none⟩ u0).setCell ⟨Z, 1, none⟩ u1).setCell ⟨Z, 2, none⟩ u2) Z t #[u0, u1, u2] := by
  obtain ⟨l⟩ := cs
  match l, hc with
  | [a, b, c], _ => simpa using ((h.set_ 0 u0).set_ 1 u1).set_ 2 u2
/-- The first variable is set. -/
theorem Two.setA {s' : Sys} {A' : Option Addr} {n' c' : Nat} (h : Two w0 W R G H M s A n c t B m d) (hs : SysIn W R A' n' s') :
    Two w0 (((W.setCell ⟨G, 0, none⟩ (.int .i64 s'.al)).setCell ⟨G, 1, none⟩ (.int .i64 s'.st)).setCell ⟨G, 2, none⟩ (.slice A' n' c')) R G H M s' A' n' c' t B m d := by
  have hf := frm_fill W G (.int .i64 s'.al) (.int .i64 s'.st) (.slice A' n' c')
  have h1 := h.hR; have h2 := h.hG; have h3 := h.hH
  exact ⟨h.z1.frm hf (by omega), h.z2.frm hf (by omega), blk_fill h.va rfl _ _ _, hs.far h.va (by decide) hf, h.vb.frm hf (by omega), h.ib.far h.va (by decide) hf, h.rd.frm hf (fun k a b => by omega),
    ((h.dr.setNew (p := ⟨G, 0, none⟩) (by dsimp only; omega) _).setNew (p := ⟨G, 1, none⟩) (by dsimp only; omega) _).setNew (p := ⟨G, 2, none⟩) (by dsimp only; omega) _, h1, h2, h3⟩
theorem Two.setB {t' : Sys} {B' : Option Addr} {m' d' : Nat} (h : Two w0 W R G H M s A n c t B m d) (hs : SysIn W R B' m' t') :
    Two w0 (((W.setCell ⟨H, 0, none⟩ (.int .i64 t'.al)).setCell ⟨H, 1, none⟩ (.int .i64 t'.st)).setCell ⟨H, 2, none⟩ (.slice B' m' d')) R G H M s A n c t' B' m' d' := by
  have hf := frm_fill W H (.int .i64 t'.al) (.int .i64 t'.st) (.slice B' m' d')
  have h1 := h.hR; have h2 := h.hG; have h3 := h.hH
  exact ⟨h.z1.frm hf (by omega), h.z2.frm hf (by omega), h.va.frm hf (by omega), h.ia.far h.vb (by decide) hf, blk_fill h.vb rfl _ _ _, hs.far h.vb (by decide) hf, h.rd.frm hf (fun k a b => by omega),
    ((h.dr.setNew (p := ⟨H, 0, none⟩) (by dsimp only; omega) _).setNew (p := ⟨H, 1, none⟩) (by dsimp only; omega) _).setNew (p := ⟨H, 2, none⟩) (by dsimp only; omega) _, h1, h2, h3⟩
end
/-- Two systems that were drawn, of whatever values. -/
def RetP (R M L : Nat) (w : World) (e : Ending) (w' : World) : Prop :=
  ∃ (s : Sys) (A : Option Addr) (n c : Nat) (t : Sys) (B : Option Addr) (m d : Nat), e = .returned (.tuple #[.agg #[.int .i64 s.al, .int .i64 s.st, .slice A n c], .agg #[.int .i64 t.al, .int .i64 t.st, .slice B m d]]) ∧
    SysIn w' R A n s ∧ SysIn w' R B m t ∧ (n ≤ L ∧ n ≤ c) ∧ (m ≤ L ∧ m ≤ d) ∧ Rd w' R M ∧ Dr R w w'
/-- Both are handed back. -/
theorem Two.fin {w0 W : World} {R G H M L : Nat} {s t : Sys} {A B : Option Addr} {n c m d : Nat} (h : Two w0 W R G H M s A n c t B m d) (hn : n ≤ L ∧ n ≤ c) (hm : m ≤ L ∧ m ≤ d) :
    RetP R M L w0 (.returned (.tuple #[.agg #[.int .i64 s.al, .int .i64 s.st, .slice A n c], .agg #[.int .i64 t.al, .int .i64 t.st, .slice B m d]]))
      (((((((W.setCell ⟨w0.heap.size, 0, none⟩ (.int .i64 s.al)).setCell ⟨w0.heap.size, 1, none⟩ (.int .i64 s.st)).setCell ⟨w0.heap.size, 2, none⟩ (.slice A n c))).setCell ⟨w0.heap.size + 1, 0, none⟩ (.int .i64 t.al)).setCell ⟨w0.heap.size + 1, 1, none⟩ (.int .i64 t.st)).setCell ⟨w0.heap.size + 1, 2, none⟩ (.slice B m d)) := by
  have h1 := h.hR
  have hf := frm_fill W w0.heap.size (.int .i64 s.al) (.int .i64 s.st) (.slice A n c)
  have z2 := h.z2.frm hf (by omega)
  have ia := h.ia.far h.z1 (by decide) hf
  have ib := h.ib.far h.z1 (by decide) hf
  have rd := h.rd.frm hf (fun k a b => by omega)
  have dr := ((h.dr.setNew (p := ⟨w0.heap.size, 0, none⟩) (Nat.le_refl _) (.int .i64 s.al)).setNew (p := ⟨w0.heap.size, 1, none⟩) (Nat.le_refl _) (.int .i64 s.st)).setNew (p := ⟨w0.heap.size, 2, none⟩) (Nat.le_refl _) (.slice A n c)
  generalize ((W.setCell ⟨w0.heap.size, 0, none⟩ (.int .i64 s.al)).setCell ⟨w0.heap.size, 1, none⟩ (.int .i64 s.st)).setCell ⟨w0.heap.size, 2, none⟩ (.slice A n c) = W1 at *
  have hf := frm_fill W1 (w0.heap.size + 1) (.int .i64 t.al) (.int .i64 t.st) (.slice B m d)
  exact ⟨s, A, n, c, t, B, m, d, rfl, ia.far z2 (by decide) hf, ib.far z2 (by decide) hf, hn, hm, rd.frm hf (fun k a b => by omega),
    ((dr.setNew (p := ⟨w0.heap.size + 1, 0, none⟩) (Nat.le_succ _) _).setNew (p := ⟨w0.heap.size + 1, 1, none⟩) (Nat.le_succ _) _).setNew (p := ⟨w0.heap.size + 1, 2, none⟩) (Nat.le_succ _) _⟩
theorem spec_l6Change {R M n c L : Nat} {A : Option Addr} {s : Sys} {w : World} (h : Rd w R M) (hM : M ≤ 900000000) (hs : SysIn w R A n s) (hg : Good s) (hn : n ≤ L) (hL : L ≤ 100000) :
    Calls Tryd.prog 49 #[.pointer (some ⟨R, 0, none⟩), .agg #[.int .i64 s.al, .int .i64 s.st, .slice A n c]] w (RetG R (M + 10) (L + 1) w) := by
  obtain ⟨al, st, es⟩ := s
  obtain ⟨a, p, h1, h2, h3, h4, h5, h6⟩ := hg
  simp only at h1 h3 h6
  subst h1; subst h3
  exact spec_l6Change_ h hM hs h2 h4 h5 h6 hn hL
theorem spec_l15Split {R M n c L : Nat} {A : Option Addr} {s : Sys} {w : World} (h : Rd w R M) (hM : M ≤ 800000000) (hs : SysIn w R A n s) (hg : Good s) (hn : n ≤ L) (hnc : n ≤ c) (hL : L ≤ 100000) :
    Calls Tryd.prog 48 #[.pointer (some ⟨R, 0, none⟩), .agg #[.int .i64 s.al, .int .i64 s.st, .slice A n c]] w (RetG R (M + 16 * L + 10) (L + 2000) w) := by
  obtain ⟨al, st, es⟩ := s
  obtain ⟨a, p, h1, h2, h3, h4, h5, h6⟩ := hg
  simp only at h1 h3 h6
  subst h1; subst h3
  exact spec_l15Split_ h hM hs h2 h4 h5 h6 hn hnc hL
end Go.Proofs.YtbifoikcmjmdeaaDoor

namespace Go.Proofs.YtbifoikcmjmdeaaDoor
open Go Go.RowKit
set_option maxHeartbeats 4000000

/-- The variable G holds the system s; the first block behind w0 is the result. -/
structure One (w0 W : World) (R G M : Nat) (s : Sys) (A : Option Addr) (n c : Nat) : Prop where
  z1 : Blk W w0.heap.size 25 #[.int .i64 0, .int .i64 0, .slice none 0 0]
  va : Blk W G 25 #[.int .i64 s.al, .int .i64 s.st, .slice A n c]
  ia : SysIn W R A n s
  rd : Rd W R M
  dr : Dr R w0 W
  hR : R < w0.heap.size
  hG : w0.heap.size + 1 ≤ G
section
variable {w0 W W' : World} {R G M N : Nat} {s : Sys} {A : Option Addr} {n c : Nat}
theorem One.ext (h : One w0 W R G M s A n c) (hx : Ext W W') : One w0 W' R G M s A n c :=
  ⟨h.z1.ext hx, h.va.ext hx, h.ia.ext hx, h.rd.ext hx, h.dr.ext hx, h.hR, h.hG⟩
theorem One.more (h : One w0 W R G M s A n c) (hM : M ≤ N) : One w0 W R G N s A n c := { h with rd := h.rd.more hM }
theorem One.drawn (h : One w0 W R G M s A n c) (hd : Dr R W W') (hr : Rd W' R N) : One w0 W' R G N s A n c :=
  ⟨h.z1.dr hd (by have := h.hR; omega), h.va.dr hd (by have := h.hR; have := h.hG; omega), h.ia.dr hd, hr, h.dr.trans hd, h.hR, h.hG⟩
theorem One.setA {s' : Sys} {A' : Option Addr} {n' c' : Nat} (h : One w0 W R G M s A n c) (hs : SysIn W R A' n' s') :
    One w0 (((W.setCell ⟨G, 0, none⟩ (.int .i64 s'.al)).setCell ⟨G, 1, none⟩ (.int .i64 s'.st)).setCell ⟨G, 2, none⟩ (.slice A' n' c')) R G M s' A' n' c' := by
  have hf := frm_fill W G (.int .i64 s'.al) (.int .i64 s'.st) (.slice A' n' c')
  have h1 := h.hR; have h2 := h.hG
  exact ⟨h.z1.frm hf (by omega), blk_fill h.va rfl _ _ _, hs.far h.va (by decide) hf, h.rd.frm hf (fun k a b => by omega),
    ((h.dr.setNew (p := ⟨G, 0, none⟩) (by dsimp only; omega) _).setNew (p := ⟨G, 1, none⟩) (by dsimp only; omega) _).setNew (p := ⟨G, 2, none⟩) (by dsimp only; omega) _, h1, h2⟩
theorem One.fin {L : Nat} (h : One w0 W R G M s A n c) (hn : n ≤ L ∧ n ≤ c) :
    RetA R M L w0 (.returned (.agg #[.int .i64 s.al, .int .i64 s.st, .slice A n c])) (((W.setCell ⟨w0.heap.size, 0, none⟩ (.int .i64 s.al)).setCell ⟨w0.heap.size, 1, none⟩ (.int .i64 s.st)).setCell ⟨w0.heap.size, 2, none⟩ (.slice A n c)) := by
  have h1 := h.hR
  have hf := frm_fill W w0.heap.size (.int .i64 s.al) (.int .i64 s.st) (.slice A n c)
  exact ⟨s, A, n, c, rfl, h.ia.far h.z1 (by decide) hf, hn, h.rd.frm hf (fun k a b => by omega),
    ((h.dr.setNew (p := ⟨w0.heap.size, 0, none⟩) (Nat.le_refl _) _).setNew (p := ⟨w0.heap.size, 1, none⟩) (Nat.le_refl _) _).setNew (p := ⟨w0.heap.size, 2, none⟩) (Nat.le_refl _) _⟩
end
end Go.Proofs.YtbifoikcmjmdeaaDoor

namespace Go.Proofs.YtbifoikcmjmdeaaDoor
open Go Go.RowKit
set_option maxHeartbeats 4000000

theorem reads_blk {W : World} {g n : Nat} {us : Array Value} {t : TypeId} (l : List Int) (h : Blk W g t us) (hu : us.toList = ints l) (hn : us.size = n) (h63 : n ≤ 1000) : Reads W g (g + 1) 1 (some ⟨g, 0, none⟩) n (ints l) :=
  ⟨by rw [← hu]; simpa using hn, by omega, fun _ => ⟨_, rfl, Nat.le_refl _, by simp, fun j u hj => by
    have := h.cell j
    rw [addr_lit, Nat.zero_add, this]
    rw [← hu] at hj
    simpa using hj⟩⟩
theorem num_blk {R M g n : Nat} {W : World} {us : Array Value} {t : TypeId} (l : List Int) (h : Blk W g t us) (hu : us.toList = ints l) (hn : us.size = n) (h0 : 0 < n) (h63 : n ≤ 1000) (hr : Rd W R M) (hM : M ≤ 1000000000) (hR : R < g) :
    Calls Tryd.prog 71 #[.pointer (some ⟨R, 0, none⟩), .slice (some ⟨g, 0, none⟩) n n] W (RetNum R M l W) :=
  l19Rd_num hr hM (reads_blk l h hu hn h63) hR h0
theorem l2Random_at {R M : Nat} {al st few : Int} {w : World} (h : Rd w R M) (hM : M ≤ 900000000) (ha : 0 ≤ al ∧ al < 64) (hp : 1 ≤ st ∧ st ≤ 16) :
    Calls Tryd.prog 70 #[.pointer (some ⟨R, 0, none⟩), .int .i64 al, .int .i64 st, .int .i64 few] w (RetG R (M + 20000) 20000 w) := by
  obtain ⟨a, rfl⟩ : ∃ a : Nat, al = a := ⟨al.toNat, by omega⟩
  obtain ⟨p, rfl⟩ : ∃ p : Nat, st = p := ⟨st.toNat, by omega⟩
  exact spec_l2Random h hM (by omega) (by omega) (by omega)
theorem edgeCells_take (es : List Edg) (k : Nat) : (edgeCells es).take (k * 3) = edgeCells (es.take k) := by
  induction es generalizing k with
  | nil => simp [edgeCells]
  | cons e r ih =>
    cases k with
    | zero => simp [edgeCells]
    | succ k =>
      rw [show (k + 1) * 3 = k * 3 + 1 + 1 + 1 by omega]
      simp only [edgeCells, List.take_succ_cons, ih]
/-- The first edges alone. -/
theorem SysIn.front {w : World} {R n k : Nat} {A : Option Addr} {al st : Int} {es : List Edg} (h : SysIn w R A n ⟨al, st, es⟩) (hk : k ≤ n) : SysIn w R A k ⟨al, st, es.take k⟩ := by
  have h1 := h.1
  simp only at h1
  refine ⟨by simp; omega, by have := h.2.1; omega, fun h0 => ?_⟩
  obtain ⟨g, o, cs, e, hR, hh, hc⟩ := h.2.2 (by omega)
  refine ⟨g, o, cs, e, hR, hh, fun j u hu => hc j u ?_⟩
  simp only at hu ⊢
  rw [← edgeCells_take] at hu
  rw [List.getElem?_take] at hu
  split at hu
  · exact hu
  · cases hu
theorem RetP.drew {R M L : Nat} {w W : World} {e : Ending} (h : RetP R M L w e W) : RetP R M L w e W.drew := by
  obtain ⟨s, A, n, c, t, B, m, d, h1, h2, h3, h4, h5, h6, h7⟩ := h
  exact ⟨s, A, n, c, t, B, m, d, h1, h2.ext (Ext.refl _).drew, h3.ext (Ext.refl _).drew, h4, h5, h6.ext (Ext.refl _).drew, h7.drew⟩
set_option maxRecDepth 100000 in
theorem spec_l6Pair {R M : Nat} {w : World} (h : Rd w R M) (hM : M ≤ 700000000) :
    Calls Tryd.prog 45 #[.pointer (some ⟨R, 0, none⟩)] w (RetP R (M + 200000) 30000 w) := by
  have hRl := h.lt
  have hx0 : Ext w ((w.alloc (.cells #[.int .i64 0, .int .i64 0, .slice none 0 0] 25)).alloc (.cells #[.int .i64 0, .int .i64 0, .slice none 0 0] 25)) := ((Ext.refl _).alloc _).alloc _
  obtain ⟨bz1, bz2⟩ := ext_blk2 (Ext.refl ((w.alloc (.cells #[.int .i64 0, .int .i64 0, .slice none 0 0] 25)).alloc (.cells #[.int .i64 0, .int .i64 0, .slice none 0 0] 25)))
  have Hx0 := hide hx0
  have Hz1 := hide bz1
  have Hz2 := hide bz2
  clear hx0 bz1 bz2
  go_enter Tryd.func45, Tryd.ntmps45
  go_wp2_with fail
  generalize (w.alloc (.cells #[.int .i64 0, .int .i64 0, .slice none 0 0] 25)).alloc (.cells #[.int .i64 0, .int .i64 0, .slice none 0 0] 25) = w1 at *
  refine (spec_l2Draw (h.ext Hx0.out) (by omega)).mono ?_
  rintro e w2 ⟨s, A, n, c, rfl, hs, hg, hn, hr2, hd2⟩
  have hx3 := (Ext.refl w2).alloc (.cells #[.int .i64 s.al, .int .i64 s.st, .slice A n c] 25)
  have b3 := Blk.new w2 25 #[.int .i64 s.al, .int .i64 s.st, .slice A n c]
  have hw2 := Hx0.out.dr.trans hd2
  have hz2 := hd2.size
  have hzw := Hz2.out.lt
  have z1 := (Hz1.out.dr hd2 (by omega)).ext hx3
  have z2 := (Hz2.out.dr hd2 (by omega)).ext hx3
  have hs3 := hs.ext hx3
  have hr3 := hr2.ext hx3
  have hw3 := hw2.ext hx3
  have c3 := b3.cell
  have Hg := hide hg
  clear hg hd2 hr2 hs hx3 hw2
  go_wp2_with fail
  generalize w2.alloc (.cells #[.int .i64 s.al, .int .i64 s.st, .slice A n c] 25) = w3 at *
  refine (spec_l6Change hr3 (by omega) hs3 Hg.out hn.1 (by omega)).mono ?_
  rintro e w4 ⟨t, B, m, d, rfl, ht, hgt, hm, hr4, hd4⟩
  have hx5 := (Ext.refl w4).alloc (.cells #[.int .i64 t.al, .int .i64 t.st, .slice B m d] 25)
  have b5 := Blk.new w4 25 #[.int .i64 t.al, .int .i64 t.st, .slice B m d]
  have hb34 := b3.dr hd4 (by omega)
  have hw4 := hw3.trans hd4
  have htwo : Two w _ R w2.heap.size w4.heap.size (M + 30010) s A n c t B m d := ⟨(z1.dr hd4 (by omega)).ext hx5, (z2.dr hd4 (by omega)).ext hx5, hb34.ext hx5, (hs3.dr hd4).ext hx5, b5, ht.ext hx5, hr4.ext hx5, hw4.ext hx5, hRl, by omega, hb34.lt⟩
  have Hgt := hide hgt
  clear hgt ht hr4 hd4 hx5 b5 hb34 hw4 c3 hw3 hr3 hs3 z1 z2 b3
  go_wp2_with fail
  generalize w4.alloc (.cells #[.int .i64 t.al, .int .i64 t.st, .slice B m d] 25) = w5 at *
  refine (l19Rd_pick (n := 4) htwo.rd (by omega)).mono ?_
  rintro e w6 ⟨y, rfl, -, -, hr6, hd6⟩
  replace htwo := htwo.drawn hd6 hr6
  clear hr6 hd6 Hz1 Hz2 Hx0
  go_upto_block 0 with fail
  go_cut [] (fun wx => ∃ (t : Sys) (B : Option Addr) (m d N : Nat), Two w wx R w2.heap.size w4.heap.size N s A n c t B m d ∧ Hid (Good t) ∧ (m ≤ 20002 ∧ m ≤ d) ∧ N ≤ M + 100000)
  case first =>
    by_cases hy0 : y = 0
    · subst hy0
      obtain ⟨a0, p0, hal, ha0, -, -, -, -⟩ := Hg.out
      have hala : 0 ≤ s.al ∧ s.al < 64 := by rw [hal]; omega
      have Hala := hide hala
      clear hal hala
      have hRG := htwo.hR
      have hGG := htwo.hG
      have hHH := htwo.hH
      have cG : ∀ W, Dr R w6 W → ∀ q, W.cell? ⟨w2.heap.size, q, none⟩ = #[Value.int .i64 s.al, .int .i64 s.st, .slice A n c][q]? := fun W hW => (htwo.va.dr hW (by omega)).cell
      have hzR := htwo.rd.lt
      go_wp2_with fail
      refine wp_region_tail (fun X => Dr R w6 X) [10] (Ord.app [0, 1, 2, 3, 6] (Ord.two 4 (Ord.two 5 (Ord.of [7, 8, 9, 10]) 7 (Ord.of [5, 8, 9, 10])) 7 (Ord.of [4, 5, 8, 9, 10]))) (by kernel_rfl) rfl (by kernel_rfl) (by kernel_rfl) (by kernel_rfl) (fun _ _ _ _ _ h => h) (by first | assumption | exact (Ext.refl _).drew | exact (Dr.refl _ _).drew | (refine Ext.drew ?_; assumption)) ?_
      repeat (first | (refine tseq_skip rfl rfl (by assumption) ?_; simp only [Act.put, List.setIfInBounds_toArray, List.set_cons_zero, List.set_cons_succ]) | (refine tseq_pure (v := ?_) rfl rfl rfl rfl (fun X => ?_) ?_; rotate_left; (focus (go_simp <;> with_reducible rfl)); simp only [Act.put, List.setIfInBounds_toArray, List.set_cons_zero, List.set_cons_succ]) | (refine tseq_read (v := ?_) rfl rfl rfl rfl (fun X hX => ?_) ?_; rotate_left; (focus (go_simp <;> with_reducible rfl)); simp only [Act.put, List.setIfInBounds_toArray, List.set_cons_zero, List.set_cons_succ]))
      refine tseq_both rfl rfl rfl rfl (fun K hK => ?_) (fun K hK => ?_)
      · have hrw6 := htwo.rd
        go_simp
        have hxv1 : Ext w6 (w6.alloc (.cells #[.int .i64 2, .int .i64 3, .int .i64 1, .int .i64 4] 3)).drew := ((Ext.refl _).alloc _).drew
        have bl4 : Blk (w6.alloc (.cells #[.int .i64 2, .int .i64 3, .int .i64 1, .int .i64 4] 3)).drew w6.heap.size 3 #[.int .i64 2, .int .i64 3, .int .i64 1, .int .i64 4] := Blk.new w6 _ _
        have hzv1 := bl4.lt
        have hzzv1 := hxv1.size
        have hdv1 : Dr R w6 (w6.alloc (.cells #[.int .i64 2, .int .i64 3, .int .i64 1, .int .i64 4] 3)).drew := hxv1.dr
        have hrv1 := hrw6.ext hxv1
        refine hK.out _ _ hdv1 ?_
        generalize (w6.alloc (.cells #[.int .i64 2, .int .i64 3, .int .i64 1, .int .i64 4] 3)).drew = v1 at *
        (try simp only [Act.put, List.setIfInBounds_toArray, List.set_cons_zero, List.set_cons_succ])
        refine tseq_both rfl rfl rfl rfl (fun K hK => ?_) (fun K hK => ?_)
        · go_simp
          refine (num_blk (n := 4) [2, 3, 1, 4] bl4 rfl rfl (by omega) (by omega) hrv1 (by omega) (by omega)).mono ?_
          rintro e v2 ⟨x, hx, rfl, hrv2, hddv2⟩
          have hdv2 := hdv1.trans hddv2
          have hzzv2 := hddv2.size
          refine hK.out _ _ hdv2 ?_
          (try simp only [Act.put, List.setIfInBounds_toArray, List.set_cons_zero, List.set_cons_succ])
          refine tseq_step rfl rfl rfl (fun K hK => ?_)
          go_simp
          have hxv3 : Ext v2 (v2.alloc (.cells #[.int .i64 2, .int .i64 3] 3)) := (Ext.refl _).alloc _
          have bl2 : Blk (v2.alloc (.cells #[.int .i64 2, .int .i64 3] 3)) v2.heap.size 3 #[.int .i64 2, .int .i64 3] := Blk.new v2 _ _
          have hzv3 := bl2.lt
          have hzzv3 := hxv3.size
          have hdv3 : Dr R w6 (v2.alloc (.cells #[.int .i64 2, .int .i64 3] 3)) := hdv2.ext hxv3
          have hrv3 := hrv2.ext hxv3
          refine hK.out _ _ hdv3 ?_
          generalize (v2.alloc (.cells #[.int .i64 2, .int .i64 3] 3)) = v3 at *
          (try simp only [Act.put, List.setIfInBounds_toArray, List.set_cons_zero, List.set_cons_succ])
          refine tseq_step rfl rfl rfl (fun K hK => ?_)
          go_simp
          refine (num_blk (n := 2) [2, 3] bl2 rfl rfl (by omega) (by omega) hrv3 (by omega) (by omega)).mono ?_
          rintro e v4 ⟨z, hz, rfl, hrv4, hddv4⟩
          have hdv4 := hdv3.trans hddv4
          have hzzv4 := hddv4.size
          refine hK.out _ _ hdv4 ?_
          (try simp only [Act.put, List.setIfInBounds_toArray, List.set_cons_zero, List.set_cons_succ])
          refine tseq_step rfl rfl rfl (fun K hK => ?_)
          go_simp
          refine (l2Random_at hrv4 (by omega) Hala.out (by simp at hx; omega)).mono ?_
          rintro e v9 ⟨t9, B9, m9, d9, rfl, ht9, hgt9, hm9, hr9, hd9⟩
          have hd69 := hdv4.trans hd9
          replace htwo := htwo.drawn hd69 hr9
          have Hgt9 := hide hgt9
          clear hgt9
          refine hK.out _ _ hd69 ?_
          (try simp only [Act.put, List.setIfInBounds_toArray, List.set_cons_zero, List.set_cons_succ])
          have cH := htwo.vb.cell
          have fH := htwo.vb.frozen
          have fin := htwo.setB (d' := d9) ht9
          (refine tseq_last rfl rfl rfl rfl (fun K hK => ?_))
          go_simp
          refine hK.out _ _ ?_
          refine tseq_nil ?_
          go_wp2_with fail
          go_meet
          exact ⟨t9, B9, m9, d9, _, fin, Hgt9, by omega, by omega⟩
        · go_simp
          have hxv2 : Ext v1 (v1.alloc (.cells #[.int .i64 2, .int .i64 3] 3)) := (Ext.refl _).alloc _
          have bl2 : Blk (v1.alloc (.cells #[.int .i64 2, .int .i64 3] 3)) v1.heap.size 3 #[.int .i64 2, .int .i64 3] := Blk.new v1 _ _
          have hzv2 := bl2.lt
          have hzzv2 := hxv2.size
          have hdv2 : Dr R w6 (v1.alloc (.cells #[.int .i64 2, .int .i64 3] 3)) := hdv1.ext hxv2
          have hrv2 := hrv1.ext hxv2
          replace bl4 := bl4.ext hxv2
          refine hK.out _ _ hdv2 ?_
          generalize (v1.alloc (.cells #[.int .i64 2, .int .i64 3] 3)) = v2 at *
          (try simp only [Act.put, List.setIfInBounds_toArray, List.set_cons_zero, List.set_cons_succ])
          refine tseq_step rfl rfl rfl (fun K hK => ?_)
          go_simp
          refine (num_blk (n := 4) [2, 3, 1, 4] bl4 rfl rfl (by omega) (by omega) hrv2 (by omega) (by omega)).mono ?_
          rintro e v3 ⟨x, hx, rfl, hrv3, hddv3⟩
          have hdv3 := hdv2.trans hddv3
          replace bl2 := bl2.dr hddv3 (by omega)
          have hzzv3 := hddv3.size
          refine hK.out _ _ hdv3 ?_
          (try simp only [Act.put, List.setIfInBounds_toArray, List.set_cons_zero, List.set_cons_succ])
          refine tseq_step rfl rfl rfl (fun K hK => ?_)
          go_simp
          refine (num_blk (n := 2) [2, 3] bl2 rfl rfl (by omega) (by omega) hrv3 (by omega) (by omega)).mono ?_
          rintro e v4 ⟨z, hz, rfl, hrv4, hddv4⟩
          have hdv4 := hdv3.trans hddv4
          have hzzv4 := hddv4.size
          refine hK.out _ _ hdv4 ?_
          (try simp only [Act.put, List.setIfInBounds_toArray, List.set_cons_zero, List.set_cons_succ])
          refine tseq_step rfl rfl rfl (fun K hK => ?_)
          go_simp
          refine (l2Random_at hrv4 (by omega) Hala.out (by simp at hx; omega)).mono ?_
          rintro e v9 ⟨t9, B9, m9, d9, rfl, ht9, hgt9, hm9, hr9, hd9⟩
          have hd69 := hdv4.trans hd9
          replace htwo := htwo.drawn hd69 hr9
          have Hgt9 := hide hgt9
          clear hgt9
          refine hK.out _ _ hd69 ?_
          (try simp only [Act.put, List.setIfInBounds_toArray, List.set_cons_zero, List.set_cons_succ])
          have cH := htwo.vb.cell
          have fH := htwo.vb.frozen
          have fin := htwo.setB (d' := d9) ht9
          (refine tseq_last rfl rfl rfl rfl (fun K hK => ?_))
          go_simp
          refine hK.out _ _ ?_
          refine tseq_nil ?_
          go_wp2_with fail
          go_meet
          exact ⟨t9, B9, m9, d9, _, fin, Hgt9, by omega, by omega⟩
      · have hrw6 := htwo.rd
        go_simp
        have hxv1 : Ext w6 (w6.alloc (.cells #[.int .i64 2, .int .i64 3] 3)).drew := ((Ext.refl _).alloc _).drew
        have bl2 : Blk (w6.alloc (.cells #[.int .i64 2, .int .i64 3] 3)).drew w6.heap.size 3 #[.int .i64 2, .int .i64 3] := Blk.new w6 _ _
        have hzv1 := bl2.lt
        have hzzv1 := hxv1.size
        have hdv1 : Dr R w6 (w6.alloc (.cells #[.int .i64 2, .int .i64 3] 3)).drew := hxv1.dr
        have hrv1 := hrw6.ext hxv1
        refine hK.out _ _ hdv1 ?_
        generalize (w6.alloc (.cells #[.int .i64 2, .int .i64 3] 3)).drew = v1 at *
        (try simp only [Act.put, List.setIfInBounds_toArray, List.set_cons_zero, List.set_cons_succ])
        refine tseq_step rfl rfl rfl (fun K hK => ?_)
        go_simp
        have hxv2 : Ext v1 (v1.alloc (.cells #[.int .i64 2, .int .i64 3, .int .i64 1, .int .i64 4] 3)) := (Ext.refl _).alloc _
        have bl4 : Blk (v1.alloc (.cells #[.int .i64 2, .int .i64 3, .int .i64 1, .int .i64 4] 3)) v1.heap.size 3 #[.int .i64 2, .int .i64 3, .int .i64 1, .int .i64 4] := Blk.new v1 _ _
        have hzv2 := bl4.lt
        have hzzv2 := hxv2.size
        have hdv2 : Dr R w6 (v1.alloc (.cells #[.int .i64 2, .int .i64 3, .int .i64 1, .int .i64 4] 3)) := hdv1.ext hxv2
        have hrv2 := hrv1.ext hxv2
        replace bl2 := bl2.ext hxv2
        refine hK.out _ _ hdv2 ?_
        generalize (v1.alloc (.cells #[.int .i64 2, .int .i64 3, .int .i64 1, .int .i64 4] 3)) = v2 at *
        (try simp only [Act.put, List.setIfInBounds_toArray, List.set_cons_zero, List.set_cons_succ])
        refine tseq_step rfl rfl rfl (fun K hK => ?_)
        go_simp
        refine (num_blk (n := 4) [2, 3, 1, 4] bl4 rfl rfl (by omega) (by omega) hrv2 (by omega) (by omega)).mono ?_
        rintro e v3 ⟨x, hx, rfl, hrv3, hddv3⟩
        have hdv3 := hdv2.trans hddv3
        replace bl2 := bl2.dr hddv3 (by omega)
        have hzzv3 := hddv3.size
        refine hK.out _ _ hdv3 ?_
        (try simp only [Act.put, List.setIfInBounds_toArray, List.set_cons_zero, List.set_cons_succ])
        refine tseq_step rfl rfl rfl (fun K hK => ?_)
        go_simp
        refine (num_blk (n := 2) [2, 3] bl2 rfl rfl (by omega) (by omega) hrv3 (by omega) (by omega)).mono ?_
        rintro e v4 ⟨z, hz, rfl, hrv4, hddv4⟩
        have hdv4 := hdv3.trans hddv4
        have hzzv4 := hddv4.size
        refine hK.out _ _ hdv4 ?_
        (try simp only [Act.put, List.setIfInBounds_toArray, List.set_cons_zero, List.set_cons_succ])
        refine tseq_step rfl rfl rfl (fun K hK => ?_)
        go_simp
        refine (l2Random_at hrv4 (by omega) Hala.out (by simp at hx; omega)).mono ?_
        rintro e v9 ⟨t9, B9, m9, d9, rfl, ht9, hgt9, hm9, hr9, hd9⟩
        have hd69 := hdv4.trans hd9
        replace htwo := htwo.drawn hd69 hr9
        have Hgt9 := hide hgt9
        clear hgt9
        refine hK.out _ _ hd69 ?_
        (try simp only [Act.put, List.setIfInBounds_toArray, List.set_cons_zero, List.set_cons_succ])
        have cH := htwo.vb.cell
        have fH := htwo.vb.frozen
        have fin := htwo.setB (d' := d9) ht9
        (refine tseq_last rfl rfl rfl rfl (fun K hK => ?_))
        go_simp
        refine hK.out _ _ ?_
        refine tseq_nil ?_
        go_wp2_with fail
        go_meet
        exact ⟨t9, B9, m9, d9, _, fin, Hgt9, by omega, by omega⟩
    · by_cases hy1 : y = 1
      · subst hy1
        have cH := htwo.vb.cell
        go_wp2_with fail
        refine (spec_l6Change htwo.rd (by omega) htwo.ib Hgt.out hm.1 (by omega)).mono ?_
        rintro e v9 ⟨t9, B9, m9, d9, rfl, ht9, hgt9, hm9, hr9, hd9⟩
        replace htwo := htwo.drawn hd9 hr9
        have Hgt9 := hide hgt9
        clear hgt9 cH
        have cH := htwo.vb.cell
        have fH := htwo.vb.frozen
        have fin := htwo.setB (d' := d9) ht9
        go_wp2_with fail
        go_meet
        exact ⟨t9, B9, m9, d9, _, fin, Hgt9, by omega, by omega⟩
      · have h0 : ((y : Int) == 0) = false := by simp; omega
        have h1 : ((y : Int) == 1) = false := by simp; omega
        clear hy0 hy1
        go_wp2_with fail
        go_meet
        exact ⟨t, B, m, d, _, htwo, Hgt, by omega, by omega⟩
  case rest =>
    clear htwo Hgt hm
    obtain ⟨t, B, m, d, N, htwo, Hgt, hm, hN⟩ := hcut
    have hRG := htwo.hR
    have hGG := htwo.hG
    have hHH := htwo.hH
    go_wp2_with fail
    refine (l19Rd_pick (n := 24) htwo.rd (by omega)).mono ?_
    rintro e w7 ⟨y, rfl, -, -, hr7, hd7⟩
    replace htwo := htwo.drawn hd7 hr7
    clear hr7 hd7
    go_upto_block 1 with fail
    go_cut [] (fun wx => ∃ (s : Sys) (A : Option Addr) (n c : Nat) (t : Sys) (B : Option Addr) (m d N : Nat), Two w wx R w2.heap.size w4.heap.size N s A n c t B m d ∧ (n ≤ 30000 ∧ n ≤ c) ∧ (m ≤ 30000 ∧ m ≤ d) ∧ N ≤ M + 200000)
    case first =>
      by_cases hy0 : y = 0
      · subst hy0
        have cG := htwo.va.cell
        go_wp2_with fail
        refine (spec_l2Wrong (L := n) htwo.rd (by omega) htwo.ia (Nat.le_refl _) (by omega)).mono ?_
        rintro e v1 ⟨s1, A1, n1, c1, rfl, hs1, hn1, hr1, hd1⟩
        replace htwo := htwo.drawn hd1 hr1
        clear cG
        go_wp2_with fail
        refine (spec_l2Wrong (L := n1) htwo.rd (by omega) hs1 (Nat.le_refl _) (by omega)).mono ?_
        rintro e v2 ⟨s2, A2, n2, c2, rfl, hs2, hn2, hr2, hd2⟩
        replace htwo := htwo.drawn hd2 hr2
        go_wp2_with fail
        refine (spec_l2Wrong (L := n2) htwo.rd (by omega) hs2 (Nat.le_refl _) (by omega)).mono ?_
        rintro e v3 ⟨s3, A3, n3, c3, rfl, hs3, hn3, hr3, hd3⟩
        replace htwo := htwo.drawn hd3 hr3
        have cG := htwo.va.cell
        have fG := htwo.va.frozen
        have fin := htwo.setA (c' := c3) hs3
        go_wp2_with fail
        go_meet
        exact ⟨s3, A3, n3, c3, t, B, m, d, _, fin, by omega, by omega, by omega⟩
      by_cases hy1 : y = 1
      · subst hy1
        have cG := htwo.vb.cell
        go_wp2_with fail
        refine (spec_l2Wrong (L := m) htwo.rd (by omega) htwo.ib (Nat.le_refl _) (by omega)).mono ?_
        rintro e v1 ⟨s1, A1, n1, c1, rfl, hs1, hn1, hr1, hd1⟩
        replace htwo := htwo.drawn hd1 hr1
        clear cG
        go_wp2_with fail
        refine (spec_l2Wrong (L := n1) htwo.rd (by omega) hs1 (Nat.le_refl _) (by omega)).mono ?_
        rintro e v2 ⟨s2, A2, n2, c2, rfl, hs2, hn2, hr2, hd2⟩
        replace htwo := htwo.drawn hd2 hr2
        go_wp2_with fail
        refine (spec_l2Wrong (L := n2) htwo.rd (by omega) hs2 (Nat.le_refl _) (by omega)).mono ?_
        rintro e v3 ⟨s3, A3, n3, c3, rfl, hs3, hn3, hr3, hd3⟩
        replace htwo := htwo.drawn hd3 hr3
        have cG := htwo.vb.cell
        have fG := htwo.vb.frozen
        have fin := htwo.setB (d' := c3) hs3
        go_wp2_with fail
        go_meet
        exact ⟨s, A, n, c, s3, A3, n3, c3, _, fin, by omega, by omega, by omega⟩
      by_cases hy2 : y = 2
      · subst hy2
        go_wp2_with fail
        refine (spec_l2Draw htwo.rd (by omega)).mono ?_
        rintro e v3 ⟨s3, A3, n3, c3, rfl, hs3, -, hn3, hr3, hd3⟩
        replace htwo := htwo.drawn hd3 hr3
        have cG := htwo.vb.cell
        have fG := htwo.vb.frozen
        have fin := htwo.setB (d' := c3) hs3
        go_wp2_with fail
        go_meet
        exact ⟨s, A, n, c, s3, A3, n3, c3, _, fin, by omega, by omega, by omega⟩
      by_cases hy3 : y = 3
      · subst hy3
        go_wp2_with fail
        refine (spec_l2Big htwo.rd (by omega)).mono ?_
        rintro e v3 ⟨s3, A3, n3, c3, rfl, hs3, -, hn3, ⟨hn31, hn3c⟩, hr3, hd3⟩
        replace htwo := htwo.drawn hd3 hr3
        obtain ⟨n', rfl⟩ : ∃ n', n3 = n' + 1 := ⟨n3 - 1, by omega⟩
        obtain ⟨g3, o3, cs3, rfl, -⟩ := hs3.2.2 (by omega)
        have cG := htwo.va.cell
        have fG := htwo.va.frozen
        have fin := htwo.setA (c' := c3) hs3
        have hn3c' : ((n' : Int)) ≤ (c3 : Int) := by omega
        go_wp2_with fail
        generalize ((v3.setCell ⟨w2.heap.size, 0, none⟩ (.int .i64 s3.al)).setCell ⟨w2.heap.size, 1, none⟩ (.int .i64 s3.st)).setCell ⟨w2.heap.size, 2, none⟩ (.slice (some ⟨g3, o3, none⟩) (n' + 1) c3) = w8 at *
        clear cG fG
        have cG : ∀ W, Ext w8 W → ∀ q, W.cell? ⟨w2.heap.size, q, none⟩ = #[Value.int .i64 s3.al, .int .i64 s3.st, .slice (some ⟨g3, o3, none⟩) (n' + 1) c3][q]? := fun W hW => (fin.va.ext hW).cell
        have hfr := SysIn.front (al := s3.al) (st := s3.st) (es := s3.edges) fin.ia (k := n') (by omega)
        have Hfr := hide hfr
        clear hfr
        have hRw8 := fin.rd.lt
        have hwr : IntKind.i64.wrap (n' : Int) = n' := IntWalk.i64_in _ (by omega)
        have hn0 : 0 ≤ (n' : Int) := by omega
        refine wp_region_tail (fun X => Ext w8 X) [14] (Ord.of [0, 1, 2, 3, 5, 6, 7, 8, 9, 10, 11, 4, 12, 13, 14]) (by kernel_rfl) rfl (by kernel_rfl) (by kernel_rfl) (by kernel_rfl) (fun _ _ _ _ _ h => h) (by first | assumption | exact (Ext.refl _).drew | exact (Dr.refl _ _).drew | (refine Ext.drew ?_; assumption)) ?_
        repeat (first | (refine tseq_skip rfl rfl (by assumption) ?_; simp only [Act.put, List.setIfInBounds_toArray, List.set_cons_zero, List.set_cons_succ]) | (refine tseq_pure (v := ?_) rfl rfl rfl rfl (fun X => ?_) ?_; rotate_left; (focus (go_simp <;> with_reducible rfl)); simp only [Act.put, List.setIfInBounds_toArray, List.set_cons_zero, List.set_cons_succ]) | (refine tseq_read (v := ?_) rfl rfl rfl rfl (fun X hX => ?_) ?_; rotate_left; (focus (go_simp <;> with_reducible rfl)); simp only [Act.put, List.setIfInBounds_toArray, List.set_cons_zero, List.set_cons_succ]))
        clear hwr
        (refine tseq_step rfl rfl rfl (fun K hK => ?_); go_simp)
        refine hK.out _ _ ((Ext.refl _).drew.alloc _) ?_
        (try simp only [Act.put, List.setIfInBounds_toArray, List.set_cons_zero, List.set_cons_succ])
        refine tseq_step rfl rfl rfl (fun K hK => ?_)
        refine wp_onto _ _ _ _ rfl w8.heap.size 48 _ 3 24 Tryd.underlying23 info_edge rfl (by decide) (.slice (some ⟨w8.heap.size, 0, none⟩) 0 0) 0 [] rfl (edge_lit w8) (R + 1) w8.heap.size (some ⟨g3, o3, none⟩) n' c3 (edgeCells (s3.edges.take n')) rfl (Hfr.out.at_.2.ext ((Ext.refl w8).drew.alloc _)) (edgeCells_one _) (by unfold maxLen; omega) (by omega) (by simp) ?_
        intro v w9 hown9 hg9 hat9
        rw [Nat.zero_add, List.nil_append] at hown9
        obtain ⟨A9, c9, rfl⟩ := own_form hown9
        have hcap9 := own_cap hown9
        have hx9 : Ext w8 w9 := (((Ext.refl w8).alloc (.cells #[] 48)).drew).grown hg9 (fun k hk => by simp [Value.ownBlock] at hk; omega)
        replace fin := fin.ext hx9
        have hin := SysIn.own (s := ⟨s3.al, s3.st, s3.edges.take n'⟩) hown9 hRw8
        have fin2 := fin.setB (d' := c9) hin
        have cH := fin.vb.cell
        have fH := fin.vb.frozen
        refine hK.out _ _ hx9 ?_
        (try simp only [Act.put, List.setIfInBounds_toArray, List.set_cons_zero, List.set_cons_succ])
        repeat (first | (refine tseq_skip rfl rfl (by assumption) ?_; simp only [Act.put, List.setIfInBounds_toArray, List.set_cons_zero, List.set_cons_succ]) | (refine tseq_pure (v := ?_) rfl rfl rfl rfl (fun X => ?_) ?_; rotate_left; (focus (go_simp <;> with_reducible rfl)); simp only [Act.put, List.setIfInBounds_toArray, List.set_cons_zero, List.set_cons_succ]) | (refine tseq_read (v := ?_) rfl rfl rfl rfl (fun X hX => ?_) ?_; rotate_left; (focus (go_simp <;> with_reducible rfl)); simp only [Act.put, List.setIfInBounds_toArray, List.set_cons_zero, List.set_cons_succ]))
        (refine tseq_last rfl rfl rfl rfl (fun K hK => ?_))
        go_simp
        refine hK.out _ _ ?_
        refine tseq_nil ?_
        go_wp2_with fail
        go_meet
        exact ⟨_, _, _, c3, _, _, _, _, _, fin2, by omega, by omega, by omega⟩
      have h0 : ((y : Int) == 0) = false := by simp; omega
      have h1 : ((y : Int) == 1) = false := by simp; omega
      have h2 : ((y : Int) == 2) = false := by simp; omega
      have h3 : ((y : Int) == 3) = false := by simp; omega
      clear hy0 hy1 hy2 hy3
      go_wp2_with fail
      go_meet
      exact ⟨s, A, n, c, t, B, m, d, _, htwo, by omega, by omega, by omega⟩
    case rest =>
      clear htwo Hgt hm hn hN Hg
      obtain ⟨s, A, n, c, t, B, m, d, N, htwo, hn, hm, hN⟩ := hcut
      obtain ⟨wE, hwE⟩ : ∃ wE, wE = wc := ⟨_, rfl⟩
      subst hwE
      have hS0 : Frm (fun k => k = w.heap.size) wE wE.drew := ⟨rfl, rfl, rfl, Nat.le_refl _, fun _ _ _ => rfl⟩
      have hfin := hide (((htwo.more hN).fin hn hm).drew)
      have cG : ∀ W, Frm (fun k => k = w.heap.size) wE W → ∀ q, W.cell? ⟨w2.heap.size, q, none⟩ = #[Value.int .i64 s.al, .int .i64 s.st, .slice A n c][q]? := fun W hW => (htwo.va.frm hW (by omega)).cell
      have cH : ∀ W, Frm (fun k => k = w.heap.size) wE W → ∀ q, W.cell? ⟨w4.heap.size, q, none⟩ = #[Value.int .i64 t.al, .int .i64 t.st, .slice B m d][q]? := fun W hW => (htwo.vb.frm hW (by omega)).cell
      have cz1 := htwo.z1.cell
      have fz1 := htwo.z1.frozen
      have cz2 := htwo.z2.cell
      have fz2 := htwo.z2.frozen
      go_wp2_with fail
      refine wp_region_tail (fun X => Frm (fun k => k = w.heap.size) wE X) [3] (Ord.of [0, 1, 2, 3]) (by kernel_rfl) rfl (by kernel_rfl) (by kernel_rfl) (by kernel_rfl) (fun _ _ _ _ _ h => h) (by first | assumption | exact (Ext.refl _).drew | exact (Dr.refl _ _).drew | (refine Ext.drew ?_; assumption)) ?_
      repeat (first | (refine tseq_skip rfl rfl (by assumption) ?_; simp only [Act.put, List.setIfInBounds_toArray, List.set_cons_zero, List.set_cons_succ]) | (refine tseq_pure (v := ?_) rfl rfl rfl rfl (fun X => ?_) ?_; rotate_left; (focus (go_simp <;> with_reducible rfl)); simp only [Act.put, List.setIfInBounds_toArray, List.set_cons_zero, List.set_cons_succ]) | (refine tseq_read (v := ?_) rfl rfl rfl rfl (fun X hX => ?_) ?_; rotate_left; (focus (go_simp <;> with_reducible rfl)); simp only [Act.put, List.setIfInBounds_toArray, List.set_cons_zero, List.set_cons_succ]))
      (refine tseq_step rfl rfl rfl (fun K hK => ?_); go_simp)
      refine hK.out _ _ (hS0.trans (frm_fill _ _ _ _ _)) ?_
      (try simp only [Act.put, List.setIfInBounds_toArray, List.set_cons_zero, List.set_cons_succ])
      (refine tseq_last rfl rfl rfl rfl (fun K hK => ?_))
      go_simp
      refine hK.out _ _ ?_
      refine tseq_nil ?_
      go_wp2_with fail
      exact bodyPost_ret (v := .tuple #[.agg #[.int .i64 s.al, .int .i64 s.st, .slice A n c], .agg #[.int .i64 t.al, .int .i64 t.st, .slice B m d]]) (by simp [results, Tryd.results45, go_sem, cz1, cz2]) rfl hfin.out
end Go.Proofs.YtbifoikcmjmdeaaDoor

namespace Go.Proofs.YtbifoikcmjmdeaaDoor
open Go Go.RowKit
set_option maxHeartbeats 4000000

set_option maxRecDepth 100000 in
theorem spec_l15Pair {R M : Nat} {w : World} (h : Rd w R M) (hM : M ≤ 600000000) :
    Calls Tryd.prog 23 #[.pointer (some ⟨R, 0, none⟩)] w (RetP R (M + 1000000) 40000 w) := by
  have hRl := h.lt
  have hx0 : Ext w ((w.alloc (.cells #[.int .i64 0, .int .i64 0, .slice none 0 0] 25)).alloc (.cells #[.int .i64 0, .int .i64 0, .slice none 0 0] 25)) := ((Ext.refl _).alloc _).alloc _
  obtain ⟨bz1, bz2⟩ := ext_blk2 (Ext.refl ((w.alloc (.cells #[.int .i64 0, .int .i64 0, .slice none 0 0] 25)).alloc (.cells #[.int .i64 0, .int .i64 0, .slice none 0 0] 25)))
  have Hx0 := hide hx0
  have Hz1 := hide bz1
  have Hz2 := hide bz2
  clear hx0 bz1 bz2
  go_enter Tryd.func23, Tryd.ntmps23
  go_wp2_with fail
  generalize (w.alloc (.cells #[.int .i64 0, .int .i64 0, .slice none 0 0] 25)).alloc (.cells #[.int .i64 0, .int .i64 0, .slice none 0 0] 25) = w1 at *
  refine (spec_l6Pair (h.ext Hx0.out) (by omega)).mono ?_
  rintro e w2 ⟨s, A, n, c, t, B, m, d, rfl, hs, ht, hn, hm, hr2, hd2⟩
  have hw2 := Hx0.out.dr.trans hd2
  have hz2 := hd2.size
  have hzw := Hz2.out.lt
  have z1 := Hz1.out.dr hd2 (by omega)
  have z2 := Hz2.out.dr hd2 (by omega)
  have hx3 : Ext w2 ((w2.alloc (.cells #[.int .i64 s.al, .int .i64 s.st, .slice A n c] 25)).alloc (.cells #[.int .i64 t.al, .int .i64 t.st, .slice B m d] 25)) := ((Ext.refl _).alloc _).alloc _
  obtain ⟨b1, b2⟩ := ext_blk2 (Ext.refl ((w2.alloc (.cells #[.int .i64 s.al, .int .i64 s.st, .slice A n c] 25)).alloc (.cells #[.int .i64 t.al, .int .i64 t.st, .slice B m d] 25)))
  have htwo : Two w _ R w2.heap.size (w2.heap.size + 1) (M + 200000) s A n c t B m d := ⟨z1.ext hx3, z2.ext hx3, b1, hs.ext hx3, b2, ht.ext hx3, hr2.ext hx3, hw2.ext hx3, hRl, by omega, by omega⟩
  clear Hx0 Hz1 Hz2 z1 z2 b1 b2 hs ht hr2 hw2 hx3 hd2
  go_upto_region 2 with fail
  generalize (w2.alloc (.cells #[.int .i64 s.al, .int .i64 s.st, .slice A n c] 25)).alloc (.cells #[.int .i64 t.al, .int .i64 t.st, .slice B m d] 25) = w3 at *
  go_cut [17] (fun v wx => ∃ (q : Bool) (N : Nat), v = .bool q ∧ (q = true → Hid (sysValid s = true)) ∧ Two w wx R w2.heap.size (w2.heap.size + 1) N s A n c t B m d ∧ N ≤ M + 200001)
  case first =>
    have cG := htwo.va.cell
    cases hv : sysValid s
    · have Hv := hide hv
      clear hv
      go_wp2_with fail
      refine (spec_SystemValid htwo.ia.at_).mono ?_
      rw [Hv.out]
      rintro e w4 ⟨rfl, hx4⟩
      go_wp2_with fail
      go_meet
      exact ⟨false, _, rfl, (fun h => (by cases h)), htwo.ext hx4, by omega⟩
    · have Hv := hide hv
      clear hv
      go_wp2_with fail
      refine (spec_SystemValid htwo.ia.at_).mono ?_
      rw [Hv.out]
      rintro e w4 ⟨rfl, hx4⟩
      replace htwo := htwo.ext hx4
      go_wp2_with fail
      refine (l19Rd_pick (n := 2) htwo.rd (by omega)).mono ?_
      rintro e w5 ⟨y, rfl, -, -, hr5, hd5⟩
      replace htwo := htwo.drawn hd5 hr5
      go_wp2_with fail
      go_meet
      exact ⟨_, _, rfl, fun _ => hide Hv.out, htwo, by omega⟩
  case rest =>
    clear htwo
    obtain ⟨q, N, rfl, hq, htwo, hN⟩ := hcut
    have hRG := htwo.hR
    go_upto_if 17 with fail
    go_cut [] (fun wx => ∃ (t : Sys) (B : Option Addr) (m d N : Nat), Two w wx R w2.heap.size (w2.heap.size + 1) N s A n c t B m d ∧ (m ≤ 40000 ∧ m ≤ d) ∧ N ≤ M + 1000000)
    case first =>
      cases q
      · go_wp2_with fail
        go_meet
        exact ⟨t, B, m, d, _, htwo, by omega, by omega⟩
      · have Hv := hq rfl
        have cG := htwo.va.cell
        clear hq
        go_wp2_with fail
        refine (spec_l15Split (L := n) htwo.rd (by omega) htwo.ia (valid_good Hv.out) (Nat.le_refl _) hn.2 (by omega)).mono ?_
        rintro e w5 ⟨t5, B5, m5, d5, rfl, ht5, hg5, hm5, hr5, hd5⟩
        replace htwo := htwo.drawn hd5 hr5
        have Hg5 := hide hg5
        clear hg5 cG
        have cH := htwo.vb.cell
        have fH := htwo.vb.frozen
        have fin := htwo.setB (d' := d5) ht5
        have cH2 := fin.vb.cell
        by_cases hst : t5.st < 16
        · go_wp2_with fail
          generalize ((w5.setCell ⟨w2.heap.size + 1, 0, none⟩ (.int .i64 t5.al)).setCell ⟨w2.heap.size + 1, 1, none⟩ (.int .i64 t5.st)).setCell ⟨w2.heap.size + 1, 2, none⟩ (.slice B5 m5 d5) = w6 at *
          clear cH fH htwo cH2
          refine (l19Rd_pick (n := 3) fin.rd (by omega)).mono ?_
          rintro e w7 ⟨y, rfl, -, -, hr7, hd7⟩
          replace fin := fin.drawn hd7 hr7
          by_cases hy : y = 0
          · subst hy
            have cH := fin.vb.cell
            go_wp2_with fail
            refine (spec_l6Change (L := m5) fin.rd (by omega) fin.ib Hg5.out (Nat.le_refl _) (by omega)).mono ?_
            rintro e w8 ⟨t8, B8, m8, d8, rfl, ht8, -, hm8, hr8, hd8⟩
            replace fin := fin.drawn hd8 hr8
            clear cH
            have cH := fin.vb.cell
            have fH := fin.vb.frozen
            have fin2 := fin.setB (d' := d8) ht8
            go_wp2_with fail
            go_meet
            exact ⟨t8, B8, m8, d8, _, fin2, by omega, by omega⟩
          · have hy' : ((y : Int) == 0) = false := by simp; omega
            clear hy
            go_wp2_with fail
            go_meet
            exact ⟨t5, B5, m5, d5, _, fin, by omega, by omega⟩
        · go_wp2_with fail
          go_meet
          exact ⟨t5, B5, m5, d5, _, fin, by omega, by omega⟩
    case rest =>
      clear htwo hm hN hq
      obtain ⟨t, B, m, d, N, htwo, hm, hN⟩ := hcut
      obtain ⟨wE, hwE⟩ : ∃ wE, wE = wc := ⟨_, rfl⟩
      subst hwE
      have hHH := htwo.hH
      have hS0 : Frm (fun k => k = w.heap.size) wE wE.drew := ⟨rfl, rfl, rfl, Nat.le_refl _, fun _ _ _ => rfl⟩
      have hfin := hide (((htwo.more hN).fin (L := 40000) (by omega) hm).drew)
      have cG : ∀ W, Frm (fun k => k = w.heap.size) wE W → ∀ q, W.cell? ⟨w2.heap.size, q, none⟩ = #[Value.int .i64 s.al, .int .i64 s.st, .slice A n c][q]? := fun W hW => (htwo.va.frm hW (by omega)).cell
      have cH : ∀ W, Frm (fun k => k = w.heap.size) wE W → ∀ q, W.cell? ⟨w2.heap.size + 1, q, none⟩ = #[Value.int .i64 t.al, .int .i64 t.st, .slice B m d][q]? := fun W hW => (htwo.vb.frm hW (by omega)).cell
      have cz1 := htwo.z1.cell
      have fz1 := htwo.z1.frozen
      have cz2 := htwo.z2.cell
      have fz2 := htwo.z2.frozen
      go_wp2_with fail
      refine wp_region_tail (fun X => Frm (fun k => k = w.heap.size) wE X) [3] (Ord.of [0, 1, 2, 3]) (by kernel_rfl) rfl (by kernel_rfl) (by kernel_rfl) (by kernel_rfl) (fun _ _ _ _ _ h => h) (by first | assumption | exact (Ext.refl _).drew | exact (Dr.refl _ _).drew | (refine Ext.drew ?_; assumption)) ?_
      repeat (first | (refine tseq_skip rfl rfl (by assumption) ?_; simp only [Act.put, List.setIfInBounds_toArray, List.set_cons_zero, List.set_cons_succ]) | (refine tseq_pure (v := ?_) rfl rfl rfl rfl (fun X => ?_) ?_; rotate_left; (focus (go_simp <;> with_reducible rfl)); simp only [Act.put, List.setIfInBounds_toArray, List.set_cons_zero, List.set_cons_succ]) | (refine tseq_read (v := ?_) rfl rfl rfl rfl (fun X hX => ?_) ?_; rotate_left; (focus (go_simp <;> with_reducible rfl)); simp only [Act.put, List.setIfInBounds_toArray, List.set_cons_zero, List.set_cons_succ]))
      (refine tseq_step rfl rfl rfl (fun K hK => ?_); go_simp)
      refine hK.out _ _ (hS0.trans (frm_fill _ _ _ _ _)) ?_
      (try simp only [Act.put, List.setIfInBounds_toArray, List.set_cons_zero, List.set_cons_succ])
      (refine tseq_last rfl rfl rfl rfl (fun K hK => ?_))
      go_simp
      refine hK.out _ _ ?_
      refine tseq_nil ?_
      go_wp2_with fail
      exact bodyPost_ret (v := .tuple #[.agg #[.int .i64 s.al, .int .i64 s.st, .slice A n c], .agg #[.int .i64 t.al, .int .i64 t.st, .slice B m d]]) (by simp [results, Tryd.results23, go_sem, cz1, cz2]) rfl hfin.out

/-- Two systems that were drawn, in new memory. -/
def RetD2 (w : World) (e : Ending) (w' : World) : Prop :=
  ∃ (s : Sys) (A : Option Addr) (n c : Nat) (t : Sys) (B : Option Addr) (m d : Nat), e = .returned (.tuple #[.agg #[.int .i64 s.al, .int .i64 s.st, .slice A n c], .agg #[.int .i64 t.al, .int .i64 t.st, .slice B m d]]) ∧
    SysAt w' w.heap.size w'.heap.size A n s ∧ SysAt w' w.heap.size w'.heap.size B m t ∧ (n ≤ 40000 ∧ n ≤ c) ∧ (m ≤ 40000 ∧ m ≤ d) ∧ Ext w w'
/-- A system that was drawn, in new memory. -/
def RetD1 (w : World) (e : Ending) (w' : World) : Prop :=
  ∃ (s : Sys) (A : Option Addr) (n c : Nat), e = .returned (.agg #[.int .i64 s.al, .int .i64 s.st, .slice A n c]) ∧ SysAt w' w.heap.size w'.heap.size A n s ∧ (n ≤ 40000 ∧ n ≤ c) ∧ Ext w w'
theorem Dr.new {R : Nat} {w w1 w2 : World} (h : Ext w w1) (hR : w.heap.size ≤ R) (hd : Dr R w1 w2) : Ext w w2 :=
  h.frm hd (fun k hk he => by omega)
theorem SysIn.new {R n : Nat} {w W : World} {A : Option Addr} {s : Sys} (h : SysIn W R A n s) (hR : w.heap.size ≤ R) : SysAt W w.heap.size W.heap.size A n s :=
  h.at_.more (by omega) (Nat.le_refl _)
theorem draw_one {R n c L : Nat} {w W : World} {A : Option Addr} {s : Sys} (hs : SysIn W R A n s) (hn : n ≤ L ∧ n ≤ c) (hL : L ≤ 40000) (hR : w.heap.size ≤ R) (hx : Ext w W) (hz : Blk W w.heap.size 25 #[.int .i64 0, .int .i64 0, .slice none 0 0]) :
    RetD1 w (.returned (.agg #[.int .i64 s.al, .int .i64 s.st, .slice A n c])) (((W.setCell ⟨w.heap.size, 0, none⟩ (.int .i64 s.al)).setCell ⟨w.heap.size, 1, none⟩ (.int .i64 s.st)).setCell ⟨w.heap.size, 2, none⟩ (.slice A n c)) := by
  have hf := frm_fill W w.heap.size (.int .i64 s.al) (.int .i64 s.st) (.slice A n c)
  exact ⟨s, A, n, c, rfl, (hs.far hz (by decide) hf).new hR, by omega, ((hx.setCell (p := ⟨w.heap.size, 0, none⟩) (Nat.le_refl _) _).setCell (p := ⟨w.heap.size, 1, none⟩) (Nat.le_refl _) _).setCell (p := ⟨w.heap.size, 2, none⟩) (Nat.le_refl _) _⟩
theorem draw_two {R n c m d : Nat} {w W : World} {A B : Option Addr} {s t : Sys} (hs : SysIn W R A n s) (ht : SysIn W R B m t) (hn : n ≤ 40000 ∧ n ≤ c) (hm : m ≤ 40000 ∧ m ≤ d) (hR : w.heap.size ≤ R) (hx : Ext w W)
    (hz : Blk W w.heap.size 25 #[.int .i64 0, .int .i64 0, .slice none 0 0]) (hz2 : Blk W (w.heap.size + 1) 25 #[.int .i64 0, .int .i64 0, .slice none 0 0]) :
    RetD2 w (.returned (.tuple #[.agg #[.int .i64 s.al, .int .i64 s.st, .slice A n c], .agg #[.int .i64 t.al, .int .i64 t.st, .slice B m d]])) ((((((W.setCell ⟨w.heap.size, 0, none⟩ (.int .i64 s.al)).setCell ⟨w.heap.size, 1, none⟩ (.int .i64 s.st)).setCell ⟨w.heap.size, 2, none⟩ (.slice A n c)).setCell ⟨w.heap.size + 1, 0, none⟩ (.int .i64 t.al)).setCell ⟨w.heap.size + 1, 1, none⟩ (.int .i64 t.st)).setCell ⟨w.heap.size + 1, 2, none⟩ (.slice B m d)) := by
  have hf := frm_fill W w.heap.size (.int .i64 s.al) (.int .i64 s.st) (.slice A n c)
  have a1 := hs.far hz (by decide) hf
  have a2 := ht.far hz (by decide) hf
  have a3 := hz2.frm hf (by omega)
  have hx2 := ((hx.setCell (p := ⟨w.heap.size, 0, none⟩) (Nat.le_refl _) (.int .i64 s.al)).setCell (p := ⟨w.heap.size, 1, none⟩) (Nat.le_refl _) (.int .i64 s.st)).setCell (p := ⟨w.heap.size, 2, none⟩) (Nat.le_refl _) (.slice A n c)
  generalize ((W.setCell ⟨w.heap.size, 0, none⟩ (.int .i64 s.al)).setCell ⟨w.heap.size, 1, none⟩ (.int .i64 s.st)).setCell ⟨w.heap.size, 2, none⟩ (.slice A n c) = W1 at *
  have hf := frm_fill W1 (w.heap.size + 1) (.int .i64 t.al) (.int .i64 t.st) (.slice B m d)
  exact ⟨s, A, n, c, t, B, m, d, rfl, (a1.far a3 (by decide) hf).new hR, (a2.far a3 (by decide) hf).new hR, hn, hm,
    ((hx2.setCell (p := ⟨w.heap.size + 1, 0, none⟩) (Nat.le_succ _) _).setCell (p := ⟨w.heap.size + 1, 1, none⟩) (Nat.le_succ _) _).setCell (p := ⟨w.heap.size + 1, 2, none⟩) (Nat.le_succ _) _⟩
theorem spec_DrawSimulates {A : Option Addr} {n c : Nat} {w : World} (h : Bytes w A n) (hn : n ≤ 9223372036854775807) (hc : n ≤ c) (hc2 : c ≤ 9223372036854775807) :
    Calls Tryd.prog 9 #[.slice A n c] w (RetD2 w) := by
  have hx0 : Ext w ((w.alloc (.cells #[.int .i64 0, .int .i64 0, .slice none 0 0] 25)).alloc (.cells #[.int .i64 0, .int .i64 0, .slice none 0 0] 25)) := ((Ext.refl _).alloc _).alloc _
  obtain ⟨bz, by_⟩ := ext_blk2 (Ext.refl ((w.alloc (.cells #[.int .i64 0, .int .i64 0, .slice none 0 0] 25)).alloc (.cells #[.int .i64 0, .int .i64 0, .slice none 0 0] 25)))
  have hh := hide (h.ext hx0)
  have hz0 := by_.lt
  clear h
  go_enter Tryd.func9, Tryd.ntmps9
  go_wp2_with fail
  refine (spec_l19Open hh.out hn hc hc2).mono ?_
  rintro e w1 ⟨R, rfl, hR, hr1, hx1⟩
  have hx01 := hx0.trans hx1
  have bz1 := bz.ext hx1
  have by1 := by_.ext hx1
  go_wp2_with fail
  refine (spec_l15Pair hr1 (by omega)).mono ?_
  rintro e w2 ⟨s, C, k, q, t, B, m, d, rfl, hs, ht, hk, hm, hr2, hd2⟩
  have bz2 := bz1.dr hd2 (by omega)
  have by2 := by1.dr hd2 (by omega)
  have cz := bz2.cell
  have fz := bz2.frozen
  have cy := by2.cell
  have fy := by2.frozen
  have hfin := hide (draw_two (c := q) (d := d) hs ht hk hm (by omega) (Dr.new hx01 (by omega) hd2) bz2 by2)
  clear bz by_ bz1 by1 hx0 hx1
  go_wp2_with fail
  exact bodyPost_ret (v := .tuple #[.agg #[.int .i64 s.al, .int .i64 s.st, .slice C k q], .agg #[.int .i64 t.al, .int .i64 t.st, .slice B m d]]) (by simp [results, Tryd.results9, go_sem, cz, cy]) rfl hfin.out
theorem spec_DrawBisimilar {A : Option Addr} {n c : Nat} {w : World} (h : Bytes w A n) (hn : n ≤ 9223372036854775807) (hc : n ≤ c) (hc2 : c ≤ 9223372036854775807) :
    Calls Tryd.prog 14 #[.slice A n c] w (RetD2 w) := by
  have hx0 : Ext w ((w.alloc (.cells #[.int .i64 0, .int .i64 0, .slice none 0 0] 25)).alloc (.cells #[.int .i64 0, .int .i64 0, .slice none 0 0] 25)) := ((Ext.refl _).alloc _).alloc _
  obtain ⟨bz, by_⟩ := ext_blk2 (Ext.refl ((w.alloc (.cells #[.int .i64 0, .int .i64 0, .slice none 0 0] 25)).alloc (.cells #[.int .i64 0, .int .i64 0, .slice none 0 0] 25)))
  have hh := hide (h.ext hx0)
  have hz0 := by_.lt
  clear h
  go_enter Tryd.func14, Tryd.ntmps14
  go_wp2_with fail
  refine (spec_l19Open hh.out hn hc hc2).mono ?_
  rintro e w1 ⟨R, rfl, hR, hr1, hx1⟩
  have hx01 := hx0.trans hx1
  have bz1 := bz.ext hx1
  have by1 := by_.ext hx1
  go_wp2_with fail
  refine (spec_l15Pair hr1 (by omega)).mono ?_
  rintro e w2 ⟨s, C, k, q, t, B, m, d, rfl, hs, ht, hk, hm, hr2, hd2⟩
  have bz2 := bz1.dr hd2 (by omega)
  have by2 := by1.dr hd2 (by omega)
  have cz := bz2.cell
  have fz := bz2.frozen
  have cy := by2.cell
  have fy := by2.frozen
  have hfin := hide (draw_two (c := q) (d := d) hs ht hk hm (by omega) (Dr.new hx01 (by omega) hd2) bz2 by2)
  clear bz by_ bz1 by1 hx0 hx1
  go_wp2_with fail
  exact bodyPost_ret (v := .tuple #[.agg #[.int .i64 s.al, .int .i64 s.st, .slice C k q], .agg #[.int .i64 t.al, .int .i64 t.st, .slice B m d]]) (by simp [results, Tryd.results14, go_sem, cz, cy]) rfl hfin.out
end Go.Proofs.YtbifoikcmjmdeaaDoor

namespace Go.Proofs.YtbifoikcmjmdeaaDoor
open Go Go.RowKit
set_option maxHeartbeats 1000000

theorem agHas_any (s n : Nat) (hs : Sm s) (w : World) (hn : n < 9223372036854775808) :
    Calls Tryd.prog 19 #[.int .i64 s, .int .i64 n] w fun e w' => e = .returned (.bool (s.testBit n)) ∧ w = w' := by
  have hu : IntKind.u64.wrap (n : Int) = n := by rw [IntKind.wrap_u64]; omega
  have hb := shr_and_one hs n
  have Hb := hide hb
  clear hb
  go_enter Tryd.func19, Tryd.ntmps19
  go_wp2
  go_ret
  exact ⟨by simp [Hb.out], rfl⟩

theorem Reads.nat2 {w : World} {lo hi n k : Nat} {A : Option Addr} {l : List Nat} {x : Nat} (h : Reads w lo hi 1 A n (nats l)) (hx : l[k]? = some x) : ∃ ad, A = some ad ∧ lo ≤ ad.block ∧ ad.block < hi ∧ w.cell? (ad.add k) = some (.int .i64 (x : Nat)) := by
  have hl := h.length
  rw [nats_length] at hl
  have hk : k < l.length := (List.getElem?_eq_some_iff.1 hx).1
  obtain ⟨ad, y, e, h1, h2, hy, hc⟩ := h.nat (k := k) (by omega)
  have := hy.out
  rw [hx] at this
  obtain rfl := Option.some.inj this
  exact ⟨ad, e, h1, h2, hc⟩
theorem agComparable_any {lo hi lo' hi' : Nat} {A : Option Addr} {n c : Nat} {B : Option Addr} {m d : Nat} {s t : Sys} {w : World} (h : SysAt w lo hi A n s) (h' : SysAt w lo' hi' B m t) :
    Calls Tryd.prog 12 #[.agg #[.int .i64 s.al, .int .i64 s.st, .slice A n c], .agg #[.int .i64 t.al, .int .i64 t.st, .slice B m d]] w fun e w' => e = .returned (.bool (sameB s t)) ∧ Ext w w' := by
  have HS := hide (fun W (hW : Ext w W) => h.ext hW)
  have HT := hide (fun W (hW : Ext w W) => h'.ext hW)
  clear h h'
  cases h1 : sysValid s
  · have H1 := hide h1
    clear h1
    go_enter Tryd.func12, Tryd.ntmps12
    go_wp2_with (go_at_call 31; refine (impl_SystemValid (HS.out _ (((Ext.refl _).alloc _).alloc _))).mono ?_; rw [H1.out]; rintro e w1 ⟨rfl, hx⟩)
    go_ret
    exact ⟨ret_bool (by unfold sameB; rw [H1.out]; rfl), (((Ext.refl _).alloc _).alloc _).trans hx⟩
  · have H1 := hide h1
    clear h1
    cases h2 : sysValid t
    · have H2 := hide h2
      clear h2
      go_enter Tryd.func12, Tryd.ntmps12
      go_wp2_with fail
      refine (impl_SystemValid (HS.out _ (((Ext.refl _).alloc _).alloc _))).mono ?_
      rw [H1.out]
      rintro e w1 ⟨rfl, hx⟩
      obtain ⟨b1, b2⟩ := ext_blk2 hx
      have c1 := b1.cell
      have c2 := b2.cell
      go_wp2_with fail
      refine (impl_SystemValid (HT.out _ ((((Ext.refl _).alloc _).alloc _).trans hx))).mono ?_
      rw [H2.out]
      rintro e w2 ⟨rfl, hx2⟩
      go_wp2_with fail
      go_ret
      exact ⟨ret_bool (by unfold sameB; rw [H1.out, H2.out]; rfl), ((((Ext.refl _).alloc _).alloc _).trans hx).trans hx2⟩
    · have H2 := hide h2
      clear h2
      cases h3 : s.al == t.al
      all_goals
        have H3 := hide h3
        go_enter Tryd.func12, Tryd.ntmps12
        go_wp2_with fail
        refine (impl_SystemValid (HS.out _ (((Ext.refl _).alloc _).alloc _))).mono ?_
        rw [H1.out]
        rintro e w1 ⟨rfl, hx⟩
        obtain ⟨b1, b2⟩ := ext_blk2 hx
        have c1 := b1.cell
        have c2 := b2.cell
        go_wp2_with fail
        refine (impl_SystemValid (HT.out _ ((((Ext.refl _).alloc _).alloc _).trans hx))).mono ?_
        rw [H2.out]
        rintro e w2 ⟨rfl, hx2⟩
        have d1 := (b1.ext hx2).cell
        have d2 := (b2.ext hx2).cell
        go_wp2_with fail
        go_ret
        exact ⟨ret_bool (by unfold sameB; rw [H1.out, H2.out, H3.out]; first | rfl | simp_all), ((((Ext.refl _).alloc _).alloc _).trans hx).trans hx2⟩

end Go.Proofs.YtbifoikcmjmdeaaDoor

namespace Go.Proofs.YtbifoikcmjmdeaaDoor
open Go Go.RowKit
set_option maxHeartbeats 1000000

end Go.Proofs.YtbifoikcmjmdeaaDoor
