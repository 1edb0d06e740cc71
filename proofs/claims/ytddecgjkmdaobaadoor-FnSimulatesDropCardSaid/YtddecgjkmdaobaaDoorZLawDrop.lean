/- The law FnSimulatesDrop, walked: it answers true, and leaves all old memory as it was. -/
import Derived.Test.YtddecgjkmdaobaaDoorZLawSelf
import Derived.Deep.DeepCutAuto
namespace Go.Proofs.YtddecgjkmdaobaaDoor
open Go Go.RowKit
set_option maxHeartbeats 2000000

/-- A system without its first edge. -/
def tailS (s : Sys) : Sys := ⟨s.al, s.st, s.edges.drop 1⟩
theorem valid_tail {s : Sys} (h : sysValid s = true) : sysValid (tailS s) = true := by
  obtain ⟨al, st, es⟩ := s
  cases es with
  | nil => exact h
  | cons e r =>
    simp only [sysValid, tailS, Bool.and_eq_true, decide_eq_true_eq, List.all_eq_true, List.mem_range, List.drop_succ_cons, List.drop_zero, List.length_cons] at h ⊢
    refine ⟨h.1, h.2.1, fun k hk => ?_⟩
    have h1 := h.2.2 (k + 1) (by omega)
    unfold edgeOK at h1 ⊢
    simp only [List.getElem?_cons_succ] at h1
    cases hx : r[k]? with
    | none => rw [hx] at h1; exact h1
    | some x =>
      rw [hx] at h1
      simp only [Bool.and_eq_true] at h1 ⊢
      refine ⟨h1.1, ?_⟩
      cases k with
      | zero => simp
      | succ k =>
        have h2 := h1.2
        simp only [Nat.add_sub_cancel, List.getElem?_cons_succ] at h2 ⊢
        simpa using h2
theorem sim_rel {s t : Sys} {p q : Nat} (hp : s.st = p) (hq : t.st = q) : Gfp false s.edges t.edges p q (gfp false s t) := by
  have := gfp_spec false s t
  rw [hp, hq] at this
  exact this
theorem simB_rel {s t : Sys} (h : sameB s t = true) : simB false s t = true ↔ rel (gfp false s t) 0 0 := by
  unfold simB
  rw [h, Bool.true_and]
  exact ⟨fun x => rel_getD x, fun x => x.2⟩
theorem tail_same {s t : Sys} (h : sameB s t = true) : sameB (tailS s) t = true := by
  obtain ⟨h1, h2, h3⟩ := same_valid h
  simp only [sameB, Bool.and_eq_true, beq_iff_eq]
  exact ⟨valid_tail h1, h2, h3⟩
theorem tail_self {s : Sys} (h : sysValid s = true) : simB false (tailS s) s = true := by
  have hs := tail_same (sameB_self h)
  obtain ⟨p, hp, hp1, hp2, hf⟩ := valid_few h
  rw [simB_rel hs]
  refine (sim_rel (show (tailS s).st = p from hp) hp).fewer (fun e he => hf e (List.mem_of_mem_drop he)) (fun e he => List.mem_of_mem_drop he) (by omega)
theorem tail_sim {s t : Sys} (h : simB false s t = true) : simB false (tailS s) t = true := by
  have hs : sameB s t = true := by unfold simB at h; cases hh : sameB s t <;> simp_all
  obtain ⟨h1, h2, h3⟩ := same_valid hs
  obtain ⟨p, hp, hp1, hp2, hf⟩ := valid_few h1
  obtain ⟨q, hq, hq1, hq2, hg⟩ := valid_few h2
  have ht := tail_same hs
  have hts := tail_same (sameB_self h1)
  rw [simB_rel ht]
  exact (sim_rel (show (tailS s).st = p from hp) hp).trans (sim_rel hp hq) (sim_rel (show (tailS s).st = p from hp) hq) ((simB_rel hts).1 (tail_self h1)) ((simB_rel hs).1 h)

theorem SysAt.tail {w : World} {lo hi n : Nat} {ad : Addr} {s : Sys} (h : SysAt w lo hi (some ad) (n + 1) s) : Reads w lo hi 3 (some (ad.add 3)) n (edgeCells (s.edges.drop 1)) := by
  obtain ⟨hn, hr⟩ := h
  obtain ⟨ad', e, hl, hh, hc⟩ := hr.at_ (k := 0) (by omega)
  obtain rfl : ad = ad' := by injection e
  have hl1 := hr.length
  rw [edgeCells_length] at hl1
  refine ⟨by rw [edgeCells_length, List.length_drop]; omega, by have := hr.len; omega, fun _ => ⟨_, rfl, by rw [addr_block]; exact hl, by rw [addr_block]; exact hh, fun j u hu => ?_⟩⟩
  rw [addr_add]
  refine hc _ _ ?_
  cases hes : s.edges with
  | nil => rw [hes] at hn; simp at hn
  | cons x r =>
    rw [hes] at hu
    simp only [List.drop_succ_cons, List.drop_zero] at hu
    rw [show 3 + j = j + 1 + 1 + 1 by omega]
    simp only [edgeCells, List.getElem?_cons_succ]
    exact hu
theorem own_off {W : World} {base n c G : Nat} {A : Option Addr} {es : List Edg} {cs : Array Value} (hown : W.ownsRow base 40 3 (.slice A n c) n (edgeCells es)) (hB : Blk W G 25 cs) : ∀ b, (Value.slice A n c).ownBlock = some b → b ≠ G := by
  rintro b hv rfl
  rcases hown.2 with ⟨h0, _⟩ | ⟨g, cap, cur, h0, _, hh, _⟩
  · rw [h0] at hv; simp [Value.ownBlock] at hv
  · rw [h0] at hv
    have hg : g = b := by simpa [Value.ownBlock] using hv
    subst hg
    unfold Blk at hB
    rw [hh] at hB
    injection hB with hB
    injection hB with _ ht
    exact absurd ht (by decide)
/-- A new variable that holds a new system. -/
def NewSys (w W : World) (G : Nat) (s : Sys) : Prop := ∃ (A : Option Addr) (n c : Nat), Ext w W ∧ Blk W G 25 #[.int .i64 s.al, .int .i64 s.st, .slice A n c] ∧ SysAt W w.heap.size W.heap.size A n s
theorem new_alloc {w W : World} {n c : Nat} {A : Option Addr} {s : Sys} (hx : Ext w W) (hn : n = s.edges.length) (hown : W.ownsRow w.heap.size 40 3 (.slice A n c) n (edgeCells s.edges)) : NewSys w (W.alloc (.cells #[.int .i64 s.al, .int .i64 s.st, .slice A n c] 25)) W.heap.size s :=
  ⟨A, n, c, hx.alloc _, Blk.new _ _ _, hn, Reads.of_own (own_ext hown ((Ext.refl _).alloc _))⟩
theorem new_fill {w W : World} {n c G : Nat} {A : Option Addr} {s : Sys} (hx : Ext w W) (hn : n = s.edges.length) (hown : W.ownsRow w.heap.size 40 3 (.slice A n c) n (edgeCells s.edges)) (hB : Blk W G 25 #[.int .i64 0, .int .i64 0, .slice none 0 0]) (hG : w.heap.size ≤ G) :
    NewSys w (((W.setCell ⟨G, 0, none⟩ (.int .i64 s.al)).setCell ⟨G, 1, none⟩ (.int .i64 s.st)).setCell ⟨G, 2, none⟩ (.slice A n c)) G s := by
  have hf := frm_fill W G (.int .i64 s.al) (.int .i64 s.st) (.slice A n c)
  exact ⟨A, n, c, ((hx.setCell (p := ⟨G, 0, none⟩) hG _).setCell (p := ⟨G, 1, none⟩) hG _).setCell (p := ⟨G, 2, none⟩) hG _, blk_fill hB rfl _ _ _, hn, Reads.of_own (own_frm hown hf (fun b hv hS => own_off hown hB b hv hS))⟩
set_option maxRecDepth 100000 in
theorem law_SimDrop {A : Option Addr} {n c : Nat} {w : World} (h : Bytes w A n) (hn : n ≤ 9223372036854775807) (hc : n ≤ c) (hc2 : c ≤ 9223372036854775807) (hT : Tab w) :
    Calls Tryd.prog 5 #[.slice A n c] w fun e w' => e = .returned (.bool true) ∧ Ext w w' := by
  have Hh := hide h
  have HTab := hide (fun W (hW : Ext w W) => hT.ext hW)
  clear h hT
  by_cases hbig : 1048576 < n
  · have hbig' : (1048576 : Int) < (n : Int) := by omega
    go_enter Tryd.func5, Tryd.ntmps5
    go_wp2
    go_ret
    exact ⟨rfl, Ext.refl _⟩
  have hbig' : (n : Int) ≤ 1048576 := by omega
  clear hbig
  go_enter Tryd.func5, Tryd.ntmps5
  go_wp2_with fail
  refine (spec_DrawSimulates Hh.out hn hc hc2).mono ?_
  rintro e w1 ⟨s, B1, n1, c1, t, B2, n2, c2, rfl, hs1, ht1, hn1, hn2, hx1⟩
  have hx2 : Ext w1 ((w1.alloc (.cells #[.int .i64 s.al, .int .i64 s.st, .slice B1 n1 c1] 25)).alloc (.cells #[.int .i64 t.al, .int .i64 t.st, .slice B2 n2 c2] 25)) := ((Ext.refl _).alloc _).alloc _
  obtain ⟨b1, b2⟩ := ext_blk2 (Ext.refl ((w1.alloc (.cells #[.int .i64 s.al, .int .i64 s.st, .slice B1 n1 c1] 25)).alloc (.cells #[.int .i64 t.al, .int .i64 t.st, .slice B2 n2 c2] 25)))
  have hw2 := hx1.trans hx2
  have HS := hide (fun W (hW : Ext w1 W) => hs1.ext hW)
  have HT := hide (fun W (hW : Ext w1 W) => ht1.ext hW)
  have k1 := b1.cell
  have k2 := b2.cell
  clear hs1 ht1 Hh
  go_wp2_with fail
  generalize (w1.alloc (.cells #[.int .i64 s.al, .int .i64 s.st, .slice B1 n1 c1] 25)).alloc (.cells #[.int .i64 t.al, .int .i64 t.st, .slice B2 n2 c2] 25) = w2 at *
  refine (impl_Simulates (HS.out _ hx2) (HT.out _ hx2) (HTab.out _ hw2)).mono ?_
  obtain ⟨b, hb⟩ : ∃ b, Hid (simB false s t = b) := ⟨_, rfl⟩
  rw [hb.out]
  rintro e w3 ⟨rfl, hx3⟩
  clear k1 k2
  have k1 := (b1.ext hx3).cell
  have k2 := (b2.ext hx3).cell
  go_wp2_with fail
  refine (spec_Simulates (HS.out _ (hx2.trans hx3)) (HT.out _ (hx2.trans hx3))).mono ?_
  rw [hb.out]
  rintro e w4 ⟨rfl, hx4⟩
  have hx24 := hx3.trans hx4
  have hbb : (b != b) = false := by cases b <;> rfl
  have hbe : (b == b) = true := by cases b <;> rfl
  clear k1 k2
  have k1 := (b1.ext hx24).cell
  have HE := hide (fun w5 (hx5 : Ext w2 w5) => (show Calls Tryd.prog 19 #[.agg #[.int .i64 s.al, .int .i64 s.st, .slice B1 n1 c1], .agg #[.int .i64 t.al, .int .i64 t.st, .slice B2 n2 c2]] w5 (fun e w' => e = .returned (.bool b) ∧ Ext w5 w') by rw [← hb.out]; exact spec_Simulates (HS.out _ (hx2.trans hx5)) (HT.out _ (hx2.trans hx5))))
  cases hv : sysValid s
  · have Hv := hide hv
    clear hv
    go_wp2_with fail
    refine (impl_SystemValid (HS.out _ (hx2.trans hx24))).mono ?_
    rw [Hv.out]
    rintro e w6 ⟨rfl, hx6⟩
    have hx26 := hx24.trans hx6
    clear k1
    have k1 := (b1.ext hx26).cell
    have k2 := (b2.ext hx26).cell
    go_wp2_with fail
    refine (HE.out _ hx26).mono ?_
    rintro e w7 ⟨rfl, hx7⟩
    go_wp2_with fail
    go_ret
    exact ⟨by first | rfl | simp [hbe], (hw2.trans hx26).trans hx7⟩
  · have Hv := hide hv
    clear hv
    by_cases hn0 : n1 = 0
    · subst hn0
      go_wp2_with fail
      refine (impl_SystemValid (HS.out _ (hx2.trans hx24))).mono ?_
      rw [Hv.out]
      rintro e w6 ⟨rfl, hx6⟩
      have hx26 := hx24.trans hx6
      clear k1
      have k1 := (b1.ext hx26).cell
      have k2 := (b2.ext hx26).cell
      go_wp2_with fail
      refine (HE.out _ hx26).mono ?_
      rintro e w7 ⟨rfl, hx7⟩
      go_wp2_with fail
      go_ret
      exact ⟨by first | rfl | simp [hbe], (hw2.trans hx26).trans hx7⟩
    · obtain ⟨m, rfl⟩ : ∃ m, n1 = m + 1 := ⟨n1 - 1, by omega⟩
      have hm0 : ((m : Int) + 1 == 0) = false := by simp; omega
      have hm1 : (1 : Int) ≤ (m : Int) + 1 := by omega
      obtain ⟨ad, hadB, _, _, _⟩ := (HS.out w1 (Ext.refl _)).2.at_ (k := 0) (by omega)
      subst hadB
      clear hn0
      go_wp2_with fail
      refine (impl_SystemValid (HS.out _ (hx2.trans hx24))).mono ?_
      rw [Hv.out]
      rintro e w6 ⟨rfl, hx6⟩
      have hx26 := hx24.trans hx6
      clear k1
      have k1 := (b1.ext hx26).cell
      have hw6 := hw2.trans hx26
      have b16 := b1.ext hx26
      have b26 := b2.ext hx26
      have HS6 := hide (HS.out _ (hx2.trans hx26))
      have HT6 := hide (HT.out _ (hx2.trans hx26))
      clear HE hx3 hx4 hx24 hx6 hx26 b1 b2 HS HT hx2
      go_upto_region 7 with fail
      go_cut [6] (fun v wx => ∃ G : Nat, v = .pointer (some ⟨G, 0, none⟩) ∧ NewSys w6 wx G (tailS s))
      case first =>
        have hsn := hide HS6.out.1
        have cG : ∀ W, Ext w6 W → ∀ q, W.cell? ⟨w1.heap.size, q, none⟩ = #[Value.int .i64 s.al, .int .i64 s.st, .slice (some ad) (m + 1) c1][q]? := fun W hW => (b16.ext hW).cell
        have hlen0 := hide (show m = (tailS s).edges.length by have := hsn.out; simp [tailS]; omega)
        clear k1
        by_cases hc1 : c1 = 1
        · obtain rfl : m = 0 := by omega
          have hlen := hlen0.out
          have hnil : s.edges.drop 1 = [] := List.eq_nil_of_length_eq_zero hlen.symm
          have hsl : Reads w6 w.heap.size w1.heap.size 3 (some ad) 0 (edgeCells (s.edges.drop 1)) := by rw [hnil]; exact ⟨rfl, by omega, fun h => absurd h (by omega)⟩
          have Hlen := hide hlen
          clear hnil hlen
          subst hc1
          refine wp_region_tail (fun X => Ext w6 X) [11] (Ord.app [0, 1, 2, 3, 5, 6, 7] (Ord.two 4 (Ord.two 8 (Ord.of [9, 10, 11]) 10 (Ord.of [8, 9, 11])) 10 (Ord.of [4, 8, 9, 11]))) (by kernel_rfl) rfl (by kernel_rfl) (by kernel_rfl) (by kernel_rfl) (fun _ _ _ _ _ h => h) (by first | assumption | exact (Ext.refl _).drew | exact (Dr.refl _ _).drew | (refine Ext.drew ?_; assumption)) ?_
          repeat (first | (refine tseq_skip rfl rfl (by assumption) ?_; simp only [Act.put, List.setIfInBounds_toArray, List.set_cons_zero, List.set_cons_succ]) | (refine tseq_pure (v := ?_) rfl rfl rfl rfl (fun X => ?_) ?_; rotate_left; (focus (go_simp <;> with_reducible rfl)); simp only [Act.put, List.setIfInBounds_toArray, List.set_cons_zero, List.set_cons_succ]) | (refine tseq_read (v := ?_) rfl rfl rfl rfl (fun X hX => ?_) ?_; rotate_left; (focus (go_simp <;> with_reducible rfl)); simp only [Act.put, List.setIfInBounds_toArray, List.set_cons_zero, List.set_cons_succ]))
          refine tseq_both rfl rfl rfl rfl (fun K hK => ?_) (fun K hK => ?_)
          · go_simp
            have hx2 : Ext w6 (w6.alloc (.cells #[] 40)).drew := ((Ext.refl w6).alloc _).drew
            have hown : (w6.alloc (.cells #[] 40)).drew.ownsRow w6.heap.size 40 3 (.slice (some ⟨w6.heap.size, 0, none⟩) 0 0) 0 [] := edge_lit w6
            have hz2 : (w6.alloc (.cells #[] 40)).drew.heap.size = w6.heap.size + 1 := by simp
            refine hK.out _ _ hx2 ?_
            (try simp only [Act.put, List.setIfInBounds_toArray, List.set_cons_zero, List.set_cons_succ])
            generalize (w6.alloc (.cells #[] 40)).drew = w7 at *
            refine tseq_both rfl rfl rfl rfl (fun K hK => ?_) (fun K hK => ?_)
            · refine wp_onto _ _ _ _ rfl w6.heap.size 40 _ 3 24 Tryd.underlying23 info_edge rfl (by decide) (.slice (some ⟨w6.heap.size, 0, none⟩) 0 0) 0 [] rfl hown _ _ _ _ _ (edgeCells (s.edges.drop 1)) rfl (hsl.ext hx2) (edgeCells_one _) (by unfold maxLen; omega) (by omega) hx2.size ?_
              intro v w3 hown3 hg3 hat3
              rw [Nat.zero_add, List.nil_append] at hown3
              obtain ⟨A3, c3, rfl⟩ := own_form hown3
              have hx3 : Ext w6 w3 := hx2.grown hg3 (fun k hk => by simp [Value.ownBlock] at hk; omega)
              refine hK.out _ _ hx3 ?_
              (try simp only [Act.put, List.setIfInBounds_toArray, List.set_cons_zero, List.set_cons_succ])
              repeat (first | (refine tseq_skip rfl rfl (by assumption) ?_; simp only [Act.put, List.setIfInBounds_toArray, List.set_cons_zero, List.set_cons_succ]) | (refine tseq_pure (v := ?_) rfl rfl rfl rfl (fun X => ?_) ?_; rotate_left; (focus (go_simp <;> with_reducible rfl)); simp only [Act.put, List.setIfInBounds_toArray, List.set_cons_zero, List.set_cons_succ]) | (refine tseq_read (v := ?_) rfl rfl rfl rfl (fun X hX => ?_) ?_; rotate_left; (focus (go_simp <;> with_reducible rfl)); simp only [Act.put, List.setIfInBounds_toArray, List.set_cons_zero, List.set_cons_succ]))
              (refine tseq_step rfl rfl rfl (fun K hK => ?_); go_simp)
              refine hK.out _ _ (hx3.alloc _) ?_
              (try simp only [Act.put, List.setIfInBounds_toArray, List.set_cons_zero, List.set_cons_succ])
              repeat (first | (refine tseq_skip rfl rfl (by assumption) ?_; simp only [Act.put, List.setIfInBounds_toArray, List.set_cons_zero, List.set_cons_succ]) | (refine tseq_pure (v := ?_) rfl rfl rfl rfl (fun X => ?_) ?_; rotate_left; (focus (go_simp <;> with_reducible rfl)); simp only [Act.put, List.setIfInBounds_toArray, List.set_cons_zero, List.set_cons_succ]) | (refine tseq_read (v := ?_) rfl rfl rfl rfl (fun X hX => ?_) ?_; rotate_left; (focus (go_simp <;> with_reducible rfl)); simp only [Act.put, List.setIfInBounds_toArray, List.set_cons_zero, List.set_cons_succ]))
              (refine tseq_last rfl rfl rfl rfl (fun K hK => ?_))
              go_simp
              refine hK.out _ _ ?_
              refine tseq_nil ?_
              go_wp2_with fail
              go_meet
              exact ⟨w3.heap.size, rfl, new_alloc (s := tailS s) hx3 Hlen.out hown3⟩
            · go_simp
              have hx2' := hx2.alloc (.cells #[.int .i64 0, .int .i64 0, .slice none 0 0] 25)
              have hx22 := (Ext.refl w7).alloc (.cells #[.int .i64 0, .int .i64 0, .slice none 0 0] 25)
              have hb3 := Blk.new w7 25 #[.int .i64 0, .int .i64 0, .slice none 0 0]
              replace hown := own_ext hown hx22
              refine hK.out _ _ hx2' ?_
              generalize w7.alloc (.cells #[.int .i64 0, .int .i64 0, .slice none 0 0] 25) = w8 at *
              rw [hz2] at hb3
              (try simp only [Act.put, List.setIfInBounds_toArray, List.set_cons_zero, List.set_cons_succ])
              refine tseq_step rfl rfl rfl (fun K hK => ?_)
              refine wp_onto _ _ _ _ rfl w6.heap.size 40 _ 3 24 Tryd.underlying23 info_edge rfl (by decide) (.slice (some ⟨w6.heap.size, 0, none⟩) 0 0) 0 [] rfl hown _ _ _ _ _ (edgeCells (s.edges.drop 1)) rfl (hsl.ext hx2') (edgeCells_one _) (by unfold maxLen; omega) (by omega) hx2'.size ?_
              intro v w3 hown3 hg3 hat3
              rw [Nat.zero_add, List.nil_append] at hown3
              obtain ⟨A3, c3, rfl⟩ := own_form hown3
              have hx3 : Ext w6 w3 := hx2'.grown hg3 (fun k hk => by simp [Value.ownBlock] at hk; omega)
              have hb4 : Blk w3 (w6.heap.size + 1) 25 #[.int .i64 0, .int .i64 0, .slice none 0 0] := hb3.frm (Frm.of_grown hg3) (by simp [Value.ownBlock])
              refine hK.out _ _ hx3 ?_
              (try simp only [Act.put, List.setIfInBounds_toArray, List.set_cons_zero, List.set_cons_succ])
              repeat (first | (refine tseq_skip rfl rfl (by assumption) ?_; simp only [Act.put, List.setIfInBounds_toArray, List.set_cons_zero, List.set_cons_succ]) | (refine tseq_pure (v := ?_) rfl rfl rfl rfl (fun X => ?_) ?_; rotate_left; (focus (go_simp <;> with_reducible rfl)); simp only [Act.put, List.setIfInBounds_toArray, List.set_cons_zero, List.set_cons_succ]) | (refine tseq_read (v := ?_) rfl rfl rfl rfl (fun X hX => ?_) ?_; rotate_left; (focus (go_simp <;> with_reducible rfl)); simp only [Act.put, List.setIfInBounds_toArray, List.set_cons_zero, List.set_cons_succ]))
              have cE := hb4.cell
              have fE := hb4.frozen
              (refine tseq_last rfl rfl rfl rfl (fun K hK => ?_))
              go_simp
              refine hK.out _ _ ?_
              refine tseq_nil ?_
              go_wp2_with fail
              go_meet
              exact ⟨_, rfl, new_fill (s := tailS s) hx3 Hlen.out hown3 hb4 (by omega)⟩
          · go_simp
            have hx2 : Ext w6 (w6.alloc (.cells #[.int .i64 0, .int .i64 0, .slice none 0 0] 25)).drew := ((Ext.refl w6).alloc _).drew
            have hb2 : Blk (w6.alloc (.cells #[.int .i64 0, .int .i64 0, .slice none 0 0] 25)).drew w6.heap.size 25 #[.int .i64 0, .int .i64 0, .slice none 0 0] := Blk.new w6 _ _
            have hz2 : (w6.alloc (.cells #[.int .i64 0, .int .i64 0, .slice none 0 0] 25)).drew.heap.size = w6.heap.size + 1 := by simp
            refine hK.out _ _ hx2 ?_
            (try simp only [Act.put, List.setIfInBounds_toArray, List.set_cons_zero, List.set_cons_succ])
            generalize (w6.alloc (.cells #[.int .i64 0, .int .i64 0, .slice none 0 0] 25)).drew = w7 at *
            (refine tseq_step rfl rfl rfl (fun K hK => ?_); go_simp)
            have hx2' := hx2.alloc (.cells #[] 40)
            have hown : (w7.alloc (.cells #[] 40)).ownsRow w6.heap.size 40 3 (.slice (some ⟨w6.heap.size + 1, 0, none⟩) 0 0) 0 [] := by
              rw [← hz2]
              exact World.ownsRow_lit w7 #[] 0 hx2.size (by unfold maxLen; omega) rfl
            have hb3 := hb2.ext ((Ext.refl w7).alloc (.cells #[] 40))
            refine hK.out _ _ hx2' ?_
            generalize w7.alloc (.cells #[] 40) = w8 at *
            (try simp only [Act.put, List.setIfInBounds_toArray, List.set_cons_zero, List.set_cons_succ])
            refine tseq_step rfl rfl rfl (fun K hK => ?_)
            refine wp_onto _ _ _ _ rfl w6.heap.size 40 _ 3 24 Tryd.underlying23 info_edge rfl (by decide) (.slice (some ⟨w6.heap.size + 1, 0, none⟩) 0 0) 0 [] rfl hown _ _ _ _ _ (edgeCells (s.edges.drop 1)) rfl (hsl.ext hx2') (edgeCells_one _) (by unfold maxLen; omega) (by omega) hx2'.size ?_
            intro v w3 hown3 hg3 hat3
            rw [Nat.zero_add, List.nil_append] at hown3
            obtain ⟨A3, c3, rfl⟩ := own_form hown3
            have hx3 : Ext w6 w3 := hx2'.grown hg3 (fun k hk => by simp [Value.ownBlock] at hk; omega)
            have hb4 : Blk w3 w6.heap.size 25 #[.int .i64 0, .int .i64 0, .slice none 0 0] := hb3.frm (Frm.of_grown hg3) (by simp [Value.ownBlock])
            refine hK.out _ _ hx3 ?_
            (try simp only [Act.put, List.setIfInBounds_toArray, List.set_cons_zero, List.set_cons_succ])
            repeat (first | (refine tseq_skip rfl rfl (by assumption) ?_; simp only [Act.put, List.setIfInBounds_toArray, List.set_cons_zero, List.set_cons_succ]) | (refine tseq_pure (v := ?_) rfl rfl rfl rfl (fun X => ?_) ?_; rotate_left; (focus (go_simp <;> with_reducible rfl)); simp only [Act.put, List.setIfInBounds_toArray, List.set_cons_zero, List.set_cons_succ]) | (refine tseq_read (v := ?_) rfl rfl rfl rfl (fun X hX => ?_) ?_; rotate_left; (focus (go_simp <;> with_reducible rfl)); simp only [Act.put, List.setIfInBounds_toArray, List.set_cons_zero, List.set_cons_succ]))
            have cE := hb4.cell
            have fE := hb4.frozen
            (refine tseq_last rfl rfl rfl rfl (fun K hK => ?_))
            go_simp
            refine hK.out _ _ ?_
            refine tseq_nil ?_
            go_wp2_with fail
            go_meet
            exact ⟨_, rfl, new_fill (s := tailS s) hx3 Hlen.out hown3 hb4 (Nat.le_refl _)⟩
        · have hlen := hlen0
          have hsl : Reads w6 w.heap.size w1.heap.size 3 (some (ad.add 3)) m (edgeCells (s.edges.drop 1)) := HS6.out.tail
          refine wp_region_tail (fun X => Ext w6 X) [11] (Ord.app [0, 1, 2, 3, 5, 6, 7] (Ord.two 4 (Ord.two 8 (Ord.of [9, 10, 11]) 10 (Ord.of [8, 9, 11])) 10 (Ord.of [4, 8, 9, 11]))) (by kernel_rfl) rfl (by kernel_rfl) (by kernel_rfl) (by kernel_rfl) (fun _ _ _ _ _ h => h) (by first | assumption | exact (Ext.refl _).drew | exact (Dr.refl _ _).drew | (refine Ext.drew ?_; assumption)) ?_
          repeat (first | (refine tseq_skip rfl rfl (by assumption) ?_; simp only [Act.put, List.setIfInBounds_toArray, List.set_cons_zero, List.set_cons_succ]) | (refine tseq_pure (v := ?_) rfl rfl rfl rfl (fun X => ?_) ?_; rotate_left; (focus (go_simp <;> with_reducible rfl)); simp only [Act.put, List.setIfInBounds_toArray, List.set_cons_zero, List.set_cons_succ]) | (refine tseq_read (v := ?_) rfl rfl rfl rfl (fun X hX => ?_) ?_; rotate_left; (focus (go_simp <;> with_reducible rfl)); simp only [Act.put, List.setIfInBounds_toArray, List.set_cons_zero, List.set_cons_succ]))
          refine tseq_both rfl rfl rfl rfl (fun K hK => ?_) (fun K hK => ?_)
          · go_simp
            have hx2 : Ext w6 (w6.alloc (.cells #[] 40)).drew := ((Ext.refl w6).alloc _).drew
            have hown : (w6.alloc (.cells #[] 40)).drew.ownsRow w6.heap.size 40 3 (.slice (some ⟨w6.heap.size, 0, none⟩) 0 0) 0 [] := edge_lit w6
            have hz2 : (w6.alloc (.cells #[] 40)).drew.heap.size = w6.heap.size + 1 := by simp
            refine hK.out _ _ hx2 ?_
            (try simp only [Act.put, List.setIfInBounds_toArray, List.set_cons_zero, List.set_cons_succ])
            generalize (w6.alloc (.cells #[] 40)).drew = w7 at *
            refine tseq_both rfl rfl rfl rfl (fun K hK => ?_) (fun K hK => ?_)
            · refine wp_onto _ _ _ _ rfl w6.heap.size 40 _ 3 24 Tryd.underlying23 info_edge rfl (by decide) (.slice (some ⟨w6.heap.size, 0, none⟩) 0 0) 0 [] rfl hown _ _ _ _ _ (edgeCells (s.edges.drop 1)) rfl (hsl.ext hx2) (edgeCells_one _) (by unfold maxLen; omega) (by omega) hx2.size ?_
              intro v w3 hown3 hg3 hat3
              rw [Nat.zero_add, List.nil_append] at hown3
              obtain ⟨A3, c3, rfl⟩ := own_form hown3
              have hx3 : Ext w6 w3 := hx2.grown hg3 (fun k hk => by simp [Value.ownBlock] at hk; omega)
              refine hK.out _ _ hx3 ?_
              (try simp only [Act.put, List.setIfInBounds_toArray, List.set_cons_zero, List.set_cons_succ])
              repeat (first | (refine tseq_skip rfl rfl (by assumption) ?_; simp only [Act.put, List.setIfInBounds_toArray, List.set_cons_zero, List.set_cons_succ]) | (refine tseq_pure (v := ?_) rfl rfl rfl rfl (fun X => ?_) ?_; rotate_left; (focus (go_simp <;> with_reducible rfl)); simp only [Act.put, List.setIfInBounds_toArray, List.set_cons_zero, List.set_cons_succ]) | (refine tseq_read (v := ?_) rfl rfl rfl rfl (fun X hX => ?_) ?_; rotate_left; (focus (go_simp <;> with_reducible rfl)); simp only [Act.put, List.setIfInBounds_toArray, List.set_cons_zero, List.set_cons_succ]))
              (refine tseq_step rfl rfl rfl (fun K hK => ?_); go_simp)
              refine hK.out _ _ (hx3.alloc _) ?_
              (try simp only [Act.put, List.setIfInBounds_toArray, List.set_cons_zero, List.set_cons_succ])
              repeat (first | (refine tseq_skip rfl rfl (by assumption) ?_; simp only [Act.put, List.setIfInBounds_toArray, List.set_cons_zero, List.set_cons_succ]) | (refine tseq_pure (v := ?_) rfl rfl rfl rfl (fun X => ?_) ?_; rotate_left; (focus (go_simp <;> with_reducible rfl)); simp only [Act.put, List.setIfInBounds_toArray, List.set_cons_zero, List.set_cons_succ]) | (refine tseq_read (v := ?_) rfl rfl rfl rfl (fun X hX => ?_) ?_; rotate_left; (focus (go_simp <;> with_reducible rfl)); simp only [Act.put, List.setIfInBounds_toArray, List.set_cons_zero, List.set_cons_succ]))
              (refine tseq_last rfl rfl rfl rfl (fun K hK => ?_))
              go_simp
              refine hK.out _ _ ?_
              refine tseq_nil ?_
              go_wp2_with fail
              go_meet
              exact ⟨w3.heap.size, rfl, new_alloc (s := tailS s) hx3 hlen.out hown3⟩
            · go_simp
              have hx2' := hx2.alloc (.cells #[.int .i64 0, .int .i64 0, .slice none 0 0] 25)
              have hx22 := (Ext.refl w7).alloc (.cells #[.int .i64 0, .int .i64 0, .slice none 0 0] 25)
              have hb3 := Blk.new w7 25 #[.int .i64 0, .int .i64 0, .slice none 0 0]
              replace hown := own_ext hown hx22
              refine hK.out _ _ hx2' ?_
              generalize w7.alloc (.cells #[.int .i64 0, .int .i64 0, .slice none 0 0] 25) = w8 at *
              rw [hz2] at hb3
              (try simp only [Act.put, List.setIfInBounds_toArray, List.set_cons_zero, List.set_cons_succ])
              refine tseq_step rfl rfl rfl (fun K hK => ?_)
              refine wp_onto _ _ _ _ rfl w6.heap.size 40 _ 3 24 Tryd.underlying23 info_edge rfl (by decide) (.slice (some ⟨w6.heap.size, 0, none⟩) 0 0) 0 [] rfl hown _ _ _ _ _ (edgeCells (s.edges.drop 1)) rfl (hsl.ext hx2') (edgeCells_one _) (by unfold maxLen; omega) (by omega) hx2'.size ?_
              intro v w3 hown3 hg3 hat3
              rw [Nat.zero_add, List.nil_append] at hown3
              obtain ⟨A3, c3, rfl⟩ := own_form hown3
              have hx3 : Ext w6 w3 := hx2'.grown hg3 (fun k hk => by simp [Value.ownBlock] at hk; omega)
              have hb4 : Blk w3 (w6.heap.size + 1) 25 #[.int .i64 0, .int .i64 0, .slice none 0 0] := hb3.frm (Frm.of_grown hg3) (by simp [Value.ownBlock])
              refine hK.out _ _ hx3 ?_
              (try simp only [Act.put, List.setIfInBounds_toArray, List.set_cons_zero, List.set_cons_succ])
              repeat (first | (refine tseq_skip rfl rfl (by assumption) ?_; simp only [Act.put, List.setIfInBounds_toArray, List.set_cons_zero, List.set_cons_succ]) | (refine tseq_pure (v := ?_) rfl rfl rfl rfl (fun X => ?_) ?_; rotate_left; (focus (go_simp <;> with_reducible rfl)); simp only [Act.put, List.setIfInBounds_toArray, List.set_cons_zero, List.set_cons_succ]) | (refine tseq_read (v := ?_) rfl rfl rfl rfl (fun X hX => ?_) ?_; rotate_left; (focus (go_simp <;> with_reducible rfl)); simp only [Act.put, List.setIfInBounds_toArray, List.set_cons_zero, List.set_cons_succ]))
              have cE := hb4.cell
              have fE := hb4.frozen
              (refine tseq_last rfl rfl rfl rfl (fun K hK => ?_))
              go_simp
              refine hK.out _ _ ?_
              refine tseq_nil ?_
              go_wp2_with fail
              go_meet
              exact ⟨_, rfl, new_fill (s := tailS s) hx3 hlen.out hown3 hb4 (by omega)⟩
          · go_simp
            have hx2 : Ext w6 (w6.alloc (.cells #[.int .i64 0, .int .i64 0, .slice none 0 0] 25)).drew := ((Ext.refl w6).alloc _).drew
            have hb2 : Blk (w6.alloc (.cells #[.int .i64 0, .int .i64 0, .slice none 0 0] 25)).drew w6.heap.size 25 #[.int .i64 0, .int .i64 0, .slice none 0 0] := Blk.new w6 _ _
            have hz2 : (w6.alloc (.cells #[.int .i64 0, .int .i64 0, .slice none 0 0] 25)).drew.heap.size = w6.heap.size + 1 := by simp
            refine hK.out _ _ hx2 ?_
            (try simp only [Act.put, List.setIfInBounds_toArray, List.set_cons_zero, List.set_cons_succ])
            generalize (w6.alloc (.cells #[.int .i64 0, .int .i64 0, .slice none 0 0] 25)).drew = w7 at *
            (refine tseq_step rfl rfl rfl (fun K hK => ?_); go_simp)
            have hx2' := hx2.alloc (.cells #[] 40)
            have hown : (w7.alloc (.cells #[] 40)).ownsRow w6.heap.size 40 3 (.slice (some ⟨w6.heap.size + 1, 0, none⟩) 0 0) 0 [] := by
              rw [← hz2]
              exact World.ownsRow_lit w7 #[] 0 hx2.size (by unfold maxLen; omega) rfl
            have hb3 := hb2.ext ((Ext.refl w7).alloc (.cells #[] 40))
            refine hK.out _ _ hx2' ?_
            generalize w7.alloc (.cells #[] 40) = w8 at *
            (try simp only [Act.put, List.setIfInBounds_toArray, List.set_cons_zero, List.set_cons_succ])
            refine tseq_step rfl rfl rfl (fun K hK => ?_)
            refine wp_onto _ _ _ _ rfl w6.heap.size 40 _ 3 24 Tryd.underlying23 info_edge rfl (by decide) (.slice (some ⟨w6.heap.size + 1, 0, none⟩) 0 0) 0 [] rfl hown _ _ _ _ _ (edgeCells (s.edges.drop 1)) rfl (hsl.ext hx2') (edgeCells_one _) (by unfold maxLen; omega) (by omega) hx2'.size ?_
            intro v w3 hown3 hg3 hat3
            rw [Nat.zero_add, List.nil_append] at hown3
            obtain ⟨A3, c3, rfl⟩ := own_form hown3
            have hx3 : Ext w6 w3 := hx2'.grown hg3 (fun k hk => by simp [Value.ownBlock] at hk; omega)
            have hb4 : Blk w3 w6.heap.size 25 #[.int .i64 0, .int .i64 0, .slice none 0 0] := hb3.frm (Frm.of_grown hg3) (by simp [Value.ownBlock])
            refine hK.out _ _ hx3 ?_
            (try simp only [Act.put, List.setIfInBounds_toArray, List.set_cons_zero, List.set_cons_succ])
            repeat (first | (refine tseq_skip rfl rfl (by assumption) ?_; simp only [Act.put, List.setIfInBounds_toArray, List.set_cons_zero, List.set_cons_succ]) | (refine tseq_pure (v := ?_) rfl rfl rfl rfl (fun X => ?_) ?_; rotate_left; (focus (go_simp <;> with_reducible rfl)); simp only [Act.put, List.setIfInBounds_toArray, List.set_cons_zero, List.set_cons_succ]) | (refine tseq_read (v := ?_) rfl rfl rfl rfl (fun X hX => ?_) ?_; rotate_left; (focus (go_simp <;> with_reducible rfl)); simp only [Act.put, List.setIfInBounds_toArray, List.set_cons_zero, List.set_cons_succ]))
            have cE := hb4.cell
            have fE := hb4.frozen
            (refine tseq_last rfl rfl rfl rfl (fun K hK => ?_))
            go_simp
            refine hK.out _ _ ?_
            refine tseq_nil ?_
            go_wp2_with fail
            go_meet
            exact ⟨_, rfl, new_fill (s := tailS s) hx3 hlen.out hown3 hb4 (Nat.le_refl _)⟩
      case rest =>
        obtain ⟨G, rfl, B3, n3, c3, hx7, b3, h3⟩ := hcut
        have b17 := b16.ext hx7
        have b27 := b26.ext hx7
        clear k1
        have k1 := b17.cell
        have k3 := b3.cell
        go_wp2_with fail
        refine (impl_Simulates h3 (HS6.out.ext hx7) (HTab.out _ (hw6.trans hx7))).mono ?_
        rw [tail_self Hv.out]
        rintro e w8 ⟨rfl, hx8⟩
        cases b
        · go_wp2_with fail
          go_ret
          exact ⟨rfl, (hw6.trans hx7).trans hx8⟩
        · clear k1 k3
          have k2 := (b27.ext hx8).cell
          have k3 := (b3.ext hx8).cell
          go_wp2_with fail
          refine (impl_Simulates (h3.ext hx8) (HT6.out.ext (hx7.trans hx8)) (HTab.out _ ((hw6.trans hx7).trans hx8))).mono ?_
          rw [tail_sim hb.out]
          rintro e w9 ⟨rfl, hx9⟩
          go_wp2_with fail
          go_ret
          exact ⟨rfl, ((hw6.trans hx7).trans hx8).trans hx9⟩
end Go.Proofs.YtddecgjkmdaobaaDoor
