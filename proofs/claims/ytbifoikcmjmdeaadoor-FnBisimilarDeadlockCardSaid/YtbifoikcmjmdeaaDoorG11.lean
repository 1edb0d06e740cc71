/- A list of one system as parts: impl.areParts, impl.PartsAlphabet, (impl.parts).size, walked. | impl.newParts of one system, walked. | (impl.parts).next of one system, walked. | impl.DeadlockOf's closures, over one system, walked. | impl.DeadlockOf of one system, walked. -/
import Derived.Test.YtbifoikcmjmdeaaDoorG10
import Derived.Test.YtbifoikcmjmdeaaDoorG05
import Derived.Test.YtbifoikcmjmdeaaDoorG09
import Derived.Test.YtbifoikcmjmdeaaDoorG06
namespace Go.Proofs.YtbifoikcmjmdeaaDoor
open Go Go.RowKit
set_option maxHeartbeats 2000000

/-- A list of one system. -/
def One1 (w : World) (g lo hi : Nat) (A : Option Addr) (n c : Nat) (s : Sys) : Prop := Blk w g 25 #[.int .i64 s.al, .int .i64 s.st, .slice A n c] ∧ SysAt w lo hi A n s
theorem One1.ext {w w' : World} {g lo hi : Nat} {A : Option Addr} {n c : Nat} {s : Sys} (h : One1 w g lo hi A n c s) (hx : Ext w w') : One1 w' g lo hi A n c s := ⟨h.1.ext hx, h.2.ext hx⟩
theorem parts_bad {w : World} {lo hi : Nat} {A : Option Addr} {n c : Nat} {s : Sys} (h : SysAt w lo hi A n s) (hv : sysValid s = true) :
    Calls Tryd.prog 65 #[.agg #[.int .i64 s.al, .int .i64 s.st, .slice A n c]] w fun e w' => e = .returned (.bool false) ∧ Ext w w' := by
  have H := hide (h.ext ((Ext.refl w).alloc (.cells #[.int .i64 s.al, .int .i64 s.st, .slice A n c] 25)))
  have Hv := hide hv
  clear h hv
  go_enter Tryd.func65, Tryd.ntmps65
  go_wp2_with (go_at_call 31; refine (impl_SystemValid H.out).mono ?_; rw [Hv.out]; rintro e w1 ⟨rfl, hx1⟩)
  go_ret
  exact ⟨rfl, ((Ext.refl _).alloc _).trans hx1⟩
theorem parts_idx {w : World} {g lo hi : Nat} {A : Option Addr} {n c : Nat} {s : Sys} (h : One1 w g lo hi A n c s) (hv : sysValid s = true) :
    Calls Tryd.prog 84 #[.slice (some ⟨g, 0, none⟩) 1 1, .func (.func 65) #[] #[]] w fun e w' => e = .returned (.int .i64 (-1)) ∧ Ext w w' := by
  have H := hide (fun W (hW : Ext w W) => h.ext hW)
  have Hv := hide hv
  clear h hv
  go_enter Tryd.func84, Tryd.ntmps84
  go_wp2
  go_loopw [5, 8] (fun _ i wr => ∃ k : Nat, k ≤ 1 ∧ i = .int .i64 k ∧ Ext w wr) (fun _ i _ => 1 - (intOf i).toNat)
  case atStart => exact ⟨0, by omega, rfl, Ext.refl _⟩
  case round =>
    obtain ⟨k, hk, rfl, hxr⟩ := hrel
    by_cases hlt : k < 1
    · obtain rfl : k = 0 := by omega
      have c0 := (H.out wr hxr).1.cell
      go_wp2_with (go_at_call 65; refine (parts_bad (H.out _ hxr).2 Hv.out).mono ?_; rintro e w1 ⟨rfl, hx1⟩)
      go_roundw
      case rel => exact ⟨1, by omega, rfl, hxr.trans hx1⟩
      case measure => simp [intOf]
    · obtain rfl : k = 1 := by omega
      go_wp2
      go_ret
      exact ⟨rfl, hxr⟩
theorem parts_has {w : World} {g lo hi : Nat} {A : Option Addr} {n c : Nat} {s : Sys} (h : One1 w g lo hi A n c s) (hv : sysValid s = true) :
    Calls Tryd.prog 64 #[.slice (some ⟨g, 0, none⟩) 1 1, .func (.func 65) #[] #[]] w fun e w' => e = .returned (.bool false) ∧ Ext w w' := by
  go_enter Tryd.func64, Tryd.ntmps64
  go_wp2_with (go_at_call 84; refine (parts_idx h hv).mono ?_; rintro e w1 ⟨rfl, hx1⟩)
  go_ret
  exact ⟨rfl, hx1⟩
theorem areParts_one {w : World} {g lo hi : Nat} {A : Option Addr} {n c : Nat} {s : Sys} (h : One1 w g lo hi A n c s) (hv : sysValid s = true) :
    Calls Tryd.prog 35 #[.slice (some ⟨g, 0, none⟩) 1 1] w fun e w' => e = .returned (.bool true) ∧ Ext w w' := by
  go_enter Tryd.func35, Tryd.ntmps35
  go_wp2_with (go_at_call 64; refine (parts_has h hv).mono ?_; rintro e w1 ⟨rfl, hx1⟩)
  go_ret
  exact ⟨rfl, hx1⟩
theorem PartsAlphabet_one {w : World} {g lo hi al : Nat} {A : Option Addr} {n c : Nat} {s : Sys} (h : One1 w g lo hi A n c s) (hv : sysValid s = true) (hal : s.al = al) (hal2 : al < 64) :
    Calls Tryd.prog 38 #[.slice (some ⟨g, 0, none⟩) 1 1] w fun e w' => e = .returned (.int .i64 (al : Nat)) ∧ Ext w w' := by
  have H := hide (fun W (hW : Ext w W) => h.ext hW)
  have hb := hide (bits_or (a := 0) (b := al) (by unfold Sm; omega) (by unfold Sm; omega))
  have Hal := hide hal
  have hpa := hide (areParts_one h hv)
  clear h hal
  go_enter Tryd.func38, Tryd.ntmps38
  go_wp2_with (go_at_call 35; refine hpa.out.mono ?_; rintro e w1 ⟨rfl, hx1⟩)
  go_loopw [3, 5, 11] (fun v _ i wr => ∃ k : Nat, k ≤ 1 ∧ i = .int .i64 k ∧ Ext w wr ∧ v = .int .i64 ((if k = 0 then 0 else al : Nat) : Nat)) (fun _ _ i _ => 1 - (intOf i).toNat)
  case atStart => exact ⟨0, by omega, rfl, hx1, rfl⟩
  case round =>
    obtain ⟨k, hk, rfl, hxr, rfl⟩ := hrel
    by_cases hlt : k < 1
    · obtain rfl : k = 0 := by omega
      have b0 := (H.out wr hxr).1
      rw [Hal.out] at b0
      have c0 := b0.cell
      have hb' : bits .or .i64 0 (al : Int) = (al : Int) := by have := hb.out; simpa using this
      go_wp2
      go_roundw
      case rel => exact ⟨1, by omega, rfl, hxr.alloc _, by first | rfl | simp⟩
      case measure => simp [intOf]
    · obtain rfl : k = 1 := by omega
      go_wp2
      go_ret
      exact ⟨by first | rfl | simp, hxr⟩
theorem partsSize_one {w : World} {g lo hi p : Nat} {A : Option Addr} {n c : Nat} {s : Sys} {v : Value} (h : One1 w g lo hi A n c s) (hp : s.st = p) (hp2 : p ≤ 16) :
    Calls Tryd.prog 44 #[.agg #[.slice (some ⟨g, 0, none⟩) 1 1, v]] w fun e w' => e = .returned (.int .i64 (p : Nat)) ∧ Ext w w' := by
  have H := hide (fun W (hW : Ext w W) => h.ext hW)
  have Hp := hide hp
  clear h hp
  go_enter Tryd.func44, Tryd.ntmps44
  go_wp2
  go_loopw [3, 5, 9] (fun v _ i wr => ∃ k : Nat, k ≤ 1 ∧ i = .int .i64 k ∧ Ext w wr ∧ v = .int .i64 ((if k = 0 then 1 else p : Nat) : Nat)) (fun _ _ i _ => 1 - (intOf i).toNat)
  case atStart => exact ⟨0, by omega, rfl, (Ext.refl _).alloc _, rfl⟩
  case round =>
    obtain ⟨k, hk, rfl, hxr, rfl⟩ := hrel
    by_cases hlt : k < 1
    · obtain rfl : k = 0 := by omega
      have b0 := (H.out wr hxr).1
      rw [Hp.out] at b0
      have c0 := b0.cell
      go_wp2
      go_roundw
      case rel => exact ⟨1, by omega, rfl, hxr.alloc _, by first | rfl | simp⟩
      case measure => simp [intOf]
    · obtain rfl : k = 1 := by omega
      go_wp2
      go_ret
      exact ⟨by first | rfl | simp, hxr⟩
end Go.Proofs.YtbifoikcmjmdeaaDoor

namespace Go.Proofs.YtbifoikcmjmdeaaDoor
open Go Go.RowKit
set_option maxHeartbeats 2000000

theorem info_mv : (Tryd.prog.info? 65).map (fun i => (i.zero, i.size, i.bytes)) = some (some (.pointer none), 1, 8) := by kernel_rfl
/-- The parts of one system. -/
def Part1 (w : World) (v : Value) (g : Nat) (es : List Edg) : Prop := ∃ gm cap bm : Nat, v = .agg #[.slice (some ⟨g, 0, none⟩) 1 1, .slice (some ⟨gm, 0, none⟩) 1 cap] ∧ w.cell? ⟨gm, 0, none⟩ = some (.pointer (some ⟨bm, 0, none⟩)) ∧ MovB w bm es
theorem Part1.ext {w w' : World} {v : Value} {g : Nat} {es : List Edg} (h : Part1 w v g es) (hx : Ext w w') : Part1 w' v g es := by
  obtain ⟨gm, cap, bm, e, hc, hm⟩ := h
  exact ⟨gm, cap, bm, e, hx.cell_some hc, hm.ext hx⟩
theorem two_set {w : World} {Z : Nat} {t : TypeId} {a b v : Value} (h : Blk w Z t #[a, b]) : Blk (w.setCell ⟨Z, 1, none⟩ v) Z t #[a, v] := by
  simpa using h.set_ 1 v
/-- What newParts hands back. -/
def RetP1 (w : World) (g : Nat) (es : List Edg) (e : Ending) (w' : World) : Prop := ∃ v, e = .returned v ∧ Part1 w' v g es ∧ Ext w w'
set_option maxRecDepth 100000 in
theorem newParts_one {w : World} {g lo hi : Nat} {A : Option Addr} {n c : Nat} {s : Sys} (h : One1 w g lo hi A n c s) (hf : Few 16 s.edges) :
    Calls Tryd.prog 36 #[.slice (some ⟨g, 0, none⟩) 1 1] w (RetP1 w g s.edges) := by
  have H := hide (fun W (hW : Ext w W) => h.ext hW)
  have Hf := hide hf
  clear h hf
  go_enter Tryd.func36, Tryd.ntmps36
  obtain ⟨bz, b3⟩ := ext_blk2 (Ext.refl ((w.alloc (.cells #[.slice none 0 0, .slice none 0 0] 52)).alloc (.cells #[.slice (some ⟨g, 0, none⟩) 1 1, .slice none 0 0] 52)))
  have hw2 : Ext w ((w.alloc (.cells #[.slice none 0 0, .slice none 0 0] 52)).alloc (.cells #[.slice (some ⟨g, 0, none⟩) 1 1, .slice none 0 0] 52)) := ((Ext.refl w).alloc _).alloc _
  go_upto_region 2 with fail
  generalize (w.alloc (.cells #[.slice none 0 0, .slice none 0 0] 52)).alloc (.cells #[.slice (some ⟨g, 0, none⟩) 1 1, .slice none 0 0] 52) = w2 at *
  go_wp2_with fail
  go_loopw [5, 10] (fun _ i wr => ∃ k : Nat, k ≤ 1 ∧ i = .int .i64 k ∧ Ext w wr ∧ Blk wr w.heap.size 52 #[.slice none 0 0, .slice none 0 0] ∧ ∃ v : Value, Blk wr (w.heap.size + 1) 52 #[.slice (some ⟨g, 0, none⟩) 1 1, v] ∧ Hid (k = 0 → v = .slice none 0 0) ∧ Hid (k = 1 → Part1 wr (.agg #[.slice (some ⟨g, 0, none⟩) 1 1, v]) g s.edges)) (fun _ i _ => 1 - (intOf i).toNat)
  case atStart => exact ⟨0, by omega, rfl, hw2, bz, _, b3, (show Hid _ from fun _ => rfl), (show Hid _ from fun h => by cases h)⟩
  case round =>
    clear bz b3 hw2
    obtain ⟨k, hk, rfl, hxr, bz, v, b3, hv0, hv1⟩ := hrel
    by_cases hlt : k < 1
    · obtain rfl : k = 0 := by omega
      obtain rfl := hv0.out rfl
      have c0 := (H.out wr hxr).1.cell
      clear hv0 hv1
      go_upto_region 5 with fail
      have hxa := (Ext.refl wr).alloc (.cells #[.int .i64 s.al, .int .i64 s.st, .slice A n c] 25)
      have b5 := Blk.new wr 25 #[.int .i64 s.al, .int .i64 s.st, .slice A n c]
      replace bz := bz.ext hxa
      replace b3 := b3.ext hxa
      replace hxr := hxr.trans hxa
      clear c0 hxa
      generalize wr.alloc (.cells #[.int .i64 s.al, .int .i64 s.st, .slice A n c] 25) = w3 at *
      have c3 : ∀ W, Ext w3 W → ∀ q, W.cell? ⟨w.heap.size + 1, q, none⟩ = #[Value.slice (some ⟨g, 0, none⟩) 1 1, .slice none 0 0][q]? := fun W hW => (b3.ext hW).cell
      have c5 : ∀ W, Ext w3 W → ∀ q, W.cell? ⟨wr.heap.size, q, none⟩ = #[Value.int .i64 s.al, .int .i64 s.st, .slice A n c][q]? := fun W hW => (b5.ext hW).cell
      have hww3 := Ext.refl w3
      refine wp_region_tailU (fun X => Ext w3 X) [5, 7] (OrdU.of [0, 1, 2, 3, 4, 5, 6, 7]) (by kernel_rfl) (by kernel_rfl) (by kernel_rfl) (by kernel_rfl) (by kernel_rfl) (fun _ _ _ _ _ h => h) (by first | assumption | exact (Ext.refl _).drew | (refine Ext.drew ?_; assumption)) ?_
      repeat (first | (refine useq_skip rfl rfl (by assumption) ?_; simp only [Act.put, List.setIfInBounds_toArray, List.set_cons_zero, List.set_cons_succ]) | (refine useq_pure (v := ?_) rfl rfl rfl rfl (fun X => ?_) ?_; rotate_left; (focus (go_simp <;> with_reducible rfl)); simp only [Act.put, List.setIfInBounds_toArray, List.set_cons_zero, List.set_cons_succ]) | (refine useq_read (v := ?_) rfl rfl rfl rfl (fun X hX => ?_) ?_; rotate_left; (focus (go_simp <;> with_reducible rfl)); simp only [Act.put, List.setIfInBounds_toArray, List.set_cons_zero, List.set_cons_succ]))
      (refine useq_step rfl rfl rfl (fun K hK => ?_); go_simp)
      refine (impl_movesOf (H.out _ hxr.drew).2 Hf.out).mono ?_
      rintro e w4 ⟨bm, rfl, _, hM, hx4⟩
      replace hx4 := hww3.drew.trans hx4
      refine hK.out _ _ hx4 ?_
      (try simp only [Act.put, List.setIfInBounds_toArray, List.set_cons_zero, List.set_cons_succ])
      (refine useq_step rfl rfl rfl (fun K hK => ?_); go_simp)
      refine hK.out _ _ (hx4.alloc _) ?_
      (try simp only [Act.put, List.setIfInBounds_toArray, List.set_cons_zero, List.set_cons_succ])
      (refine useq_last rfl rfl rfl rfl (fun K hK => ?_))
      refine wp_push w3 w4 _ _ _ rfl 65 _ 1 8 Tryd.underlying50 info_mv rfl (by decide) (.slice none 0 0) 0 [] _ _ rfl rfl hx4.size (World.ownsRow_nil _ _ _ _) rfl (by simp [Value.oneCell']) (by unfold maxLen; omega) (by omega) ?_
      intro g5 cap5 w5 hown5 hg5 hat5 hlt5
      have hx5 : Ext w4 w5 := (Ext.refl w4).grown hg5 (fun k hk => by simp [Value.ownBlock] at hk)
      rw [Nat.zero_add, List.nil_append] at hown5
      have hx35 := hx4.trans hx5
      have b35 := b3.ext hx35
      have hg5 := (hown5.lt g5 rfl).1
      have h3l := b3.lt
      refine hK.out _ _ ?_
      (try simp only [Act.put, List.setIfInBounds_toArray, List.set_cons_zero, List.set_cons_succ])
      repeat (first | (refine useq_skip rfl rfl (by assumption) ?_; simp only [Act.put, List.setIfInBounds_toArray, List.set_cons_zero, List.set_cons_succ]) | (refine useq_pure (v := ?_) rfl rfl rfl rfl (fun X => ?_) ?_; rotate_left; (focus (go_simp <;> with_reducible rfl)); simp only [Act.put, List.setIfInBounds_toArray, List.set_cons_zero, List.set_cons_succ]) | (refine useq_read (v := ?_) rfl rfl rfl rfl (fun X hX => ?_) ?_; rotate_left; (focus (go_simp <;> with_reducible rfl)); simp only [Act.put, List.setIfInBounds_toArray, List.set_cons_zero, List.set_cons_succ]))
      have cS := b35.cell
      have fS := b35.frozen
      (refine useq_last rfl rfl rfl rfl (fun K hK => ?_))
      go_simp
      refine hK.out _ _ ?_
      refine useq_nil ?_
      have hf := Frm.setCell w5 (w.heap.size + 1) 1 (.slice (some ⟨g5, 0, none⟩) 1 cap5)
      have hbz6 := (bz.ext hx35).frm hf (by omega)
      have hb36 := two_set (v := .slice (some ⟨g5, 0, none⟩) 1 cap5) b35
      have hx6 := (hxr.trans hx35).frm hf (fun k hk e => by omega)
      have hP : Part1 (w5.setCell ⟨w.heap.size + 1, 1, none⟩ (.slice (some ⟨g5, 0, none⟩) 1 cap5)) (.agg #[.slice (some ⟨g, 0, none⟩) 1 1, .slice (some ⟨g5, 0, none⟩) 1 cap5]) g s.edges := by
        refine ⟨g5, cap5, bm, rfl, ?_, ?_⟩
        · have := (own_frm hown5 hf (fun b hv e => by have := (hown5.lt b hv).1; omega)).cellAt 0 (by omega)
          simpa using this
        · obtain ⟨cs, hb, hc⟩ := hM.ext hx5
          exact ⟨cs, hb.frm hf (hb.ne b35 (by decide)), hc⟩
      clear cS fS
      generalize w5.setCell ⟨w.heap.size + 1, 1, none⟩ (.slice (some ⟨g5, 0, none⟩) 1 cap5) = w6 at *
      go_wp2_with fail
      go_roundw
      case rel => exact ⟨1, by omega, rfl, hx6, hbz6, _, hb36, (show Hid _ from fun h => by cases h), (show Hid _ from fun _ => hP)⟩
      case measure => simp [intOf]
    · obtain rfl : k = 1 := by omega
      obtain ⟨gm0, cap0, hv⟩ : ∃ gm cap, v = .slice (some ⟨gm, 0, none⟩) 1 cap := by
        obtain ⟨gm, cap, bm, e, _⟩ := hv1.out rfl
        exact ⟨gm, cap, by simpa using e⟩
      subst hv
      have hP := hide (hv1.out rfl)
      have c3 := b3.cell
      have cz := bz.cell
      have fz := bz.frozen
      clear hv0 hv1
      have hzl := bz.lt
      have hf : Frm (fun k => k = w.heap.size) wr ((wr.setCell ⟨w.heap.size, 0, none⟩ (.slice (some ⟨g, 0, none⟩) 1 1)).setCell ⟨w.heap.size, 1, none⟩ (.slice (some ⟨gm0, 0, none⟩) 1 cap0)) := (Frm.setCell wr w.heap.size 0 _).trans (Frm.setCell _ w.heap.size 1 _)
      have hbf : Blk ((wr.setCell ⟨w.heap.size, 0, none⟩ (.slice (some ⟨g, 0, none⟩) 1 1)).setCell ⟨w.heap.size, 1, none⟩ (.slice (some ⟨gm0, 0, none⟩) 1 cap0)) w.heap.size 52 #[.slice (some ⟨g, 0, none⟩) 1 1, .slice (some ⟨gm0, 0, none⟩) 1 cap0] := by simpa using (bz.set_ 0 (.slice (some ⟨g, 0, none⟩) 1 1)).set_ 1 (.slice (some ⟨gm0, 0, none⟩) 1 cap0)
      have hxf := hxr.frm hf (fun k hk e => by omega)
      have hfin := hide (show RetP1 w g s.edges (.returned (.agg #[.slice (some ⟨g, 0, none⟩) 1 1, .slice (some ⟨gm0, 0, none⟩) 1 cap0])) ((wr.setCell ⟨w.heap.size, 0, none⟩ (.slice (some ⟨g, 0, none⟩) 1 1)).setCell ⟨w.heap.size, 1, none⟩ (.slice (some ⟨gm0, 0, none⟩) 1 cap0)) from by
        refine ⟨_, rfl, ?_, hxf⟩
        obtain ⟨gm, cap, bm, e, hc, cs, hb, hm⟩ := hP.out
        refine ⟨gm, cap, bm, e, ?_, cs, hb.frm hf (hb.ne bz (by decide)), hm⟩
        have hlt := World.block_lt_of_cell? wr _ hc
        have hne : gm ≠ w.heap.size := by
          rintro rfl
          rw [bz.cell 0] at hc
          simp at hc
        exact (World.cell?_of_block (w := wr) (hf.block gm hlt hne)).trans hc)
      go_wp2_with fail
      generalize (wr.setCell ⟨w.heap.size, 0, none⟩ (.slice (some ⟨g, 0, none⟩) 1 1)).setCell ⟨w.heap.size, 1, none⟩ (.slice (some ⟨gm0, 0, none⟩) 1 cap0) = wf at *
      have cf := hbf.cell
      exact bodyPost_ret (v := .agg #[.slice (some ⟨g, 0, none⟩) 1 1, .slice (some ⟨gm0, 0, none⟩) 1 cap0]) (by simp [results, Tryd.results36, go_sem, cf]) rfl hfin.out
end Go.Proofs.YtbifoikcmjmdeaaDoor

namespace Go.Proofs.YtbifoikcmjmdeaaDoor
open Go Go.RowKit
set_option maxHeartbeats 8000000

theorem nats_one (l : List Nat) : ∀ u ∈ nats l, u.oneCell' = true := by
  intro u hu
  obtain ⟨n, _, rfl⟩ := List.mem_map.1 hu
  rfl
set_option maxRecDepth 100000 in
theorem next_one {w : World} {g lo hi al p n l base m c c0 : Nat} {A0 A : Option Addr} {n0 : Nat} {xs : List Nat} {s : Sys} {v : Value} (h : One1 w g lo hi A0 n0 c0 s) (hP : Part1 w v g s.edges) (hT : Tab w) (hf : Few p s.edges) (hal : s.al = al) (hal2 : al < 64) (hst : s.st = p) (hp1 : 1 ≤ p) (hp : p ≤ 16) (hn : n < p) (hl : l ∈ letters al 6)
    (hb : base ≤ w.heap.size) (hm : m ≤ 1099511627776) (hown : w.ownsRow base 3 1 (.slice A m c) m (nats xs)) :
    Calls Tryd.prog 42 #[v, .int .i64 (n : Nat), .int .i64 (l : Nat), .slice A m c] w fun e w' => ∃ A' c', e = .returned (.slice A' (xs ++ dD s.edges n l).length c') ∧ w'.ownsRow base 3 1 (.slice A' (xs ++ dD s.edges n l).length c') (xs ++ dD s.edges n l).length (nats (xs ++ dD s.edges n l)) ∧ Frm (fun k => (Value.slice A m c).ownBlock = some k) w w' := by
  obtain ⟨gm, cap, bm, rfl, hcm, hM⟩ := hP
  have hl6 : l < 6 := (mem_letters.1 hl).1
  have hmx := hide (show m = xs.length by have := hown.1; rw [nats_length] at this; omega)
  have HB := hide (fun W (hW : Ext w W) => (h.1.ext hW))
  have Hal := hide hal
  have Hst := hide hst
  have hhas := hide (show hasB al (l : Int) = true by unfold hasB; rw [Bool.and_eq_true, decide_eq_true_eq]; exact ⟨by omega, (mem_letters.1 hl).2⟩)
  have hcH := hide (fun W => impl_has al (l : Int) (by unfold Sm; omega) W)
  have hs2 := succ_sm hf hp n l
  have hcM0 := hM.at_ n l (by omega) hl6
  have hmem := hide (fun W (hW : Ext w W) => impl_members (succ s.edges (n : Nat) l) hs2 W (hT.ext hW))
  have hdD := hide (show dD s.edges n l = letters (succ s.edges (n : Nat) l) 32 from rfl)
  have hll := letters_length (succ s.edges (n : Nat) l) 32
  have hlt32 := hide (fun k (hk : k ∈ letters (succ s.edges (n : Nat) l) 32) => (mem_letters.1 hk).1)
  generalize dD s.edges n l = res at *
  generalize letters (succ s.edges (n : Nat) l) 32 = ms at *
  generalize succ s.edges (n : Nat) l = sc at *
  have cM : ∀ W, Ext w W → W.cell? ⟨bm, n * 6 + l, none⟩ = some (.int .i64 (sc : Nat)) := fun W hW => hW.cell_some hcM0
  have cG : ∀ W, Ext w W → W.cell? ⟨gm, 0, none⟩ = some (.pointer (some ⟨bm, 0, none⟩)) := fun W hW => hW.cell_some hcm
  clear h hal hst hl hM hcM0 hcm hT hf
  have hpz : ¬ p = 0 := by omega
  have hpz' : ((p : Int) == 0) = false := by simp; omega
  have hnm : Int.tmod (n : Int) (p : Int) = (n : Int) := by rw [show Int.tmod (n : Int) (p : Int) = ((n % p : Nat) : Int) from rfl, Nat.mod_eq_of_lt hn]
  have hnm2 : (n : Int) % (p : Int) = (n : Int) := by rw [show (n : Int) % (p : Int) = ((n % p : Nat) : Int) from rfl, Nat.mod_eq_of_lt hn]
  have hn16 : (n : Int) < 16 := by omega
  have hl6' : (l : Int) < 6 := by omega
  go_enter Tryd.func42, Tryd.ntmps42
  have bb := Blk.new w 52 #[.slice (some ⟨g, 0, none⟩) 1 1, .slice (some ⟨gm, 0, none⟩) 1 cap]
  have hx1 := (Ext.refl w).alloc (.cells #[.slice (some ⟨g, 0, none⟩) 1 1, .slice (some ⟨gm, 0, none⟩) 1 cap] 52)
  have kb := bb.cell
  go_upto_region 1 with fail
  generalize w.alloc (.cells #[.slice (some ⟨g, 0, none⟩) 1 1, .slice (some ⟨gm, 0, none⟩) 1 cap] 52) = w1 at *
  have b9 := Blk.new w1 3 #[.int .i64 0]
  have hx2 := (Ext.refl w1).alloc (.cells #[.int .i64 0] 3)
  clear kb
  have kb := (bb.ext hx2).cell
  go_upto_region 3 with fail
  generalize w1.alloc (.cells #[.int .i64 0] 3) = w2 at *
  have b92 := b9
  have bb2 := bb.ext hx2
  have hx12 := hx1.trans hx2
  generalize w1.heap.size = g9 at *
  clear kb bb b9 hx1 hx2
  have hsz2 := hx12.size
  go_loopw [1, 9, 10, 11, 12, 13, 14, 16, 18] (fun vn vr vw vi _ _ _ _ _ wr => ∃ k : Nat, k ≤ 1 ∧ vi = .int .i64 ((k : Int) - 1) ∧ Ext w2 wr ∧ Hid (k = 1 → vn = .int .i64 (n : Nat) ∧ vr = .slice (some ⟨g9, 0, none⟩) 1 1 ∧ vw = .int .i64 1) ∧ Hid (k = 0 → wr.ownsRow w2.heap.size 3 1 vr res.length (nats res))) (fun _ _ _ vi _ _ _ _ _ _ => (intOf vi + 1).toNat)
  case atStart => exact ⟨1, by omega, rfl, Ext.refl _, (show Hid _ from fun _ => ⟨rfl, rfl, rfl⟩), (show Hid _ from fun h => by cases h)⟩
  case round =>
    obtain ⟨k, hk, rfl, hxr, hk1, hk0⟩ := hrel
    by_cases hlt : 1 ≤ k
    · obtain rfl : k = 1 := by omega
      obtain ⟨rfl, rfl, rfl⟩ := hk1.out rfl
      clear hk1 hk0
      have b0 := HB.out wr (hx12.trans hxr)
      rw [Hal.out, Hst.out] at b0
      have cS := b0.cell
      have kb := (bb2.ext hxr).cell
      go_upto_region 6 with fail
      have hxa := (Ext.refl wr).alloc (.cells #[.int .i64 al, .int .i64 p, .slice A0 n0 c0] 25)
      have b12 := Blk.new wr 25 #[.int .i64 al, .int .i64 p, .slice A0 n0 c0]
      replace hxr := hxr.trans hxa
      clear cS kb b0 hxa
      generalize wr.alloc (.cells #[.int .i64 al, .int .i64 p, .slice A0 n0 c0] 25) = w3 at *
      generalize wr.heap.size = g12 at *
      have c12 := b12.cell
      go_upto_region 7 with fail
      have hxa := (Ext.refl w3).alloc (.cells #[.int .i64 n] 3)
      replace hxr := hxr.trans hxa
      replace b12 := b12.ext hxa
      clear c12 hxa
      generalize w3.alloc (.cells #[.int .i64 n] 3) = w4 at *
      have c12 := b12.cell
      go_upto_region 8 with (go_at_call 26; refine (hcH.out _).mono ?_; rw [hhas.out]; rintro e w' ⟨rfl, rfl⟩)
      clear c12
      have hxw4 := hx12.trans hxr
      have c12 : ∀ W, Ext w4 W → ∀ q, W.cell? ⟨g12, q, none⟩ = #[Value.int .i64 al, .int .i64 p, .slice A0 n0 c0][q]? := fun W hW => (b12.ext hW).cell
      have kb : ∀ W, Ext w4 W → ∀ q, W.cell? ⟨w.heap.size, q, none⟩ = #[Value.slice (some ⟨g, 0, none⟩) 1 1, .slice (some ⟨gm, 0, none⟩) 1 cap][q]? := fun W hW => (bb2.ext (hxr.trans hW)).cell
      have cG4 : ∀ W, Ext w4 W → W.cell? ⟨gm, 0, none⟩ = some (.pointer (some ⟨bm, 0, none⟩)) := fun W hW => cG W (hxw4.trans hW)
      have cM4 : ∀ W, Ext w4 W → W.cell? ⟨bm, n * 6 + l, none⟩ = some (.int .i64 (sc : Nat)) := fun W hW => cM W (hxw4.trans hW)
      have hww4 := Ext.refl w4
      clear cG cM
      refine wp_region_tailU (fun X => Ext w4 X) [14] (OrdU.of [0, 1, 2, 3, 4, 5, 6, 7, 8, 9, 10, 11, 12, 13, 14, 15]) (by kernel_rfl) (by kernel_rfl) (by kernel_rfl) (by kernel_rfl) (by kernel_rfl) (fun _ _ _ _ _ h => h) (by first | assumption | exact (Ext.refl _).drew | (refine Ext.drew ?_; assumption)) ?_
      repeat (first | (refine useq_skip rfl rfl (by assumption) ?_; simp only [Act.put, List.setIfInBounds_toArray, List.set_cons_zero, List.set_cons_succ]) | (refine useq_pure (v := ?_) rfl rfl rfl rfl (fun X => ?_) ?_; rotate_left; (focus (go_simp <;> with_reducible rfl)); simp only [Act.put, List.setIfInBounds_toArray, List.set_cons_zero, List.set_cons_succ]) | (refine useq_read (v := ?_) rfl rfl rfl rfl (fun X hX => ?_) ?_; rotate_left; (focus (go_simp <;> with_reducible rfl)); simp only [Act.put, List.setIfInBounds_toArray, List.set_cons_zero, List.set_cons_succ]))
      (refine useq_step rfl rfl rfl (fun K hK => ?_); go_simp)
      refine hK.out _ _ hww4.drew ?_
      (try simp only [Act.put, List.setIfInBounds_toArray, List.set_cons_zero, List.set_cons_succ])
      repeat (first | (refine useq_skip rfl rfl (by assumption) ?_; simp only [Act.put, List.setIfInBounds_toArray, List.set_cons_zero, List.set_cons_succ]) | (refine useq_pure (v := ?_) rfl rfl rfl rfl (fun X => ?_) ?_; rotate_left; (focus (go_simp <;> with_reducible rfl)); simp only [Act.put, List.setIfInBounds_toArray, List.set_cons_zero, List.set_cons_succ]) | (refine useq_read (v := ?_) rfl rfl rfl rfl (fun X hX => ?_) ?_; rotate_left; (focus (go_simp <;> with_reducible rfl)); simp only [Act.put, List.setIfInBounds_toArray, List.set_cons_zero, List.set_cons_succ]))
      (refine useq_step rfl rfl rfl (fun K hK => ?_); go_simp)
      refine (hmem.out _ hxw4.drew).mono ?_
      rintro e w6 ⟨A6, c6, rfl, hown6, hx6⟩
      have hx46 := hww4.drew.trans hx6
      refine hK.out _ _ hx46 ?_
      (try simp only [Act.put, List.setIfInBounds_toArray, List.set_cons_zero, List.set_cons_succ])
      repeat (first | (refine useq_skip rfl rfl (by assumption) ?_; simp only [Act.put, List.setIfInBounds_toArray, List.set_cons_zero, List.set_cons_succ]) | (refine useq_pure (v := ?_) rfl rfl rfl rfl (fun X => ?_) ?_; rotate_left; (focus (go_simp <;> with_reducible rfl)); simp only [Act.put, List.setIfInBounds_toArray, List.set_cons_zero, List.set_cons_succ]) | (refine useq_read (v := ?_) rfl rfl rfl rfl (fun X hX => ?_) ?_; rotate_left; (focus (go_simp <;> with_reducible rfl)); simp only [Act.put, List.setIfInBounds_toArray, List.set_cons_zero, List.set_cons_succ]))
      refine useq_nil ?_
      obtain ⟨k6, hk6⟩ : ∃ k6, Hid (k6 = ms.length) := ⟨_, rfl⟩
      rw [← hk6.out] at hown6 ⊢
      have hI6 := IntsAt.own hown6
      have hx26 := hxr.trans hx46
      have hbp6 := b12.ext hx46
      have hk32 : k6 ≤ 32 := by have := hk6.out; omega
      clear c12 kb cG4 cM4 hww4 hx6 hown6 b12
      go_wp2_with fail
      go_loopw [14, 16, 18, 59] (fun v _ _ i wr => ∃ j : Nat, j ≤ k6 ∧ i = .int .i64 j ∧ wr.ownsRow w6.heap.size 3 1 v j (nats (ms.take j)) ∧ Ext w6 wr) (fun _ _ _ i _ => k6 - (intOf i).toNat)
      case atStart => exact ⟨0, Nat.zero_le _, rfl, World.ownsRow_nil _ _ _ _, Ext.refl _⟩
      case round =>
        obtain ⟨j, hj, rfl, hownj, hxj⟩ := hrel
        by_cases hlj : j < k6
        · obtain ⟨ga, oa, q, rfl, hq, hcq⟩ := (hI6.ext hxj).at_ hlj
          have hq32 := hlt32.out q (List.mem_of_getElem? hq.out)
          have htk := hide (show ms.take (j + 1) = ms.take j ++ [q] by rw [List.take_add_one, hq.out]; rfl)
          have hq1 : (q : Int) * 1 = (q : Int) := by omega
          have hq0 : (q : Int) + 0 = (q : Int) := by omega
          have hjc : (j : Int) < (k6 : Int) := by omega
          go_wp2_with fail
          clear hcq
          go_loopw [14, 18, 65] (fun v _ i wr => ∃ y : Nat, y ≤ 1 ∧ i = .int .i64 y ∧ wr.ownsRow w6.heap.size 3 1 v (j + y) (nats (ms.take (j + y))) ∧ Ext w6 wr) (fun _ _ i _ => 1 - (intOf i).toNat)
          case atStart => exact ⟨0, Nat.zero_le _, rfl, hownj, hxj⟩
          case round =>
            clear hownj hxj
            obtain ⟨y, hy, rfl, hownj, hxj⟩ := hrel
            by_cases hly : y < 1
            · obtain rfl : y = 0 := by omega
              have c9 := (b92.ext (hx26.trans hxj)).cell
              go_wp2_with (at_builtin; refine wpList_push3 w6 _ rfl _ _ _ rfl 3 _ 1 8 Tryd.underlying33 info_int rfl (by decide) u14 j (nats (ms.take j)) _ _ rfl rfl hxj.size hownj rfl (by simp [Value.oneCell']) (by unfold maxLen; omega) (by omega) ?_; intro g5 cap5 w5 hown5 hg5 hat5 hlt5)
              have hx5 := hxj.grown hg5 (fun k hk => (hownj.lt k hk).1)
              go_roundw
              case rel => exact ⟨1, by omega, rfl, by rw [htk.out, nats_append]; exact hown5, hx5⟩
              case measure => simp [intOf]
            · obtain rfl : y = 1 := by omega
              go_wp2_with fail
              go_roundw
              case rel => exact ⟨j + 1, by omega, by go_num, hownj, hxj⟩
              case measure => simp [intOf]; omega
        · obtain rfl : j = k6 := by omega
          have htk : ms.take j = res := by rw [List.take_of_length_le (by have := hk6.out; omega), hdD.out]
          rw [htk] at hownj
          have hl9 := hide (show res.length = j by rw [hdD.out, hk6.out])
          have c12 := (hbp6.ext hxj).cell
          go_wp2_with fail
          go_roundw
          case rel => exact ⟨0, by omega, by first | rfl | (congr 1), hx26.trans hxj, (show Hid _ from fun h => by cases h), (show Hid _ from fun _ => by rw [hl9.out]; exact own_less hownj hx26.size)⟩
          case measure => simp [intOf]
    · obtain rfl : k = 0 := by omega
      have hown9 := hk0.out rfl
      obtain ⟨A9, c9, rfl⟩ := own_form hown9
      obtain ⟨k9, hk9⟩ : ∃ k9, Hid (k9 = res.length) := ⟨_, rfl⟩
      rw [← hk9.out] at hown9
      rw [← hk9.out]
      have hxw := hx12.trans hxr
      have hownr := own_ext hown hxw
      have hr9 := Reads.of_own hown9
      have hres32 : k9 ≤ 32 := by rw [hk9.out, hdD.out]; exact hll
      clear hk1 hk0
      go_wp2_with (at_builtin; refine wpList_onto wr rfl _ _ 33 rfl base 3 _ 1 8 Tryd.underlying33 info_int rfl (by decide) (.slice A m c) m (nats xs) rfl hownr _ _ A9 k9 c9 (nats res) rfl hr9 (nats_one res) (by unfold maxLen; omega) (by omega) (Nat.le_trans hb hxw.size) ?_; intro v5 w5 hown5 hg5 hat5)
      have hfr5 : Frm (fun k => (Value.slice A m c).ownBlock = some k) w w5 := (hxw.toFrm).trans (Frm.of_grown hg5)
      obtain ⟨A5, c5, rfl⟩ := own_form hown5
      rw [← nats_append] at hown5
      have hlen := hide (show (xs ++ res).length = m + k9 by rw [List.length_append, hk9.out, hmx.out])
      go_wp2_with fail
      go_ret
      exact ⟨A5, c5, by rw [hlen.out]; rfl, by rw [hlen.out]; exact hown5, hfr5⟩
end Go.Proofs.YtbifoikcmjmdeaaDoor

namespace Go.Proofs.YtbifoikcmjmdeaaDoor
open Go Go.RowKit
set_option maxHeartbeats 2000000

/-- What the closures of DeadlockOf have captured, over one system. -/
structure DC (w : World) (gl gp g lo hi q cL n0 c0 : Nat) (AL A0 : Option Addr) (a b : Value) (L : List Nat) (s : Sys) : Prop where
  hp : Blk w gp 52 #[a, b]
  hl : Blk w gl 33 #[.slice AL q cL]
  hL : IntsAt w AL q L
  pt : Part1 w (.agg #[a, b]) g s.edges
  one : One1 w g lo hi A0 n0 c0 s
section
variable {w w' : World} {gl gp g lo hi q cL n0 c0 : Nat} {AL A0 : Option Addr} {a b : Value} {L : List Nat} {s : Sys}
theorem DC.ext (h : DC w gl gp g lo hi q cL n0 c0 AL A0 a b L s) (hx : Ext w w') : DC w' gl gp g lo hi q cL n0 c0 AL A0 a b L s := ⟨h.hp.ext hx, h.hl.ext hx, h.hL.ext hx, h.pt.ext hx, h.one.ext hx⟩
/-- A letter leads on. -/
theorem dc_more {al p n l g3 : Nat} (h : DC w gl gp g lo hi q cL n0 c0 AL A0 a b L s) (hT : Tab w) (h3 : Blk w g3 3 #[.int .i64 (n : Nat)]) (hf : Few p s.edges) (hal : s.al = al) (hal2 : al < 64) (hst : s.st = p) (hp1 : 1 ≤ p) (hp : p ≤ 16) (hn : n < p) (hl : l ∈ letters al 6) :
    Calls Tryd.prog 41 #[.int .i64 (l : Nat), .pointer (some ⟨gp, 0, none⟩), .pointer (some ⟨g3, 0, none⟩)] w fun e w' => e = .returned (.bool (!(dD s.edges n l).isEmpty)) ∧ Ext w w' := by
  have key := hide (next_one (base := w.heap.size) (A := none) (m := 0) (c := 0) (xs := []) h.one h.pt hT hf hal hal2 hst hp1 hp hn hl (Nat.le_refl _) (by omega) (World.ownsRow_nil _ _ _ _))
  have hpb := h.hp.cell
  have h3c := h3.cell
  clear h hT hf hal hst hl h3
  rw [List.nil_append] at key
  generalize dD s.edges n l = r at *
  obtain ⟨k, hk⟩ : ∃ k, Hid (k = r.length) := ⟨_, rfl⟩
  rw [← hk.out] at key
  have hlen := hide (show decide (0 < k) = !r.isEmpty by rw [hk.out]; cases r <;> simp)
  go_enter Tryd.func41, Tryd.ntmps41
  go_wp2_with fail
  refine key.out.mono ?_
  rintro e w1 ⟨A', c', rfl, _, hfr⟩
  have hx : Ext w w1 := ⟨hfr.os, hfr.tape, hfr.output, hfr.size, fun k hk _ => hfr.block k hk (by simp [Value.ownBlock])⟩
  go_wp2_with fail
  go_ret
  exact ⟨ret_bool (by rw [← hlen.out]), hx⟩
theorem dc_index {al p n g3 : Nat} (h : DC w gl gp g lo hi q cL n0 c0 AL A0 a b L s) (hT : Tab w) (h3 : Blk w g3 3 #[.int .i64 (n : Nat)]) (hf : Few p s.edges) (hal : s.al = al) (hal2 : al < 64) (hst : s.st = p) (hp1 : 1 ≤ p) (hp : p ≤ 16) (hn : n < p) (hL : L = letters al 6) :
    Calls Tryd.prog 66 #[.slice AL q cL, .func (.func 41) #[] #[.pointer (some ⟨gp, 0, none⟩), .pointer (some ⟨g3, 0, none⟩)]] w fun e w' => ∃ r : Int, e = .returned (.int .i64 r) ∧ Hid (decide (0 ≤ r) = L.any fun l => !(dD s.edges n l).isEmpty) ∧ Ext w w' := by
  have hq := h.hL.1
  have hqm := h.hL.2.1
  have key := hide (fun W (hW : Ext w W) l (hl : l ∈ L) => dc_more (h.ext hW) (hT.ext hW) (h3.ext hW) hf hal hal2 hst hp1 hp hn (by rw [← hL]; exact hl))
  have HI := hide (fun W (hW : Ext w W) => h.hL.ext hW)
  have hqL := hide hq
  clear h hT h3 hf hal hst hL hq
  go_enter Tryd.func66, Tryd.ntmps66
  go_wp2
  go_loopw [5, 8] (fun _ i wr => ∃ k : Nat, k ≤ q ∧ i = .int .i64 k ∧ Ext w wr ∧ Hid ((L.take k).any (fun l => !(dD s.edges n l).isEmpty) = false)) (fun _ i _ => q - (intOf i).toNat)
  case atStart => exact ⟨0, by omega, rfl, Ext.refl _, (show Hid _ from rfl)⟩
  case round =>
    obtain ⟨k, hk, rfl, hxr, hno⟩ := hrel
    by_cases hlt : k < q
    · obtain ⟨ga, oa, l, rfl, hl, hcl⟩ := (HI.out wr hxr).at_ hlt
      have hmem := List.mem_of_getElem? hl.out
      have hcall := hide (key.out wr hxr l hmem)
      have htk := hide (show L.take (k + 1) = L.take k ++ [l] by rw [List.take_add_one, hl.out]; rfl)
      have hkc : (k : Int) < (q : Int) := by omega
      cases hb : !(dD s.edges n l).isEmpty
      · have Hb := hide hb
        clear hb
        go_wp2_with (go_at_call 41; refine hcall.out.mono ?_; rw [Hb.out]; rintro e w1 ⟨rfl, hx1⟩)
        go_roundw
        case rel => exact ⟨k + 1, by omega, by go_num, hxr.trans hx1, hide (show ((L.take (k + 1)).any fun l => !(dD s.edges n l).isEmpty) = false by rw [htk.out, List.any_append, hno.out]; simpa using Hb.out)⟩
        case measure => simp [intOf]; omega
      · have Hb := hide hb
        have hany := hide (show (L.any fun l => !(dD s.edges n l).isEmpty) = true from List.any_eq_true.2 ⟨l, hmem, hb⟩)
        clear hb
        go_wp2_with (go_at_call 41; refine hcall.out.mono ?_; rw [Hb.out]; rintro e w1 ⟨rfl, hx1⟩)
        go_ret
        exact ⟨k, rfl, (show Hid _ from by rw [hany.out]; exact decide_eq_true (by omega)), hxr.trans hx1⟩
    · obtain rfl : k = q := by omega
      have hall := hide (show (L.any fun l => !(dD s.edges n l).isEmpty) = false by have := hno.out; rwa [List.take_of_length_le (by have := hqL.out; omega)] at this)
      go_wp2
      go_ret
      exact ⟨-1, rfl, (show Hid _ from by rw [hall.out]; rfl), hxr⟩
theorem dc_contains {al p n g3 : Nat} (h : DC w gl gp g lo hi q cL n0 c0 AL A0 a b L s) (hT : Tab w) (h3 : Blk w g3 3 #[.int .i64 (n : Nat)]) (hf : Few p s.edges) (hal : s.al = al) (hal2 : al < 64) (hst : s.st = p) (hp1 : 1 ≤ p) (hp : p ≤ 16) (hn : n < p) (hL : L = letters al 6) :
    Calls Tryd.prog 40 #[.slice AL q cL, .func (.func 41) #[] #[.pointer (some ⟨gp, 0, none⟩), .pointer (some ⟨g3, 0, none⟩)]] w fun e w' => e = .returned (.bool (L.any fun l => !(dD s.edges n l).isEmpty)) ∧ Ext w w' := by
  have key := hide (dc_index h hT h3 hf hal hal2 hst hp1 hp hn hL)
  clear h hT h3 hf hal hst hL
  generalize (L.any fun l => !(dD s.edges n l).isEmpty) = bb at *
  go_enter Tryd.func40, Tryd.ntmps40
  go_wp2_with (go_at_call 66; refine key.out.mono ?_; rintro e w1 ⟨r, rfl, hr, hx1⟩)
  go_ret
  exact ⟨ret_bool (by rw [← hr.out]), hx1⟩
theorem dc_stuck {al p n : Nat} (h : DC w gl gp g lo hi q cL n0 c0 AL A0 a b L s) (hT : Tab w) (hf : Few p s.edges) (hal : s.al = al) (hal2 : al < 64) (hst : s.st = p) (hp1 : 1 ≤ p) (hp : p ≤ 16) (hn : n < p) (hL : L = letters al 6) :
    Calls Tryd.prog 39 #[.int .i64 (n : Nat), .pointer (some ⟨gl, 0, none⟩), .pointer (some ⟨gp, 0, none⟩)] w fun e w' => e = .returned (.bool (stuckB s.edges L n)) ∧ Ext w w' := by
  have hx := (Ext.refl w).alloc (.cells #[.int .i64 (n : Nat)] 3)
  have h3 := Blk.new w 3 #[.int .i64 (n : Nat)]
  have key := hide (dc_contains (h.ext hx) (hT.ext hx) h3 hf hal hal2 hst hp1 hp hn hL)
  have hlc := (h.hl.ext hx).cell
  clear h hT h3 hf hal hst hL
  unfold stuckB
  generalize (L.any fun l => !(dD s.edges n l).isEmpty) = bb at *
  go_enter Tryd.func39, Tryd.ntmps39
  go_wp2_with (go_at_call 40; refine key.out.mono ?_; rintro e w1 ⟨rfl, hx1⟩)
  go_ret
  exact ⟨rfl, hx.trans hx1⟩
end
end Go.Proofs.YtbifoikcmjmdeaaDoor

namespace Go.Proofs.YtbifoikcmjmdeaaDoor
open Go Go.RowKit
set_option maxHeartbeats 4000000

set_option maxRecDepth 100000 in
theorem deadlock_one {w : World} {g lo hi al p n0 c0 : Nat} {A0 : Option Addr} {s : Sys} (h : One1 w g lo hi A0 n0 c0 s) (hT : Tab w) (hv : sysValid s = true) (hal : s.al = al) (hal2 : al < 64) (hst : s.st = p) (hp1 : 1 ≤ p) (hp : p ≤ 16) (hf : Few p s.edges) :
    Calls Tryd.prog 22 #[.slice (some ⟨g, 0, none⟩) 1 1] w (RetPath w (dD s.edges) [0] (stuckB s.edges (letters al 6)) (letters al 6)) := by
  have H := hide (fun W (hW : Ext w W) => h.ext hW)
  have HTab := hide (fun W (hW : Ext w W) => hT.ext hW)
  have Hv := hide hv
  have Hal := hide hal
  have Hst := hide hst
  have Hf := hide hf
  clear h hT hv hal hst hf
  go_enter Tryd.func22, Tryd.ntmps22
  go_wp2_with fail
  refine (areParts_one (H.out _ (Ext.refl w)) Hv.out).mono ?_
  rintro e w1 ⟨rfl, hx1⟩
  go_wp2_with fail
  refine (newParts_one (H.out _ hx1) (fun e he => by have := Hf.out e he; omega)).mono ?_
  rintro e w2 ⟨v, rfl, hP, hx2⟩
  obtain ⟨b, rfl⟩ : ∃ b, v = .agg #[.slice (some ⟨g, 0, none⟩) 1 1, b] := by
    obtain ⟨gm, cap, bm, e, _⟩ := hP
    exact ⟨_, e⟩
  obtain ⟨gm, cap, rfl⟩ : ∃ gm cap, b = .slice (some ⟨gm, 0, none⟩) 1 cap := by
    obtain ⟨gm, cap, bm, e, _⟩ := hP
    exact ⟨gm, cap, by simpa using e⟩
  have hxw2 := hx1.trans hx2
  have hp3 := Blk.new w2 52 #[.slice (some ⟨g, 0, none⟩) 1 1, .slice (some ⟨gm, 0, none⟩) 1 cap]
  have hxa := (Ext.refl w2).alloc (.cells #[.slice (some ⟨g, 0, none⟩) 1 1, .slice (some ⟨gm, 0, none⟩) 1 cap] 52)
  go_upto_region 4 with fail
  replace hxw2 := hxw2.trans hxa
  replace hP := hP.ext hxa
  generalize w2.alloc (.cells #[.slice (some ⟨g, 0, none⟩) 1 1, .slice (some ⟨gm, 0, none⟩) 1 cap] 52) = w3 at *
  generalize w2.heap.size = gp at *
  clear hx1 hx2 hxa
  go_wp2_with fail
  refine (PartsAlphabet_one (H.out _ hxw2) Hv.out Hal.out hal2).mono ?_
  rintro e w4 ⟨rfl, hx4⟩
  go_wp2_with fail
  refine (impl_lettersOf al (by unfold Sm; omega) _).mono ?_
  rintro e w5 ⟨AL, cL, rfl, hownL, hx5⟩
  obtain ⟨q, hq⟩ : ∃ q, Hid (q = (letters al 6).length) := ⟨_, rfl⟩
  rw [← hq.out] at hownL ⊢
  have hx35 := hx4.trans hx5
  replace hP := hP.ext hx35
  replace hp3 := hp3.ext hx35
  replace hxw2 := hxw2.trans hx35
  have hIL := IntsAt.own hownL
  clear hx4 hx5 hx35 hownL
  have hxa := (Ext.refl w5).alloc (.cells #[.slice AL q cL] 33)
  have hl6 := Blk.new w5 33 #[.slice AL q cL]
  go_upto_region 6 with fail
  replace hxw2 := hxw2.trans hxa
  replace hP := hP.ext hxa
  replace hp3 := hp3.ext hxa
  replace hIL := hIL.ext hxa
  generalize w5.alloc (.cells #[.slice AL q cL] 33) = w6 at *
  generalize w5.heap.size = gl at *
  clear hxa
  have hDC : DC w6 gl gp g lo hi q cL n0 c0 AL A0 (.slice (some ⟨g, 0, none⟩) 1 1) (.slice (some ⟨gm, 0, none⟩) 1 cap) (letters al 6) s := ⟨hp3, hl6, hIL, hP, H.out _ hxw2⟩
  have hsz := hide (fun W (hW : Ext w6 W) => partsSize_one (v := .slice (some ⟨gm, 0, none⟩) 1 cap) ((H.out _ hxw2).ext hW) Hst.out hp)
  have key := hide (fun W (hW : Ext w6 W) A1 c1 (hA : IntsAt W A1 1 [0]) => firstPath_pre (w := W) (N := p) (kn := 42) (kg := 39) (m := 1) (c := c1) (AL := AL) (q := q) (cL := cL) (pren := #[.agg #[.slice (some ⟨g, 0, none⟩) 1 1, .slice (some ⟨gm, 0, none⟩) 1 cap]]) (capn := #[]) (capg := #[.pointer (some ⟨gl, 0, none⟩), .pointer (some ⟨gp, 0, none⟩)]) (goal := stuckB s.edges (letters al 6)) (d := dD s.edges) (start := [0]) (D := 32) hA (fun n hn => by rw [List.mem_singleton.1 hn]; omega) (by omega) (hIL.ext hW) (letters_rise al) (by omega) (by omega) (fun _ _ => rfl) (fun _ _ => rfl)
    (fun W' hW' n hn => dc_stuck (hDC.ext (hW.trans hW')) (HTab.out _ (hxw2.trans (hW.trans hW'))) Hf.out Hal.out hal2 Hst.out hp1 hp hn rfl)
    (fun n l hn hl => ⟨letters_length _ 32, fun x hx => (E_lt Hf.out ((dD_mem hp Hf.out).1 hx)).2⟩)
    (fun W' hW' n l hn hl base A m c xs hb0 hb hm hown => next_one ((H.out _ hxw2).ext (hW.trans hW')) (hP.ext (hW.trans hW')) (HTab.out _ (hxw2.trans (hW.trans hW'))) Hf.out Hal.out hal2 Hst.out hp1 hp hn hl hb hm hown))
  have k4 : ∀ W, Ext w6 W → ∀ i, W.cell? ⟨gp, i, none⟩ = #[Value.slice (some ⟨g, 0, none⟩) 1 1, .slice (some ⟨gm, 0, none⟩) 1 cap][i]? := fun W hW => (hp3.ext hW).cell
  have k5 : ∀ W, Ext w6 W → ∀ i, W.cell? ⟨gl, i, none⟩ = #[Value.slice AL q cL][i]? := fun W hW => (hl6.ext hW).cell
  have hww := Ext.refl w6
  clear hDC hP hp3 hl6 hIL
  generalize letters al 6 = L at *
  refine wp_region_tailU (fun X => Ext w6 X) [7] (OrdU.app [0, 3, 4, 5, 6] (OrdU.two 1 (OrdU.of [2, 7, 8, 9, 10, 11]) 2 (OrdU.of [1, 7, 8, 9, 10, 11]))) (by kernel_rfl) (by kernel_rfl) (by kernel_rfl) (by kernel_rfl) (by kernel_rfl) (fun _ _ _ _ _ h => h) (by first | assumption | exact (Ext.refl _).drew | (refine Ext.drew ?_; assumption)) ?_
  repeat (first | (refine useq_skip rfl rfl (by assumption) ?_; simp only [Act.put, List.setIfInBounds_toArray, List.set_cons_zero, List.set_cons_succ]) | (refine useq_pure (v := ?_) rfl rfl rfl rfl (fun X => ?_) ?_; rotate_left; (focus (go_simp <;> with_reducible rfl)); simp only [Act.put, List.setIfInBounds_toArray, List.set_cons_zero, List.set_cons_succ]) | (refine useq_read (v := ?_) rfl rfl rfl rfl (fun X hX => ?_) ?_; rotate_left; (focus (go_simp <;> with_reducible rfl)); simp only [Act.put, List.setIfInBounds_toArray, List.set_cons_zero, List.set_cons_succ]))
  have hx4 : Ext w6 w6.drew := hww.drew
  generalize w6.drew = wd at *
  refine useq_both rfl rfl rfl rfl (fun K hK => ?_) (fun K hK => ?_)
  · go_simp
    refine (hsz.out _ hx4).mono ?_
    rintro e w7 ⟨rfl, hx7⟩
    replace hx4 := hx4.trans hx7
    refine hK.out _ _ hx4 ?_
    (try simp only [Act.put, List.setIfInBounds_toArray, List.set_cons_zero, List.set_cons_succ])
    (refine useq_step rfl rfl rfl (fun K hK => ?_); go_simp)
    have hb := Blk.new w7 3 #[.int .i64 0]
    replace hx4 := hx4.alloc (.cells #[.int .i64 0] 3)
    refine hK.out _ _ hx4 ?_
    generalize w7.alloc (.cells #[.int .i64 0] 3) = w8 at *
    generalize w7.heap.size = g1 at *
    have hI : IntsAt w8 (some ⟨g1, 0, none⟩) 1 [0] := one_at (x := 0) hb
    (try simp only [Act.put, List.setIfInBounds_toArray, List.set_cons_zero, List.set_cons_succ])
    repeat (first | (refine useq_skip rfl rfl (by assumption) ?_; simp only [Act.put, List.setIfInBounds_toArray, List.set_cons_zero, List.set_cons_succ]) | (refine useq_pure (v := ?_) rfl rfl rfl rfl (fun X => ?_) ?_; rotate_left; (focus (go_simp <;> with_reducible rfl)); simp only [Act.put, List.setIfInBounds_toArray, List.set_cons_zero, List.set_cons_succ]) | (refine useq_read (v := ?_) rfl rfl rfl rfl (fun X hX => ?_) ?_; rotate_left; (focus (go_simp <;> with_reducible rfl)); simp only [Act.put, List.setIfInBounds_toArray, List.set_cons_zero, List.set_cons_succ]))
    (refine useq_step rfl rfl rfl (fun K hK => ?_); go_simp)
    refine (key.out _ hx4 _ _ hI).mono ?_
    rintro e w9 ⟨hx9, hcase⟩
    replace hx4 := hx4.trans hx9
    have hfin := hxw2.trans hx4
    rcases hcase with ⟨v, rfl, hF⟩ | ⟨rfl, hF⟩
    · have hF' := hide hF
      clear hF
      refine hK.out _ _ hx4 ?_
      (try simp only [Act.put, List.setIfInBounds_toArray, List.set_cons_zero, List.set_cons_succ])
      repeat (first | (refine useq_skip rfl rfl (by assumption) ?_; simp only [Act.put, List.setIfInBounds_toArray, List.set_cons_zero, List.set_cons_succ]) | (refine useq_pure (v := ?_) rfl rfl rfl rfl (fun X => ?_) ?_; rotate_left; (focus (go_simp <;> with_reducible rfl)); simp only [Act.put, List.setIfInBounds_toArray, List.set_cons_zero, List.set_cons_succ]) | (refine useq_read (v := ?_) rfl rfl rfl rfl (fun X hX => ?_) ?_; rotate_left; (focus (go_simp <;> with_reducible rfl)); simp only [Act.put, List.setIfInBounds_toArray, List.set_cons_zero, List.set_cons_succ]))
      refine useq_nil ?_
      go_wp2_with fail
      go_ret2
      exact ⟨hfin, Or.inl ⟨v, rfl, hF'.out⟩⟩
    · have hF' := hide hF
      clear hF
      refine hK.out _ _ hx4 ?_
      (try simp only [Act.put, List.setIfInBounds_toArray, List.set_cons_zero, List.set_cons_succ])
      repeat (first | (refine useq_skip rfl rfl (by assumption) ?_; simp only [Act.put, List.setIfInBounds_toArray, List.set_cons_zero, List.set_cons_succ]) | (refine useq_pure (v := ?_) rfl rfl rfl rfl (fun X => ?_) ?_; rotate_left; (focus (go_simp <;> with_reducible rfl)); simp only [Act.put, List.setIfInBounds_toArray, List.set_cons_zero, List.set_cons_succ]) | (refine useq_read (v := ?_) rfl rfl rfl rfl (fun X hX => ?_) ?_; rotate_left; (focus (go_simp <;> with_reducible rfl)); simp only [Act.put, List.setIfInBounds_toArray, List.set_cons_zero, List.set_cons_succ]))
      refine useq_nil ?_
      go_wp2_with fail
      go_ret2
      exact ⟨hfin, Or.inr ⟨rfl, hF'.out⟩⟩
  · go_simp
    have hb := Blk.new wd 3 #[.int .i64 0]
    replace hx4 := hx4.alloc (.cells #[.int .i64 0] 3)
    refine hK.out _ _ hx4 ?_
    generalize wd.alloc (.cells #[.int .i64 0] 3) = w7 at *
    generalize wd.heap.size = g1 at *
    (try simp only [Act.put, List.setIfInBounds_toArray, List.set_cons_zero, List.set_cons_succ])
    (refine useq_step rfl rfl rfl (fun K hK => ?_); go_simp)
    refine (hsz.out _ hx4).mono ?_
    rintro e w8 ⟨rfl, hx7⟩
    replace hx4 := hx4.trans hx7
    have hI : IntsAt w8 (some ⟨g1, 0, none⟩) 1 [0] := one_at (x := 0) (hb.ext hx7)
    refine hK.out _ _ hx4 ?_
    (try simp only [Act.put, List.setIfInBounds_toArray, List.set_cons_zero, List.set_cons_succ])
    repeat (first | (refine useq_skip rfl rfl (by assumption) ?_; simp only [Act.put, List.setIfInBounds_toArray, List.set_cons_zero, List.set_cons_succ]) | (refine useq_pure (v := ?_) rfl rfl rfl rfl (fun X => ?_) ?_; rotate_left; (focus (go_simp <;> with_reducible rfl)); simp only [Act.put, List.setIfInBounds_toArray, List.set_cons_zero, List.set_cons_succ]) | (refine useq_read (v := ?_) rfl rfl rfl rfl (fun X hX => ?_) ?_; rotate_left; (focus (go_simp <;> with_reducible rfl)); simp only [Act.put, List.setIfInBounds_toArray, List.set_cons_zero, List.set_cons_succ]))
    (refine useq_step rfl rfl rfl (fun K hK => ?_); go_simp)
    refine (key.out _ hx4 _ _ hI).mono ?_
    rintro e w9 ⟨hx9, hcase⟩
    replace hx4 := hx4.trans hx9
    have hfin := hxw2.trans hx4
    rcases hcase with ⟨v, rfl, hF⟩ | ⟨rfl, hF⟩
    · have hF' := hide hF
      clear hF
      refine hK.out _ _ hx4 ?_
      (try simp only [Act.put, List.setIfInBounds_toArray, List.set_cons_zero, List.set_cons_succ])
      repeat (first | (refine useq_skip rfl rfl (by assumption) ?_; simp only [Act.put, List.setIfInBounds_toArray, List.set_cons_zero, List.set_cons_succ]) | (refine useq_pure (v := ?_) rfl rfl rfl rfl (fun X => ?_) ?_; rotate_left; (focus (go_simp <;> with_reducible rfl)); simp only [Act.put, List.setIfInBounds_toArray, List.set_cons_zero, List.set_cons_succ]) | (refine useq_read (v := ?_) rfl rfl rfl rfl (fun X hX => ?_) ?_; rotate_left; (focus (go_simp <;> with_reducible rfl)); simp only [Act.put, List.setIfInBounds_toArray, List.set_cons_zero, List.set_cons_succ]))
      refine useq_nil ?_
      go_wp2_with fail
      go_ret2
      exact ⟨hfin, Or.inl ⟨v, rfl, hF'.out⟩⟩
    · have hF' := hide hF
      clear hF
      refine hK.out _ _ hx4 ?_
      (try simp only [Act.put, List.setIfInBounds_toArray, List.set_cons_zero, List.set_cons_succ])
      repeat (first | (refine useq_skip rfl rfl (by assumption) ?_; simp only [Act.put, List.setIfInBounds_toArray, List.set_cons_zero, List.set_cons_succ]) | (refine useq_pure (v := ?_) rfl rfl rfl rfl (fun X => ?_) ?_; rotate_left; (focus (go_simp <;> with_reducible rfl)); simp only [Act.put, List.setIfInBounds_toArray, List.set_cons_zero, List.set_cons_succ]) | (refine useq_read (v := ?_) rfl rfl rfl rfl (fun X hX => ?_) ?_; rotate_left; (focus (go_simp <;> with_reducible rfl)); simp only [Act.put, List.setIfInBounds_toArray, List.set_cons_zero, List.set_cons_succ]))
      refine useq_nil ?_
      go_wp2_with fail
      go_ret2
      exact ⟨hfin, Or.inr ⟨rfl, hF'.out⟩⟩
end Go.Proofs.YtbifoikcmjmdeaaDoor
