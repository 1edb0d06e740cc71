/- Validity of systems, the reference's own. | impl.sameAlphabets and spec.l6Comparable, walked. | Plain: the nodes to which a letter leads in systems that run together. No program in sight. | A region that draws its order and ends in stores: walked in one order; what is behind all that reads (the tail) may turn what was read. It holds of every program, without conditions. | 'append(s, xs...)': a slice that came in is appended to one of the call's own. It holds of every program, without conditions. | The laying of slices.Sort at numbers (printed by wip/gen_lay2.py for the numbers of ONE seat). | slices.Sort at numbers, by the library's own contract (its laying: XSortIL). | A map over numbers that the call has made, as a function; the laws at its operations. -/
import Derived.Test.YtcmgkekaeafgaaaDoorG03
import Derived.Test.YtcmgkekaeafgaaaDoorG01
import Derived.Deep.AppendLies
import Derived.Shelf.Sort.Plain
import Derived.Maps.OwnSet
import Derived.Maps.OwnOps
namespace Go.Proofs.YtcmgkekaeafgaaaDoor
open Go Go.RowKit
set_option maxHeartbeats 4000000

theorem spec_l2Edge {al : Nat} {st : Int} {e : Edg} {w : World} (hsm : Sm al) :
    Calls Tryd.prog 72 #[.int .i64 al, .int .i64 st, .agg #[.int .i64 e.fr, .int .i64 e.le, .int .i64 e.to]] w fun r w' => r = .returned (.bool (edgB al st e)) ∧ Ext w w' := by
  have Hv := hide (show edgB al st e = ((decide (0 ≤ e.fr) && decide (e.fr < st)) && ((decide (0 ≤ e.to) && decide (e.to < st)) && (decide (e.le < 6) && hasB al e.le))) from rfl)
  by_cases h0 : e.fr < 0
  · go_enter Tryd.func72, Tryd.ntmps72
    go_wp2
    go_ret
    exact ⟨ret_bool (by rw [Hv.out]; simp; omega), (Ext.refl _).alloc _⟩
  · by_cases h1 : st ≤ e.fr
    · go_enter Tryd.func72, Tryd.ntmps72
      go_wp2
      go_ret
      exact ⟨ret_bool (by rw [Hv.out]; simp; omega), (Ext.refl _).alloc _⟩
    · by_cases h2 : e.to < 0
      · go_enter Tryd.func72, Tryd.ntmps72
        go_wp2
        go_ret
        exact ⟨ret_bool (by rw [Hv.out]; simp; omega), (Ext.refl _).alloc _⟩
      · by_cases h3 : st ≤ e.to
        · go_enter Tryd.func72, Tryd.ntmps72
          go_wp2
          go_ret
          exact ⟨ret_bool (by rw [Hv.out]; simp; omega), (Ext.refl _).alloc _⟩
        · by_cases h4 : 0 ≤ e.le
          · by_cases h5 : e.le < 6
            · obtain ⟨le, hle⟩ : ∃ le : Nat, Hid (e.le = le) := ⟨e.le.toNat, by unfold Hid; omega⟩
              have hl6 : (le : Int) < 6 := by have := hle.out; omega
              clear h4 h5
              rw [hle.out]
              go_enter Tryd.func72, Tryd.ntmps72
              go_wp2_with (go_at_call 25; refine (spec_l1Has al le hsm _ (by omega)).mono ?_; rintro r w' ⟨rfl, rfl⟩)
              go_ret
              exact ⟨ret_bool (by rw [Hv.out, hle.out, decide_eq_true (show 0 ≤ e.fr by omega), decide_eq_true (show e.fr < st by omega), decide_eq_true (show 0 ≤ e.to by omega), decide_eq_true (show e.to < st by omega), decide_eq_true hl6]; simp [hasB]), (Ext.refl _).alloc _⟩
            · go_enter Tryd.func72, Tryd.ntmps72
              go_wp2_with fail
              go_ret
              exact ⟨ret_bool (by rw [Hv.out]; simp; omega), (Ext.refl _).alloc _⟩
          · go_enter Tryd.func72, Tryd.ntmps72
            go_wp2_with fail
            go_ret
            exact ⟨ret_bool (by rw [Hv.out]; simp [hasB]; omega), (Ext.refl _).alloc _⟩

theorem spec_l2Before {a b : Edg} {w : World} :
    Calls Tryd.prog 63 #[.agg #[.int .i64 a.fr, .int .i64 a.le, .int .i64 a.to], .agg #[.int .i64 b.fr, .int .i64 b.le, .int .i64 b.to]] w fun e w' => e = .returned (.bool (ltE a b)) ∧ Ext w w' := by
  have Hv := hide (show ltE a b = if a.fr = b.fr then if a.le = b.le then decide (a.to < b.to) else decide (a.le < b.le) else decide (a.fr < b.fr) from rfl)
  have hx : Ext w ((w.alloc (.cells #[Value.int .i64 a.fr, .int .i64 a.le, .int .i64 a.to] 65)).alloc (.cells #[Value.int .i64 b.fr, .int .i64 b.le, .int .i64 b.to] 65)) := ((Ext.refl _).alloc _).alloc _
  have Hx := hide hx
  clear hx
  by_cases h0 : a.fr = b.fr
  · have n0 : (a.fr != b.fr) = false := by simp [h0]
    have H0 := hide h0
    clear h0
    by_cases h1 : a.le = b.le
    · have n1 : (a.le != b.le) = false := by simp [h1]
      have H1 := hide h1
      clear h1
      go_enter Tryd.func63, Tryd.ntmps63
      go_wp2
      go_ret
      exact ⟨ret_bool (by rw [Hv.out, if_pos H0.out, if_pos H1.out]), Hx.out⟩
    · have n1 : (a.le != b.le) = true := by simp [h1]
      go_enter Tryd.func63, Tryd.ntmps63
      go_wp2
      go_ret
      exact ⟨ret_bool (by rw [Hv.out, if_pos H0.out, if_neg h1]), Hx.out⟩
  · have n0 : (a.fr != b.fr) = true := by simp [h0]
    go_enter Tryd.func63, Tryd.ntmps63
    go_wp2
    go_ret
    exact ⟨ret_bool (by rw [Hv.out, if_neg h0]), Hx.out⟩

theorem spec_SystemValid {lo hi : Nat} {A : Option Addr} {n c : Nat} {s : Sys} {w : World} (h : SysAt w lo hi A n s) :
    Calls Tryd.prog 41 #[.agg #[.int .i64 s.al, .int .i64 s.st, .slice A n c]] w fun e w' => e = .returned (.bool (sysValid s)) ∧ Ext w w' := by
  have Hv := hide (show sysValid s = (decide (0 ≤ s.al ∧ s.al ≤ 63) && (decide (1 ≤ s.st ∧ s.st ≤ 16) && (List.range n).all (edgeOK s.al.toNat s.st s.edges))) by unfold sysValid; rw [← h.1])
  have hn := h.2.len
  by_cases hal : 0 ≤ s.al ∧ s.al ≤ 63
  · by_cases hst : 1 ≤ s.st ∧ s.st ≤ 16
    · obtain ⟨al, hal'⟩ : ∃ al : Nat, Hid (s.al = al) := ⟨s.al.toNat, by unfold Hid; omega⟩
      have hsm : Sm al := by have := hal'.out; unfold Sm; omega
      have hd := hide (show decide (0 ≤ (al : Int) ∧ (al : Int) ≤ 63) = true by have := hal'.out; simp; omega)
      rw [hal'.out]
      rw [hal'.out, Int.toNat_natCast] at Hv
      clear hal
      have hd1 : decide (s.st < 1) = false := by simp; omega
      have hd2 : decide (16 < s.st) = false := by simp; omega
      obtain ⟨st, hst', hs1, hs2⟩ : ∃ st : Int, Hid (s.st = st) ∧ 1 ≤ st ∧ st ≤ 16 := ⟨s.st, hide rfl, hst.1, hst.2⟩
      rw [hst'.out] at hd1 hd2 Hv ⊢
      clear hst
      have hR := fun W (hW : Ext w W) => h.2.ext hW
      have HR := hide hR
      clear hR
      go_enter Tryd.func41, Tryd.ntmps41
      go_wp2_with (go_at_call 71; refine (spec_l1Alphabet _ _).mono ?_; rw [hd.out]; rintro e w' ⟨rfl, rfl⟩)
      go_loopw [3] (fun i wr => ∃ k : Nat, k ≤ n ∧ i = .int .i64 k ∧ Hid (((List.range n).take k).all (edgeOK al st s.edges) = true) ∧ Ext (w.alloc (.cells #[Value.int .i64 al, .int .i64 st, Value.slice A n c] 25)) wr)
        (fun i _ => n - (intOf i).toNat)
      case atStart => exact ⟨0, Nat.zero_le _, rfl, rfl, Ext.refl _⟩
      case round =>
        obtain ⟨k, hk, rfl, hall, hext⟩ := hrel
        have hbx := ext_box hext
        by_cases hlt : k < n
        · obtain ⟨b, o, e, rfl, hlo, hhi, he, c0, c1, c2⟩ := (HR.out wr (((Ext.refl _).alloc _).trans hext)).edge hlt
          go_wp2_with fail
          clear hbx
          have e0 : ∀ X, Ext wr X → ∀ j, X.cell? ⟨w.heap.size, j, none⟩ = #[Value.int .i64 al, .int .i64 st, Value.slice (some ⟨b, o, none⟩) n c][j]? := fun X hX => ext_box (hext.trans hX)
          have q0 : ∀ X, Ext wr X → X.cell? ⟨b, o + k * 3, none⟩ = some (.int .i64 e.fr) := fun X hX => hX.cell_some c0
          have q1 : ∀ X, Ext wr X → X.cell? ⟨b, o + k * 3 + 1, none⟩ = some (.int .i64 e.le) := fun X hX => hX.cell_some c1
          have q2 : ∀ X, Ext wr X → X.cell? ⟨b, o + k * 3 + 2, none⟩ = some (.int .i64 e.to) := fun X hX => hX.cell_some c2
          have hr := Ext.refl wr
          clear c0 c1 c2
          have hfin : ∀ X, Ext wr X → Ext w X := fun X hX => (((Ext.refl _).alloc _).trans hext).trans hX
          have Hfin := hide hfin
          clear hfin
          have hk0' : (0 : Int) ≤ (k : Int) := by omega
          have hk1' : (k : Int) < (n : Int) := by omega
          have hge : (List.range n)[k]? = some k := by rw [List.getElem?_range hlt]
          have Hge := hide hge
          clear hge
          cases hA' : edgB al st e
          · have hA := hide hA'
            clear hA'
            refine wp_region_ord (fun X => Ext wr X) [0, 1, 2, 3, 4, 5, 6, 7, 8, 9, 10, 11, 12, 13, 14, 15, 16, 17, 18, 19, 20, 21, 22, 23, 24, 25, 26, 27, 28, 29] (by kernel_rfl) rfl (by kernel_rfl) (by kernel_rfl) (fun _ _ _ _ _ h => h) ((Ext.refl _).drew) (fun hS => ?_)
            repeat (first | (refine seq_skip rfl rfl (by assumption) ?_; simp only [Act.put, List.setIfInBounds_toArray, List.set_cons_zero, List.set_cons_succ]) | (refine seq_read (v := ?_) rfl rfl rfl (fun X hX => ?_) (by assumption) ?_; rotate_left; (focus (go_simp <;> with_reducible rfl)); simp only [Act.put, List.setIfInBounds_toArray, List.set_cons_zero, List.set_cons_succ]))
            refine seq_step rfl rfl rfl (fun K hK => ?_)
            go_simp
            refine (spec_l2Edge (e := e) hsm).mono ?_
            rw [hA.out]; rintro r w2 ⟨rfl, hx2⟩
            refine hK.out _ _ (Ext.trans (by assumption) hx2) (fun hS => ?_)
            try simp only [Act.put, List.setIfInBounds_toArray, List.set_cons_zero, List.set_cons_succ]
            repeat (first | (refine seq_skip rfl rfl (by assumption) ?_; simp only [Act.put, List.setIfInBounds_toArray, List.set_cons_zero, List.set_cons_succ]) | (refine seq_read (v := ?_) rfl rfl rfl (fun X hX => ?_) (by assumption) ?_; rotate_left; (focus (go_simp <;> with_reducible rfl)); simp only [Act.put, List.setIfInBounds_toArray, List.set_cons_zero, List.set_cons_succ]))
            refine seq_nil ?_
            go_wp2_with fail
            go_ret
            exact ⟨ret_bool (by rw [Hv.out, all_stop Hge.out (by rw [edgeOK, he.out]; dsimp only; rw [hA.out]; simp)]; simp), Hfin.out _ (by assumption)⟩
          · have hA := hide hA'
            clear hA'
            by_cases hk0 : k = 0
            · subst hk0
              simp only [Nat.zero_mul, Nat.add_zero] at q0 q1 q2
              refine wp_region_ord (fun X => Ext wr X) [0, 1, 2, 3, 4, 5, 6, 7, 8, 9, 10, 11, 12, 13, 14, 15, 16, 17, 18, 19, 20, 21, 22, 23, 24, 25, 26, 27, 28, 29] (by kernel_rfl) rfl (by kernel_rfl) (by kernel_rfl) (fun _ _ _ _ _ h => h) ((Ext.refl _).drew) (fun hS => ?_)
              repeat (first | (refine seq_skip rfl rfl (by assumption) ?_; simp only [Act.put, List.setIfInBounds_toArray, List.set_cons_zero, List.set_cons_succ]) | (refine seq_read (v := ?_) rfl rfl rfl (fun X hX => ?_) (by assumption) ?_; rotate_left; (focus (go_simp <;> with_reducible rfl)); simp only [Act.put, List.setIfInBounds_toArray, List.set_cons_zero, List.set_cons_succ]))
              refine seq_step rfl rfl rfl (fun K hK => ?_)
              go_simp
              refine (spec_l2Edge (e := e) hsm).mono ?_
              rw [hA.out]; rintro r w2 ⟨rfl, hx2⟩
              refine hK.out _ _ (Ext.trans (by assumption) hx2) (fun hS => ?_)
              try simp only [Act.put, List.setIfInBounds_toArray, List.set_cons_zero, List.set_cons_succ]
              repeat (first | (refine seq_skip rfl rfl (by assumption) ?_; simp only [Act.put, List.setIfInBounds_toArray, List.set_cons_zero, List.set_cons_succ]) | (refine seq_read (v := ?_) rfl rfl rfl (fun X hX => ?_) (by assumption) ?_; rotate_left; (focus (go_simp <;> with_reducible rfl)); simp only [Act.put, List.setIfInBounds_toArray, List.set_cons_zero, List.set_cons_succ]))
              refine seq_nil ?_
              go_wp2_with fail
              go_roundw
              case rel => exact ⟨0 + 1, by omega, by go_num, all_step Hge.out hall.out (by rw [edgeOK, he.out]; dsimp only; rw [hA.out]; simp), hext.trans (by assumption)⟩
              case measure => simp [intOf]; omega
            · obtain ⟨j, rfl⟩ : ∃ j, k = j + 1 := ⟨k - 1, by omega⟩
              have hp : s.edges[j]? = some (s.edges[j]'(by have := h.1; omega)) := List.getElem?_eq_getElem _
              generalize s.edges[j]'(by have := h.1; omega) = p at hp
              have Hp := hide hp
              clear hp
              have hpc := (HR.out wr (((Ext.refl _).alloc _).trans hext)).edge2 Hp.out
              have p0 : ∀ X, Ext wr X → X.cell? ⟨b, o + j * 3, none⟩ = some (.int .i64 p.fr) := fun X hX => hX.cell_some hpc.1
              have p1 : ∀ X, Ext wr X → X.cell? ⟨b, o + j * 3 + 1, none⟩ = some (.int .i64 p.le) := fun X hX => hX.cell_some hpc.2.1
              have p2 : ∀ X, Ext wr X → X.cell? ⟨b, o + j * 3 + 2, none⟩ = some (.int .i64 p.to) := fun X hX => hX.cell_some hpc.2.2
              clear hpc
              have hk1 : decide ((0 : Int) < (j : Int) + 1) = true := decide_eq_true (by omega)
              have hw1 : IntKind.i64.wrap ((j : Int) + 1 - 1) = (j : Int) := by rw [IntKind.wrap_i64]; omega
              have hw2 : IntKind.i64.wrap (j : Int) = (j : Int) := by rw [IntKind.wrap_i64]; omega
              have hj0 : (0 : Int) ≤ (j : Int) := by omega
              have hj1 : (j : Int) < (n : Int) := by omega
              have hj2 : (0 : Int) ≤ (j : Int) + 1 := by omega
              have hj3 : (j : Int) + 1 < (n : Int) := by omega
              have hj4 : ((j : Int) + 1).toNat = j + 1 := by omega
              cases hnl' : ltE p e
              · have hnl := hide hnl'
                clear hnl'
                refine wp_region_ord (fun X => Ext wr X) [0, 1, 2, 3, 4, 5, 6, 7, 8, 9, 10, 11, 12, 13, 14, 15, 16, 17, 18, 19, 20, 21, 22, 23, 24, 25, 26, 27, 28, 29] (by kernel_rfl) rfl (by kernel_rfl) (by kernel_rfl) (fun _ _ _ _ _ h => h) ((Ext.refl _).drew) (fun hS => ?_)
                repeat (first | (refine seq_skip rfl rfl (by assumption) ?_; simp only [Act.put, List.setIfInBounds_toArray, List.set_cons_zero, List.set_cons_succ]) | (refine seq_read (v := ?_) rfl rfl rfl (fun X hX => ?_) (by assumption) ?_; rotate_left; (focus (go_simp <;> with_reducible rfl)); simp only [Act.put, List.setIfInBounds_toArray, List.set_cons_zero, List.set_cons_succ]))
                refine seq_step rfl rfl rfl (fun K hK => ?_)
                go_simp
                refine (spec_l2Edge (e := e) hsm).mono ?_
                rw [hA.out]; rintro r w2 ⟨rfl, hx2⟩
                refine hK.out _ _ (Ext.trans (by assumption) hx2) (fun hS => ?_)
                try simp only [Act.put, List.setIfInBounds_toArray, List.set_cons_zero, List.set_cons_succ]
                repeat (first | (refine seq_skip rfl rfl (by assumption) ?_; simp only [Act.put, List.setIfInBounds_toArray, List.set_cons_zero, List.set_cons_succ]) | (refine seq_read (v := ?_) rfl rfl rfl (fun X hX => ?_) (by assumption) ?_; rotate_left; (focus (go_simp <;> with_reducible rfl)); simp only [Act.put, List.setIfInBounds_toArray, List.set_cons_zero, List.set_cons_succ]))
                refine seq_step rfl rfl rfl (fun K hK => ?_)
                go_simp
                refine (spec_l2Before (a := p) (b := e)).mono ?_
                rw [hnl.out]; rintro r w3 ⟨rfl, hx3⟩
                refine hK.out _ _ (Ext.trans (by assumption) hx3) (fun hS => ?_)
                try simp only [Act.put, List.setIfInBounds_toArray, List.set_cons_zero, List.set_cons_succ]
                repeat (first | (refine seq_skip rfl rfl (by assumption) ?_; simp only [Act.put, List.setIfInBounds_toArray, List.set_cons_zero, List.set_cons_succ]) | (refine seq_read (v := ?_) rfl rfl rfl (fun X hX => ?_) (by assumption) ?_; rotate_left; (focus (go_simp <;> with_reducible rfl)); simp only [Act.put, List.setIfInBounds_toArray, List.set_cons_zero, List.set_cons_succ]))
                refine seq_nil ?_
                go_wp2_with fail
                go_ret
                exact ⟨ret_bool (by rw [Hv.out, all_stop Hge.out (by rw [edgeOK, he.out]; dsimp only; rw [Nat.add_sub_cancel, Hp.out]; simp [hnl.out])]; simp), Hfin.out _ (by assumption)⟩
              · have hnl := hide hnl'
                clear hnl'
                refine wp_region_ord (fun X => Ext wr X) [0, 1, 2, 3, 4, 5, 6, 7, 8, 9, 10, 11, 12, 13, 14, 15, 16, 17, 18, 19, 20, 21, 22, 23, 24, 25, 26, 27, 28, 29] (by kernel_rfl) rfl (by kernel_rfl) (by kernel_rfl) (fun _ _ _ _ _ h => h) ((Ext.refl _).drew) (fun hS => ?_)
                repeat (first | (refine seq_skip rfl rfl (by assumption) ?_; simp only [Act.put, List.setIfInBounds_toArray, List.set_cons_zero, List.set_cons_succ]) | (refine seq_read (v := ?_) rfl rfl rfl (fun X hX => ?_) (by assumption) ?_; rotate_left; (focus (go_simp <;> with_reducible rfl)); simp only [Act.put, List.setIfInBounds_toArray, List.set_cons_zero, List.set_cons_succ]))
                refine seq_step rfl rfl rfl (fun K hK => ?_)
                go_simp
                refine (spec_l2Edge (e := e) hsm).mono ?_
                rw [hA.out]; rintro r w2 ⟨rfl, hx2⟩
                refine hK.out _ _ (Ext.trans (by assumption) hx2) (fun hS => ?_)
                try simp only [Act.put, List.setIfInBounds_toArray, List.set_cons_zero, List.set_cons_succ]
                repeat (first | (refine seq_skip rfl rfl (by assumption) ?_; simp only [Act.put, List.setIfInBounds_toArray, List.set_cons_zero, List.set_cons_succ]) | (refine seq_read (v := ?_) rfl rfl rfl (fun X hX => ?_) (by assumption) ?_; rotate_left; (focus (go_simp <;> with_reducible rfl)); simp only [Act.put, List.setIfInBounds_toArray, List.set_cons_zero, List.set_cons_succ]))
                refine seq_step rfl rfl rfl (fun K hK => ?_)
                go_simp
                refine (spec_l2Before (a := p) (b := e)).mono ?_
                rw [hnl.out]; rintro r w3 ⟨rfl, hx3⟩
                refine hK.out _ _ (Ext.trans (by assumption) hx3) (fun hS => ?_)
                try simp only [Act.put, List.setIfInBounds_toArray, List.set_cons_zero, List.set_cons_succ]
                repeat (first | (refine seq_skip rfl rfl (by assumption) ?_; simp only [Act.put, List.setIfInBounds_toArray, List.set_cons_zero, List.set_cons_succ]) | (refine seq_read (v := ?_) rfl rfl rfl (fun X hX => ?_) (by assumption) ?_; rotate_left; (focus (go_simp <;> with_reducible rfl)); simp only [Act.put, List.setIfInBounds_toArray, List.set_cons_zero, List.set_cons_succ]))
                refine seq_nil ?_
                go_wp2_with fail
                go_roundw
                case rel => exact ⟨j + 1 + 1, by omega, by go_num, all_step Hge.out hall.out (by rw [edgeOK, he.out]; dsimp only; rw [Nat.add_sub_cancel, Hp.out, hA.out]; simp [hnl.out]), hext.trans (by assumption)⟩
                case measure => simp [intOf]; omega
        · obtain rfl : k = n := by omega
          go_wp2
          go_ret
          exact ⟨ret_bool (by rw [Hv.out, all_end (by simp) hall.out, hd.out]; simp; omega), ((Ext.refl _).alloc _).trans hext⟩
    · go_enter Tryd.func41, Tryd.ntmps41
      have hd := hide (show decide (0 ≤ s.al ∧ s.al ≤ 63) = true by simp; omega)
      go_wp2_with (go_at_call 71; refine (spec_l1Alphabet _ _).mono ?_; rw [hd.out]; rintro e w' ⟨rfl, rfl⟩)
      all_goals go_ret
      all_goals exact ⟨ret_bool (by rw [Hv.out]; simp [hst]), (Ext.refl _).alloc _⟩
  · go_enter Tryd.func41, Tryd.ntmps41
    have hd := hide (show decide (0 ≤ s.al ∧ s.al ≤ 63) = false by simp; omega)
    go_wp2_with (go_at_call 71; refine (spec_l1Alphabet _ _).mono ?_; rw [hd.out]; rintro e w' ⟨rfl, rfl⟩)
    go_ret
    exact ⟨ret_bool (by rw [Hv.out]; simp; omega), (Ext.refl _).alloc _⟩
end Go.Proofs.YtcmgkekaeafgaaaDoor

namespace Go.Proofs.YtcmgkekaeafgaaaDoor
open Go Go.RowKit
set_option maxHeartbeats 1000000

/-- Two valid systems over one alphabet. -/
def sameB (s t : Sys) : Bool := sysValid s && (sysValid t && s.al == t.al)
theorem impl_sameAlphabets {lo hi lo' hi' : Nat} {A : Option Addr} {n c : Nat} {B : Option Addr} {m d : Nat} {s t : Sys} {w : World} (h : SysAt w lo hi A n s) (h' : SysAt w lo' hi' B m t) :
    Calls Tryd.prog 21 #[.agg #[.int .i64 s.al, .int .i64 s.st, .slice A n c], .agg #[.int .i64 t.al, .int .i64 t.st, .slice B m d]] w fun e w' => e = .returned (.bool (sameB s t)) ∧ Ext w w' := by
  have HS := hide (fun W (hW : Ext w W) => h.ext hW)
  have HT := hide (fun W (hW : Ext w W) => h'.ext hW)
  clear h h'
  cases h1 : sysValid s
  · have H1 := hide h1
    clear h1
    go_enter Tryd.func21, Tryd.ntmps21
    go_wp2_with (go_at_call 33; refine (impl_SystemValid (HS.out _ (((Ext.refl _).alloc _).alloc _))).mono ?_; rw [H1.out]; rintro e w1 ⟨rfl, hx⟩)
    go_ret
    exact ⟨ret_bool (by unfold sameB; rw [H1.out]; rfl), (((Ext.refl _).alloc _).alloc _).trans hx⟩
  · have H1 := hide h1
    clear h1
    cases h2 : sysValid t
    · have H2 := hide h2
      clear h2
      go_enter Tryd.func21, Tryd.ntmps21
      go_wp2_with fail
      refine (impl_SystemValid (HS.out _ (((Ext.refl _).alloc _).alloc _))).mono ?_
      rw [H1.out]
      rintro e w1 ⟨rfl, hx⟩
      obtain ⟨b1, b2⟩ := ext_blk2 hx
      have c1 := b1.cell
      have c2 := b2.cell
      go_wp2_with fail
      refine (impl_SystemValid (HT.out _ ((((Ext.refl _).alloc _).alloc _).trans hx))).mono ?_
      rw [H2.out]
      rintro e w2 ⟨rfl, hx2⟩
      go_wp2_with fail
      go_ret
      exact ⟨ret_bool (by unfold sameB; rw [H1.out, H2.out]; rfl), ((((Ext.refl _).alloc _).alloc _).trans hx).trans hx2⟩
    · have H2 := hide h2
      clear h2
      cases h3 : s.al == t.al
      all_goals
        have H3 := hide h3
        go_enter Tryd.func21, Tryd.ntmps21
        go_wp2_with fail
        refine (impl_SystemValid (HS.out _ (((Ext.refl _).alloc _).alloc _))).mono ?_
        rw [H1.out]
        rintro e w1 ⟨rfl, hx⟩
        obtain ⟨b1, b2⟩ := ext_blk2 hx
        have c1 := b1.cell
        have c2 := b2.cell
        go_wp2_with fail
        refine (impl_SystemValid (HT.out _ ((((Ext.refl _).alloc _).alloc _).trans hx))).mono ?_
        rw [H2.out]
        rintro e w2 ⟨rfl, hx2⟩
        have d1 := (b1.ext hx2).cell
        have d2 := (b2.ext hx2).cell
        go_wp2_with fail
        go_ret
        exact ⟨ret_bool (by unfold sameB; rw [H1.out, H2.out, H3.out]; first | rfl | simp_all), ((((Ext.refl _).alloc _).alloc _).trans hx).trans hx2⟩
theorem spec_l6Comparable {lo hi lo' hi' : Nat} {A : Option Addr} {n c : Nat} {B : Option Addr} {m d : Nat} {s t : Sys} {w : World} (h : SysAt w lo hi A n s) (h' : SysAt w lo' hi' B m t) :
    Calls Tryd.prog 24 #[.agg #[.int .i64 s.al, .int .i64 s.st, .slice A n c], .agg #[.int .i64 t.al, .int .i64 t.st, .slice B m d]] w fun e w' => e = .returned (.bool (sameB s t)) ∧ Ext w w' := by
  have HS := hide (fun W (hW : Ext w W) => h.ext hW)
  have HT := hide (fun W (hW : Ext w W) => h'.ext hW)
  clear h h'
  cases h1 : sysValid s
  · have H1 := hide h1
    clear h1
    go_enter Tryd.func24, Tryd.ntmps24
    go_wp2_with (go_at_call 41; refine (spec_SystemValid (HS.out _ (((Ext.refl _).alloc _).alloc _))).mono ?_; rw [H1.out]; rintro e w1 ⟨rfl, hx⟩)
    go_ret
    exact ⟨ret_bool (by unfold sameB; rw [H1.out]; rfl), (((Ext.refl _).alloc _).alloc _).trans hx⟩
  · have H1 := hide h1
    clear h1
    cases h2 : sysValid t
    · have H2 := hide h2
      clear h2
      go_enter Tryd.func24, Tryd.ntmps24
      go_wp2_with fail
      refine (spec_SystemValid (HS.out _ (((Ext.refl _).alloc _).alloc _))).mono ?_
      rw [H1.out]
      rintro e w1 ⟨rfl, hx⟩
      obtain ⟨b1, b2⟩ := ext_blk2 hx
      have c1 := b1.cell
      have c2 := b2.cell
      go_wp2_with fail
      refine (spec_SystemValid (HT.out _ ((((Ext.refl _).alloc _).alloc _).trans hx))).mono ?_
      rw [H2.out]
      rintro e w2 ⟨rfl, hx2⟩
      go_wp2_with fail
      go_ret
      exact ⟨ret_bool (by unfold sameB; rw [H1.out, H2.out]; rfl), ((((Ext.refl _).alloc _).alloc _).trans hx).trans hx2⟩
    · have H2 := hide h2
      clear h2
      cases h3 : s.al == t.al
      all_goals
        have H3 := hide h3
        go_enter Tryd.func24, Tryd.ntmps24
        go_wp2_with fail
        refine (spec_SystemValid (HS.out _ (((Ext.refl _).alloc _).alloc _))).mono ?_
        rw [H1.out]
        rintro e w1 ⟨rfl, hx⟩
        obtain ⟨b1, b2⟩ := ext_blk2 hx
        have c1 := b1.cell
        have c2 := b2.cell
        go_wp2_with fail
        refine (spec_SystemValid (HT.out _ ((((Ext.refl _).alloc _).alloc _).trans hx))).mono ?_
        rw [H2.out]
        rintro e w2 ⟨rfl, hx2⟩
        have d1 := (b1.ext hx2).cell
        have d2 := (b2.ext hx2).cell
        go_wp2_with fail
        go_ret
        exact ⟨ret_bool (by unfold sameB; rw [H1.out, H2.out, H3.out]; first | rfl | simp_all), ((((Ext.refl _).alloc _).alloc _).trans hx).trans hx2⟩
end Go.Proofs.YtcmgkekaeafgaaaDoor

namespace Go.Proofs.YtcmgkekaeafgaaaDoor
open Go Go.RowKit

/-- The states to which a letter leads one system. -/
def cho (s : Sys) (i l : Nat) : List Nat := if s.al.toNat.testBit l then letters (succ s.edges i l) 32 else [i]
/-- The nodes reached, the weight, and what is left of the node. -/
def nx : List Sys → Nat → Nat → List Nat × Nat × Nat
  | [], m, _ => ([0], 1, m)
  | s :: r, m, l => ((cho s ((nx r m l).2.2 % s.st.toNat) l).flatMap (fun q => (nx r m l).1.map fun x => q * (nx r m l).2.1 + x), (nx r m l).2.1 * s.st.toNat, (nx r m l).2.2 / s.st.toNat)
/-- A system of at most 16 states. -/
def Sml (s : Sys) : Prop := 1 ≤ s.st ∧ s.st ≤ 16 ∧ Few s.st.toNat s.edges ∧ 0 ≤ s.al ∧ s.al ≤ 63
theorem letters_nodup (a k : Nat) : (letters a k).Nodup := List.Pairwise.filter _ List.nodup_range
theorem letters_mem {a k x : Nat} : x ∈ letters a k ↔ x < k ∧ a.testBit x = true := by simp [letters, List.mem_filter]
theorem cho_lt {s : Sys} (h : Sml s) {i l : Nat} (hi : i < s.st.toNat) : ∀ q ∈ cho s i l, q < s.st.toNat := by
  intro q hq
  unfold cho at hq
  split at hq
  · have hb := (letters_mem.1 hq).2
    rcases Nat.lt_or_ge q s.st.toNat with h1 | h1
    · exact h1
    · have := Nat.testBit_lt_two_pow (Nat.lt_of_lt_of_le (succ_lt h.2.2.1 i l) (Nat.pow_le_pow_right (by omega) h1))
      rw [hb] at this; cases this
  · rw [List.mem_singleton.1 hq]; exact hi
theorem cho_nodup (s : Sys) (i l : Nat) : (cho s i l).Nodup := by
  unfold cho
  split
  · exact letters_nodup _ _
  · simp
theorem nodup_len {l : List Nat} (h : l.Nodup) {p : Nat} (hl : ∀ x ∈ l, x < p) : l.length ≤ p := by
  have h1 : l ⊆ List.range p := fun x hx => List.mem_range.2 (hl x hx)
  have := List.Nodup.length_le_of_subset h h1
  simpa using this
theorem cho_len {s : Sys} (h : Sml s) {i l : Nat} (hi : i < s.st.toNat) : (cho s i l).length ≤ s.st.toNat := nodup_len (cho_nodup s i l) (cho_lt h hi)
theorem flat_nodup {l R : List Nat} {W : Nat} (hl : l.Nodup) (hR : R.Nodup) (hW : ∀ x ∈ R, x < W) : (l.flatMap fun q => R.map fun x => q * W + x).Nodup := by
  induction l with
  | nil => simp
  | cons a r ih =>
    rw [List.flatMap_cons]
    rw [List.nodup_cons] at hl
    refine List.nodup_append.2 ⟨?_, ih hl.2, ?_⟩
    · exact List.Pairwise.map _ (fun a b h => by simpa using h) hR
    · intro x hx y hy hxy
      subst hxy
      obtain ⟨u, hu, rfl⟩ := List.mem_map.1 hx
      obtain ⟨b, hb, hy⟩ := List.mem_flatMap.1 hy
      obtain ⟨v, hv, he⟩ := List.mem_map.1 hy
      have h1 := hW u hu
      have h2 := hW v hv
      have : a = b := by
        have e1 : (a * W + u) / W = a := by rw [Nat.add_comm, Nat.add_mul_div_right _ _ (by omega), Nat.div_eq_of_lt h1, Nat.zero_add]
        have e2 : (b * W + v) / W = b := by rw [Nat.add_comm, Nat.add_mul_div_right _ _ (by omega), Nat.div_eq_of_lt h2, Nat.zero_add]
        rw [← e1, ← e2, he]
      subst this
      exact hl.1 hb
/-- What is known of them. -/
theorem nx_facts {ss : List Sys} (h : ∀ s ∈ ss, Sml s) (m l : Nat) : 1 ≤ (nx ss m l).2.1 ∧ (nx ss m l).2.1 ≤ 16 ^ ss.length ∧ (∀ x ∈ (nx ss m l).1, x < (nx ss m l).2.1) ∧ (nx ss m l).1.Nodup ∧ (nx ss m l).2.2 ≤ m := by
  induction ss with
  | nil => simp [nx]
  | cons s r ih =>
    obtain ⟨h1, h2, h3, h4, h5⟩ := ih fun s hs => h s (List.mem_cons_of_mem _ hs)
    have hs := h s List.mem_cons_self
    have hst : 1 ≤ s.st.toNat ∧ s.st.toNat ≤ 16 := by have := hs.1; have := hs.2.1; omega
    refine ⟨Nat.mul_pos h1 hst.1, ?_, fun x hx => ?_, flat_nodup (cho_nodup _ _ _) h4 h3, Nat.le_trans (Nat.div_le_self _ _) h5⟩
    · rw [nx, List.length_cons, Nat.pow_succ]
      exact Nat.mul_le_mul h2 hst.2
    · rw [nx] at hx ⊢
      obtain ⟨q, hq, hx⟩ := List.mem_flatMap.1 hx
      obtain ⟨y, hy, rfl⟩ := List.mem_map.1 hx
      have hq' := cho_lt hs (Nat.mod_lt _ hst.1) q hq
      have hy' := h3 y hy
      calc q * (nx r m l).2.1 + y < q * (nx r m l).2.1 + (nx r m l).2.1 := by omega
        _ = (q + 1) * (nx r m l).2.1 := by rw [Nat.add_mul, Nat.one_mul]
        _ ≤ s.st.toNat * (nx r m l).2.1 := Nat.mul_le_mul_right _ hq'
        _ = (nx r m l).2.1 * s.st.toNat := Nat.mul_comm _ _
theorem nx_len {ss : List Sys} (h : ∀ s ∈ ss, Sml s) (m l : Nat) : (nx ss m l).1.length ≤ 16 ^ ss.length := by
  obtain ⟨h1, h2, h3, h4, _⟩ := nx_facts h m l
  exact Nat.le_trans (nodup_len h4 h3) h2
end Go.Proofs.YtcmgkekaeafgaaaDoor

namespace Go.Proofs.YtcmgkekaeafgaaaDoor
open Go Go.RowKit

section
variable {P : Program} {ops : Array Oper} {Q : Exit → Act → World → Prop} {md : Region.Mode} {S : Array Bool → World → Prop}

/-- Whatever order is picked; behind every operation the condition of what has come up holds. -/
def wpAnyL (P : Program) (md : Region.Mode) (ops : Array Oper) (Q : Exit → Act → World → Prop) (S : Array Bool → World → Prop) : Nat → Array Bool → Act → World → Prop
  | 0, listed, a, w => Region.ready md ops listed = [] ∧ Q .normal a w
  | fuel + 1, listed, a, w =>
    (Region.ready md ops listed = [] → Q .normal a w) ∧
    ∀ i ∈ Region.ready md ops listed, wpOp P ops Q i (fun a' w' => S (listed.setIfInBounds i true) w' ∧ wpAnyL P md ops Q S fuel (listed.setIfInBounds i true) a' w') a w
theorem wpAny_of_L : ∀ (fuel : Nat) (listed : Array Bool) (a : Act) (w : World), wpAnyL P md ops Q S fuel listed a w → wpAny P md ops Q fuel listed a w
  | 0, _, _, _, h => h
  | fuel + 1, _, _, _, h => ⟨h.1, fun i hi => wpOp_mono (fun a' w' h' => wpAny_of_L fuel _ a' w' h'.2) (h.2 i hi)⟩
theorem wpAnyL_first {i : Nat} {oi : Oper} {v : Value} {Si : World → Prop} {G : Array Bool → Prop} (hi : ops[i]? = some oi) (hsel : ∀ (j : Nat) (o : Oper) cs b, ops[j]? = some o → o.op ≠ .select cs b)
    (hQ : ∀ c a w, Q (.panic c) (a.put oi.dst v) w → Q (.panic c) a w)
    (hG : ∀ listed j, j ∈ Region.ready md ops listed → G listed → G (listed.setIfInBounds j true))
    (hSi : ∀ listed w, G listed → listed.getD i true = false → S listed w → Si w)
    (hup : ∀ listed w, S listed w → S (listed.setIfInBounds i true) w) (hdn : ∀ listed w, listed.getD i true = false → S (listed.setIfInBounds i true) w → S listed w) :
    ∀ (fuel : Nat) (listed : Array Bool) (a : Act) (w : World), G listed →
      (∀ j oj, ops[j]? = some oj → j ≠ i → listed.getD j true = false → (∀ e ∈ oj.after, Region.binds md e = true → e.on ≠ i) → oi.apart ops oj = true) →
      i ∈ Region.ready md ops listed → YieldsIf P ops Si oi v a → S listed w →
      wpAnyL P md ops Q S fuel (listed.setIfInBounds i true) (a.put oi.dst v) w → wpAnyL P md ops Q S (fuel + 1) listed a w := by
  intro fuel
  induction fuel with
  | zero =>
    intro listed a w hg _ hr hy hS H
    refine ⟨fun h => (by rw [h] at hr; cases hr), fun j hj => ?_⟩
    by_cases hji : j = i
    · subst hji; exact hy.wpOp hi (hSi _ _ hg (mem_ready.1 hr).1 hS) ⟨hup _ _ hS, H⟩
    · have := ready_mono hj hji
      rw [H.1] at this
      cases this
  | succ fuel ih =>
    intro listed a w hg hfree hr hy hS H
    refine ⟨fun h => (by rw [h] at hr; cases hr), fun j hj => ?_⟩
    by_cases hji : j = i
    · subst hji; exact hy.wpOp hi (hSi _ _ hg (mem_ready.1 hr).1 hS) ⟨hup _ _ hS, H⟩
    · have h1 := H.2 j (ready_mono hj hji)
      obtain ⟨hjun, oj, hoj, hall⟩ := mem_ready.1 hj
      have hnot : ∀ e ∈ oj.after, Region.binds md e = true → e.on ≠ i := fun e he hb heq => by
        have h1 := hall e he hb
        have h0 := (mem_ready.1 hr).1
        rw [heq] at h1
        rcases Nat.lt_or_ge i listed.size with h' | h'
        · simp [h'] at h0 h1; rw [h0] at h1; cases h1
        · simp [Array.getElem?_eq_none h'] at h1
      have h2 := wpOp_putIf hoj (hfree j oj hoj hji hjun hnot) (fun cs b => hsel i oi cs b hi) (fun cs b => hsel j oj cs b hoj) hQ hy h1
      have hfree' : ∀ k ok, ops[k]? = some ok → k ≠ i → (listed.setIfInBounds j true).getD k true = false →
          (∀ e ∈ ok.after, Region.binds md e = true → e.on ≠ i) → oi.apart ops ok = true := fun k ok hk hki hun hno => by
        refine hfree k ok hk hki ?_ hno
        by_cases hjk : j = k
        · subst hjk; exact hjun
        · rw [getD_set_ne true hjk] at hun; exact hun
      have hiun : (listed.setIfInBounds j true).getD i true = false := by
        rw [getD_set_ne true hji]; exact (mem_ready.1 hr).1
      refine wpOp_mono (fun a' w' h3 => ?_) h2
      have h4 : S (listed.setIfInBounds j true) w' := hdn _ _ hiun (by rw [Array.setIfInBounds_comm _ _ hji]; exact h3.2.1)
      refine ⟨h4, ih (listed.setIfInBounds j true) a' w' (hG _ _ hj hg) hfree' (ready_mono hr (Ne.symm hji)) h3.1 h4 ?_⟩
      rw [Array.setIfInBounds_comm _ _ hji]
      exact h3.2.2
end

/-- What has come up is shut downward. -/
def Clo (l : List Oper) (listed : Array Bool) : Prop := ∀ j, listed.getD j false = true → ∀ o, l[j]? = some o → ∀ e ∈ o.after, Region.binds .any e = true → listed.getD e.on false = true
/-- Number i comes ahead of t, by the region's edges. -/
def below (l : List Oper) : Nat → Nat → Nat → Bool
  | 0, _, _ => false
  | f + 1, t, i => match l[t]? with
    | some o => o.after.any fun e => Region.binds .any e && (e.on == i || below l f e.on i)
    | none => false
theorem below_spec {l : List Oper} {listed : Array Bool} (hc : Clo l listed) : ∀ (f t i : Nat), below l f t i = true → listed.getD t false = true → listed.getD i false = true
  | 0, _, _, h, _ => by simp [below] at h
  | f + 1, t, i, h, ht => by
    unfold below at h
    cases ho : l[t]? with
    | none => simp [ho] at h
    | some o =>
      simp only [ho] at h
      obtain ⟨e, he, hb⟩ := Array.any_eq_true'.1 h
      simp only [Bool.and_eq_true, Bool.or_eq_true, beq_iff_eq] at hb
      have h1 := hc t ht o ho e he hb.1
      rcases hb.2 with h2 | h2
      · rw [← h2]; exact h1
      · exact below_spec hc f e.on i h2 h1
theorem clo_step {l : List Oper} {listed : Array Bool} {j : Nat} (hj : j ∈ Region.ready .any l.toArray listed) (h : Clo l listed) : Clo l (listed.setIfInBounds j true) := by
  intro k hk o ho e he hb
  by_cases hkj : j = k
  · subst hkj
    obtain ⟨_, o', ho', hall⟩ := mem_ready.1 hj
    have : o' = o := by
      have h1 : l[j]? = some o' := by simpa using ho'
      rw [ho] at h1
      exact (Option.some.inj h1).symm
    subst this
    exact getD_set_true (hall e he hb)
  · rw [getD_set_ne false hkj] at hk
    exact getD_set_true (h k hk o ho e he hb)

/-- Operations whose value hangs on no memory. -/
def pureOp : Op → Bool
  | .move _ | .assign _ | .pick _ _ _ | .binOp _ _ _ _ _ | .unOp _ _ _ | .fieldAddr _ _ _ | .field _ _ _ | .extract _ _ | .build _ _ => true
  | _ => false

/-- An order of a region's operations; where two may come up, both. -/
inductive Ord where
  | nil : Ord
  | one : Nat → Ord → Ord
  | two : Nat → Ord → Nat → Ord → Ord
/-- One order. -/
def Ord.of : List Nat → Ord
  | [] => .nil
  | i :: r => .one i (Ord.of r)
/-- Ahead of another order. -/
def Ord.app : List Nat → Ord → Ord
  | [], o => o
  | i :: r, o => .one i (Ord.app r o)
/-- The order serves: as okOrd, with the operations of the tail T, each behind all that reads memory. -/
def okOrdT (l : List Oper) (T : List Nat) : Ord → Array Bool → Bool
  | .nil, listed => (Region.ready .any l.toArray listed).isEmpty
  | .one i rest, listed =>
    (match l[i]? with
      | some o => if quietOp o.op then Region.free .any l.toArray listed i && (Region.ready .any l.toArray listed).contains i && !T.contains i && (pureOp o.op || T.all fun t => below l l.length t i)
        else Region.ready .any l.toArray listed == [i]
      | none => false) && okOrdT l T rest (listed.setIfInBounds i true)
  | .two i r j r', listed => (i < l.length && j < l.length && Region.ready .any l.toArray listed == [i, j]) && (okOrdT l T r (listed.setIfInBounds i true) && okOrdT l T r' (listed.setIfInBounds j true))

def wpSeqT (P : Program) (l : List Oper) (T : List Nat) (Q : Exit → Act → World → Prop) (S : World → Prop) : Ord → Act → World → Prop
  | .nil, a, w => Q .normal a w
  | .one i rest, a, w => match l[i]? with
    | some o => if quietOp o.op then ∃ v, YieldsIf P l.toArray (if pureOp o.op then fun _ => True else S) o v a ∧ wpSeqT P l T Q S rest (a.put o.dst v) w
      else wpOp P l.toArray Q i (fun a' w' => (T.contains i = false → S w') ∧ wpSeqT P l T Q S rest a' w') a w
    | none => False
  | .two i r j r', a, w => wpOp P l.toArray Q i (fun a' w' => (T.contains i = false → S w') ∧ wpSeqT P l T Q S r a' w') a w ∧ wpOp P l.toArray Q j (fun a' w' => (T.contains j = false → S w') ∧ wpSeqT P l T Q S r' a' w') a w
/-- How many operations an order has. -/
def Ord.len : Ord → Nat
  | .nil => 0
  | .one _ r => r.len + 1
  | .two _ r _ r' => (if r.len = r'.len then r.len else 0) + 1
/-- Both ways are of one length. -/
def Ord.even : Ord → Bool
  | .nil => true
  | .one _ r => r.even
  | .two _ r _ r' => r.len == r'.len && (r.even && r'.even)

section
variable {P : Program} {l : List Oper} {Q : Exit → Act → World → Prop} {S : World → Prop} {T : List Nat}

def tailed (T : List Nat) (listed : Array Bool) : Prop := ∃ t ∈ T, listed.getD t false = true
theorem seqT_sound (hs : Region.noSelect l.toArray = true) (hQ : ∀ (c : List PanicEntry) (a : Act) (d : Tmp) (v : Value) (w : World), Q (.panic c) (a.put (some d) v) w → Q (.panic c) a w) :
    ∀ (ord : Ord) (listed : Array Bool) (a : Act) (w : World), listed.size = l.length → Clo l listed → ord.even = true → okOrdT l T ord listed = true → (tailed T listed ∨ S w) → wpSeqT P l T Q S ord a w →
      wpAnyL P .any l.toArray Q (fun listed w => tailed T listed ∨ S w) ord.len listed a w
  | .nil, listed, a, w, _, _, _, hok, _, h => by
    simp only [okOrdT, List.isEmpty_iff] at hok
    exact ⟨hok, h⟩
  | .one i rest, listed, a, w, hsz, hc, hev, hok, hS, h => by
    cases ho : l[i]? with
    | none => simp [okOrdT, ho] at hok
    | some o =>
      have hil : i < l.length := (List.getElem?_eq_some_iff.1 ho).1
      simp only [okOrdT, ho, Bool.and_eq_true] at hok
      simp only [wpSeqT, ho] at h
      by_cases hq : quietOp o.op = true
      · rw [if_pos hq] at hok h
        simp only [Bool.and_eq_true] at hok
        obtain ⟨⟨⟨⟨hf, hrd⟩, hnT⟩, hpure⟩, hrest⟩ := hok
        obtain ⟨v, hy, hr⟩ := h
        have hmem : i ∈ Region.ready .any l.toArray listed := by simpa using hrd
        have hnT' : i ∉ T := by simpa using hnT
        have hset : ∀ listed : Array Bool, tailed T (listed.setIfInBounds i true) ↔ tailed T listed := fun listed => by
          constructor
          · rintro ⟨t, ht, hl⟩
            refine ⟨t, ht, ?_⟩
            rwa [getD_set_ne false (by rintro rfl; exact hnT' ht)] at hl
          · rintro ⟨t, ht, hl⟩
            exact ⟨t, ht, getD_set_true hl⟩
        refine wpAnyL_first (G := fun listed => Clo l listed ∧ listed.size = l.length) (by simpa using ho) (Region.noSelect_spec hs)
          (fun c a w h => by cases hd : o.dst with | none => rw [hd] at h; exact h | some d => rw [hd] at h; exact hQ c a d v w h)
          (fun li j hj hg => ⟨clo_step hj hg.1, by simpa using hg.2⟩) ?_ (fun li w h => h.imp (fun x => (hset li).2 x) id) (fun li w _ h => h.imp (fun x => (hset li).1 x) id)
          rest.len listed a w ⟨hc, hsz⟩ (Region.free_spec (by simpa using ho) hf) hmem hy hS ?_
        · intro li w' hg hun h
          by_cases hp : pureOp o.op = true
          · rw [if_pos hp]; trivial
          · rw [if_neg hp]
            rcases h with ⟨t, ht, hl⟩ | h
            · exfalso
              simp only [hp, Bool.false_or] at hpure
              have hb := List.all_eq_true.1 hpure t ht
              have h1 := below_spec hg.1 _ _ _ hb hl
              have h2 : i < li.size := by rw [hg.2]; exact hil
              simp [h2] at hun h1
              rw [h1] at hun; cases hun
            · exact h
        · exact seqT_sound hs hQ rest _ _ _ (by simpa using hsz) (clo_step hmem hc) hev hrest (hS.imp (fun x => (hset _).2 x) id) hr
      · rw [if_neg hq] at hok h
        have hready : Region.ready .any l.toArray listed = [i] := by simpa using hok.1
        have hmem : i ∈ Region.ready .any l.toArray listed := by rw [hready]; simp
        refine ⟨fun h0 => (by rw [h0] at hready; cases hready), fun j hj => ?_⟩
        rw [hready] at hj
        rw [List.mem_singleton.1 hj]
        refine wpOp_mono (fun a' w' h => ?_) h
        have hS' : tailed T (listed.setIfInBounds i true) ∨ S w' := by
          cases hT : T.contains i
          · exact Or.inr (h.1 hT)
          · refine Or.inl ⟨i, by simpa using hT, ?_⟩
            have : i < listed.size := by omega
            simp [this]
        exact ⟨hS', seqT_sound hs hQ rest _ _ _ (by simpa using hsz) (clo_step hmem hc) hev hok.2 hS' h.2⟩
  | .two i r j r', listed, a, w, hsz, hc, hev, hok, hS, h => by
    simp only [Ord.even, Bool.and_eq_true, beq_iff_eq] at hev
    simp only [okOrdT, Bool.and_eq_true, decide_eq_true_eq, beq_iff_eq] at hok
    simp only [wpSeqT] at h
    obtain ⟨⟨⟨hi, hj⟩, hready⟩, hok1, hok2⟩ := hok
    have hlen : (Ord.two i r j r').len = r.len + 1 := by simp [Ord.len, hev.1]
    rw [hlen]
    have hm : ∀ k, k ∈ Region.ready .any l.toArray listed ↔ k = i ∨ k = j := fun k => by rw [hready]; simp
    have hS' : ∀ k w', k < l.length → (T.contains k = false → S w') → tailed T (listed.setIfInBounds k true) ∨ S w' := fun k w' hk hx => by
      cases hT : T.contains k
      · exact Or.inr (hx hT)
      · refine Or.inl ⟨k, by simpa using hT, ?_⟩
        have : k < listed.size := by omega
        simp [this]
    refine ⟨fun h0 => (by rw [h0] at hready; cases hready), fun k hk => ?_⟩
    rcases (hm k).1 hk with hk' | hk'
    · rw [hk'] at hk ⊢
      refine wpOp_mono (fun a' w' h => ?_) h.1
      exact ⟨hS' _ _ hi h.1, seqT_sound hs hQ r _ _ _ (by simpa using hsz) (clo_step hk hc) hev.2.1 hok1 (hS' _ _ hi h.1) h.2⟩
    · rw [hk'] at hk ⊢
      refine wpOp_mono (fun a' w' h => ?_) h.2
      have := seqT_sound hs hQ r' _ _ _ (by simpa using hsz) (clo_step hk hc) hev.2.2 hok2 (hS' _ _ hj h.1) h.2
      rw [← hev.1] at this
      exact ⟨hS' _ _ hj h.1, this⟩

theorem clo_start (l : List Oper) : Clo l (Array.replicate l.length false) := by
  intro j hj
  exfalso
  rcases Nat.lt_or_ge j l.length with h | h
  · simp [h] at hj
  · simp [Nat.not_lt.2 h] at hj

/-- The region, walked in one order: what reads under S first, then the tail. -/
theorem wp_region_tail {id : Nat} {a : Act} {w : World} (S : World → Prop) (T : List Nat) (ord : Ord) (hm : P.follows .mixedOrders = true) (hlen : ord.len = l.length) (hev : ord.even = true) (hs : Region.noSelect l.toArray = true) (hok : okOrdT l T ord (Array.replicate l.length false) = true)
    (hQ : ∀ (c : List PanicEntry) (a : Act) (d : Tmp) (v : Value) (w : World), Q (.panic c) (a.put (some d) v) w → Q (.panic c) a w) (hS : S w.drew) (h : wpSeqT P l T Q S ord a w.drew) : (Code.region id l.toArray true).wp P Q a w := by
  refine wp_region_any hm ?_
  have := wpAny_of_L _ _ _ _ (seqT_sound hs hQ ord _ a w.drew (by simp) (clo_start l) hev hok (Or.inr hS) h)
  rw [hlen] at this
  simpa using this

theorem tseq_nil {a : Act} {w : World} (h : Q .normal a w) : wpSeqT P l T Q S .nil a w := h
/-- A step that needs no memory. -/
theorem tseq_pure {i : Nat} {rest : Ord} {o : Oper} {v : Value} {a : Act} {w : World} (ho : l[i]? = some o) (hq : quietOp o.op = true) (_hp : pureOp o.op = true) (hw : Region.wanted o (yielded l.toArray a.tmps) = true)
    (hy : ∀ W, (execOp a.eval o).run P W = .ok (.value v) W) (h : wpSeqT P l T Q S rest (a.put o.dst v) w) : wpSeqT P l T Q S (.one i rest) a w := by
  simp only [wpSeqT, ho, hq, if_true]
  exact ⟨v, .inl ⟨hw, fun W _ => hy W⟩, h⟩
/-- A step that reads. -/
theorem tseq_read {i : Nat} {rest : Ord} {o : Oper} {v : Value} {a : Act} {w : World} (ho : l[i]? = some o) (hq : quietOp o.op = true) (hp : pureOp o.op = false) (hw : Region.wanted o (yielded l.toArray a.tmps) = true)
    (hy : ∀ W, S W → (execOp a.eval o).run P W = .ok (.value v) W) (h : wpSeqT P l T Q S rest (a.put o.dst v) w) : wpSeqT P l T Q S (.one i rest) a w := by
  simp only [wpSeqT, ho, hq, hp, if_true]
  exact ⟨v, .inl ⟨hw, hy⟩, h⟩
/-- A step whose guard is off. -/
theorem tseq_skip {i : Nat} {rest : Ord} {o : Oper} {a : Act} {w : World} (ho : l[i]? = some o) (hw : Region.wanted o (yielded l.toArray a.tmps) = false)
    (hS : S w) (h : wpSeqT P l T Q S rest (a.put o.dst undef) w) : wpSeqT P l T Q S (.one i rest) a w := by
  simp only [wpSeqT, ho]
  split
  · exact ⟨undef, .inr ⟨hw, rfl⟩, h⟩
  · unfold wpOp
    simp only [List.getElem?_toArray, ho, hw, Bool.false_eq_true, if_false]
    exact ⟨fun _ => hS, h⟩
/-- A step that makes memory, or calls, ahead of the tail. -/
theorem tseq_step {i : Nat} {rest : Ord} {o : Oper} {a : Act} {w : World} (ho : l[i]? = some o) (hq : quietOp o.op = false) (hw : Region.wanted o (yielded l.toArray a.tmps) = true)
    (h : ∀ K : Act → World → Prop, Shut (∀ a w, S w → wpSeqT P l T Q S rest a w → K a w) → o.wp P a w K Q) : wpSeqT P l T Q S (.one i rest) a w := by
  simp only [wpSeqT, ho, hq]
  unfold wpOp
  simp only [List.getElem?_toArray, ho, hw, if_true]
  exact .inl (h _ fun a w hS hW => ⟨fun _ => hS, hW⟩)
/-- A step of the tail. -/
theorem tseq_last {i : Nat} {rest : Ord} {o : Oper} {a : Act} {w : World} (ho : l[i]? = some o) (hq : quietOp o.op = false) (hT : T.contains i = true) (hw : Region.wanted o (yielded l.toArray a.tmps) = true)
    (h : ∀ K : Act → World → Prop, Shut (∀ a w, wpSeqT P l T Q S rest a w → K a w) → o.wp P a w K Q) : wpSeqT P l T Q S (.one i rest) a w := by
  simp only [wpSeqT, ho, hq]
  unfold wpOp
  simp only [List.getElem?_toArray, ho, hw, if_true]
  exact .inl (h _ fun a w hW => ⟨fun hn => absurd (hn.symm.trans hT) (by decide), hW⟩)
end

section
variable {P : Program} {l : List Oper} {Q : Exit → Act → World → Prop} {S : World → Prop} {T : List Nat}
/-- Two that may come up, neither of the tail. -/
theorem tseq_both {i j : Nat} {r r' : Ord} {o o' : Oper} {a : Act} {w : World} (ho : l[i]? = some o) (ho' : l[j]? = some o') (hw : Region.wanted o (yielded l.toArray a.tmps) = true) (hw' : Region.wanted o' (yielded l.toArray a.tmps) = true)
    (h1 : ∀ K : Act → World → Prop, Shut (∀ a w, S w → wpSeqT P l T Q S r a w → K a w) → o.wp P a w K Q) (h2 : ∀ K : Act → World → Prop, Shut (∀ a w, S w → wpSeqT P l T Q S r' a w → K a w) → o'.wp P a w K Q) : wpSeqT P l T Q S (.two i r j r') a w := by
  constructor
  · unfold wpOp
    simp only [List.getElem?_toArray, ho, hw, if_true]
    exact .inl (h1 _ fun a w hS hW => ⟨fun _ => hS, hW⟩)
  · unfold wpOp
    simp only [List.getElem?_toArray, ho', hw', if_true]
    exact .inl (h2 _ fun a w hS hW => ⟨fun _ => hS, hW⟩)
end
/-- 'append(s, x)' of one element, in a region that draws. -/
theorem wp_push {P : Program} (wb w : World) {o : Oper} {a : Act} {K : Act → World → Prop} {Q : Exit → Act → World → Prop} (s x : Operand) (t : TypeId)
    (ho : o.op = .call { callee := .builtin .append, args := #[s, x], argTypes := #[t, t] })
    (e : TypeId) (z : Value) (size bytes : Nat) (ht : P.underlying t = some (.slice e)) (hi : (P.info? e).map (fun i => (i.zero, i.size, i.bytes)) = some (some z, size, bytes)) (hzs : z.cells.size = size) (hsz : 0 < size)
    (v : Value) (n : Nat) (xs : List Value) (us : Array Value) (e' : TypeId) (hs : a.eval s = v) (hx : a.eval x = .slice (some ⟨w.heap.size, 0, none⟩) 1 1)
    (hext : wb.heap.size ≤ w.heap.size) (hown : w.ownsRow wb.heap.size e size v n xs) (hus : us.size = size) (h1 : ∀ u ∈ us.toList, u.oneCell' = true)
    (h63 : n + 1 ≤ maxLen) (hbytes : (n + 1) * bytes ≤ 140737488355328)
    (h : ∀ g cap w', w'.ownsRow wb.heap.size e size (.slice (some ⟨g, 0, none⟩) (n + 1) cap) (n + 1) (xs ++ us.toList) → w.grownBy w' v.ownBlock → (v.ownBlock = some g ∨ g = w.heap.size + 1) → g < w'.heap.size → K (a.put o.dst (.slice (some ⟨g, 0, none⟩) (n + 1) cap)) w') :
    o.wp P a (w.alloc (.cells us e')) K Q := by
  obtain ⟨i, hi0, hz0, hz1, hz2⟩ := info_parts hi
  refine wp_append_lies (w.alloc (.cells us e')) s x t ho wb.heap.size e i z size bytes ht hi0 hz0 hz1 hz2 hzs hsz v n xs hs (hown.alloc _) ⟨w.heap.size, 0, none⟩ 1 1 us.toList hx (by simpa using hus) ?_ h1 (by omega) h63 hbytes (by simp; omega) (w.heap.size + 1) (by simp) ?_
  · intro j u hu
    rw [addr_lit, Nat.zero_add, (Blk.new w e' us).cell]
    simpa using hu
  · intro g cap w' hown' hg hat hlt
    have hg' : w.grownBy w' v.ownBlock := ⟨hg.os, hg.tape, hg.output, Nat.le_trans (by simp) hg.size, fun k hk hne => (hg.block k (by simp; omega) hne).trans (Below.heap_alloc w _ k hk)⟩
    exact h g cap w' hown' hg' hat hlt
/-- 'append(s, x)' of one element, in a region that keeps its order. -/
theorem wpList_push3 {P : Program} (wb w : World) {ops : Array Oper} {rest : List Oper} {o : Oper} {a : Act} {Q : Exit → Act → World → Prop} (hgd : o.guard = none) (s x : Operand) (t : TypeId)
    (ho : o.op = .call { callee := .builtin .append, args := #[s, x], argTypes := #[t, t] })
    (e : TypeId) (z : Value) (size bytes : Nat) (ht : P.underlying t = some (.slice e)) (hi : (P.info? e).map (fun i => (i.zero, i.size, i.bytes)) = some (some z, size, bytes)) (hzs : z.cells.size = size) (hsz : 0 < size)
    (v : Value) (n : Nat) (xs : List Value) (us : Array Value) (e' : TypeId) (hs : a.eval s = v) (hx : a.eval x = .slice (some ⟨w.heap.size, 0, none⟩) 1 1)
    (hext : wb.heap.size ≤ w.heap.size) (hown : w.ownsRow wb.heap.size e size v n xs) (hus : us.size = size) (h1 : ∀ u ∈ us.toList, u.oneCell' = true)
    (h63 : n + 1 ≤ maxLen) (hbytes : (n + 1) * bytes ≤ 140737488355328)
    (h : ∀ g cap w', w'.ownsRow wb.heap.size e size (.slice (some ⟨g, 0, none⟩) (n + 1) cap) (n + 1) (xs ++ us.toList) → w.grownBy w' v.ownBlock → (v.ownBlock = some g ∨ g = w.heap.size + 1) → g < w'.heap.size → wpList P ops Q rest (a.put o.dst (.slice (some ⟨g, 0, none⟩) (n + 1) cap)) w') :
    wpList P ops Q (o :: rest) a (w.alloc (.cells us e')) :=
  wpList_plain hgd fun _ hK => wp_push wb w s x t ho e z size bytes ht hi hzs hsz v n xs us e' hs hx hext hown hus h1 h63 hbytes fun g cap w' h2 h3 h4 h5 => hK _ _ (h g cap w' h2 h3 h4 h5)
end Go.Proofs.YtcmgkekaeafgaaaDoor

namespace Go.Proofs.YtcmgkekaeafgaaaDoor
open Go Go.RowKit

section
variable {P : Program} (w : World)
theorem run_onto_none (base : Nat) (t ty e : TypeId) (i : TypeInfo) (size : Nat) (ht : P.underlying t = some (.slice e)) (hi : P.info? e = some i)
    (v : Value) (n : Nat) (xs : List Value) (hown : w.ownsRow base e size v n xs) (c : Nat) : (Builtin.append_ #[t, t] ty #[v, .slice none 0 c]).run P w = .ok v w := by
  rcases hown.2 with ⟨rfl, rfl⟩ | ⟨g, cap, cur, rfl, _, _, hnc, _⟩
  · simp [Builtin.append_, run_underlying ht, sizeOf, typeInfo, hi, Builtin.lenOf, Builtin.firstCells]
  · simp [Builtin.append_, run_underlying ht, sizeOf, typeInfo, hi, Builtin.lenOf, Builtin.firstCells, hnc, storeCells]
theorem wp_onto {o : Oper} {a : Act} {K : Act → World → Prop} {Q : Exit → Act → World → Prop} (s x : Operand) (t : TypeId)
    (ho : o.op = .call { callee := .builtin .append, args := #[s, x], argTypes := #[t, t] })
    (base : Nat) (e : TypeId) (z : Value) (size bytes : Nat) (ht : P.underlying t = some (.slice e)) (hi : (P.info? e).map (fun i => (i.zero, i.size, i.bytes)) = some (some z, size, bytes)) (hzs : z.cells.size = size) (hsz : 0 < size)
    (v : Value) (n : Nat) (xs : List Value) (hs : a.eval s = v) (hown : w.ownsRow base e size v n xs)
    (lo hi' : Nat) (A : Option Addr) (m c : Nat) (news : List Value) (hx : a.eval x = .slice A m c) (hr : Reads w lo hi' size A m news) (h1 : ∀ u ∈ news, u.oneCell' = true)
    (h63 : n + m ≤ maxLen) (hbytes : (n + m) * bytes ≤ 140737488355328) (hbase : base ≤ w.heap.size)
    (h : ∀ v' w', w'.ownsRow base e size v' (n + m) (xs ++ news) → w.grownBy w' v.ownBlock → (v'.ownBlock = v.ownBlock ∨ v'.ownBlock = some w.heap.size) → K (a.put o.dst v') w') : o.wp P a w K Q := by
  obtain ⟨i, hi0, hz0, hz1, hz2⟩ := info_parts hi
  have hrun : ∃ v' w', (Builtin.append_ #[t, t] o.type #[v, .slice A m c]).run P w = .ok v' w' ∧ w'.ownsRow base e size v' (n + m) (xs ++ news) ∧ w.grownBy w' v.ownBlock ∧ (v'.ownBlock = v.ownBlock ∨ v'.ownBlock = some w.heap.size) := by
    by_cases h0 : m = 0
    · subst h0
      obtain rfl : news = [] := List.eq_nil_of_length_eq_zero (by simpa using hr.1)
      cases A with
      | none => exact ⟨v, w, run_onto_none w base t o.type e i size ht hi0 v n xs hown c, by simpa using hown, World.grownBy.refl w _, .inl rfl⟩
      | some ad =>
        obtain ⟨v', w', h2, h3, h4, _, h5⟩ := run_append_own_at (P := P) w base t o.type e i z size bytes ht hi0 hz0 hz1 hz2 hzs hsz v n xs hown ad 0 c [] (by simp) (fun j u hu => by simp at hu) h1 h63 hbytes hbase
        exact ⟨v', w', h2, h3, h4, h5⟩
    · obtain ⟨ad, rfl, _, _, hc⟩ := hr.2.2 (by omega)
      obtain ⟨v', w', h2, h3, h4, _, h5⟩ := run_append_own_at (P := P) w base t o.type e i z size bytes ht hi0 hz0 hz1 hz2 hzs hsz v n xs hown ad m c news hr.1 hc h1 h63 hbytes hbase
      exact ⟨v', w', h2, h3, h4, h5⟩
  obtain ⟨v', w', h2, h3, h4, h5⟩ := hrun
  unfold Oper.wp execOp
  simp only [ho, resolve, invoke, builtin, Sem.run_bind, Sem.run_pure, Result.andThen_ok, List.map_toArray, List.map_cons, List.map_nil, hs, hx, h2]
  exact h v' w' h3 h4 h5
theorem wpList_onto {ops : Array Oper} {rest : List Oper} {o : Oper} {a : Act} {Q : Exit → Act → World → Prop} (hgd : o.guard = none) (s x : Operand) (t : TypeId)
    (ho : o.op = .call { callee := .builtin .append, args := #[s, x], argTypes := #[t, t] })
    (base : Nat) (e : TypeId) (z : Value) (size bytes : Nat) (ht : P.underlying t = some (.slice e)) (hi : (P.info? e).map (fun i => (i.zero, i.size, i.bytes)) = some (some z, size, bytes)) (hzs : z.cells.size = size) (hsz : 0 < size)
    (v : Value) (n : Nat) (xs : List Value) (hs : a.eval s = v) (hown : w.ownsRow base e size v n xs)
    (lo hi' : Nat) (A : Option Addr) (m c : Nat) (news : List Value) (hx : a.eval x = .slice A m c) (hr : Reads w lo hi' size A m news) (h1 : ∀ u ∈ news, u.oneCell' = true)
    (h63 : n + m ≤ maxLen) (hbytes : (n + m) * bytes ≤ 140737488355328) (hbase : base ≤ w.heap.size)
    (h : ∀ v' w', w'.ownsRow base e size v' (n + m) (xs ++ news) → w.grownBy w' v.ownBlock → (v'.ownBlock = v.ownBlock ∨ v'.ownBlock = some w.heap.size) → wpList P ops Q rest (a.put o.dst v') w') : wpList P ops Q (o :: rest) a w :=
  wpList_plain hgd fun _ hK => wp_onto w s x t ho base e z size bytes ht hi hzs hsz v n xs hs hown lo hi' A m c news hx hr h1 h63 hbytes hbase fun v' w' h2 h3 h4 => hK _ _ (h v' w' h2 h3 h4)
end

end Go.Proofs.YtcmgkekaeafgaaaDoor

namespace Go.Proofs.YtcmgkekaeafgaaaDoor
open Go Go.RowKit Go.Lib Go.Shelf
set_option maxHeartbeats 4000000

def sortInt_ren : Go.Shelf.Ren := ⟨fun | 189 => 37 | 125 => 67 | 257 => 66 | 128 => 98 | 129 => 99 | 294 => 89 | 295 => 90 | 296 => 91 | 297 => 92 | 298 => 93 | 299 => 94 | 216 => 95 | 300 => 96 | 301 => 97 | 328 => 123 | 329 => 124 | 330 => 125 | 331 => 126 | 332 => 127 | 215 => 108 | 343 => 133 | n => n, fun | 28 => 48 | 3 => 3 | 46 => 77 | 0 => 0 | 51 => 121 | 53 => 123 | 4 => 4 | 183 => 115 | 182 => 114 | 131 => 62 | 5 => 5 | 9 => 9 | 218 => 138 | 222 => 142 | 228 => 153 | 229 => 154 | n => n, fun | n => n⟩
set_option maxRecDepth 100000 in
theorem sortInt : Go.Proofs.Lays.n189 Tryd.prog sortInt_ren where
  mixed := by kernel_rfl
  f125 := Tryd.func67.trans (congrArg some (by kernel_rfl))
  f128 := Tryd.func98.trans (congrArg some (by kernel_rfl))
  f129 := Tryd.func99.trans (congrArg some (by kernel_rfl))
  f189 := Tryd.func37.trans (congrArg some (by kernel_rfl))
  f215 := Tryd.func108.trans (congrArg some (by kernel_rfl))
  f216 := Tryd.func95.trans (congrArg some (by kernel_rfl))
  f257 := Tryd.func66.trans (congrArg some (by kernel_rfl))
  f294 := Tryd.func89.trans (congrArg some (by kernel_rfl))
  f295 := Tryd.func90.trans (congrArg some (by kernel_rfl))
  f296 := Tryd.func91.trans (congrArg some (by kernel_rfl))
  f297 := Tryd.func92.trans (congrArg some (by kernel_rfl))
  f298 := Tryd.func93.trans (congrArg some (by kernel_rfl))
  f299 := Tryd.func94.trans (congrArg some (by kernel_rfl))
  f300 := Tryd.func96.trans (congrArg some (by kernel_rfl))
  f301 := Tryd.func97.trans (congrArg some (by kernel_rfl))
  f328 := Tryd.func123.trans (congrArg some (by kernel_rfl))
  f329 := Tryd.func124.trans (congrArg some (by kernel_rfl))
  f330 := Tryd.func125.trans (congrArg some (by kernel_rfl))
  f331 := Tryd.func126.trans (congrArg some (by kernel_rfl))
  f332 := Tryd.func127.trans (congrArg some (by kernel_rfl))
  f343 := Tryd.func133.trans (congrArg some (by kernel_rfl))
  t0 := Tryd.underlying0
  a0 := Tryd.isAgg0
  z0 := Tryd.sizeOf0
  v0 := Tryd.zeroValue0
  t3 := Tryd.underlying3
  a3 := Tryd.isAgg3
  z3 := Tryd.sizeOf3
  v3 := Tryd.zeroValue3
  t4 := Tryd.underlying4
  a4 := Tryd.isAgg4
  z4 := Tryd.sizeOf4
  v4 := Tryd.zeroValue4
  t5 := Tryd.underlying5
  a5 := Tryd.isAgg5
  z5 := Tryd.sizeOf5
  v5 := Tryd.zeroValue5
  t9 := Tryd.underlying9
  a9 := Tryd.isAgg9
  z9 := Tryd.sizeOf9
  v9 := Tryd.zeroValue9
  t28 := Tryd.underlying48
  a28 := Tryd.isAgg48
  z28 := Tryd.sizeOf48
  v28 := Tryd.zeroValue48
  t46 := Tryd.underlying77
  a46 := Tryd.isAgg77
  z46 := Tryd.sizeOf77
  v46 := Tryd.zeroValue77
  t51 := Tryd.underlying121
  a51 := Tryd.isAgg121
  z51 := Tryd.sizeOf121
  v51 := Tryd.zeroValue121
  t53 := Tryd.underlying123
  a53 := Tryd.isAgg123
  z53 := Tryd.sizeOf123
  v53 := Tryd.zeroValue123
  t131 := Tryd.underlying62
  a131 := Tryd.isAgg62
  z131 := Tryd.sizeOf62
  v131 := Tryd.zeroValue62
  t182 := Tryd.underlying114
  a182 := Tryd.isAgg114
  z182 := Tryd.sizeOf114
  v182 := Tryd.zeroValue114
  t183 := Tryd.underlying115
  a183 := Tryd.isAgg115
  z183 := Tryd.sizeOf115
  v183 := Tryd.zeroValue115
  t218 := Tryd.underlying138
  a218 := Tryd.isAgg138
  z218 := Tryd.sizeOf138
  v218 := Tryd.zeroValue138
  t222 := Tryd.underlying142
  a222 := Tryd.isAgg142
  z222 := Tryd.sizeOf142
  v222 := Tryd.zeroValue142
  t228 := Tryd.underlying153
  a228 := Tryd.isAgg153
  z228 := Tryd.sizeOf153
  v228 := Tryd.zeroValue153
  t229 := Tryd.underlying154
  a229 := Tryd.isAgg154
  z229 := Tryd.sizeOf154
  v229 := Tryd.zeroValue154
end Go.Proofs.YtcmgkekaeafgaaaDoor

namespace Go.Proofs.YtcmgkekaeafgaaaDoor
open Go Go.RowKit Go.Lib Go.Shelf
set_option maxHeartbeats 2000000

/-- A row of numbers that a sort has turned is the call's own still. -/
theorem own_putRow {w : World} {base g n cap : Nat} {P Q : List Nat} (h : w.ownsRow base 3 1 (.slice (some ⟨g, 0, none⟩) n cap) n (nats P)) (hq : Q.length = n) :
    (Sort.putRow (Value.int .i64) w g 0 (Q.map fun x : Nat => (x : Int)).toArray).ownsRow base 3 1 (.slice (some ⟨g, 0, none⟩) n cap) n (nats Q) := by
  refine ⟨by rw [nats_length, hq, Nat.mul_one], ?_⟩
  rcases h.2 with ⟨h', _⟩ | ⟨g', cap', cur, h', hb, hg, hnc, hcm, hcs, htake⟩
  · simp at h'
  · simp only [Value.slice.injEq, Option.some.injEq, Addr.mk.injEq, and_true, true_and] at h'
    obtain ⟨rfl, rfl⟩ := h'
    refine .inr ⟨g, cap, Sort.putCells (Value.int .i64) 0 (Q.map fun x : Nat => (x : Int)).toArray cur, rfl, hb, ?_, hnc, hcm, by simpa [Sort.putCells] using hcs, ?_⟩
    · simp [Sort.putRow, Sort.mapBlock, Array.getElem?_modify, hg, Sort.onCells]
    · apply List.ext_getElem?
      intro k
      rcases Nat.lt_or_ge k n with h1 | h1
      · rw [List.getElem?_take_of_lt (by omega), Array.getElem?_toList, Sort.putCells, Array.getElem?_mapIdx, Array.getElem?_eq_getElem (by omega)]
        have hk : k < Q.length := by omega
        simp only [Option.map_some, nats, List.getElem?_map, List.getElem?_eq_getElem hk]
        rw [if_pos ⟨Nat.zero_le _, by simpa using hk⟩]
        rw [Nat.sub_zero, getElem!_pos _ k (by simpa using hk)]
        simp
      · rw [List.getElem?_eq_none (by rw [List.length_take]; omega), List.getElem?_eq_none (by rw [nats_length]; omega)]
theorem holds_nats {w : World} {base g n cap : Nat} {P : List Nat} (h : w.ownsRow base 3 1 (.slice (some ⟨g, 0, none⟩) n cap) n (nats P)) : Sort.Holds (Value.int .i64) w g 0 (P.map fun x : Nat => (x : Int)).toArray := by
  intro j hj
  have hl := h.1
  rw [nats_length, Nat.mul_one] at hl
  have hj' : j < P.length := by simpa using hj
  refine ⟨?_, by rw [Nat.zero_add]; exact h.frozenAt j⟩
  rw [Nat.zero_add, h.cellAt j (by omega), getElem!_pos _ j hj]
  simp [nats, List.getElem?_eq_getElem hj']
/-- What the sort of numbers leaves. -/
def RetSortI (w : World) (base g n cap : Nat) (P : List Nat) (e : Ending) (w' : World) : Prop :=
  e = .returned (.tuple #[]) ∧ ∃ P' : List Nat, Hid (P'.Perm P ∧ P'.Pairwise (fun x y => x ≤ y)) ∧ w'.ownsRow base 3 1 (.slice (some ⟨g, 0, none⟩) n cap) n (nats P') ∧ Frm (fun k => k = g) w w'
theorem sort_int {w : World} {base g n cap : Nat} {P : List Nat} (h : w.ownsRow base 3 1 (.slice (some ⟨g, 0, none⟩) n cap) n (nats P)) (hn4 : n ≤ 1048576) :
    Calls Tryd.prog 37 #[.slice (some ⟨g, 0, none⟩) n cap] w (RetSortI w base g n cap P) := by
  have hl : P.length = n := by have := h.1; rw [nats_length] at this; omega
  have hblk := (h.lt g rfl).2
  have hcon := Any.slices_Sort_int sortInt g 0 cap (P.map fun x : Nat => (x : Int)) w (holds_nats h) hblk (by rw [List.length_map]; omega)
  rw [List.length_map, hl] at hcon
  change Calls Tryd.prog 37 _ _ _ at hcon
  refine hcon.mono ?_
  rintro e w' ⟨rfl, m, os, rfl⟩
  have hms : ((P.map fun x : Nat => (x : Int)).mergeSort fun x y => decide (x ≤ y)) = (P.mergeSort fun x y => decide (x ≤ y)).map fun x : Nat => (x : Int) := by
    rw [List.map_mergeSort]
    intro a _ b _
    simp
  rw [hms]
  have hw1 : Ext w (Sort.ahead w m) := ⟨rfl, rfl, rfl, Nat.le_refl _, fun _ _ _ => rfl⟩
  have h4 := own_putRow (own_ext h hw1) (Q := P.mergeSort fun x y => decide (x ≤ y)) (by rw [List.length_mergeSort]; exact hl)
  have hf : Frm (fun k => k = g) (Sort.ahead w m) (Sort.putRow (Value.int .i64) (Sort.ahead w m) g 0 ((P.mergeSort fun x y => decide (x ≤ y)).map fun x : Nat => (x : Int)).toArray) :=
    ⟨rfl, rfl, rfl, by simp, fun k hk hne => by
      simp only [Sort.putRow, Sort.mapBlock, Array.getElem?_modify]
      rw [if_neg (fun e => hne e.symm)]⟩
  generalize Sort.putRow (Value.int .i64) (Sort.ahead w m) g 0 ((P.mergeSort fun x y => decide (x ≤ y)).map fun x : Nat => (x : Int)).toArray = w2 at *
  have hx : Ext w2 (Sort.grow w2 os) := ⟨rfl, rfl, rfl, by simp [Sort.grow], fun k hk _ => by
    show (w2.heap ++ os)[k]? = w2.heap[k]?
    rw [Array.getElem?_append_left hk]⟩
  refine ⟨rfl, _, hide ⟨List.mergeSort_perm _ _, ?_⟩, own_ext h4 hx, ((hw1.toFrm).trans hf).ext hx⟩
  have := List.pairwise_mergeSort (le := fun x y : Nat => decide (x ≤ y)) (fun a b c h1 h2 => by simp at *; omega) (fun a b => by simp; omega) P
  exact this.imp (fun h => by simpa using h)
end Go.Proofs.YtcmgkekaeafgaaaDoor

namespace Go.Proofs.YtcmgkekaeafgaaaDoor
open Go Go.RowKit Go.Maps
set_option maxHeartbeats 1000000

theorem keyedI : Keyed Tryd.prog 3 := int_keyed Tryd.underlying3
theorem zeroI (w : World) : (zeroValue 3).run Tryd.prog w = .ok (.int .i64 0) w := by kernel_rfl
/-- A number is a word of the machine. -/
theorem wfI {x : Nat} (h : x < 1152921504606846976) : (Lit.int .i64 (x : Int)).wf = true := WalkArith.wf_i64 (by omega)
/-- Block b is a map of at most n entries that holds M. -/
def MapI (w : World) (b n : Nat) (M : Nat → Option Nat) : Prop :=
  ∃ D : DataW Unit, w.ownsMap Tryd.prog 3 (plainElem Tryd.prog 3) b n D ∧ ∀ x : Nat, x < 1152921504606846976 → Maps.has D (.int .i64 (x : Int)) = (M x).isSome ∧ ∀ v, M x = some v → D.atKey (.int .i64 (x : Int)) (.lit (.int .i64 0)) = .lit (.int .i64 (v : Int))
def updI (M : Nat → Option Nat) (x v : Nat) : Nat → Option Nat := fun y => if y = x then some v else M y
theorem MapI.made (w : World) : MapI (w.alloc (.map #[] 0)) w.heap.size 0 (fun _ => none) :=
  ⟨.map [], World.ownsMap_made _ _ _ _, fun x hx => ⟨rfl, fun v hv => by cases hv⟩⟩
theorem MapI.lt {w : World} {b n : Nat} {M : Nat → Option Nat} (h : MapI w b n M) : b < w.heap.size := by
  obtain ⟨D, h, _⟩ := h
  exact h.lt
theorem MapI.frm {S : Nat → Prop} {w w' : World} {b n : Nat} {M : Nat → Option Nat} (h : MapI w b n M) (hf : Frm S w w') (hS : ¬ S b) : MapI w' b n M := by
  obtain ⟨D, ⟨es, clock, hb, r⟩, hx⟩ := h
  exact ⟨D, ⟨es, clock, (hf.block b (Array.getElem?_eq_some_iff.1 hb).1 hS).trans hb, r⟩, hx⟩
theorem MapI.ext {w w' : World} {b n : Nat} {M : Nat → Option Nat} (h : MapI w b n M) (hx : Ext w w') : MapI w' b n M := h.frm hx id
/-- A row is no map. -/
theorem MapI.far {w : World} {b n : Nat} {M : Nat → Option Nat} (h : MapI w b n M) {g : Nat} {t : TypeId} {cs : Array Value} (hg : Blk w g t cs) : g ≠ b := by
  rintro rfl
  obtain ⟨D, ⟨es, clock, hb, _⟩, _⟩ := h
  unfold Blk at hg
  rw [hg] at hb
  injection hb with hb
  cases hb
theorem MapI.farOwn {w : World} {b n : Nat} {M : Nat → Option Nat} (h : MapI w b n M) {base : Nat} {e : TypeId} {size k : Nat} {v : Value} {xs : List Value} (ho : w.ownsRow base e size v k xs) : v.ownBlock ≠ some b := by
  intro hv
  obtain ⟨D, ⟨es, clock, hb, _⟩, _⟩ := h
  rcases ho.2 with ⟨rfl, _⟩ | ⟨g, cap, cur, rfl, _, hh, _⟩
  · simp [Value.ownBlock] at hv
  · have hg : g = b := by simpa [Value.ownBlock] using hv
    subst hg
    rw [hh] at hb
    injection hb with hb
    cases hb
theorem lit_ne {x y : Nat} (h : x ≠ y) : Lit.int .i64 (x : Int) ≠ Lit.int .i64 (y : Int) := by
  intro e
  injection e with _ e
  omega
section
variable (w : World) {ops : Array Oper} {rest : List Oper} {o : Oper} {a : Act} {Q : Exit → Act → World → Prop}
/-- 'm[k] = v', and an entry of a map's literal. -/
theorem wpList_mapSet (hg : o.guard = none) (m x v : Operand) (hop : o.op = Op.mapUpdate 60 m x v ∨ o.op = Op.insert 60 m x v) {b n : Nat} {M : Nat → Option Nat}
    (hm : a.eval m = .map (some b)) (h : MapI w b n M) (hn : n < 1152921504606846976) (key val : Nat) (hx : a.eval x = .int .i64 (key : Int)) (hv : a.eval v = .int .i64 (val : Int)) (hk : key < 1152921504606846976) (hv9 : val < 1152921504606846976)
    (hK : ∀ w', MapI w' b (n + 1) (updI M key val) → w.grownBy w' (some b) → wpList Tryd.prog ops Q rest (a.put o.dst undef) w') : wpList Tryd.prog ops Q (o :: rest) a w := by
  refine wpList_plain hg fun K' hK' => ?_
  obtain ⟨D, hown, hD⟩ := h
  have hkey := keyOf_int_mk Tryd.underlying3 (wfI hk)
  obtain ⟨w', hrun, r1, r2⟩ := hown.update keyedI Tryd.underlying60 (by unfold maxLen; omega) hkey (plainElem_int (H := Unit) Tryd.underlying3 (wfI hv9))
  have hmap : MapI w' b (n + 1) (updI M key val) := ⟨_, r1, fun y hy => by
    unfold updI
    by_cases e : y = key
    · subst e
      rw [if_pos rfl]
      exact ⟨has_put_same hown.isMap (by trivial) _, fun u hu => by rw [atKey_put_same hown.isMap (by trivial)]; cases hu; rfl⟩
    · rw [if_neg e, has_put_other (lit_ne e), atKey_put_other (lit_ne e)]
      exact hD y hy⟩
  unfold Oper.wp
  rcases hop with hop | hop
  all_goals
    simp [execOp, hop, hm, hx, hv, hrun, Result.andThen]
    exact hK' _ _ (hK w' hmap r2)
/-- 'v, ok := m[k]'. -/
theorem wpList_mapOk (hg : o.guard = none) (m x : Operand) (hop : o.op = Op.lookup 60 m x true) {b n : Nat} {M : Nat → Option Nat}
    (hm : a.eval m = .map (some b)) (h : MapI w b n M) (key : Nat) (hx : a.eval x = .int .i64 (key : Int)) (hk : key < 1152921504606846976)
    (hK : ∀ c : Int, wpList Tryd.prog ops Q rest (a.put o.dst (.tuple #[.int .i64 c, .bool (M key).isSome])) w) : wpList Tryd.prog ops Q (o :: rest) a w := by
  obtain ⟨D, hown, hD⟩ := h
  refine wpList_lookup_own_ok_int w hg m x _ hop 3 3 .i64 keyedI Tryd.underlying60 Tryd.underlying3 (zeroI w) b n D hm hown _ _ hx (keyOf_int_mk Tryd.underlying3 (wfI hk)) ?_
  intro c _ _
  rw [(hD key hk).1]
  exact hK c
/-- 'm[k]' of a key that is there. -/
theorem wpList_mapAt (hg : o.guard = none) (m x : Operand) (hop : o.op = Op.lookup 60 m x false) {b n : Nat} {M : Nat → Option Nat}
    (hm : a.eval m = .map (some b)) (h : MapI w b n M) (key val : Nat) (hx : a.eval x = .int .i64 (key : Int)) (hk : key < 1152921504606846976) (hM : M key = some val)
    (hK : wpList Tryd.prog ops Q rest (a.put o.dst (.int .i64 (val : Int))) w) : wpList Tryd.prog ops Q (o :: rest) a w := by
  obtain ⟨D, hown, hD⟩ := h
  refine wpList_lookup_own_int w hg m x _ hop 3 3 .i64 keyedI Tryd.underlying60 Tryd.underlying3 (zeroI w) b n D hm hown _ _ hx (keyOf_int_mk Tryd.underlying3 (wfI hk)) ?_
  intro c hat _
  have := (hD key hk).2 val hM
  rw [this] at hat
  injection hat with hat
  injection hat with _ hat
  rw [← hat]
  exact hK
end
end Go.Proofs.YtcmgkekaeafgaaaDoor
