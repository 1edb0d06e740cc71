/- Validity of systems, the reference's own. | impl.sameAlphabets and spec.l6Comparable, walked. | 'append(s, xs...)': a slice that came in is appended to one of the call's own. It holds of every program, without conditions. | slices.Clone at numbers and at truth values, walked: it copies into memory of its own. | Contracts: validity of automata. | Slices of systems are compared. | The letters of a chain. | Contracts: validity of automata, the program's own. -/
import Derived.Test.YtcmgkekaeafgaaaG03
import Derived.Test.YtcmgkekaeafgaaaG01
import Derived.Deep.AppendLies
import Derived.Lib.SliceRun
import Derived.Test.YtcmgkekaeafgaaaG02
namespace Go.Proofs.Ytcmgkekaeafgaaa
open Go Go.RowKit
set_option maxHeartbeats 4000000

theorem spec_l2Edge {al : Nat} {st : Int} {e : Edg} {w : World} (hsm : Sm al) :
    Calls Try.prog 55 #[.int .i64 al, .int .i64 st, .agg #[.int .i64 e.fr, .int .i64 e.le, .int .i64 e.to]] w fun r w' => r = .returned (.bool (edgB al st e)) ∧ Ext w w' := by
  have Hv := hide (show edgB al st e = ((decide (0 ≤ e.fr) && decide (e.fr < st)) && ((decide (0 ≤ e.to) && decide (e.to < st)) && (decide (e.le < 6) && hasB al e.le))) from rfl)
  by_cases h0 : e.fr < 0
  · go_enter Try.func55, Try.ntmps55
    go_wp2
    go_ret
    exact ⟨ret_bool (by rw [Hv.out]; simp; omega), (Ext.refl _).alloc _⟩
  · by_cases h1 : st ≤ e.fr
    · go_enter Try.func55, Try.ntmps55
      go_wp2
      go_ret
      exact ⟨ret_bool (by rw [Hv.out]; simp; omega), (Ext.refl _).alloc _⟩
    · by_cases h2 : e.to < 0
      · go_enter Try.func55, Try.ntmps55
        go_wp2
        go_ret
        exact ⟨ret_bool (by rw [Hv.out]; simp; omega), (Ext.refl _).alloc _⟩
      · by_cases h3 : st ≤ e.to
        · go_enter Try.func55, Try.ntmps55
          go_wp2
          go_ret
          exact ⟨ret_bool (by rw [Hv.out]; simp; omega), (Ext.refl _).alloc _⟩
        · by_cases h4 : 0 ≤ e.le
          · by_cases h5 : e.le < 6
            · obtain ⟨le, hle⟩ : ∃ le : Nat, Hid (e.le = le) := ⟨e.le.toNat, by unfold Hid; omega⟩
              have hl6 : (le : Int) < 6 := by have := hle.out; omega
              clear h4 h5
              rw [hle.out]
              go_enter Try.func55, Try.ntmps55
              go_wp2_with (go_at_call 56; refine (spec_l1Has al le hsm _ (by omega)).mono ?_; rintro r w' ⟨rfl, rfl⟩)
              go_ret
              exact ⟨ret_bool (by rw [Hv.out, hle.out, decide_eq_true (show 0 ≤ e.fr by omega), decide_eq_true (show e.fr < st by omega), decide_eq_true (show 0 ≤ e.to by omega), decide_eq_true (show e.to < st by omega), decide_eq_true hl6]; simp [hasB]), (Ext.refl _).alloc _⟩
            · go_enter Try.func55, Try.ntmps55
              go_wp2_with fail
              go_ret
              exact ⟨ret_bool (by rw [Hv.out]; simp; omega), (Ext.refl _).alloc _⟩
          · go_enter Try.func55, Try.ntmps55
            go_wp2_with fail
            go_ret
            exact ⟨ret_bool (by rw [Hv.out]; simp [hasB]; omega), (Ext.refl _).alloc _⟩

theorem spec_l2Before {a b : Edg} {w : World} :
    Calls Try.prog 47 #[.agg #[.int .i64 a.fr, .int .i64 a.le, .int .i64 a.to], .agg #[.int .i64 b.fr, .int .i64 b.le, .int .i64 b.to]] w fun e w' => e = .returned (.bool (ltE a b)) ∧ Ext w w' := by
  have Hv := hide (show ltE a b = if a.fr = b.fr then if a.le = b.le then decide (a.to < b.to) else decide (a.le < b.le) else decide (a.fr < b.fr) from rfl)
  have hx : Ext w ((w.alloc (.cells #[Value.int .i64 a.fr, .int .i64 a.le, .int .i64 a.to] 65)).alloc (.cells #[Value.int .i64 b.fr, .int .i64 b.le, .int .i64 b.to] 65)) := ((Ext.refl _).alloc _).alloc _
  have Hx := hide hx
  clear hx
  by_cases h0 : a.fr = b.fr
  · have n0 : (a.fr != b.fr) = false := by simp [h0]
    have H0 := hide h0
    clear h0
    by_cases h1 : a.le = b.le
    · have n1 : (a.le != b.le) = false := by simp [h1]
      have H1 := hide h1
      clear h1
      go_enter Try.func47, Try.ntmps47
      go_wp2
      go_ret
      exact ⟨ret_bool (by rw [Hv.out, if_pos H0.out, if_pos H1.out]), Hx.out⟩
    · have n1 : (a.le != b.le) = true := by simp [h1]
      go_enter Try.func47, Try.ntmps47
      go_wp2
      go_ret
      exact ⟨ret_bool (by rw [Hv.out, if_pos H0.out, if_neg h1]), Hx.out⟩
  · have n0 : (a.fr != b.fr) = true := by simp [h0]
    go_enter Try.func47, Try.ntmps47
    go_wp2
    go_ret
    exact ⟨ret_bool (by rw [Hv.out, if_neg h0]), Hx.out⟩

theorem spec_SystemValid {lo hi : Nat} {A : Option Addr} {n c : Nat} {s : Sys} {w : World} (h : SysAt w lo hi A n s) :
    Calls Try.prog 38 #[.agg #[.int .i64 s.al, .int .i64 s.st, .slice A n c]] w fun e w' => e = .returned (.bool (sysValid s)) ∧ Ext w w' := by
  have Hv := hide (show sysValid s = (decide (0 ≤ s.al ∧ s.al ≤ 63) && (decide (1 ≤ s.st ∧ s.st ≤ 16) && (List.range n).all (edgeOK s.al.toNat s.st s.edges))) by unfold sysValid; rw [← h.1])
  have hn := h.2.len
  by_cases hal : 0 ≤ s.al ∧ s.al ≤ 63
  · by_cases hst : 1 ≤ s.st ∧ s.st ≤ 16
    · obtain ⟨al, hal'⟩ : ∃ al : Nat, Hid (s.al = al) := ⟨s.al.toNat, by unfold Hid; omega⟩
      have hsm : Sm al := by have := hal'.out; unfold Sm; omega
      have hd := hide (show decide (0 ≤ (al : Int) ∧ (al : Int) ≤ 63) = true by have := hal'.out; simp; omega)
      rw [hal'.out]
      rw [hal'.out, Int.toNat_natCast] at Hv
      clear hal
      have hd1 : decide (s.st < 1) = false := by simp; omega
      have hd2 : decide (16 < s.st) = false := by simp; omega
      obtain ⟨st, hst', hs1, hs2⟩ : ∃ st : Int, Hid (s.st = st) ∧ 1 ≤ st ∧ st ≤ 16 := ⟨s.st, hide rfl, hst.1, hst.2⟩
      rw [hst'.out] at hd1 hd2 Hv ⊢
      clear hst
      have hR := fun W (hW : Ext w W) => h.2.ext hW
      have HR := hide hR
      clear hR
      go_enter Try.func38, Try.ntmps38
      go_wp2_with (go_at_call 39; refine (spec_l1Alphabet _ _).mono ?_; rw [hd.out]; rintro e w' ⟨rfl, rfl⟩)
      go_loopw [3] (fun i wr => ∃ k : Nat, k ≤ n ∧ i = .int .i64 k ∧ Hid (((List.range n).take k).all (edgeOK al st s.edges) = true) ∧ Ext (w.alloc (.cells #[Value.int .i64 al, .int .i64 st, Value.slice A n c] 35)) wr)
        (fun i _ => n - (intOf i).toNat)
      case atStart => exact ⟨0, Nat.zero_le _, rfl, rfl, Ext.refl _⟩
      case round =>
        obtain ⟨k, hk, rfl, hall, hext⟩ := hrel
        have hbx := ext_box hext
        by_cases hlt : k < n
        · obtain ⟨b, o, e, rfl, hlo, hhi, he, c0, c1, c2⟩ := (HR.out wr (((Ext.refl _).alloc _).trans hext)).edge hlt
          go_wp2_with fail
          clear hbx
          have e0 : ∀ X, Ext wr X → ∀ j, X.cell? ⟨w.heap.size, j, none⟩ = #[Value.int .i64 al, .int .i64 st, Value.slice (some ⟨b, o, none⟩) n c][j]? := fun X hX => ext_box (hext.trans hX)
          have q0 : ∀ X, Ext wr X → X.cell? ⟨b, o + k * 3, none⟩ = some (.int .i64 e.fr) := fun X hX => hX.cell_some c0
          have q1 : ∀ X, Ext wr X → X.cell? ⟨b, o + k * 3 + 1, none⟩ = some (.int .i64 e.le) := fun X hX => hX.cell_some c1
          have q2 : ∀ X, Ext wr X → X.cell? ⟨b, o + k * 3 + 2, none⟩ = some (.int .i64 e.to) := fun X hX => hX.cell_some c2
          have hr := Ext.refl wr
          clear c0 c1 c2
          have hfin : ∀ X, Ext wr X → Ext w X := fun X hX => (((Ext.refl _).alloc _).trans hext).trans hX
          have Hfin := hide hfin
          clear hfin
          have hk0' : (0 : Int) ≤ (k : Int) := by omega
          have hk1' : (k : Int) < (n : Int) := by omega
          have hge : (List.range n)[k]? = some k := by rw [List.getElem?_range hlt]
          have Hge := hide hge
          clear hge
          cases hA' : edgB al st e
          · have hA := hide hA'
            clear hA'
            refine wp_region_ord (fun X => Ext wr X) [0, 1, 2, 3, 4, 5, 6, 7, 8, 9, 10, 11, 12, 13, 14, 15, 16, 17, 18, 19, 20, 21, 22, 23, 24, 25, 26, 27, 28, 29] (by kernel_rfl) rfl (by kernel_rfl) (by kernel_rfl) (fun _ _ _ _ _ h => h) ((Ext.refl _).drew) (fun hS => ?_)
            repeat (first | (refine seq_skip rfl rfl (by assumption) ?_; simp only [Act.put, List.setIfInBounds_toArray, List.set_cons_zero, List.set_cons_succ]) | (refine seq_read (v := ?_) rfl rfl rfl (fun X hX => ?_) (by assumption) ?_; rotate_left; (focus (go_simp <;> with_reducible rfl)); simp only [Act.put, List.setIfInBounds_toArray, List.set_cons_zero, List.set_cons_succ]))
            refine seq_step rfl rfl rfl (fun K hK => ?_)
            go_simp
            refine (spec_l2Edge (e := e) hsm).mono ?_
            rw [hA.out]; rintro r w2 ⟨rfl, hx2⟩
            refine hK.out _ _ (Ext.trans (by assumption) hx2) (fun hS => ?_)
            try simp only [Act.put, List.setIfInBounds_toArray, List.set_cons_zero, List.set_cons_succ]
            repeat (first | (refine seq_skip rfl rfl (by assumption) ?_; simp only [Act.put, List.setIfInBounds_toArray, List.set_cons_zero, List.set_cons_succ]) | (refine seq_read (v := ?_) rfl rfl rfl (fun X hX => ?_) (by assumption) ?_; rotate_left; (focus (go_simp <;> with_reducible rfl)); simp only [Act.put, List.setIfInBounds_toArray, List.set_cons_zero, List.set_cons_succ]))
            refine seq_nil ?_
            go_wp2_with fail
            go_ret
            exact ⟨ret_bool (by rw [Hv.out, all_stop Hge.out (by rw [edgeOK, he.out]; dsimp only; rw [hA.out]; simp)]; simp), Hfin.out _ (by assumption)⟩
          · have hA := hide hA'
            clear hA'
            by_cases hk0 : k = 0
            · subst hk0
              simp only [Nat.zero_mul, Nat.add_zero] at q0 q1 q2
              refine wp_region_ord (fun X => Ext wr X) [0, 1, 2, 3, 4, 5, 6, 7, 8, 9, 10, 11, 12, 13, 14, 15, 16, 17, 18, 19, 20, 21, 22, 23, 24, 25, 26, 27, 28, 29] (by kernel_rfl) rfl (by kernel_rfl) (by kernel_rfl) (fun _ _ _ _ _ h => h) ((Ext.refl _).drew) (fun hS => ?_)
              repeat (first | (refine seq_skip rfl rfl (by assumption) ?_; simp only [Act.put, List.setIfInBounds_toArray, List.set_cons_zero, List.set_cons_succ]) | (refine seq_read (v := ?_) rfl rfl rfl (fun X hX => ?_) (by assumption) ?_; rotate_left; (focus (go_simp <;> with_reducible rfl)); simp only [Act.put, List.setIfInBounds_toArray, List.set_cons_zero, List.set_cons_succ]))
              refine seq_step rfl rfl rfl (fun K hK => ?_)
              go_simp
              refine (spec_l2Edge (e := e) hsm).mono ?_
              rw [hA.out]; rintro r w2 ⟨rfl, hx2⟩
              refine hK.out _ _ (Ext.trans (by assumption) hx2) (fun hS => ?_)
              try simp only [Act.put, List.setIfInBounds_toArray, List.set_cons_zero, List.set_cons_succ]
              repeat (first | (refine seq_skip rfl rfl (by assumption) ?_; simp only [Act.put, List.setIfInBounds_toArray, List.set_cons_zero, List.set_cons_succ]) | (refine seq_read (v := ?_) rfl rfl rfl (fun X hX => ?_) (by assumption) ?_; rotate_left; (focus (go_simp <;> with_reducible rfl)); simp only [Act.put, List.setIfInBounds_toArray, List.set_cons_zero, List.set_cons_succ]))
              refine seq_nil ?_
              go_wp2_with fail
              go_roundw
              case rel => exact ⟨0 + 1, by omega, by go_num, all_step Hge.out hall.out (by rw [edgeOK, he.out]; dsimp only; rw [hA.out]; simp), hext.trans (by assumption)⟩
              case measure => simp [intOf]; omega
            · obtain ⟨j, rfl⟩ : ∃ j, k = j + 1 := ⟨k - 1, by omega⟩
              have hp : s.edges[j]? = some (s.edges[j]'(by have := h.1; omega)) := List.getElem?_eq_getElem _
              generalize s.edges[j]'(by have := h.1; omega) = p at hp
              have Hp := hide hp
              clear hp
              have hpc := (HR.out wr (((Ext.refl _).alloc _).trans hext)).edge2 Hp.out
              have p0 : ∀ X, Ext wr X → X.cell? ⟨b, o + j * 3, none⟩ = some (.int .i64 p.fr) := fun X hX => hX.cell_some hpc.1
              have p1 : ∀ X, Ext wr X → X.cell? ⟨b, o + j * 3 + 1, none⟩ = some (.int .i64 p.le) := fun X hX => hX.cell_some hpc.2.1
              have p2 : ∀ X, Ext wr X → X.cell? ⟨b, o + j * 3 + 2, none⟩ = some (.int .i64 p.to) := fun X hX => hX.cell_some hpc.2.2
              clear hpc
              have hk1 : decide ((0 : Int) < (j : Int) + 1) = true := decide_eq_true (by omega)
              have hw1 : IntKind.i64.wrap ((j : Int) + 1 - 1) = (j : Int) := by rw [IntKind.wrap_i64]; omega
              have hw2 : IntKind.i64.wrap (j : Int) = (j : Int) := by rw [IntKind.wrap_i64]; omega
              have hj0 : (0 : Int) ≤ (j : Int) := by omega
              have hj1 : (j : Int) < (n : Int) := by omega
              have hj2 : (0 : Int) ≤ (j : Int) + 1 := by omega
              have hj3 : (j : Int) + 1 < (n : Int) := by omega
              have hj4 : ((j : Int) + 1).toNat = j + 1 := by omega
              cases hnl' : ltE p e
              · have hnl := hide hnl'
                clear hnl'
                refine wp_region_ord (fun X => Ext wr X) [0, 1, 2, 3, 4, 5, 6, 7, 8, 9, 10, 11, 12, 13, 14, 15, 16, 17, 18, 19, 20, 21, 22, 23, 24, 25, 26, 27, 28, 29] (by kernel_rfl) rfl (by kernel_rfl) (by kernel_rfl) (fun _ _ _ _ _ h => h) ((Ext.refl _).drew) (fun hS => ?_)
                repeat (first | (refine seq_skip rfl rfl (by assumption) ?_; simp only [Act.put, List.setIfInBounds_toArray, List.set_cons_zero, List.set_cons_succ]) | (refine seq_read (v := ?_) rfl rfl rfl (fun X hX => ?_) (by assumption) ?_; rotate_left; (focus (go_simp <;> with_reducible rfl)); simp only [Act.put, List.setIfInBounds_toArray, List.set_cons_zero, List.set_cons_succ]))
                refine seq_step rfl rfl rfl (fun K hK => ?_)
                go_simp
                refine (spec_l2Edge (e := e) hsm).mono ?_
                rw [hA.out]; rintro r w2 ⟨rfl, hx2⟩
                refine hK.out _ _ (Ext.trans (by assumption) hx2) (fun hS => ?_)
                try simp only [Act.put, List.setIfInBounds_toArray, List.set_cons_zero, List.set_cons_succ]
                repeat (first | (refine seq_skip rfl rfl (by assumption) ?_; simp only [Act.put, List.setIfInBounds_toArray, List.set_cons_zero, List.set_cons_succ]) | (refine seq_read (v := ?_) rfl rfl rfl (fun X hX => ?_) (by assumption) ?_; rotate_left; (focus (go_simp <;> with_reducible rfl)); simp only [Act.put, List.setIfInBounds_toArray, List.set_cons_zero, List.set_cons_succ]))
                refine seq_step rfl rfl rfl (fun K hK => ?_)
                go_simp
                refine (spec_l2Before (a := p) (b := e)).mono ?_
                rw [hnl.out]; rintro r w3 ⟨rfl, hx3⟩
                refine hK.out _ _ (Ext.trans (by assumption) hx3) (fun hS => ?_)
                try simp only [Act.put, List.setIfInBounds_toArray, List.set_cons_zero, List.set_cons_succ]
                repeat (first | (refine seq_skip rfl rfl (by assumption) ?_; simp only [Act.put, List.setIfInBounds_toArray, List.set_cons_zero, List.set_cons_succ]) | (refine seq_read (v := ?_) rfl rfl rfl (fun X hX => ?_) (by assumption) ?_; rotate_left; (focus (go_simp <;> with_reducible rfl)); simp only [Act.put, List.setIfInBounds_toArray, List.set_cons_zero, List.set_cons_succ]))
                refine seq_nil ?_
                go_wp2_with fail
                go_ret
                exact ⟨ret_bool (by rw [Hv.out, all_stop Hge.out (by rw [edgeOK, he.out]; dsimp only; rw [Nat.add_sub_cancel, Hp.out]; simp [hnl.out])]; simp), Hfin.out _ (by assumption)⟩
              · have hnl := hide hnl'
                clear hnl'
                refine wp_region_ord (fun X => Ext wr X) [0, 1, 2, 3, 4, 5, 6, 7, 8, 9, 10, 11, 12, 13, 14, 15, 16, 17, 18, 19, 20, 21, 22, 23, 24, 25, 26, 27, 28, 29] (by kernel_rfl) rfl (by kernel_rfl) (by kernel_rfl) (fun _ _ _ _ _ h => h) ((Ext.refl _).drew) (fun hS => ?_)
                repeat (first | (refine seq_skip rfl rfl (by assumption) ?_; simp only [Act.put, List.setIfInBounds_toArray, List.set_cons_zero, List.set_cons_succ]) | (refine seq_read (v := ?_) rfl rfl rfl (fun X hX => ?_) (by assumption) ?_; rotate_left; (focus (go_simp <;> with_reducible rfl)); simp only [Act.put, List.setIfInBounds_toArray, List.set_cons_zero, List.set_cons_succ]))
                refine seq_step rfl rfl rfl (fun K hK => ?_)
                go_simp
                refine (spec_l2Edge (e := e) hsm).mono ?_
                rw [hA.out]; rintro r w2 ⟨rfl, hx2⟩
                refine hK.out _ _ (Ext.trans (by assumption) hx2) (fun hS => ?_)
                try simp only [Act.put, List.setIfInBounds_toArray, List.set_cons_zero, List.set_cons_succ]
                repeat (first | (refine seq_skip rfl rfl (by assumption) ?_; simp only [Act.put, List.setIfInBounds_toArray, List.set_cons_zero, List.set_cons_succ]) | (refine seq_read (v := ?_) rfl rfl rfl (fun X hX => ?_) (by assumption) ?_; rotate_left; (focus (go_simp <;> with_reducible rfl)); simp only [Act.put, List.setIfInBounds_toArray, List.set_cons_zero, List.set_cons_succ]))
                refine seq_step rfl rfl rfl (fun K hK => ?_)
                go_simp
                refine (spec_l2Before (a := p) (b := e)).mono ?_
                rw [hnl.out]; rintro r w3 ⟨rfl, hx3⟩
                refine hK.out _ _ (Ext.trans (by assumption) hx3) (fun hS => ?_)
                try simp only [Act.put, List.setIfInBounds_toArray, List.set_cons_zero, List.set_cons_succ]
                repeat (first | (refine seq_skip rfl rfl (by assumption) ?_; simp only [Act.put, List.setIfInBounds_toArray, List.set_cons_zero, List.set_cons_succ]) | (refine seq_read (v := ?_) rfl rfl rfl (fun X hX => ?_) (by assumption) ?_; rotate_left; (focus (go_simp <;> with_reducible rfl)); simp only [Act.put, List.setIfInBounds_toArray, List.set_cons_zero, List.set_cons_succ]))
                refine seq_nil ?_
                go_wp2_with fail
                go_roundw
                case rel => exact ⟨j + 1 + 1, by omega, by go_num, all_step Hge.out hall.out (by rw [edgeOK, he.out]; dsimp only; rw [Nat.add_sub_cancel, Hp.out, hA.out]; simp [hnl.out]), hext.trans (by assumption)⟩
                case measure => simp [intOf]; omega
        · obtain rfl : k = n := by omega
          go_wp2
          go_ret
          exact ⟨ret_bool (by rw [Hv.out, all_end (by simp) hall.out, hd.out]; simp; omega), ((Ext.refl _).alloc _).trans hext⟩
    · go_enter Try.func38, Try.ntmps38
      have hd := hide (show decide (0 ≤ s.al ∧ s.al ≤ 63) = true by simp; omega)
      go_wp2_with (go_at_call 39; refine (spec_l1Alphabet _ _).mono ?_; rw [hd.out]; rintro e w' ⟨rfl, rfl⟩)
      all_goals go_ret
      all_goals exact ⟨ret_bool (by rw [Hv.out]; simp [hst]), (Ext.refl _).alloc _⟩
  · go_enter Try.func38, Try.ntmps38
    have hd := hide (show decide (0 ≤ s.al ∧ s.al ≤ 63) = false by simp; omega)
    go_wp2_with (go_at_call 39; refine (spec_l1Alphabet _ _).mono ?_; rw [hd.out]; rintro e w' ⟨rfl, rfl⟩)
    go_ret
    exact ⟨ret_bool (by rw [Hv.out]; simp; omega), (Ext.refl _).alloc _⟩
end Go.Proofs.Ytcmgkekaeafgaaa

namespace Go.Proofs.Ytcmgkekaeafgaaa
open Go Go.RowKit
set_option maxHeartbeats 1000000

/-- Two valid systems over one alphabet. -/
def sameB (s t : Sys) : Bool := sysValid s && (sysValid t && s.al == t.al)
end Go.Proofs.Ytcmgkekaeafgaaa

namespace Go.Proofs.Ytcmgkekaeafgaaa
open Go Go.RowKit

section
variable {P : Program} (w : World)
theorem run_onto_none (base : Nat) (t ty e : TypeId) (i : TypeInfo) (size : Nat) (ht : P.underlying t = some (.slice e)) (hi : P.info? e = some i)
    (v : Value) (n : Nat) (xs : List Value) (hown : w.ownsRow base e size v n xs) (c : Nat) : (Builtin.append_ #[t, t] ty #[v, .slice none 0 c]).run P w = .ok v w := by
  rcases hown.2 with ⟨rfl, rfl⟩ | ⟨g, cap, cur, rfl, _, _, hnc, _⟩
  · simp [Builtin.append_, run_underlying ht, sizeOf, typeInfo, hi, Builtin.lenOf, Builtin.firstCells]
  · simp [Builtin.append_, run_underlying ht, sizeOf, typeInfo, hi, Builtin.lenOf, Builtin.firstCells, hnc, storeCells]
theorem wp_onto {o : Oper} {a : Act} {K : Act → World → Prop} {Q : Exit → Act → World → Prop} (s x : Operand) (t : TypeId)
    (ho : o.op = .call { callee := .builtin .append, args := #[s, x], argTypes := #[t, t] })
    (base : Nat) (e : TypeId) (z : Value) (size bytes : Nat) (ht : P.underlying t = some (.slice e)) (hi : (P.info? e).map (fun i => (i.zero, i.size, i.bytes)) = some (some z, size, bytes)) (hzs : z.cells.size = size) (hsz : 0 < size)
    (v : Value) (n : Nat) (xs : List Value) (hs : a.eval s = v) (hown : w.ownsRow base e size v n xs)
    (lo hi' : Nat) (A : Option Addr) (m c : Nat) (news : List Value) (hx : a.eval x = .slice A m c) (hr : Reads w lo hi' size A m news) (h1 : ∀ u ∈ news, u.oneCell' = true)
    (h63 : n + m ≤ maxLen) (hbytes : (n + m) * bytes ≤ 140737488355328) (hbase : base ≤ w.heap.size)
    (h : ∀ v' w', w'.ownsRow base e size v' (n + m) (xs ++ news) → w.grownBy w' v.ownBlock → (v'.ownBlock = v.ownBlock ∨ v'.ownBlock = some w.heap.size) → K (a.put o.dst v') w') : o.wp P a w K Q := by
  obtain ⟨i, hi0, hz0, hz1, hz2⟩ := info_parts hi
  have hrun : ∃ v' w', (Builtin.append_ #[t, t] o.type #[v, .slice A m c]).run P w = .ok v' w' ∧ w'.ownsRow base e size v' (n + m) (xs ++ news) ∧ w.grownBy w' v.ownBlock ∧ (v'.ownBlock = v.ownBlock ∨ v'.ownBlock = some w.heap.size) := by
    by_cases h0 : m = 0
    · subst h0
      obtain rfl : news = [] := List.eq_nil_of_length_eq_zero (by simpa using hr.1)
      cases A with
      | none => exact ⟨v, w, run_onto_none w base t o.type e i size ht hi0 v n xs hown c, by simpa using hown, World.grownBy.refl w _, .inl rfl⟩
      | some ad =>
        obtain ⟨v', w', h2, h3, h4, _, h5⟩ := run_append_own_at (P := P) w base t o.type e i z size bytes ht hi0 hz0 hz1 hz2 hzs hsz v n xs hown ad 0 c [] (by simp) (fun j u hu => by simp at hu) h1 h63 hbytes hbase
        exact ⟨v', w', h2, h3, h4, h5⟩
    · obtain ⟨ad, rfl, _, _, hc⟩ := hr.2.2 (by omega)
      obtain ⟨v', w', h2, h3, h4, _, h5⟩ := run_append_own_at (P := P) w base t o.type e i z size bytes ht hi0 hz0 hz1 hz2 hzs hsz v n xs hown ad m c news hr.1 hc h1 h63 hbytes hbase
      exact ⟨v', w', h2, h3, h4, h5⟩
  obtain ⟨v', w', h2, h3, h4, h5⟩ := hrun
  unfold Oper.wp execOp
  simp only [ho, resolve, invoke, builtin, Sem.run_bind, Sem.run_pure, Result.andThen_ok, List.map_toArray, List.map_cons, List.map_nil, hs, hx, h2]
  exact h v' w' h3 h4 h5
theorem wpList_onto {ops : Array Oper} {rest : List Oper} {o : Oper} {a : Act} {Q : Exit → Act → World → Prop} (hgd : o.guard = none) (s x : Operand) (t : TypeId)
    (ho : o.op = .call { callee := .builtin .append, args := #[s, x], argTypes := #[t, t] })
    (base : Nat) (e : TypeId) (z : Value) (size bytes : Nat) (ht : P.underlying t = some (.slice e)) (hi : (P.info? e).map (fun i => (i.zero, i.size, i.bytes)) = some (some z, size, bytes)) (hzs : z.cells.size = size) (hsz : 0 < size)
    (v : Value) (n : Nat) (xs : List Value) (hs : a.eval s = v) (hown : w.ownsRow base e size v n xs)
    (lo hi' : Nat) (A : Option Addr) (m c : Nat) (news : List Value) (hx : a.eval x = .slice A m c) (hr : Reads w lo hi' size A m news) (h1 : ∀ u ∈ news, u.oneCell' = true)
    (h63 : n + m ≤ maxLen) (hbytes : (n + m) * bytes ≤ 140737488355328) (hbase : base ≤ w.heap.size)
    (h : ∀ v' w', w'.ownsRow base e size v' (n + m) (xs ++ news) → w.grownBy w' v.ownBlock → (v'.ownBlock = v.ownBlock ∨ v'.ownBlock = some w.heap.size) → wpList P ops Q rest (a.put o.dst v') w') : wpList P ops Q (o :: rest) a w :=
  wpList_plain hgd fun _ hK => wp_onto w s x t ho base e z size bytes ht hi hzs hsz v n xs hs hown lo hi' A m c news hx hr h1 h63 hbytes hbase fun v' w' h2 h3 h4 => hK _ _ (h v' w' h2 h3 h4)
end

end Go.Proofs.Ytcmgkekaeafgaaa

namespace Go.Proofs.Ytcmgkekaeafgaaa
open Go Go.RowKit
set_option maxHeartbeats 1000000

theorem ints_one (l : List Int) : ∀ u ∈ ints l, u.oneCell' = true := by
  intro u hu
  obtain ⟨x, _, rfl⟩ := List.mem_map.1 hu
  rfl
theorem bools_one (l : List Bool) : ∀ u ∈ bools l, u.oneCell' = true := by
  intro u hu
  obtain ⟨x, _, rfl⟩ := List.mem_map.1 hu
  rfl
theorem grown_new {w w1 : World} {cs : Array Value} {t : TypeId} {n c : Nat} (hg : (w.alloc (.cells cs t)).grownBy w1 (Value.slice (some ⟨w.heap.size, 0, none⟩) n c).ownBlock) : Ext w w1 :=
  ((Ext.refl w).alloc _).grown hg (fun k hk => by
    have hk' : w.heap.size = k := by simpa [Value.ownBlock] using hk
    omega)
end Go.Proofs.Ytcmgkekaeafgaaa

namespace Go.Proofs.Ytcmgkekaeafgaaa
open Go Go.RowKit
set_option maxHeartbeats 400000

def rowB (k n : Nat) (row : List Int) : Bool := decide (row.length = k) && row.all fun q => decide (0 ≤ q ∧ q < n)
def autValid (a : Aut) : Bool :=
  decide (0 ≤ a.al ∧ a.al ≤ 63) && (decide (1 ≤ a.next.length ∧ a.next.length ≤ 12) && (decide (a.acc.length = a.next.length) && a.next.all (rowB (letters a.al.toNat 6).length a.next.length)))

theorem spec_l3Row (lo hi : Nat) (A : Option Addr) (n c : Nat) (l : List Int) (k m : Nat) (w : World) (h : Reads w lo hi 1 A n (ints l)) (hk : k ≤ 100) (_hm : m ≤ 100) :
    Calls Try.prog 40 #[.slice A n c, .int .i64 k, .int .i64 m] w fun e w' => e = .returned (.bool (rowB k m l)) ∧ w = w' := by
  have hn := h.len
  have hl : l.length = n := by have := h.length; rw [ints_length] at this; omega
  have Hl := hide hl
  clear hl
  by_cases he : n = k
  · subst he
    go_enter Try.func40, Try.ntmps40
    go_wp2
    go_loop [7] (fun i => ∃ k : Nat, k ≤ n ∧ i = .int .i64 k ∧ Hid ((l.take k).all (fun q => decide (0 ≤ q ∧ q < m)) = true)) (fun i => n - (intOf i).toNat)
    case atStart => exact ⟨0, Nat.zero_le _, rfl, rfl⟩
    case round =>
      obtain ⟨k, hk, rfl, hall⟩ := hrel
      by_cases hlt : k < n
      · obtain ⟨ad, x, rfl, _, _, hx, hcell⟩ := h.int hlt
        by_cases h0 : x < 0
        · go_wp2
          go_ret
          exact ⟨ret_bool (by rw [rowB, all_stop hx.out (by simp; omega), Bool.and_false]), rfl⟩
        · by_cases h1 : (m : Int) ≤ x
          · go_wp2
            go_ret
            exact ⟨ret_bool (by rw [rowB, all_stop hx.out (by simp; omega), Bool.and_false]), rfl⟩
          · go_wp2
            go_round
            case rel => exact ⟨k + 1, by omega, by go_num, all_step hx.out hall.out (by simp; omega)⟩
            case measure => simp [intOf]; omega
      · obtain rfl : k = n := by omega
        go_wp2
        go_ret
        exact ⟨ret_bool (by rw [rowB, all_end (by have := Hl.out; omega) hall.out, Hl.out]; simp), rfl⟩
  · go_enter Try.func40, Try.ntmps40
    go_wp2
    go_ret
    exact ⟨ret_bool (by rw [rowB, Hl.out]; simp [he]), rfl⟩

theorem spec_AutomatonValid (lo hi : Nat) (A : Option Addr) (n c : Nat) (A' : Option Addr) (n' c' : Nat) (a : Aut) (w : World) (h : AutAt w lo hi A n A' n' a) :
    Calls Try.prog 25 #[.agg #[.int .i64 a.al, .slice A n c, .slice A' n' c']] w fun e w' => e = .returned (.bool (autValid a)) ∧ Ext w w' := by
  have h1 := h.n1
  have h2 := h.n2
  have Hv := hide (show autValid a = (decide (0 ≤ a.al ∧ a.al ≤ 63) && (decide (1 ≤ n ∧ n ≤ 12) && (decide (n' = n) && a.next.all (rowB (letters a.al.toNat 6).length n)))) by unfold autValid; rw [← h1, ← h2])
  have hl1 := h.1.len
  have hl2 := h.2.2.len
  clear h1 h2
  by_cases hal : 0 ≤ a.al ∧ a.al ≤ 63
  · have hd := hide (show decide (0 ≤ a.al ∧ a.al ≤ 63) = true by simp; omega)
    by_cases hn : 1 ≤ n ∧ n ≤ 12
    · have hd1 : decide ((n : Int) < 1) = false := by simp; omega
      have hd2 : decide (12 < (n : Int)) = false := by simp; omega
      by_cases hn' : n' = n
      · subst hn'
        obtain ⟨al, hal'⟩ : ∃ al : Nat, Hid (a.al = al) := ⟨a.al.toNat, by unfold Hid; omega⟩
        have hsm : Sm al := by have := hal'.out; unfold Sm; omega
        have hll := letters_length al 6
        rw [hal'.out]
        rw [hal'.out] at hd
        rw [hal'.out, Int.toNat_natCast] at Hv
        clear hal
        have hR := fun W (hW : Ext w W) => h.1.ext hW
        have HR := hide hR
        clear hR
        go_enter Try.func25, Try.ntmps25
        go_wp2_with (go_at_call 39; refine (spec_l1Alphabet _ _).mono ?_; rw [hd.out]; rintro e w' ⟨rfl, rfl⟩)
        go_loopw [4] (fun i wr => ∃ k : Nat, k ≤ n' ∧ i = .int .i64 k ∧ Hid ((a.next.take k).all (rowB (letters al 6).length n') = true) ∧ Ext (w.alloc (.cells #[Value.int .i64 al, Value.slice A n' c, Value.slice A' n' c'] 27)) wr)
          (fun i _ => n' - (intOf i).toNat)
        case atStart => exact ⟨0, Nat.zero_le _, rfl, rfl, Ext.refl _⟩
        case round =>
          obtain ⟨k, hk, rfl, hall, hext⟩ := hrel
          have hbox : ∀ W, Ext wr W → ∀ j, W.cell? ⟨w.heap.size, j, none⟩ = #[Value.int .i64 al, Value.slice A n' c, Value.slice A' n' c'][j]? := fun W hW => ext_box (hext.trans hW)
          by_cases hlt : k < n'
          · obtain ⟨ad, Ak, ck, l, rfl, hlo, hhi, hl, hcell, hrk⟩ := (HR.out wr (((Ext.refl _).alloc _).trans hext)).row hlt
            have hce : ∀ W, Ext wr W → W.cell? (ad.add k) = some (.slice Ak l.length ck) := fun W hW => hW.cell_some hcell
            have hwr := Ext.refl wr
            have hfin : ∀ W, Ext wr W → Ext w W := fun W hW => (((Ext.refl _).alloc _).trans hext).trans hW
            have Hfin := hide hfin
            clear hfin
            cases hrb : rowB (letters al 6).length n' l
            · have Hrb := hide hrb
              clear hrb
              go_wp2_with fail
              go_region_held3 (fun W => Ext wr W) (first | assumption | (refine Ext.drew ?_; assumption) | (refine Ext.trans ?_ (by assumption); assumption) | (refine Ext.trans ?_ (by assumption); refine Ext.drew ?_; assumption)) (first | (go_at_call 41; refine (spec_l1Letters _ hsm _).mono ?_; rintro e w2 ⟨A2, c2, rfl, hown2, hext2⟩) | (go_at_call 40; refine (spec_l3Row _ _ _ _ _ _ _ _ _ (hrk.ext ?_) (by omega) (by omega)).mono ?_; assumption; rw [Hrb.out]; rintro e w3 ⟨rfl, rfl⟩))
              go_wp2
              go_ret
              exact ⟨ret_bool (by rw [Hv.out, all_stop hl.out Hrb.out]; simp), Hfin.out _ (by assumption)⟩
            · have Hrb := hide hrb
              clear hrb
              go_wp2_with fail
              go_region_held3 (fun W => Ext wr W) (first | assumption | (refine Ext.drew ?_; assumption) | (refine Ext.trans ?_ (by assumption); assumption) | (refine Ext.trans ?_ (by assumption); refine Ext.drew ?_; assumption)) (first | (go_at_call 41; refine (spec_l1Letters _ hsm _).mono ?_; rintro e w2 ⟨A2, c2, rfl, hown2, hext2⟩) | (go_at_call 40; refine (spec_l3Row _ _ _ _ _ _ _ _ _ (hrk.ext ?_) (by omega) (by omega)).mono ?_; assumption; rw [Hrb.out]; rintro e w3 ⟨rfl, rfl⟩))
              go_wp2
              go_roundw
              case rel => exact ⟨k + 1, by omega, by go_num, all_step hl.out hall.out Hrb.out, hext.trans (by assumption)⟩
              case measure => simp [intOf]; omega
          · obtain rfl : k = n' := by omega
            go_wp2
            go_ret
            exact ⟨ret_bool (by rw [Hv.out, all_end (by have := h.n1; omega) hall.out, hd.out]; simp; omega), ((Ext.refl _).alloc _).trans hext⟩
      · have hne : ((n' : Int) != (n : Int)) = true := by simp; omega
        go_enter Try.func25, Try.ntmps25
        go_wp2_with (go_at_call 39; refine (spec_l1Alphabet _ _).mono ?_; rw [hd.out]; rintro e w' ⟨rfl, rfl⟩)
        go_ret
        exact ⟨ret_bool (by rw [Hv.out]; simp [hn']), (Ext.refl _).alloc _⟩
    · go_enter Try.func25, Try.ntmps25
      go_wp2_with (go_at_call 39; refine (spec_l1Alphabet _ _).mono ?_; rw [hd.out]; rintro e w' ⟨rfl, rfl⟩)
      all_goals go_ret
      all_goals exact ⟨ret_bool (by rw [Hv.out]; simp [hn]), (Ext.refl _).alloc _⟩
  · go_enter Try.func25, Try.ntmps25
    have hd : decide (0 ≤ a.al ∧ a.al ≤ 63) = false := by simp; omega
    go_wp2_with (go_at_call 39; refine (spec_l1Alphabet _ _).mono ?_; rw [hd]; rintro e w' ⟨rfl, rfl⟩)
    go_ret
    exact ⟨ret_bool (by rw [Hv.out]; simp; omega), (Ext.refl _).alloc _⟩
end Go.Proofs.Ytcmgkekaeafgaaa

namespace Go.Proofs.Ytcmgkekaeafgaaa
open Go Go.RowKit
set_option maxHeartbeats 1000000

end Go.Proofs.Ytcmgkekaeafgaaa

namespace Go.Proofs.Ytcmgkekaeafgaaa
open Go Go.RowKit
set_option maxHeartbeats 1000000

theorem areParts_1 {lo hi : Nat} {A : Option Addr} {n c : Nat} {s : Sys} {w : World} (h : SysAt w lo hi A n s) :
    Calls Try.prog 20 #[.agg #[.int .i64 s.al, .int .i64 s.st, .slice A n c]] w fun e w' => e = .returned (.bool (!sysValid s)) ∧ Ext w w' := by
  go_enter Try.func20, Try.ntmps20
  go_wp2_with (go_at_call 21; refine (impl_SystemValid (h.ext ?_)).mono ?_; exact (Ext.refl _).alloc _; rintro e w' ⟨rfl, hx⟩)
  go_ret
  exact ⟨rfl, ((Ext.refl _).alloc _).trans hx⟩

theorem indexFunc_parts {lo hi : Nat} {A : Option Addr} {n c : Nat} {ss : List Sys} {w : World} (h : SLAt w lo hi A n ss) :
    Calls Try.prog 34 #[.slice A n c, .func (.func 20) #[] #[]] w fun e w' => ∃ r : Int, e = .returned (.int .i64 r) ∧ decide (0 ≤ r) = ss.any (fun s => !sysValid s) ∧ -1 ≤ r ∧ Ext w w' := by
  have hn := h.len
  have hL := hide h.1
  go_enter Try.func34, Try.ntmps34
  go_wp2
  go_loopw [8] (fun i wr => ∃ k : Nat, k ≤ n ∧ i = .int .i64 k ∧ Hid ((ss.take k).any (fun s => !sysValid s) = false) ∧ Ext w wr) (fun i _ => n - (intOf i).toNat)
  case atStart => exact ⟨0, Nat.zero_le _, rfl, rfl, Ext.refl _⟩
  case round =>
    obtain ⟨k, hk, rfl, hany, hext⟩ := hrel
    by_cases hlt : k < n
    · obtain ⟨b, o, s, B, q, d, rfl, hlo, hhi, hs, c0, c1, c2, hsy⟩ := (h.ext hext).sys hlt
      cases hb : sysValid s
      all_goals
        have Hb := hide hb
        clear hb
        go_wp2_with (go_at_call 20; refine (areParts_1 hsy).mono ?_; rw [Hb.out]; rintro e w' ⟨rfl, hx⟩)
      · go_ret
        exact ⟨k, rfl, by rw [List.any_eq_true.2 ⟨s, List.mem_of_getElem? hs.out, by rw [Hb.out]; rfl⟩]; simp, by omega, hext.trans hx⟩
      · go_roundw
        case rel => exact ⟨k + 1, by omega, by go_num, by unfold Hid; rw [List.take_add_one, hs.out, List.any_append, hany.out]; simp [Hb.out], hext.trans hx⟩
        case measure => simp [intOf]; omega
    · obtain rfl : k = n := by omega
      go_wp2
      go_ret
      have := hany.out
      rw [hL.out, List.take_length] at this
      exact ⟨-1, rfl, by rw [this]; decide, by omega, hext⟩

theorem containsFunc_parts {lo hi : Nat} {A : Option Addr} {n c : Nat} {ss : List Sys} {w : World} (h : SLAt w lo hi A n ss) :
    Calls Try.prog 19 #[.slice A n c, .func (.func 20) #[] #[]] w fun e w' => e = .returned (.bool (ss.any (fun s => !sysValid s))) ∧ Ext w w' := by
  go_enter Try.func19, Try.ntmps19
  cases hb : ss.any (fun s => !sysValid s)
  all_goals
    have Hb := hide hb
    clear hb
    go_wp2_with (go_at_call 34; refine (indexFunc_parts h).mono ?_; rw [Hb.out]; rintro e w' ⟨r, rfl, hr, hr1, hx⟩)
    go_ret
    exact ⟨ret_bool (by have hr' := hr; simp at hr'; simp <;> omega), hx⟩

/-- The systems are parts. -/
def areParts (ss : List Sys) : Bool := decide (1 ≤ ss.length) && (decide (ss.length ≤ 3) && ss.all sysValid)
theorem impl_areParts {lo hi : Nat} {A : Option Addr} {n c : Nat} {ss : List Sys} {w : World} (h : SLAt w lo hi A n ss) :
    Calls Try.prog 11 #[.slice A n c] w fun e w' => e = .returned (.bool (areParts ss)) ∧ Ext w w' := by
  have hn := h.len
  have hL := hide h.1
  have hA : ss.any (fun s => !sysValid s) = !ss.all sysValid := by rw [Bool.eq_iff_iff]; simp
  have HA := hide hA
  clear hA
  by_cases h1 : 1 ≤ n
  · by_cases h3 : n ≤ 3
    · go_enter Try.func11, Try.ntmps11
      go_wp2_with (go_at_call 19; refine (containsFunc_parts h).mono ?_; rw [HA.out]; rintro e w' ⟨rfl, hx⟩)
      go_ret
      exact ⟨ret_bool (by have := hL.out; unfold areParts; rw [decide_eq_true (by omega), decide_eq_true (by omega)]; simp), hx⟩
    · go_enter Try.func11, Try.ntmps11
      go_wp2
      go_ret
      exact ⟨ret_bool (by have := hL.out; unfold areParts; rw [decide_eq_false (by omega : ¬ ss.length ≤ 3)]; simp), Ext.refl _⟩
  · go_enter Try.func11, Try.ntmps11
    go_wp2
    go_ret
    exact ⟨ret_bool (by have := hL.out; unfold areParts; rw [decide_eq_false (by omega : ¬ 1 ≤ ss.length)]; simp), Ext.refl _⟩
end Go.Proofs.Ytcmgkekaeafgaaa

namespace Go.Proofs.Ytcmgkekaeafgaaa
open Go Go.RowKit
set_option maxHeartbeats 400000

theorem impl_AutomatonValid (lo hi : Nat) (A : Option Addr) (n c : Nat) (A' : Option Addr) (n' c' : Nat) (a : Aut) (w : World) (h : AutAt w lo hi A n A' n' a) :
    Calls Try.prog 12 #[.agg #[.int .i64 a.al, .slice A n c, .slice A' n' c']] w fun e w' => e = .returned (.bool (autValid a)) ∧ Ext w w' := by
  have h1 := h.n1
  have h2 := h.n2
  have Hv := hide (show autValid a = (decide (0 ≤ a.al ∧ a.al ≤ 63) && (decide (1 ≤ n ∧ n ≤ 12) && (decide (n' = n) && a.next.all (rowB (letters a.al.toNat 6).length n)))) by unfold autValid; rw [← h1, ← h2])
  have hl1 := h.1.len
  have hl2 := h.2.2.len
  clear h1 h2
  by_cases hal : 0 ≤ a.al ∧ a.al ≤ 63
  · have hd := hide (show decide (0 ≤ a.al ∧ a.al ≤ 63) = true by simp; omega)
    by_cases hn : 1 ≤ n ∧ n ≤ 12
    · have hd1 : decide ((n : Int) < 1) = false := by simp; omega
      have hd2 : decide (12 < (n : Int)) = false := by simp; omega
      by_cases hn' : n' = n
      · subst hn'
        obtain ⟨al, hal'⟩ : ∃ al : Nat, Hid (a.al = al) := ⟨a.al.toNat, by unfold Hid; omega⟩
        have hsm : Sm al := by have := hal'.out; unfold Sm; omega
        have hll := letters_length al 6
        rw [hal'.out]
        rw [hal'.out] at hd
        rw [hal'.out, Int.toNat_natCast] at Hv
        clear hal
        have hR := fun W (hW : Ext w W) => h.1.ext hW
        have HR := hide hR
        clear hR
        go_enter Try.func12, Try.ntmps12
        go_wp2_with (first
          | (go_at_call 22; refine (impl_isAlphabet _ _).mono ?_; rw [hd.out]; rintro e w' ⟨rfl, rfl⟩)
          | (go_at_call 23; refine (impl_lettersOf _ hsm _).mono ?_; rintro e w2 ⟨A2, c2, rfl, hown2, hext2⟩; have hbox2 := ext_box hext2))
        go_loopw [40] (fun i wr => ∃ k : Nat, k ≤ n' ∧ i = .int .i64 k ∧ Hid ((a.next.take k).all (rowB (letters al 6).length n') = true) ∧ Ext w2 wr)
          (fun i _ => n' - (intOf i).toNat)
        case atStart => exact ⟨0, Nat.zero_le _, rfl, rfl, Ext.refl _⟩
        case round =>
          obtain ⟨k, hk, rfl, hall, hext⟩ := hrel
          have hbox : ∀ W, Ext wr W → ∀ j, W.cell? ⟨w.heap.size, j, none⟩ = #[Value.int .i64 al, Value.slice A n' c, Value.slice A' n' c'][j]? := fun W hW => ext_box ((hext2.trans hext).trans hW)
          have hwr := Ext.refl wr
          clear hbox2
          have hfin : Ext w wr := (((Ext.refl _).alloc _).trans hext2).trans hext
          by_cases hlt : k < n'
          · obtain ⟨ad, Ak, ck, l, rfl, hlo, hhi, hl, hcell, hrk⟩ := (HR.out wr hfin).row hlt
            by_cases hlk : l.length = (letters al 6).length
            · obtain ⟨m, hm⟩ : ∃ m, Hid ((letters al 6).length = m) := ⟨_, rfl⟩
              have hlm : Hid (l.length = m) := by have := hm.out; unfold Hid; omega
              rw [hm.out] at hll ⊢
              rw [hm.out] at hall Hv
              rw [hlm.out] at hcell hrk
              clear hlk
              go_wp2_with fail
              go_loop [50] (fun i => ∃ j : Nat, j ≤ m ∧ i = .int .i64 j ∧ Hid ((l.take j).all (fun q => decide (0 ≤ q ∧ q < n')) = true)) (fun i => m - (intOf i).toNat)
              case atStart => exact ⟨0, Nat.zero_le _, rfl, rfl⟩
              case round =>
                obtain ⟨j, hj, rfl, hallj⟩ := hrel
                by_cases hltj : j < m
                · obtain ⟨ad2, x, rfl, _, _, hx, hcell2⟩ := hrk.int hltj
                  by_cases h0 : x < 0
                  · go_wp2
                    go_ret
                    exact ⟨ret_bool (by rw [Hv.out, all_stop hl.out (by rw [rowB, all_stop hx.out (by simp; omega), Bool.and_false])]; simp), hfin⟩
                  · by_cases h1 : (n' : Int) ≤ x
                    · go_wp2
                      go_ret
                      exact ⟨ret_bool (by rw [Hv.out, all_stop hl.out (by rw [rowB, all_stop hx.out (by simp; omega), Bool.and_false])]; simp), hfin⟩
                    · go_wp2
                      go_round
                      case rel => exact ⟨j + 1, by omega, by go_num, all_step hx.out hallj.out (by simp; omega)⟩
                      case measure => simp [intOf]; omega
                · obtain rfl : j = m := by omega
                  go_wp2
                  go_roundw
                  case rel => exact ⟨k + 1, by omega, by go_num, all_step hl.out hall.out (by rw [rowB, all_end (by have := hlm.out; omega) hallj.out, hlm.out]; simp), hext⟩
                  case measure => simp [intOf]; omega
            · have hne : ((l.length : Int) != ((letters al 6).length : Int)) = true := by simp; omega
              go_wp2
              go_ret
              exact ⟨ret_bool (by rw [Hv.out, all_stop hl.out (by simp [rowB, hlk])]; simp), hfin⟩
          · obtain rfl : k = n' := by omega
            go_wp2
            go_ret
            exact ⟨ret_bool (by rw [Hv.out, all_end (by have := h.n1; omega) hall.out, hd.out]; simp; omega), hfin⟩
      · have hne : ((n' : Int) != (n : Int)) = true := by simp; omega
        go_enter Try.func12, Try.ntmps12
        go_wp2_with (go_at_call 22; refine (impl_isAlphabet _ _).mono ?_; rw [hd.out]; rintro e w' ⟨rfl, rfl⟩)
        go_ret
        exact ⟨ret_bool (by rw [Hv.out]; simp [hn']), (Ext.refl _).alloc _⟩
    · go_enter Try.func12, Try.ntmps12
      go_wp2_with (go_at_call 22; refine (impl_isAlphabet _ _).mono ?_; rw [hd.out]; rintro e w' ⟨rfl, rfl⟩)
      all_goals go_ret
      all_goals exact ⟨ret_bool (by rw [Hv.out]; simp [hn]), (Ext.refl _).alloc _⟩
  · go_enter Try.func12, Try.ntmps12
    have hd : decide (0 ≤ a.al ∧ a.al ≤ 63) = false := by simp; omega
    go_wp2_with (go_at_call 22; refine (impl_isAlphabet _ _).mono ?_; rw [hd]; rintro e w' ⟨rfl, rfl⟩)
    go_ret
    exact ⟨ret_bool (by rw [Hv.out]; simp; omega), (Ext.refl _).alloc _⟩

/-- Not an automaton: the zero value. -/
def autNone (a : Aut) : Bool := decide (a.al = 0) && (decide (a.next.length = 0) && decide (a.acc.length = 0))

end Go.Proofs.Ytcmgkekaeafgaaa
