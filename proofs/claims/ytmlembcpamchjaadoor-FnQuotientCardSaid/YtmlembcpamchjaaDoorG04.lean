/- Validity of systems. | Validity of systems, the reference's own. | impl.sameAlphabets and spec.l6Comparable, walked. -/
import Derived.Test.YtmlembcpamchjaaDoorG03
namespace Go.Proofs.YtmlembcpamchjaaDoor
open Go Go.RowKit
set_option maxHeartbeats 4000000

theorem impl_isState {al st : Int} {A : Option Addr} {n c : Nat} {q : Int} {w : World} :
    Calls Tryd.prog 44 #[.agg #[.int .i64 al, .int .i64 st, .slice A n c], .int .i64 q] w fun e w' => e = .returned (.bool (decide (0 ≤ q) && decide (q < st))) ∧ Ext w w' := by
  by_cases h0 : 0 ≤ q
  all_goals
    go_enter Tryd.func44, Tryd.ntmps44
    go_wp2
    go_ret
    exact ⟨ret_bool (by simp; try omega), (Ext.refl _).alloc _⟩

/-- An edge of a system with an alphabet and a number of states. -/
def edgB (al : Nat) (st : Int) (e : Edg) : Bool := (decide (0 ≤ e.fr) && decide (e.fr < st)) && ((decide (0 ≤ e.to) && decide (e.to < st)) && (decide (e.le < 6) && hasB al e.le))
/-- The k-th edge is right, and behind the one ahead of it. -/
def edgeOK (al : Nat) (st : Int) (l : List Edg) (k : Nat) : Bool :=
  match l[k]? with
  | some e => edgB al st e && (decide (k = 0) || match l[k - 1]? with
    | some p => ltE p e
    | none => false)
  | none => false
def sysValid (s : Sys) : Bool :=
  decide (0 ≤ s.al ∧ s.al ≤ 63) && (decide (1 ≤ s.st ∧ s.st ≤ 16) && (List.range s.edges.length).all (edgeOK s.al.toNat s.st s.edges))

theorem impl_SystemValid {lo hi : Nat} {A : Option Addr} {n c : Nat} {s : Sys} {w : World} (h : SysAt w lo hi A n s) :
    Calls Tryd.prog 16 #[.agg #[.int .i64 s.al, .int .i64 s.st, .slice A n c]] w fun e w' => e = .returned (.bool (sysValid s)) ∧ Ext w w' := by
  have Hv := hide (show sysValid s = (decide (0 ≤ s.al ∧ s.al ≤ 63) && (decide (1 ≤ s.st ∧ s.st ≤ 16) && (List.range n).all (edgeOK s.al.toNat s.st s.edges))) by unfold sysValid; rw [← h.1])
  have hn := h.2.len
  by_cases hal : 0 ≤ s.al ∧ s.al ≤ 63
  · by_cases hst : 1 ≤ s.st ∧ s.st ≤ 16
    · obtain ⟨al, hal'⟩ : ∃ al : Nat, Hid (s.al = al) := ⟨s.al.toNat, by unfold Hid; omega⟩
      have hsm : Sm al := by have := hal'.out; unfold Sm; omega
      have hd := hide (show decide (0 ≤ (al : Int) ∧ (al : Int) ≤ 63) = true by have := hal'.out; simp; omega)
      rw [hal'.out]
      rw [hal'.out, Int.toNat_natCast] at Hv
      clear hal
      have hd1 : decide (s.st < 1) = false := by simp; omega
      have hd2 : decide (16 < s.st) = false := by simp; omega
      obtain ⟨st, hst', hs1, hs2⟩ : ∃ st : Int, Hid (s.st = st) ∧ 1 ≤ st ∧ st ≤ 16 := ⟨s.st, hide rfl, hst.1, hst.2⟩
      rw [hst'.out] at hd1 hd2 Hv ⊢
      clear hst
      have hR := fun W (hW : Ext w W) => h.2.ext hW
      have HR := hide hR
      clear hR
      go_enter Tryd.func16, Tryd.ntmps16
      go_wp2_with (go_at_call 43; refine (impl_isAlphabet _ _).mono ?_; rw [hd.out]; rintro e w' ⟨rfl, rfl⟩)
      go_loopw [22] (fun i wr => ∃ k : Nat, k ≤ n ∧ i = .int .i64 k ∧ Hid (((List.range n).take k).all (edgeOK al st s.edges) = true) ∧ Ext (w.alloc (.cells #[Value.int .i64 al, .int .i64 st, Value.slice A n c] 28)) wr)
        (fun i _ => n - (intOf i).toNat)
      case atStart => exact ⟨0, Nat.zero_le _, rfl, rfl, Ext.refl _⟩
      case round =>
        obtain ⟨k, hk, rfl, hall, hext⟩ := hrel
        by_cases hlt : k < n
        · obtain ⟨b, o, e, rfl, hlo, hhi, he, c0, c1, c2⟩ := (HR.out wr (((Ext.refl _).alloc _).trans hext)).edge hlt
          have hbx := ext_box hext
          go_wp2_with fail
          obtain ⟨W, hW⟩ : ∃ W : World, W = wr.alloc (.cells #[Value.int .i64 e.fr, .int .i64 e.le, .int .i64 e.to] 52) := ⟨_, rfl⟩
          have hx : Ext wr W := by rw [hW]; exact (Ext.refl _).alloc _
          have h1 := ext_blk1 (show Ext (wr.alloc (.cells #[Value.int .i64 e.fr, .int .i64 e.le, .int .i64 e.to] 52)) W by rw [hW]; exact Ext.refl _)
          have e0 : ∀ X, Ext W X → ∀ j, X.cell? ⟨w.heap.size, j, none⟩ = #[Value.int .i64 al, .int .i64 st, Value.slice (some ⟨b, o, none⟩) n c][j]? := fun X hX => ext_box ((hext.trans hx).trans hX)
          have e1 : ∀ X, Ext W X → ∀ j, X.cell? ⟨wr.heap.size, j, none⟩ = #[Value.int .i64 e.fr, .int .i64 e.le, .int .i64 e.to][j]? := fun X hX => (h1.ext hX).cell
          rw [← hW]
          have hr := Ext.refl W
          clear hW h1 hbx c0 c1 c2
          have hfin : ∀ X, Ext W X → Ext w X := fun X hX => ((((Ext.refl _).alloc _).trans hext).trans hx).trans hX
          have Hfin := hide hfin
          clear hfin
          have hge : (List.range n)[k]? = some k := by rw [List.getElem?_range hlt]
          have Hge := hide hge
          clear hge
          cases hA : (decide (0 ≤ e.fr) && decide (e.fr < st))
          · have HA := hide hA
            clear hA
            have hA := HA; clear HA
            refine wp_region_ord (fun X => Ext W X) [0, 1, 2, 3, 4, 5, 6, 7, 8, 9, 10, 11, 12, 13, 14, 15, 16, 17, 18, 19, 20, 21, 22, 23, 24, 25, 26, 27, 28, 29, 30, 31, 32, 33, 34, 35, 36, 37, 38, 39] (by kernel_rfl) rfl (by kernel_rfl) (by kernel_rfl) (fun _ _ _ _ _ h => h) ((Ext.refl _).drew) (fun hS => ?_)
            repeat (first | (refine seq_skip rfl rfl (by assumption) ?_; simp only [Act.put, List.setIfInBounds_toArray, List.set_cons_zero, List.set_cons_succ]) | (refine seq_read (v := ?_) rfl rfl rfl (fun X hX => ?_) (by assumption) ?_; rotate_left; (focus (go_simp <;> with_reducible rfl)); simp only [Act.put, List.setIfInBounds_toArray, List.set_cons_zero, List.set_cons_succ]))
            refine seq_step rfl rfl rfl (fun K hK => ?_)
            go_simp
            refine (impl_isState).mono ?_
            rw [hA.out]; rintro r w2 ⟨rfl, hx2⟩
            refine hK.out _ _ (Ext.trans (by assumption) hx2) (fun hS => ?_)
            try simp only [Act.put, List.setIfInBounds_toArray, List.set_cons_zero, List.set_cons_succ]
            repeat (first | (refine seq_skip rfl rfl (by assumption) ?_; simp only [Act.put, List.setIfInBounds_toArray, List.set_cons_zero, List.set_cons_succ]) | (refine seq_read (v := ?_) rfl rfl rfl (fun X hX => ?_) (by assumption) ?_; rotate_left; (focus (go_simp <;> with_reducible rfl)); simp only [Act.put, List.setIfInBounds_toArray, List.set_cons_zero, List.set_cons_succ]))
            refine seq_nil ?_
            go_wp2_with fail
            go_ret
            exact ⟨ret_bool (by rw [Hv.out, all_stop Hge.out (by rw [edgeOK, he.out]; dsimp only; rw [edgB, hA.out]; simp)]; simp), Hfin.out _ (by assumption)⟩
          · have HA := hide hA
            clear hA
            have hA := HA; clear HA
            cases hB : (decide (0 ≤ e.to) && decide (e.to < st))
            · have HB := hide hB
              clear hB
              have hB := HB; clear HB
              refine wp_region_ord (fun X => Ext W X) [0, 1, 2, 3, 4, 5, 6, 7, 8, 9, 10, 11, 12, 13, 14, 15, 16, 17, 18, 19, 20, 21, 22, 23, 24, 25, 26, 27, 28, 29, 30, 31, 32, 33, 34, 35, 36, 37, 38, 39] (by kernel_rfl) rfl (by kernel_rfl) (by kernel_rfl) (fun _ _ _ _ _ h => h) ((Ext.refl _).drew) (fun hS => ?_)
              repeat (first | (refine seq_skip rfl rfl (by assumption) ?_; simp only [Act.put, List.setIfInBounds_toArray, List.set_cons_zero, List.set_cons_succ]) | (refine seq_read (v := ?_) rfl rfl rfl (fun X hX => ?_) (by assumption) ?_; rotate_left; (focus (go_simp <;> with_reducible rfl)); simp only [Act.put, List.setIfInBounds_toArray, List.set_cons_zero, List.set_cons_succ]))
              refine seq_step rfl rfl rfl (fun K hK => ?_)
              go_simp
              refine (impl_isState).mono ?_
              rw [hA.out]; rintro r w2 ⟨rfl, hx2⟩
              refine hK.out _ _ (Ext.trans (by assumption) hx2) (fun hS => ?_)
              try simp only [Act.put, List.setIfInBounds_toArray, List.set_cons_zero, List.set_cons_succ]
              repeat (first | (refine seq_skip rfl rfl (by assumption) ?_; simp only [Act.put, List.setIfInBounds_toArray, List.set_cons_zero, List.set_cons_succ]) | (refine seq_read (v := ?_) rfl rfl rfl (fun X hX => ?_) (by assumption) ?_; rotate_left; (focus (go_simp <;> with_reducible rfl)); simp only [Act.put, List.setIfInBounds_toArray, List.set_cons_zero, List.set_cons_succ]))
              refine seq_step rfl rfl rfl (fun K hK => ?_)
              go_simp
              refine (impl_isState).mono ?_
              rw [hB.out]; rintro r w3 ⟨rfl, hx3⟩
              refine hK.out _ _ (Ext.trans (by assumption) hx3) (fun hS => ?_)
              try simp only [Act.put, List.setIfInBounds_toArray, List.set_cons_zero, List.set_cons_succ]
              repeat (first | (refine seq_skip rfl rfl (by assumption) ?_; simp only [Act.put, List.setIfInBounds_toArray, List.set_cons_zero, List.set_cons_succ]) | (refine seq_read (v := ?_) rfl rfl rfl (fun X hX => ?_) (by assumption) ?_; rotate_left; (focus (go_simp <;> with_reducible rfl)); simp only [Act.put, List.setIfInBounds_toArray, List.set_cons_zero, List.set_cons_succ]))
              refine seq_nil ?_
              go_wp2_with fail
              go_ret
              exact ⟨ret_bool (by rw [Hv.out, all_stop Hge.out (by rw [edgeOK, he.out]; dsimp only; rw [edgB, hA.out, hB.out]; simp)]; simp), Hfin.out _ (by assumption)⟩
            · have HB := hide hB
              clear hB
              have hB := HB; clear HB
              by_cases hle : 6 ≤ e.le
              · have hL : decide (6 ≤ e.le) = true := by simp; omega
                refine wp_region_ord (fun X => Ext W X) [0, 1, 2, 3, 4, 5, 6, 7, 8, 9, 10, 11, 12, 13, 14, 15, 16, 17, 18, 19, 20, 21, 22, 23, 24, 25, 26, 27, 28, 29, 30, 31, 32, 33, 34, 35, 36, 37, 38, 39] (by kernel_rfl) rfl (by kernel_rfl) (by kernel_rfl) (fun _ _ _ _ _ h => h) ((Ext.refl _).drew) (fun hS => ?_)
                repeat (first | (refine seq_skip rfl rfl (by assumption) ?_; simp only [Act.put, List.setIfInBounds_toArray, List.set_cons_zero, List.set_cons_succ]) | (refine seq_read (v := ?_) rfl rfl rfl (fun X hX => ?_) (by assumption) ?_; rotate_left; (focus (go_simp <;> with_reducible rfl)); simp only [Act.put, List.setIfInBounds_toArray, List.set_cons_zero, List.set_cons_succ]))
                refine seq_step rfl rfl rfl (fun K hK => ?_)
                go_simp
                refine (impl_isState).mono ?_
                rw [hA.out]; rintro r w2 ⟨rfl, hx2⟩
                refine hK.out _ _ (Ext.trans (by assumption) hx2) (fun hS => ?_)
                try simp only [Act.put, List.setIfInBounds_toArray, List.set_cons_zero, List.set_cons_succ]
                repeat (first | (refine seq_skip rfl rfl (by assumption) ?_; simp only [Act.put, List.setIfInBounds_toArray, List.set_cons_zero, List.set_cons_succ]) | (refine seq_read (v := ?_) rfl rfl rfl (fun X hX => ?_) (by assumption) ?_; rotate_left; (focus (go_simp <;> with_reducible rfl)); simp only [Act.put, List.setIfInBounds_toArray, List.set_cons_zero, List.set_cons_succ]))
                refine seq_step rfl rfl rfl (fun K hK => ?_)
                go_simp
                refine (impl_isState).mono ?_
                rw [hB.out]; rintro r w3 ⟨rfl, hx3⟩
                refine hK.out _ _ (Ext.trans (by assumption) hx3) (fun hS => ?_)
                try simp only [Act.put, List.setIfInBounds_toArray, List.set_cons_zero, List.set_cons_succ]
                repeat (first | (refine seq_skip rfl rfl (by assumption) ?_; simp only [Act.put, List.setIfInBounds_toArray, List.set_cons_zero, List.set_cons_succ]) | (refine seq_read (v := ?_) rfl rfl rfl (fun X hX => ?_) (by assumption) ?_; rotate_left; (focus (go_simp <;> with_reducible rfl)); simp only [Act.put, List.setIfInBounds_toArray, List.set_cons_zero, List.set_cons_succ]))
                refine seq_nil ?_
                go_wp2_with fail
                go_ret
                exact ⟨ret_bool (by rw [Hv.out, all_stop Hge.out (by rw [edgeOK, he.out]; dsimp only; rw [edgB, hA.out, hB.out]; simp; omega)]; simp), Hfin.out _ (by assumption)⟩
              · have hL : decide (6 ≤ e.le) = false := by simp; omega
                have hlt6 := hide (show decide (e.le < 6) = true by simp; omega)
                cases hC : hasB al e.le
                · have HC := hide hC
                  clear hC
                  have hC := HC; clear HC
                  refine wp_region_ord (fun X => Ext W X) [0, 1, 2, 3, 4, 5, 6, 7, 8, 9, 10, 11, 12, 13, 14, 15, 16, 17, 18, 19, 20, 21, 22, 23, 24, 25, 26, 27, 28, 29, 30, 31, 32, 33, 34, 35, 36, 37, 38, 39] (by kernel_rfl) rfl (by kernel_rfl) (by kernel_rfl) (fun _ _ _ _ _ h => h) ((Ext.refl _).drew) (fun hS => ?_)
                  repeat (first | (refine seq_skip rfl rfl (by assumption) ?_; simp only [Act.put, List.setIfInBounds_toArray, List.set_cons_zero, List.set_cons_succ]) | (refine seq_read (v := ?_) rfl rfl rfl (fun X hX => ?_) (by assumption) ?_; rotate_left; (focus (go_simp <;> with_reducible rfl)); simp only [Act.put, List.setIfInBounds_toArray, List.set_cons_zero, List.set_cons_succ]))
                  refine seq_step rfl rfl rfl (fun K hK => ?_)
                  go_simp
                  refine (impl_isState).mono ?_
                  rw [hA.out]; rintro r w2 ⟨rfl, hx2⟩
                  refine hK.out _ _ (Ext.trans (by assumption) hx2) (fun hS => ?_)
                  try simp only [Act.put, List.setIfInBounds_toArray, List.set_cons_zero, List.set_cons_succ]
                  repeat (first | (refine seq_skip rfl rfl (by assumption) ?_; simp only [Act.put, List.setIfInBounds_toArray, List.set_cons_zero, List.set_cons_succ]) | (refine seq_read (v := ?_) rfl rfl rfl (fun X hX => ?_) (by assumption) ?_; rotate_left; (focus (go_simp <;> with_reducible rfl)); simp only [Act.put, List.setIfInBounds_toArray, List.set_cons_zero, List.set_cons_succ]))
                  refine seq_step rfl rfl rfl (fun K hK => ?_)
                  go_simp
                  refine (impl_isState).mono ?_
                  rw [hB.out]; rintro r w3 ⟨rfl, hx3⟩
                  refine hK.out _ _ (Ext.trans (by assumption) hx3) (fun hS => ?_)
                  try simp only [Act.put, List.setIfInBounds_toArray, List.set_cons_zero, List.set_cons_succ]
                  repeat (first | (refine seq_skip rfl rfl (by assumption) ?_; simp only [Act.put, List.setIfInBounds_toArray, List.set_cons_zero, List.set_cons_succ]) | (refine seq_read (v := ?_) rfl rfl rfl (fun X hX => ?_) (by assumption) ?_; rotate_left; (focus (go_simp <;> with_reducible rfl)); simp only [Act.put, List.setIfInBounds_toArray, List.set_cons_zero, List.set_cons_succ]))
                  refine seq_step rfl rfl rfl (fun K hK => ?_)
                  go_simp
                  refine (impl_has _ _ hsm _).mono ?_
                  rw [hC.out]; rintro r w4 ⟨rfl, rfl⟩
                  refine hK.out _ _ (by assumption) (fun hS => ?_)
                  try simp only [Act.put, List.setIfInBounds_toArray, List.set_cons_zero, List.set_cons_succ]
                  repeat (first | (refine seq_skip rfl rfl (by assumption) ?_; simp only [Act.put, List.setIfInBounds_toArray, List.set_cons_zero, List.set_cons_succ]) | (refine seq_read (v := ?_) rfl rfl rfl (fun X hX => ?_) (by assumption) ?_; rotate_left; (focus (go_simp <;> with_reducible rfl)); simp only [Act.put, List.setIfInBounds_toArray, List.set_cons_zero, List.set_cons_succ]))
                  refine seq_nil ?_
                  go_wp2_with fail
                  go_ret
                  exact ⟨ret_bool (by rw [Hv.out, all_stop Hge.out (by rw [edgeOK, he.out]; dsimp only; rw [edgB, hA.out, hB.out, hC.out]; simp)]; simp), Hfin.out _ (by assumption)⟩
                · have HC := hide hC
                  clear hC
                  have hC := HC; clear HC
                  have hedg := hide (show edgB al st e = true by rw [edgB, hA.out, hB.out, hC.out, hlt6.out]; rfl)
                  by_cases hk0 : k = 0
                  · subst hk0
                    refine wp_region_ord (fun X => Ext W X) [0, 1, 2, 3, 4, 5, 6, 7, 8, 9, 10, 11, 12, 13, 14, 15, 16, 17, 18, 19, 20, 21, 22, 23, 24, 25, 26, 27, 28, 29, 30, 31, 32, 33, 34, 35, 36, 37, 38, 39] (by kernel_rfl) rfl (by kernel_rfl) (by kernel_rfl) (fun _ _ _ _ _ h => h) ((Ext.refl _).drew) (fun hS => ?_)
                    repeat (first | (refine seq_skip rfl rfl (by assumption) ?_; simp only [Act.put, List.setIfInBounds_toArray, List.set_cons_zero, List.set_cons_succ]) | (refine seq_read (v := ?_) rfl rfl rfl (fun X hX => ?_) (by assumption) ?_; rotate_left; (focus (go_simp <;> with_reducible rfl)); simp only [Act.put, List.setIfInBounds_toArray, List.set_cons_zero, List.set_cons_succ]))
                    refine seq_step rfl rfl rfl (fun K hK => ?_)
                    go_simp
                    refine (impl_isState).mono ?_
                    rw [hA.out]; rintro r w2 ⟨rfl, hx2⟩
                    refine hK.out _ _ (Ext.trans (by assumption) hx2) (fun hS => ?_)
                    try simp only [Act.put, List.setIfInBounds_toArray, List.set_cons_zero, List.set_cons_succ]
                    repeat (first | (refine seq_skip rfl rfl (by assumption) ?_; simp only [Act.put, List.setIfInBounds_toArray, List.set_cons_zero, List.set_cons_succ]) | (refine seq_read (v := ?_) rfl rfl rfl (fun X hX => ?_) (by assumption) ?_; rotate_left; (focus (go_simp <;> with_reducible rfl)); simp only [Act.put, List.setIfInBounds_toArray, List.set_cons_zero, List.set_cons_succ]))
                    refine seq_step rfl rfl rfl (fun K hK => ?_)
                    go_simp
                    refine (impl_isState).mono ?_
                    rw [hB.out]; rintro r w3 ⟨rfl, hx3⟩
                    refine hK.out _ _ (Ext.trans (by assumption) hx3) (fun hS => ?_)
                    try simp only [Act.put, List.setIfInBounds_toArray, List.set_cons_zero, List.set_cons_succ]
                    repeat (first | (refine seq_skip rfl rfl (by assumption) ?_; simp only [Act.put, List.setIfInBounds_toArray, List.set_cons_zero, List.set_cons_succ]) | (refine seq_read (v := ?_) rfl rfl rfl (fun X hX => ?_) (by assumption) ?_; rotate_left; (focus (go_simp <;> with_reducible rfl)); simp only [Act.put, List.setIfInBounds_toArray, List.set_cons_zero, List.set_cons_succ]))
                    refine seq_step rfl rfl rfl (fun K hK => ?_)
                    go_simp
                    refine (impl_has _ _ hsm _).mono ?_
                    rw [hC.out]; rintro r w4 ⟨rfl, rfl⟩
                    refine hK.out _ _ (by assumption) (fun hS => ?_)
                    try simp only [Act.put, List.setIfInBounds_toArray, List.set_cons_zero, List.set_cons_succ]
                    repeat (first | (refine seq_skip rfl rfl (by assumption) ?_; simp only [Act.put, List.setIfInBounds_toArray, List.set_cons_zero, List.set_cons_succ]) | (refine seq_read (v := ?_) rfl rfl rfl (fun X hX => ?_) (by assumption) ?_; rotate_left; (focus (go_simp <;> with_reducible rfl)); simp only [Act.put, List.setIfInBounds_toArray, List.set_cons_zero, List.set_cons_succ]))
                    refine seq_nil ?_
                    go_wp2_with fail
                    go_roundw
                    case rel => exact ⟨0 + 1, by omega, by go_num, all_step Hge.out hall.out (by rw [edgeOK, he.out]; dsimp only; rw [hedg.out]; simp), (hext.trans hx).trans (by assumption)⟩
                    case measure => simp [intOf]; omega
                  · obtain ⟨j, rfl⟩ : ∃ j, k = j + 1 := ⟨k - 1, by omega⟩
                    have hp : s.edges[j]? = some (s.edges[j]'(by have := h.1; omega)) := List.getElem?_eq_getElem _
                    generalize s.edges[j]'(by have := h.1; omega) = p at hp
                    have Hp := hide hp
                    clear hp
                    have hpc := (HR.out wr (((Ext.refl _).alloc _).trans hext)).edge2 Hp.out
                    have p0 : ∀ X, Ext W X → X.cell? ⟨b, o + j * 3, none⟩ = some (.int .i64 p.fr) := fun X hX => (hx.trans hX).cell_some hpc.1
                    have p1 : ∀ X, Ext W X → X.cell? ⟨b, o + j * 3 + 1, none⟩ = some (.int .i64 p.le) := fun X hX => (hx.trans hX).cell_some hpc.2.1
                    have p2 : ∀ X, Ext W X → X.cell? ⟨b, o + j * 3 + 2, none⟩ = some (.int .i64 p.to) := fun X hX => (hx.trans hX).cell_some hpc.2.2
                    clear hpc
                    have hk1 : decide ((0 : Int) < (j : Int) + 1) = true := decide_eq_true (by omega)
                    have hw1 : IntKind.i64.wrap ((j : Int) + 1 - 1) = (j : Int) := by rw [IntKind.wrap_i64]; omega
                    have hw2 : IntKind.i64.wrap (j : Int) = (j : Int) := by rw [IntKind.wrap_i64]; omega
                    have hj0 : (0 : Int) ≤ (j : Int) := by omega
                    have hj1 : (j : Int) < (n : Int) := by omega
                    have hpl := cmpE_lt p e
                    have Hpl := hide hpl
                    clear hpl
                    by_cases hc : 0 ≤ cmpE p e
                    · have hcd : decide (0 ≤ cmpE p e) = true := by simpa using hc
                      have hnl := hide (show ltE p e = false by rw [Bool.eq_false_iff]; intro hh; have := Hpl.out.2 hh; omega)
                      refine wp_region_ord (fun X => Ext W X) [0, 1, 2, 3, 4, 5, 6, 7, 8, 9, 10, 11, 12, 13, 14, 15, 16, 17, 18, 19, 20, 21, 22, 23, 24, 25, 26, 27, 28, 29, 30, 31, 32, 33, 34, 35, 36, 37, 38, 39] (by kernel_rfl) rfl (by kernel_rfl) (by kernel_rfl) (fun _ _ _ _ _ h => h) ((Ext.refl _).drew) (fun hS => ?_)
                      repeat (first | (refine seq_skip rfl rfl (by assumption) ?_; simp only [Act.put, List.setIfInBounds_toArray, List.set_cons_zero, List.set_cons_succ]) | (refine seq_read (v := ?_) rfl rfl rfl (fun X hX => ?_) (by assumption) ?_; rotate_left; (focus (go_simp <;> with_reducible rfl)); simp only [Act.put, List.setIfInBounds_toArray, List.set_cons_zero, List.set_cons_succ]))
                      refine seq_step rfl rfl rfl (fun K hK => ?_)
                      go_simp
                      refine (impl_isState).mono ?_
                      rw [hA.out]; rintro r w2 ⟨rfl, hx2⟩
                      refine hK.out _ _ (Ext.trans (by assumption) hx2) (fun hS => ?_)
                      try simp only [Act.put, List.setIfInBounds_toArray, List.set_cons_zero, List.set_cons_succ]
                      repeat (first | (refine seq_skip rfl rfl (by assumption) ?_; simp only [Act.put, List.setIfInBounds_toArray, List.set_cons_zero, List.set_cons_succ]) | (refine seq_read (v := ?_) rfl rfl rfl (fun X hX => ?_) (by assumption) ?_; rotate_left; (focus (go_simp <;> with_reducible rfl)); simp only [Act.put, List.setIfInBounds_toArray, List.set_cons_zero, List.set_cons_succ]))
                      refine seq_step rfl rfl rfl (fun K hK => ?_)
                      go_simp
                      refine (impl_isState).mono ?_
                      rw [hB.out]; rintro r w3 ⟨rfl, hx3⟩
                      refine hK.out _ _ (Ext.trans (by assumption) hx3) (fun hS => ?_)
                      try simp only [Act.put, List.setIfInBounds_toArray, List.set_cons_zero, List.set_cons_succ]
                      repeat (first | (refine seq_skip rfl rfl (by assumption) ?_; simp only [Act.put, List.setIfInBounds_toArray, List.set_cons_zero, List.set_cons_succ]) | (refine seq_read (v := ?_) rfl rfl rfl (fun X hX => ?_) (by assumption) ?_; rotate_left; (focus (go_simp <;> with_reducible rfl)); simp only [Act.put, List.setIfInBounds_toArray, List.set_cons_zero, List.set_cons_succ]))
                      refine seq_step rfl rfl rfl (fun K hK => ?_)
                      go_simp
                      refine (impl_has _ _ hsm _).mono ?_
                      rw [hC.out]; rintro r w4 ⟨rfl, rfl⟩
                      refine hK.out _ _ (by assumption) (fun hS => ?_)
                      try simp only [Act.put, List.setIfInBounds_toArray, List.set_cons_zero, List.set_cons_succ]
                      repeat (first | (refine seq_skip rfl rfl (by assumption) ?_; simp only [Act.put, List.setIfInBounds_toArray, List.set_cons_zero, List.set_cons_succ]) | (refine seq_read (v := ?_) rfl rfl rfl (fun X hX => ?_) (by assumption) ?_; rotate_left; (focus (go_simp <;> with_reducible rfl)); simp only [Act.put, List.setIfInBounds_toArray, List.set_cons_zero, List.set_cons_succ]))
                      refine seq_step rfl rfl rfl (fun K hK => ?_)
                      go_simp
                      refine (impl_compareEdges (a := p) (b := e)).mono ?_
                      rintro r w5 ⟨rfl, hx5⟩
                      refine hK.out _ _ (Ext.trans (by assumption) hx5) (fun hS => ?_)
                      try simp only [Act.put, List.setIfInBounds_toArray, List.set_cons_zero, List.set_cons_succ]
                      repeat (first | (refine seq_skip rfl rfl (by assumption) ?_; simp only [Act.put, List.setIfInBounds_toArray, List.set_cons_zero, List.set_cons_succ]) | (refine seq_read (v := ?_) rfl rfl rfl (fun X hX => ?_) (by assumption) ?_; rotate_left; (focus (go_simp <;> with_reducible rfl)); simp only [Act.put, List.setIfInBounds_toArray, List.set_cons_zero, List.set_cons_succ]))
                      refine seq_nil ?_
                      go_wp2_with fail
                      go_ret
                      exact ⟨ret_bool (by rw [Hv.out, all_stop Hge.out (by rw [edgeOK, he.out]; dsimp only; rw [Nat.add_sub_cancel, Hp.out]; simp [hnl.out])]; simp), Hfin.out _ (by assumption)⟩
                    · have hcd : decide (0 ≤ cmpE p e) = false := by simp; omega
                      have hnl := hide (show ltE p e = true from Hpl.out.1 (by omega))
                      refine wp_region_ord (fun X => Ext W X) [0, 1, 2, 3, 4, 5, 6, 7, 8, 9, 10, 11, 12, 13, 14, 15, 16, 17, 18, 19, 20, 21, 22, 23, 24, 25, 26, 27, 28, 29, 30, 31, 32, 33, 34, 35, 36, 37, 38, 39] (by kernel_rfl) rfl (by kernel_rfl) (by kernel_rfl) (fun _ _ _ _ _ h => h) ((Ext.refl _).drew) (fun hS => ?_)
                      repeat (first | (refine seq_skip rfl rfl (by assumption) ?_; simp only [Act.put, List.setIfInBounds_toArray, List.set_cons_zero, List.set_cons_succ]) | (refine seq_read (v := ?_) rfl rfl rfl (fun X hX => ?_) (by assumption) ?_; rotate_left; (focus (go_simp <;> with_reducible rfl)); simp only [Act.put, List.setIfInBounds_toArray, List.set_cons_zero, List.set_cons_succ]))
                      refine seq_step rfl rfl rfl (fun K hK => ?_)
                      go_simp
                      refine (impl_isState).mono ?_
                      rw [hA.out]; rintro r w2 ⟨rfl, hx2⟩
                      refine hK.out _ _ (Ext.trans (by assumption) hx2) (fun hS => ?_)
                      try simp only [Act.put, List.setIfInBounds_toArray, List.set_cons_zero, List.set_cons_succ]
                      repeat (first | (refine seq_skip rfl rfl (by assumption) ?_; simp only [Act.put, List.setIfInBounds_toArray, List.set_cons_zero, List.set_cons_succ]) | (refine seq_read (v := ?_) rfl rfl rfl (fun X hX => ?_) (by assumption) ?_; rotate_left; (focus (go_simp <;> with_reducible rfl)); simp only [Act.put, List.setIfInBounds_toArray, List.set_cons_zero, List.set_cons_succ]))
                      refine seq_step rfl rfl rfl (fun K hK => ?_)
                      go_simp
                      refine (impl_isState).mono ?_
                      rw [hB.out]; rintro r w3 ⟨rfl, hx3⟩
                      refine hK.out _ _ (Ext.trans (by assumption) hx3) (fun hS => ?_)
                      try simp only [Act.put, List.setIfInBounds_toArray, List.set_cons_zero, List.set_cons_succ]
                      repeat (first | (refine seq_skip rfl rfl (by assumption) ?_; simp only [Act.put, List.setIfInBounds_toArray, List.set_cons_zero, List.set_cons_succ]) | (refine seq_read (v := ?_) rfl rfl rfl (fun X hX => ?_) (by assumption) ?_; rotate_left; (focus (go_simp <;> with_reducible rfl)); simp only [Act.put, List.setIfInBounds_toArray, List.set_cons_zero, List.set_cons_succ]))
                      refine seq_step rfl rfl rfl (fun K hK => ?_)
                      go_simp
                      refine (impl_has _ _ hsm _).mono ?_
                      rw [hC.out]; rintro r w4 ⟨rfl, rfl⟩
                      refine hK.out _ _ (by assumption) (fun hS => ?_)
                      try simp only [Act.put, List.setIfInBounds_toArray, List.set_cons_zero, List.set_cons_succ]
                      repeat (first | (refine seq_skip rfl rfl (by assumption) ?_; simp only [Act.put, List.setIfInBounds_toArray, List.set_cons_zero, List.set_cons_succ]) | (refine seq_read (v := ?_) rfl rfl rfl (fun X hX => ?_) (by assumption) ?_; rotate_left; (focus (go_simp <;> with_reducible rfl)); simp only [Act.put, List.setIfInBounds_toArray, List.set_cons_zero, List.set_cons_succ]))
                      refine seq_step rfl rfl rfl (fun K hK => ?_)
                      go_simp
                      refine (impl_compareEdges (a := p) (b := e)).mono ?_
                      rintro r w5 ⟨rfl, hx5⟩
                      refine hK.out _ _ (Ext.trans (by assumption) hx5) (fun hS => ?_)
                      try simp only [Act.put, List.setIfInBounds_toArray, List.set_cons_zero, List.set_cons_succ]
                      repeat (first | (refine seq_skip rfl rfl (by assumption) ?_; simp only [Act.put, List.setIfInBounds_toArray, List.set_cons_zero, List.set_cons_succ]) | (refine seq_read (v := ?_) rfl rfl rfl (fun X hX => ?_) (by assumption) ?_; rotate_left; (focus (go_simp <;> with_reducible rfl)); simp only [Act.put, List.setIfInBounds_toArray, List.set_cons_zero, List.set_cons_succ]))
                      refine seq_nil ?_
                      go_wp2_with fail
                      go_roundw
                      case rel => exact ⟨j + 1 + 1, by omega, by go_num, all_step Hge.out hall.out (by rw [edgeOK, he.out]; dsimp only; rw [Nat.add_sub_cancel, Hp.out, hedg.out]; simp [hnl.out]), (hext.trans hx).trans (by assumption)⟩
                      case measure => simp [intOf]; omega
        · obtain rfl : k = n := by omega
          go_wp2
          go_ret
          exact ⟨ret_bool (by rw [Hv.out, all_end (by simp) hall.out, hd.out]; simp; omega), ((Ext.refl _).alloc _).trans hext⟩
    · go_enter Tryd.func16, Tryd.ntmps16
      have hd := hide (show decide (0 ≤ s.al ∧ s.al ≤ 63) = true by simp; omega)
      go_wp2_with (go_at_call 43; refine (impl_isAlphabet _ _).mono ?_; rw [hd.out]; rintro e w' ⟨rfl, rfl⟩)
      all_goals go_ret
      all_goals exact ⟨ret_bool (by rw [Hv.out]; simp [hst]), (Ext.refl _).alloc _⟩
  · go_enter Tryd.func16, Tryd.ntmps16
    have hd := hide (show decide (0 ≤ s.al ∧ s.al ≤ 63) = false by simp; omega)
    go_wp2_with (go_at_call 43; refine (impl_isAlphabet _ _).mono ?_; rw [hd.out]; rintro e w' ⟨rfl, rfl⟩)
    go_ret
    exact ⟨ret_bool (by rw [Hv.out]; simp; omega), (Ext.refl _).alloc _⟩
end Go.Proofs.YtmlembcpamchjaaDoor

namespace Go.Proofs.YtmlembcpamchjaaDoor
open Go Go.RowKit
set_option maxHeartbeats 4000000

theorem spec_l2Edge {al : Nat} {st : Int} {e : Edg} {w : World} (hsm : Sm al) :
    Calls Tryd.prog 56 #[.int .i64 al, .int .i64 st, .agg #[.int .i64 e.fr, .int .i64 e.le, .int .i64 e.to]] w fun r w' => r = .returned (.bool (edgB al st e)) ∧ Ext w w' := by
  have Hv := hide (show edgB al st e = ((decide (0 ≤ e.fr) && decide (e.fr < st)) && ((decide (0 ≤ e.to) && decide (e.to < st)) && (decide (e.le < 6) && hasB al e.le))) from rfl)
  by_cases h0 : e.fr < 0
  · go_enter Tryd.func56, Tryd.ntmps56
    go_wp2
    go_ret
    exact ⟨ret_bool (by rw [Hv.out]; simp; omega), (Ext.refl _).alloc _⟩
  · by_cases h1 : st ≤ e.fr
    · go_enter Tryd.func56, Tryd.ntmps56
      go_wp2
      go_ret
      exact ⟨ret_bool (by rw [Hv.out]; simp; omega), (Ext.refl _).alloc _⟩
    · by_cases h2 : e.to < 0
      · go_enter Tryd.func56, Tryd.ntmps56
        go_wp2
        go_ret
        exact ⟨ret_bool (by rw [Hv.out]; simp; omega), (Ext.refl _).alloc _⟩
      · by_cases h3 : st ≤ e.to
        · go_enter Tryd.func56, Tryd.ntmps56
          go_wp2
          go_ret
          exact ⟨ret_bool (by rw [Hv.out]; simp; omega), (Ext.refl _).alloc _⟩
        · by_cases h4 : 0 ≤ e.le
          · by_cases h5 : e.le < 6
            · obtain ⟨le, hle⟩ : ∃ le : Nat, Hid (e.le = le) := ⟨e.le.toNat, by unfold Hid; omega⟩
              have hl6 : (le : Int) < 6 := by have := hle.out; omega
              clear h4 h5
              rw [hle.out]
              go_enter Tryd.func56, Tryd.ntmps56
              go_wp2_with (go_at_call 32; refine (spec_l1Has al le hsm _ (by omega)).mono ?_; rintro r w' ⟨rfl, rfl⟩)
              go_ret
              exact ⟨ret_bool (by rw [Hv.out, hle.out, decide_eq_true (show 0 ≤ e.fr by omega), decide_eq_true (show e.fr < st by omega), decide_eq_true (show 0 ≤ e.to by omega), decide_eq_true (show e.to < st by omega), decide_eq_true hl6]; simp [hasB]), (Ext.refl _).alloc _⟩
            · go_enter Tryd.func56, Tryd.ntmps56
              go_wp2_with fail
              go_ret
              exact ⟨ret_bool (by rw [Hv.out]; simp; omega), (Ext.refl _).alloc _⟩
          · go_enter Tryd.func56, Tryd.ntmps56
            go_wp2_with fail
            go_ret
            exact ⟨ret_bool (by rw [Hv.out]; simp [hasB]; omega), (Ext.refl _).alloc _⟩

theorem spec_l2Before {a b : Edg} {w : World} :
    Calls Tryd.prog 57 #[.agg #[.int .i64 a.fr, .int .i64 a.le, .int .i64 a.to], .agg #[.int .i64 b.fr, .int .i64 b.le, .int .i64 b.to]] w fun e w' => e = .returned (.bool (ltE a b)) ∧ Ext w w' := by
  have Hv := hide (show ltE a b = if a.fr = b.fr then if a.le = b.le then decide (a.to < b.to) else decide (a.le < b.le) else decide (a.fr < b.fr) from rfl)
  have hx : Ext w ((w.alloc (.cells #[Value.int .i64 a.fr, .int .i64 a.le, .int .i64 a.to] 52)).alloc (.cells #[Value.int .i64 b.fr, .int .i64 b.le, .int .i64 b.to] 52)) := ((Ext.refl _).alloc _).alloc _
  have Hx := hide hx
  clear hx
  by_cases h0 : a.fr = b.fr
  · have n0 : (a.fr != b.fr) = false := by simp [h0]
    have H0 := hide h0
    clear h0
    by_cases h1 : a.le = b.le
    · have n1 : (a.le != b.le) = false := by simp [h1]
      have H1 := hide h1
      clear h1
      go_enter Tryd.func57, Tryd.ntmps57
      go_wp2
      go_ret
      exact ⟨ret_bool (by rw [Hv.out, if_pos H0.out, if_pos H1.out]), Hx.out⟩
    · have n1 : (a.le != b.le) = true := by simp [h1]
      go_enter Tryd.func57, Tryd.ntmps57
      go_wp2
      go_ret
      exact ⟨ret_bool (by rw [Hv.out, if_pos H0.out, if_neg h1]), Hx.out⟩
  · have n0 : (a.fr != b.fr) = true := by simp [h0]
    go_enter Tryd.func57, Tryd.ntmps57
    go_wp2
    go_ret
    exact ⟨ret_bool (by rw [Hv.out, if_neg h0]), Hx.out⟩

theorem spec_SystemValid {lo hi : Nat} {A : Option Addr} {n c : Nat} {s : Sys} {w : World} (h : SysAt w lo hi A n s) :
    Calls Tryd.prog 26 #[.agg #[.int .i64 s.al, .int .i64 s.st, .slice A n c]] w fun e w' => e = .returned (.bool (sysValid s)) ∧ Ext w w' := by
  have Hv := hide (show sysValid s = (decide (0 ≤ s.al ∧ s.al ≤ 63) && (decide (1 ≤ s.st ∧ s.st ≤ 16) && (List.range n).all (edgeOK s.al.toNat s.st s.edges))) by unfold sysValid; rw [← h.1])
  have hn := h.2.len
  by_cases hal : 0 ≤ s.al ∧ s.al ≤ 63
  · by_cases hst : 1 ≤ s.st ∧ s.st ≤ 16
    · obtain ⟨al, hal'⟩ : ∃ al : Nat, Hid (s.al = al) := ⟨s.al.toNat, by unfold Hid; omega⟩
      have hsm : Sm al := by have := hal'.out; unfold Sm; omega
      have hd := hide (show decide (0 ≤ (al : Int) ∧ (al : Int) ≤ 63) = true by have := hal'.out; simp; omega)
      rw [hal'.out]
      rw [hal'.out, Int.toNat_natCast] at Hv
      clear hal
      have hd1 : decide (s.st < 1) = false := by simp; omega
      have hd2 : decide (16 < s.st) = false := by simp; omega
      obtain ⟨st, hst', hs1, hs2⟩ : ∃ st : Int, Hid (s.st = st) ∧ 1 ≤ st ∧ st ≤ 16 := ⟨s.st, hide rfl, hst.1, hst.2⟩
      rw [hst'.out] at hd1 hd2 Hv ⊢
      clear hst
      have hR := fun W (hW : Ext w W) => h.2.ext hW
      have HR := hide hR
      clear hR
      go_enter Tryd.func26, Tryd.ntmps26
      go_wp2_with (go_at_call 55; refine (spec_l1Alphabet _ _).mono ?_; rw [hd.out]; rintro e w' ⟨rfl, rfl⟩)
      go_loopw [3] (fun i wr => ∃ k : Nat, k ≤ n ∧ i = .int .i64 k ∧ Hid (((List.range n).take k).all (edgeOK al st s.edges) = true) ∧ Ext (w.alloc (.cells #[Value.int .i64 al, .int .i64 st, Value.slice A n c] 28)) wr)
        (fun i _ => n - (intOf i).toNat)
      case atStart => exact ⟨0, Nat.zero_le _, rfl, rfl, Ext.refl _⟩
      case round =>
        obtain ⟨k, hk, rfl, hall, hext⟩ := hrel
        have hbx := ext_box hext
        by_cases hlt : k < n
        · obtain ⟨b, o, e, rfl, hlo, hhi, he, c0, c1, c2⟩ := (HR.out wr (((Ext.refl _).alloc _).trans hext)).edge hlt
          go_wp2_with fail
          clear hbx
          have e0 : ∀ X, Ext wr X → ∀ j, X.cell? ⟨w.heap.size, j, none⟩ = #[Value.int .i64 al, .int .i64 st, Value.slice (some ⟨b, o, none⟩) n c][j]? := fun X hX => ext_box (hext.trans hX)
          have q0 : ∀ X, Ext wr X → X.cell? ⟨b, o + k * 3, none⟩ = some (.int .i64 e.fr) := fun X hX => hX.cell_some c0
          have q1 : ∀ X, Ext wr X → X.cell? ⟨b, o + k * 3 + 1, none⟩ = some (.int .i64 e.le) := fun X hX => hX.cell_some c1
          have q2 : ∀ X, Ext wr X → X.cell? ⟨b, o + k * 3 + 2, none⟩ = some (.int .i64 e.to) := fun X hX => hX.cell_some c2
          have hr := Ext.refl wr
          clear c0 c1 c2
          have hfin : ∀ X, Ext wr X → Ext w X := fun X hX => (((Ext.refl _).alloc _).trans hext).trans hX
          have Hfin := hide hfin
          clear hfin
          have hk0' : (0 : Int) ≤ (k : Int) := by omega
          have hk1' : (k : Int) < (n : Int) := by omega
          have hge : (List.range n)[k]? = some k := by rw [List.getElem?_range hlt]
          have Hge := hide hge
          clear hge
          cases hA' : edgB al st e
          · have hA := hide hA'
            clear hA'
            refine wp_region_ord (fun X => Ext wr X) [0, 1, 2, 3, 4, 5, 6, 7, 8, 9, 10, 11, 12, 13, 14, 15, 16, 17, 18, 19, 20, 21, 22, 23, 24, 25, 26, 27, 28, 29] (by kernel_rfl) rfl (by kernel_rfl) (by kernel_rfl) (fun _ _ _ _ _ h => h) ((Ext.refl _).drew) (fun hS => ?_)
            repeat (first | (refine seq_skip rfl rfl (by assumption) ?_; simp only [Act.put, List.setIfInBounds_toArray, List.set_cons_zero, List.set_cons_succ]) | (refine seq_read (v := ?_) rfl rfl rfl (fun X hX => ?_) (by assumption) ?_; rotate_left; (focus (go_simp <;> with_reducible rfl)); simp only [Act.put, List.setIfInBounds_toArray, List.set_cons_zero, List.set_cons_succ]))
            refine seq_step rfl rfl rfl (fun K hK => ?_)
            go_simp
            refine (spec_l2Edge (e := e) hsm).mono ?_
            rw [hA.out]; rintro r w2 ⟨rfl, hx2⟩
            refine hK.out _ _ (Ext.trans (by assumption) hx2) (fun hS => ?_)
            try simp only [Act.put, List.setIfInBounds_toArray, List.set_cons_zero, List.set_cons_succ]
            repeat (first | (refine seq_skip rfl rfl (by assumption) ?_; simp only [Act.put, List.setIfInBounds_toArray, List.set_cons_zero, List.set_cons_succ]) | (refine seq_read (v := ?_) rfl rfl rfl (fun X hX => ?_) (by assumption) ?_; rotate_left; (focus (go_simp <;> with_reducible rfl)); simp only [Act.put, List.setIfInBounds_toArray, List.set_cons_zero, List.set_cons_succ]))
            refine seq_nil ?_
            go_wp2_with fail
            go_ret
            exact ⟨ret_bool (by rw [Hv.out, all_stop Hge.out (by rw [edgeOK, he.out]; dsimp only; rw [hA.out]; simp)]; simp), Hfin.out _ (by assumption)⟩
          · have hA := hide hA'
            clear hA'
            by_cases hk0 : k = 0
            · subst hk0
              simp only [Nat.zero_mul, Nat.add_zero] at q0 q1 q2
              refine wp_region_ord (fun X => Ext wr X) [0, 1, 2, 3, 4, 5, 6, 7, 8, 9, 10, 11, 12, 13, 14, 15, 16, 17, 18, 19, 20, 21, 22, 23, 24, 25, 26, 27, 28, 29] (by kernel_rfl) rfl (by kernel_rfl) (by kernel_rfl) (fun _ _ _ _ _ h => h) ((Ext.refl _).drew) (fun hS => ?_)
              repeat (first | (refine seq_skip rfl rfl (by assumption) ?_; simp only [Act.put, List.setIfInBounds_toArray, List.set_cons_zero, List.set_cons_succ]) | (refine seq_read (v := ?_) rfl rfl rfl (fun X hX => ?_) (by assumption) ?_; rotate_left; (focus (go_simp <;> with_reducible rfl)); simp only [Act.put, List.setIfInBounds_toArray, List.set_cons_zero, List.set_cons_succ]))
              refine seq_step rfl rfl rfl (fun K hK => ?_)
              go_simp
              refine (spec_l2Edge (e := e) hsm).mono ?_
              rw [hA.out]; rintro r w2 ⟨rfl, hx2⟩
              refine hK.out _ _ (Ext.trans (by assumption) hx2) (fun hS => ?_)
              try simp only [Act.put, List.setIfInBounds_toArray, List.set_cons_zero, List.set_cons_succ]
              repeat (first | (refine seq_skip rfl rfl (by assumption) ?_; simp only [Act.put, List.setIfInBounds_toArray, List.set_cons_zero, List.set_cons_succ]) | (refine seq_read (v := ?_) rfl rfl rfl (fun X hX => ?_) (by assumption) ?_; rotate_left; (focus (go_simp <;> with_reducible rfl)); simp only [Act.put, List.setIfInBounds_toArray, List.set_cons_zero, List.set_cons_succ]))
              refine seq_nil ?_
              go_wp2_with fail
              go_roundw
              case rel => exact ⟨0 + 1, by omega, by go_num, all_step Hge.out hall.out (by rw [edgeOK, he.out]; dsimp only; rw [hA.out]; simp), hext.trans (by assumption)⟩
              case measure => simp [intOf]; omega
            · obtain ⟨j, rfl⟩ : ∃ j, k = j + 1 := ⟨k - 1, by omega⟩
              have hp : s.edges[j]? = some (s.edges[j]'(by have := h.1; omega)) := List.getElem?_eq_getElem _
              generalize s.edges[j]'(by have := h.1; omega) = p at hp
              have Hp := hide hp
              clear hp
              have hpc := (HR.out wr (((Ext.refl _).alloc _).trans hext)).edge2 Hp.out
              have p0 : ∀ X, Ext wr X → X.cell? ⟨b, o + j * 3, none⟩ = some (.int .i64 p.fr) := fun X hX => hX.cell_some hpc.1
              have p1 : ∀ X, Ext wr X → X.cell? ⟨b, o + j * 3 + 1, none⟩ = some (.int .i64 p.le) := fun X hX => hX.cell_some hpc.2.1
              have p2 : ∀ X, Ext wr X → X.cell? ⟨b, o + j * 3 + 2, none⟩ = some (.int .i64 p.to) := fun X hX => hX.cell_some hpc.2.2
              clear hpc
              have hk1 : decide ((0 : Int) < (j : Int) + 1) = true := decide_eq_true (by omega)
              have hw1 : IntKind.i64.wrap ((j : Int) + 1 - 1) = (j : Int) := by rw [IntKind.wrap_i64]; omega
              have hw2 : IntKind.i64.wrap (j : Int) = (j : Int) := by rw [IntKind.wrap_i64]; omega
              have hj0 : (0 : Int) ≤ (j : Int) := by omega
              have hj1 : (j : Int) < (n : Int) := by omega
              have hj2 : (0 : Int) ≤ (j : Int) + 1 := by omega
              have hj3 : (j : Int) + 1 < (n : Int) := by omega
              have hj4 : ((j : Int) + 1).toNat = j + 1 := by omega
              cases hnl' : ltE p e
              · have hnl := hide hnl'
                clear hnl'
                refine wp_region_ord (fun X => Ext wr X) [0, 1, 2, 3, 4, 5, 6, 7, 8, 9, 10, 11, 12, 13, 14, 15, 16, 17, 18, 19, 20, 21, 22, 23, 24, 25, 26, 27, 28, 29] (by kernel_rfl) rfl (by kernel_rfl) (by kernel_rfl) (fun _ _ _ _ _ h => h) ((Ext.refl _).drew) (fun hS => ?_)
                repeat (first | (refine seq_skip rfl rfl (by assumption) ?_; simp only [Act.put, List.setIfInBounds_toArray, List.set_cons_zero, List.set_cons_succ]) | (refine seq_read (v := ?_) rfl rfl rfl (fun X hX => ?_) (by assumption) ?_; rotate_left; (focus (go_simp <;> with_reducible rfl)); simp only [Act.put, List.setIfInBounds_toArray, List.set_cons_zero, List.set_cons_succ]))
                refine seq_step rfl rfl rfl (fun K hK => ?_)
                go_simp
                refine (spec_l2Edge (e := e) hsm).mono ?_
                rw [hA.out]; rintro r w2 ⟨rfl, hx2⟩
                refine hK.out _ _ (Ext.trans (by assumption) hx2) (fun hS => ?_)
                try simp only [Act.put, List.setIfInBounds_toArray, List.set_cons_zero, List.set_cons_succ]
                repeat (first | (refine seq_skip rfl rfl (by assumption) ?_; simp only [Act.put, List.setIfInBounds_toArray, List.set_cons_zero, List.set_cons_succ]) | (refine seq_read (v := ?_) rfl rfl rfl (fun X hX => ?_) (by assumption) ?_; rotate_left; (focus (go_simp <;> with_reducible rfl)); simp only [Act.put, List.setIfInBounds_toArray, List.set_cons_zero, List.set_cons_succ]))
                refine seq_step rfl rfl rfl (fun K hK => ?_)
                go_simp
                refine (spec_l2Before (a := p) (b := e)).mono ?_
                rw [hnl.out]; rintro r w3 ⟨rfl, hx3⟩
                refine hK.out _ _ (Ext.trans (by assumption) hx3) (fun hS => ?_)
                try simp only [Act.put, List.setIfInBounds_toArray, List.set_cons_zero, List.set_cons_succ]
                repeat (first | (refine seq_skip rfl rfl (by assumption) ?_; simp only [Act.put, List.setIfInBounds_toArray, List.set_cons_zero, List.set_cons_succ]) | (refine seq_read (v := ?_) rfl rfl rfl (fun X hX => ?_) (by assumption) ?_; rotate_left; (focus (go_simp <;> with_reducible rfl)); simp only [Act.put, List.setIfInBounds_toArray, List.set_cons_zero, List.set_cons_succ]))
                refine seq_nil ?_
                go_wp2_with fail
                go_ret
                exact ⟨ret_bool (by rw [Hv.out, all_stop Hge.out (by rw [edgeOK, he.out]; dsimp only; rw [Nat.add_sub_cancel, Hp.out]; simp [hnl.out])]; simp), Hfin.out _ (by assumption)⟩
              · have hnl := hide hnl'
                clear hnl'
                refine wp_region_ord (fun X => Ext wr X) [0, 1, 2, 3, 4, 5, 6, 7, 8, 9, 10, 11, 12, 13, 14, 15, 16, 17, 18, 19, 20, 21, 22, 23, 24, 25, 26, 27, 28, 29] (by kernel_rfl) rfl (by kernel_rfl) (by kernel_rfl) (fun _ _ _ _ _ h => h) ((Ext.refl _).drew) (fun hS => ?_)
                repeat (first | (refine seq_skip rfl rfl (by assumption) ?_; simp only [Act.put, List.setIfInBounds_toArray, List.set_cons_zero, List.set_cons_succ]) | (refine seq_read (v := ?_) rfl rfl rfl (fun X hX => ?_) (by assumption) ?_; rotate_left; (focus (go_simp <;> with_reducible rfl)); simp only [Act.put, List.setIfInBounds_toArray, List.set_cons_zero, List.set_cons_succ]))
                refine seq_step rfl rfl rfl (fun K hK => ?_)
                go_simp
                refine (spec_l2Edge (e := e) hsm).mono ?_
                rw [hA.out]; rintro r w2 ⟨rfl, hx2⟩
                refine hK.out _ _ (Ext.trans (by assumption) hx2) (fun hS => ?_)
                try simp only [Act.put, List.setIfInBounds_toArray, List.set_cons_zero, List.set_cons_succ]
                repeat (first | (refine seq_skip rfl rfl (by assumption) ?_; simp only [Act.put, List.setIfInBounds_toArray, List.set_cons_zero, List.set_cons_succ]) | (refine seq_read (v := ?_) rfl rfl rfl (fun X hX => ?_) (by assumption) ?_; rotate_left; (focus (go_simp <;> with_reducible rfl)); simp only [Act.put, List.setIfInBounds_toArray, List.set_cons_zero, List.set_cons_succ]))
                refine seq_step rfl rfl rfl (fun K hK => ?_)
                go_simp
                refine (spec_l2Before (a := p) (b := e)).mono ?_
                rw [hnl.out]; rintro r w3 ⟨rfl, hx3⟩
                refine hK.out _ _ (Ext.trans (by assumption) hx3) (fun hS => ?_)
                try simp only [Act.put, List.setIfInBounds_toArray, List.set_cons_zero, List.set_cons_succ]
                repeat (first | (refine seq_skip rfl rfl (by assumption) ?_; simp only [Act.put, List.setIfInBounds_toArray, List.set_cons_zero, List.set_cons_succ]) | (refine seq_read (v := ?_) rfl rfl rfl (fun X hX => ?_) (by assumption) ?_; rotate_left; (focus (go_simp <;> with_reducible rfl)); simp only [Act.put, List.setIfInBounds_toArray, List.set_cons_zero, List.set_cons_succ]))
                refine seq_nil ?_
                go_wp2_with fail
                go_roundw
                case rel => exact ⟨j + 1 + 1, by omega, by go_num, all_step Hge.out hall.out (by rw [edgeOK, he.out]; dsimp only; rw [Nat.add_sub_cancel, Hp.out, hA.out]; simp [hnl.out]), hext.trans (by assumption)⟩
                case measure => simp [intOf]; omega
        · obtain rfl : k = n := by omega
          go_wp2
          go_ret
          exact ⟨ret_bool (by rw [Hv.out, all_end (by simp) hall.out, hd.out]; simp; omega), ((Ext.refl _).alloc _).trans hext⟩
    · go_enter Tryd.func26, Tryd.ntmps26
      have hd := hide (show decide (0 ≤ s.al ∧ s.al ≤ 63) = true by simp; omega)
      go_wp2_with (go_at_call 55; refine (spec_l1Alphabet _ _).mono ?_; rw [hd.out]; rintro e w' ⟨rfl, rfl⟩)
      all_goals go_ret
      all_goals exact ⟨ret_bool (by rw [Hv.out]; simp [hst]), (Ext.refl _).alloc _⟩
  · go_enter Tryd.func26, Tryd.ntmps26
    have hd := hide (show decide (0 ≤ s.al ∧ s.al ≤ 63) = false by simp; omega)
    go_wp2_with (go_at_call 55; refine (spec_l1Alphabet _ _).mono ?_; rw [hd.out]; rintro e w' ⟨rfl, rfl⟩)
    go_ret
    exact ⟨ret_bool (by rw [Hv.out]; simp; omega), (Ext.refl _).alloc _⟩
end Go.Proofs.YtmlembcpamchjaaDoor

namespace Go.Proofs.YtmlembcpamchjaaDoor
open Go Go.RowKit
set_option maxHeartbeats 1000000

/-- Two valid systems over one alphabet. -/
def sameB (s t : Sys) : Bool := sysValid s && (sysValid t && s.al == t.al)
theorem impl_sameAlphabets {lo hi lo' hi' : Nat} {A : Option Addr} {n c : Nat} {B : Option Addr} {m d : Nat} {s t : Sys} {w : World} (h : SysAt w lo hi A n s) (h' : SysAt w lo' hi' B m t) :
    Calls Tryd.prog 48 #[.agg #[.int .i64 s.al, .int .i64 s.st, .slice A n c], .agg #[.int .i64 t.al, .int .i64 t.st, .slice B m d]] w fun e w' => e = .returned (.bool (sameB s t)) ∧ Ext w w' := by
  have HS := hide (fun W (hW : Ext w W) => h.ext hW)
  have HT := hide (fun W (hW : Ext w W) => h'.ext hW)
  clear h h'
  cases h1 : sysValid s
  · have H1 := hide h1
    clear h1
    go_enter Tryd.func48, Tryd.ntmps48
    go_wp2_with (go_at_call 16; refine (impl_SystemValid (HS.out _ (((Ext.refl _).alloc _).alloc _))).mono ?_; rw [H1.out]; rintro e w1 ⟨rfl, hx⟩)
    go_ret
    exact ⟨ret_bool (by unfold sameB; rw [H1.out]; rfl), (((Ext.refl _).alloc _).alloc _).trans hx⟩
  · have H1 := hide h1
    clear h1
    cases h2 : sysValid t
    · have H2 := hide h2
      clear h2
      go_enter Tryd.func48, Tryd.ntmps48
      go_wp2_with fail
      refine (impl_SystemValid (HS.out _ (((Ext.refl _).alloc _).alloc _))).mono ?_
      rw [H1.out]
      rintro e w1 ⟨rfl, hx⟩
      obtain ⟨b1, b2⟩ := ext_blk2 hx
      have c1 := b1.cell
      have c2 := b2.cell
      go_wp2_with fail
      refine (impl_SystemValid (HT.out _ ((((Ext.refl _).alloc _).alloc _).trans hx))).mono ?_
      rw [H2.out]
      rintro e w2 ⟨rfl, hx2⟩
      go_wp2_with fail
      go_ret
      exact ⟨ret_bool (by unfold sameB; rw [H1.out, H2.out]; rfl), ((((Ext.refl _).alloc _).alloc _).trans hx).trans hx2⟩
    · have H2 := hide h2
      clear h2
      cases h3 : s.al == t.al
      all_goals
        have H3 := hide h3
        go_enter Tryd.func48, Tryd.ntmps48
        go_wp2_with fail
        refine (impl_SystemValid (HS.out _ (((Ext.refl _).alloc _).alloc _))).mono ?_
        rw [H1.out]
        rintro e w1 ⟨rfl, hx⟩
        obtain ⟨b1, b2⟩ := ext_blk2 hx
        have c1 := b1.cell
        have c2 := b2.cell
        go_wp2_with fail
        refine (impl_SystemValid (HT.out _ ((((Ext.refl _).alloc _).alloc _).trans hx))).mono ?_
        rw [H2.out]
        rintro e w2 ⟨rfl, hx2⟩
        have d1 := (b1.ext hx2).cell
        have d2 := (b2.ext hx2).cell
        go_wp2_with fail
        go_ret
        exact ⟨ret_bool (by unfold sameB; rw [H1.out, H2.out, H3.out]; first | rfl | simp_all), ((((Ext.refl _).alloc _).alloc _).trans hx).trans hx2⟩
theorem spec_l6Comparable {lo hi lo' hi' : Nat} {A : Option Addr} {n c : Nat} {B : Option Addr} {m d : Nat} {s t : Sys} {w : World} (h : SysAt w lo hi A n s) (h' : SysAt w lo' hi' B m t) :
    Calls Tryd.prog 50 #[.agg #[.int .i64 s.al, .int .i64 s.st, .slice A n c], .agg #[.int .i64 t.al, .int .i64 t.st, .slice B m d]] w fun e w' => e = .returned (.bool (sameB s t)) ∧ Ext w w' := by
  have HS := hide (fun W (hW : Ext w W) => h.ext hW)
  have HT := hide (fun W (hW : Ext w W) => h'.ext hW)
  clear h h'
  cases h1 : sysValid s
  · have H1 := hide h1
    clear h1
    go_enter Tryd.func50, Tryd.ntmps50
    go_wp2_with (go_at_call 26; refine (spec_SystemValid (HS.out _ (((Ext.refl _).alloc _).alloc _))).mono ?_; rw [H1.out]; rintro e w1 ⟨rfl, hx⟩)
    go_ret
    exact ⟨ret_bool (by unfold sameB; rw [H1.out]; rfl), (((Ext.refl _).alloc _).alloc _).trans hx⟩
  · have H1 := hide h1
    clear h1
    cases h2 : sysValid t
    · have H2 := hide h2
      clear h2
      go_enter Tryd.func50, Tryd.ntmps50
      go_wp2_with fail
      refine (spec_SystemValid (HS.out _ (((Ext.refl _).alloc _).alloc _))).mono ?_
      rw [H1.out]
      rintro e w1 ⟨rfl, hx⟩
      obtain ⟨b1, b2⟩ := ext_blk2 hx
      have c1 := b1.cell
      have c2 := b2.cell
      go_wp2_with fail
      refine (spec_SystemValid (HT.out _ ((((Ext.refl _).alloc _).alloc _).trans hx))).mono ?_
      rw [H2.out]
      rintro e w2 ⟨rfl, hx2⟩
      go_wp2_with fail
      go_ret
      exact ⟨ret_bool (by unfold sameB; rw [H1.out, H2.out]; rfl), ((((Ext.refl _).alloc _).alloc _).trans hx).trans hx2⟩
    · have H2 := hide h2
      clear h2
      cases h3 : s.al == t.al
      all_goals
        have H3 := hide h3
        go_enter Tryd.func50, Tryd.ntmps50
        go_wp2_with fail
        refine (spec_SystemValid (HS.out _ (((Ext.refl _).alloc _).alloc _))).mono ?_
        rw [H1.out]
        rintro e w1 ⟨rfl, hx⟩
        obtain ⟨b1, b2⟩ := ext_blk2 hx
        have c1 := b1.cell
        have c2 := b2.cell
        go_wp2_with fail
        refine (spec_SystemValid (HT.out _ ((((Ext.refl _).alloc _).alloc _).trans hx))).mono ?_
        rw [H2.out]
        rintro e w2 ⟨rfl, hx2⟩
        have d1 := (b1.ext hx2).cell
        have d2 := (b2.ext hx2).cell
        go_wp2_with fail
        go_ret
        exact ⟨ret_bool (by unfold sameB; rw [H1.out, H2.out, H3.out]; first | rfl | simp_all), ((((Ext.refl _).alloc _).alloc _).trans hx).trans hx2⟩
end Go.Proofs.YtmlembcpamchjaaDoor
