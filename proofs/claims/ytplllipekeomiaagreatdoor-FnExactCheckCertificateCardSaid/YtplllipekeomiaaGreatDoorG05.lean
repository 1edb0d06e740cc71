/- Validity of systems: what it calls. | Validity of systems. | Validity of systems, the reference's own. | impl.sameAlphabets and spec.l6Comparable, walked. | Plain: slices of slices of any depth; how they lie in memory, and how they grow. | A region that draws its order and ends in stores: walked in one order; what is behind all that reads (the tail) may turn what was read. It holds of every program, without conditions. | 'append(s, xs...)': a slice that came in is appended to one of the call's own. It holds of every program, without conditions. | Slices of systems are compared. -/
import Derived.Test.YtplllipekeomiaaGreatDoorG02
import Derived.Test.YtplllipekeomiaaGreatDoorG03
import Derived.Test.YtplllipekeomiaaGreatDoorG01
import Derived.Deep.AppendLies
namespace Go.Proofs.YtplllipekeomiaaGreatDoor
open Go Go.RowKit
set_option maxHeartbeats 400000

def cmpI (x y : Int) : Int := if x < y then -1 else if y < x then 1 else 0
theorem cmp_isNaN (x : Int) (w : World) : Calls Tryz.prog 121 #[.int .i64 x] w fun e w' => e = .returned (.bool false) ∧ w = w' := by
  have h : (x != x) = false := by simp
  go_enter Tryz.func121, Tryz.ntmps121
  go_wp2
  go_ret
  exact ⟨ret_bool (by simp), rfl⟩
theorem cmp_Compare (x y : Int) (w : World) : Calls Tryz.prog 98 #[.int .i64 x, .int .i64 y] w fun e w' => e = .returned (.int .i64 (cmpI x y)) ∧ w = w' := by
  by_cases h : x < y
  · go_enter Tryz.func98, Tryz.ntmps98
    go_wp2_with (go_at_call 121; refine (cmp_isNaN _ _).mono ?_; rintro e w' ⟨rfl, rfl⟩)
    go_ret
    exact ⟨ret_int (by unfold cmpI; split <;> omega), rfl⟩
  · by_cases h' : y < x
    all_goals
      go_enter Tryz.func98, Tryz.ntmps98
      go_wp2_with (go_at_call 121; refine (cmp_isNaN _ _).mono ?_; rintro e w' ⟨rfl, rfl⟩)
      go_ret
      exact ⟨ret_int (by unfold cmpI; (repeat' split) <;> omega), rfl⟩

/-- The first number that is not 0. -/
def orI : List Int → Int
  | [] => 0
  | x :: r => if x = 0 then orI r else x
theorem orI_stop {l : List Int} {k : Nat} {x : Int} (h : l[k]? = some x) (hk : ∀ y ∈ l.take k, y = 0) (hx : x ≠ 0) : orI l = x := by
  induction l generalizing k with
  | nil => simp at h
  | cons a r ih =>
    cases k with
    | zero => simp at h; subst h; rw [orI, if_neg hx]
    | succ k =>
      have ha : a = 0 := hk a (by simp)
      rw [orI, if_pos ha]
      exact ih (by simpa using h) (fun y hy => hk y (by simp [hy]))
theorem orI_end {l : List Int} (hk : ∀ y ∈ l, y = 0) : orI l = 0 := by
  induction l with
  | nil => rfl
  | cons a r ih => rw [orI, if_pos (hk a (by simp)), ih fun y hy => hk y (by simp [hy])]

theorem cmp_Or {lo hi : Nat} {A : Option Addr} {n c : Nat} {l : List Int} {w : World} (h : Reads w lo hi 1 A n (ints l)) :
    Calls Tryz.prog 97 #[.slice A n c] w fun e w' => e = .returned (.int .i64 (orI l)) ∧ w = w' := by
  have hn := h.len
  have Hl := hide (show l.length = n by have := h.length; rw [ints_length] at this; omega)
  go_enter Tryz.func97, Tryz.ntmps97
  go_wp2
  go_loop [8] (fun i => ∃ k : Nat, k ≤ n ∧ i = .int .i64 k ∧ Hid (∀ y ∈ l.take k, y = 0)) (fun i => n - (intOf i).toNat)
  case atStart => exact ⟨0, Nat.zero_le _, rfl, hide (by simp)⟩
  case round =>
    obtain ⟨k, hk, rfl, hz⟩ := hrel
    by_cases hlt : k < n
    · obtain ⟨ad, x, rfl, _, _, hx, hc⟩ := h.int hlt
      by_cases h0 : x = 0
      · have hb : ((x : Int) != 0) = false := by simp [h0]
        have H0 := hide h0
        clear h0
        go_wp2
        go_round
        case rel => exact ⟨k + 1, by omega, by go_num, hide (by rw [List.take_add_one, hx.out]; intro y hy; simp at hy; rcases hy with hy | hy; exact hz.out y hy; rw [hy, H0.out])⟩
        case measure => simp [intOf]; omega
      · have hb : ((x : Int) != 0) = true := by simp [h0]
        go_wp2
        go_ret
        exact ⟨ret_int (orI_stop hx.out hz.out h0).symm, rfl⟩
    · obtain rfl : k = n := by omega
      go_wp2
      go_ret
      have := hz.out
      rw [List.take_of_length_le (by have := Hl.out; omega)] at this
      exact ⟨ret_int (orI_end this).symm, rfl⟩

/-- The order of edges, as a number. -/
def cmpE (a b : Edg) : Int := orI [cmpI a.fr b.fr, cmpI a.le b.le, cmpI a.to b.to]
/-- The order of edges. -/
def ltE (a b : Edg) : Bool := if a.fr = b.fr then if a.le = b.le then decide (a.to < b.to) else decide (a.le < b.le) else decide (a.fr < b.fr)
theorem cmpE_lt (a b : Edg) : cmpE a b < 0 ↔ ltE a b = true := by
  have hc : ∀ x y : Int, (cmpI x y = 0 ↔ x = y) ∧ (cmpI x y < 0 ↔ x < y) := fun x y => by unfold cmpI; constructor <;> (repeat' split) <;> omega
  have h1 := hc a.fr b.fr
  have h2 := hc a.le b.le
  have h3 := hc a.to b.to
  have hv : cmpE a b = if cmpI a.fr b.fr = 0 then if cmpI a.le b.le = 0 then if cmpI a.to b.to = 0 then 0 else cmpI a.to b.to else cmpI a.le b.le else cmpI a.fr b.fr := rfl
  rw [hv, ltE]
  by_cases e1 : a.fr = b.fr
  · rw [if_pos (h1.1.2 e1), if_pos e1]
    by_cases e2 : a.le = b.le
    · rw [if_pos (h2.1.2 e2), if_pos e2]
      by_cases e3 : cmpI a.to b.to = 0
      · rw [if_pos e3]; have := h3.1.1 e3; simp; omega
      · rw [if_neg e3, h3.2]; simp
    · rw [if_neg (fun h => e2 (h2.1.1 h)), if_neg e2, h2.2]; simp
  · rw [if_neg (fun h => e1 (h1.1.1 h)), if_neg e1, h1.2]; simp

/-- A slice that a literal has just laid. -/
theorem reads_lit {w w' : World} {cs : Array Value} {t : TypeId} (n : Nat) (l : List Int) (hc : cs.toList = ints l) (hl : l.length = n) (hn : n ≤ 1000) (h : Ext (w.alloc (.cells cs t)) w') : Reads w' 0 w'.heap.size 1 (some ⟨w.heap.size, 0, none⟩) n (ints l) := by
  have hb := ext_blk1 h
  refine ⟨by rw [ints_length]; omega, by omega, fun _ => ⟨_, rfl, Nat.zero_le _, hb.lt, fun j u hu => ?_⟩⟩
  rw [addr_lit, Nat.zero_add, hb.cell, ← Array.getElem?_toList, hc]
  exact hu

theorem impl_compareEdges {a b : Edg} {w : World} :
    Calls Tryz.prog 73 #[.agg #[.int .i64 a.fr, .int .i64 a.le, .int .i64 a.to], .agg #[.int .i64 b.fr, .int .i64 b.le, .int .i64 b.to]] w fun e w' => e = .returned (.int .i64 (cmpE a b)) ∧ Ext w w' := by
  go_enter Tryz.func73, Tryz.ntmps73
  go_wp2_with fail
  obtain ⟨W, hW⟩ : ∃ W : World, W = (w.alloc (.cells #[Value.int .i64 a.fr, .int .i64 a.le, .int .i64 a.to] 96)).alloc (.cells #[Value.int .i64 b.fr, .int .i64 b.le, .int .i64 b.to] 96) := ⟨_, rfl⟩
  have hx : Ext w W := by rw [hW]; exact ((Ext.refl _).alloc _).alloc _
  have h2 := ext_blk2 (show Ext ((w.alloc (.cells #[Value.int .i64 a.fr, .int .i64 a.le, .int .i64 a.to] 96)).alloc (.cells #[Value.int .i64 b.fr, .int .i64 b.le, .int .i64 b.to] 96)) W by rw [hW]; exact Ext.refl _)
  have e0 : ∀ X, Ext W X → ∀ j, X.cell? ⟨w.heap.size, j, none⟩ = #[Value.int .i64 a.fr, .int .i64 a.le, .int .i64 a.to][j]? := fun X hX => (h2.1.ext hX).cell
  have e1 : ∀ X, Ext W X → ∀ j, X.cell? ⟨w.heap.size + 1, j, none⟩ = #[Value.int .i64 b.fr, .int .i64 b.le, .int .i64 b.to][j]? := fun X hX => (h2.2.ext hX).cell
  rw [← hW]
  have hr := Ext.refl W
  clear hW h2
  go_region_held3 (fun X => Ext W X) (first | assumption | (refine Ext.drew ?_; assumption) | (refine Ext.alloc ?_ _; assumption) | (refine Ext.drew ?_; refine Ext.alloc ?_ _; assumption) | (refine Ext.trans ?_ (by assumption); assumption)) (first | (go_at_call 98; refine (cmp_Compare _ _ _).mono ?_; rintro e w' ⟨rfl, rfl⟩) | (go_at_call 97; refine (cmp_Or (reads_lit 3 [cmpI a.fr b.fr, cmpI a.le b.le, cmpI a.to b.to] rfl rfl (by omega) ((Ext.refl _).drew))).mono ?_; rintro e w' ⟨rfl, rfl⟩))
  all_goals (go_wp2_with fail; go_ret; exact ⟨rfl, hx.trans (by first | assumption | (refine Ext.drew ?_; assumption) | (refine Ext.alloc ?_ _; assumption) | (refine Ext.drew ?_; refine Ext.alloc ?_ _; assumption))⟩)
end Go.Proofs.YtplllipekeomiaaGreatDoor

namespace Go.Proofs.YtplllipekeomiaaGreatDoor
open Go Go.RowKit
set_option maxHeartbeats 4000000

theorem impl_isState {al st : Int} {A : Option Addr} {n c : Nat} {q : Int} {w : World} :
    Calls Tryz.prog 71 #[.agg #[.int .i64 al, .int .i64 st, .slice A n c], .int .i64 q] w fun e w' => e = .returned (.bool (decide (0 ≤ q) && decide (q < st))) ∧ Ext w w' := by
  by_cases h0 : 0 ≤ q
  all_goals
    go_enter Tryz.func71, Tryz.ntmps71
    go_wp2
    go_ret
    exact ⟨ret_bool (by simp; try omega), (Ext.refl _).alloc _⟩

/-- An edge of a system with an alphabet and a number of states. -/
def edgB (al : Nat) (st : Int) (e : Edg) : Bool := (decide (0 ≤ e.fr) && decide (e.fr < st)) && ((decide (0 ≤ e.to) && decide (e.to < st)) && (decide (e.le < 6) && hasB al e.le))
/-- The k-th edge is right, and behind the one ahead of it. -/
def edgeOK (al : Nat) (st : Int) (l : List Edg) (k : Nat) : Bool :=
  match l[k]? with
  | some e => edgB al st e && (decide (k = 0) || match l[k - 1]? with
    | some p => ltE p e
    | none => false)
  | none => false
def sysValid (s : Sys) : Bool :=
  decide (0 ≤ s.al ∧ s.al ≤ 63) && (decide (1 ≤ s.st ∧ s.st ≤ 16) && (List.range s.edges.length).all (edgeOK s.al.toNat s.st s.edges))

theorem impl_SystemValid {lo hi : Nat} {A : Option Addr} {n c : Nat} {s : Sys} {w : World} (h : SysAt w lo hi A n s) :
    Calls Tryz.prog 44 #[.agg #[.int .i64 s.al, .int .i64 s.st, .slice A n c]] w fun e w' => e = .returned (.bool (sysValid s)) ∧ Ext w w' := by
  have Hv := hide (show sysValid s = (decide (0 ≤ s.al ∧ s.al ≤ 63) && (decide (1 ≤ s.st ∧ s.st ≤ 16) && (List.range n).all (edgeOK s.al.toNat s.st s.edges))) by unfold sysValid; rw [← h.1])
  have hn := h.2.len
  by_cases hal : 0 ≤ s.al ∧ s.al ≤ 63
  · by_cases hst : 1 ≤ s.st ∧ s.st ≤ 16
    · obtain ⟨al, hal'⟩ : ∃ al : Nat, Hid (s.al = al) := ⟨s.al.toNat, by unfold Hid; omega⟩
      have hsm : Sm al := by have := hal'.out; unfold Sm; omega
      have hd := hide (show decide (0 ≤ (al : Int) ∧ (al : Int) ≤ 63) = true by have := hal'.out; simp; omega)
      rw [hal'.out]
      rw [hal'.out, Int.toNat_natCast] at Hv
      clear hal
      have hd1 : decide (s.st < 1) = false := by simp; omega
      have hd2 : decide (16 < s.st) = false := by simp; omega
      obtain ⟨st, hst', hs1, hs2⟩ : ∃ st : Int, Hid (s.st = st) ∧ 1 ≤ st ∧ st ≤ 16 := ⟨s.st, hide rfl, hst.1, hst.2⟩
      rw [hst'.out] at hd1 hd2 Hv ⊢
      clear hst
      have hR := fun W (hW : Ext w W) => h.2.ext hW
      have HR := hide hR
      clear hR
      go_enter Tryz.func44, Tryz.ntmps44
      go_wp2_with (go_at_call 60; refine (impl_isAlphabet _ _).mono ?_; rw [hd.out]; rintro e w' ⟨rfl, rfl⟩)
      go_loopw [22] (fun i wr => ∃ k : Nat, k ≤ n ∧ i = .int .i64 k ∧ Hid (((List.range n).take k).all (edgeOK al st s.edges) = true) ∧ Ext (w.alloc (.cells #[Value.int .i64 al, .int .i64 st, Value.slice A n c] 54)) wr)
        (fun i _ => n - (intOf i).toNat)
      case atStart => exact ⟨0, Nat.zero_le _, rfl, rfl, Ext.refl _⟩
      case round =>
        obtain ⟨k, hk, rfl, hall, hext⟩ := hrel
        by_cases hlt : k < n
        · obtain ⟨b, o, e, rfl, hlo, hhi, he, c0, c1, c2⟩ := (HR.out wr (((Ext.refl _).alloc _).trans hext)).edge hlt
          have hbx := ext_box hext
          go_wp2_with fail
          obtain ⟨W, hW⟩ : ∃ W : World, W = wr.alloc (.cells #[Value.int .i64 e.fr, .int .i64 e.le, .int .i64 e.to] 96) := ⟨_, rfl⟩
          have hx : Ext wr W := by rw [hW]; exact (Ext.refl _).alloc _
          have h1 := ext_blk1 (show Ext (wr.alloc (.cells #[Value.int .i64 e.fr, .int .i64 e.le, .int .i64 e.to] 96)) W by rw [hW]; exact Ext.refl _)
          have e0 : ∀ X, Ext W X → ∀ j, X.cell? ⟨w.heap.size, j, none⟩ = #[Value.int .i64 al, .int .i64 st, Value.slice (some ⟨b, o, none⟩) n c][j]? := fun X hX => ext_box ((hext.trans hx).trans hX)
          have e1 : ∀ X, Ext W X → ∀ j, X.cell? ⟨wr.heap.size, j, none⟩ = #[Value.int .i64 e.fr, .int .i64 e.le, .int .i64 e.to][j]? := fun X hX => (h1.ext hX).cell
          rw [← hW]
          have hr := Ext.refl W
          clear hW h1 hbx c0 c1 c2
          have hfin : ∀ X, Ext W X → Ext w X := fun X hX => ((((Ext.refl _).alloc _).trans hext).trans hx).trans hX
          have Hfin := hide hfin
          clear hfin
          have hge : (List.range n)[k]? = some k := by rw [List.getElem?_range hlt]
          have Hge := hide hge
          clear hge
          cases hA : (decide (0 ≤ e.fr) && decide (e.fr < st))
          · have HA := hide hA
            clear hA
            have hA := HA; clear HA
            refine wp_region_ord (fun X => Ext W X) [0, 1, 2, 3, 4, 5, 6, 7, 8, 9, 10, 11, 12, 13, 14, 15, 16, 17, 18, 19, 20, 21, 22, 23, 24, 25, 26, 27, 28, 29, 30, 31, 32, 33, 34, 35, 36, 37, 38, 39] (by kernel_rfl) rfl (by kernel_rfl) (by kernel_rfl) (fun _ _ _ _ _ h => h) ((Ext.refl _).drew) (fun hS => ?_)
            repeat (first | (refine seq_skip rfl rfl (by assumption) ?_; simp only [Act.put, List.setIfInBounds_toArray, List.set_cons_zero, List.set_cons_succ]) | (refine seq_read (v := ?_) rfl rfl rfl (fun X hX => ?_) (by assumption) ?_; rotate_left; (focus (go_simp <;> with_reducible rfl)); simp only [Act.put, List.setIfInBounds_toArray, List.set_cons_zero, List.set_cons_succ]))
            refine seq_step rfl rfl rfl (fun K hK => ?_)
            go_simp
            refine (impl_isState).mono ?_
            rw [hA.out]; rintro r w2 ⟨rfl, hx2⟩
            refine hK.out _ _ (Ext.trans (by assumption) hx2) (fun hS => ?_)
            try simp only [Act.put, List.setIfInBounds_toArray, List.set_cons_zero, List.set_cons_succ]
            repeat (first | (refine seq_skip rfl rfl (by assumption) ?_; simp only [Act.put, List.setIfInBounds_toArray, List.set_cons_zero, List.set_cons_succ]) | (refine seq_read (v := ?_) rfl rfl rfl (fun X hX => ?_) (by assumption) ?_; rotate_left; (focus (go_simp <;> with_reducible rfl)); simp only [Act.put, List.setIfInBounds_toArray, List.set_cons_zero, List.set_cons_succ]))
            refine seq_nil ?_
            go_wp2_with fail
            go_ret
            exact ⟨ret_bool (by rw [Hv.out, all_stop Hge.out (by rw [edgeOK, he.out]; dsimp only; rw [edgB, hA.out]; simp)]; simp), Hfin.out _ (by assumption)⟩
          · have HA := hide hA
            clear hA
            have hA := HA; clear HA
            cases hB : (decide (0 ≤ e.to) && decide (e.to < st))
            · have HB := hide hB
              clear hB
              have hB := HB; clear HB
              refine wp_region_ord (fun X => Ext W X) [0, 1, 2, 3, 4, 5, 6, 7, 8, 9, 10, 11, 12, 13, 14, 15, 16, 17, 18, 19, 20, 21, 22, 23, 24, 25, 26, 27, 28, 29, 30, 31, 32, 33, 34, 35, 36, 37, 38, 39] (by kernel_rfl) rfl (by kernel_rfl) (by kernel_rfl) (fun _ _ _ _ _ h => h) ((Ext.refl _).drew) (fun hS => ?_)
              repeat (first | (refine seq_skip rfl rfl (by assumption) ?_; simp only [Act.put, List.setIfInBounds_toArray, List.set_cons_zero, List.set_cons_succ]) | (refine seq_read (v := ?_) rfl rfl rfl (fun X hX => ?_) (by assumption) ?_; rotate_left; (focus (go_simp <;> with_reducible rfl)); simp only [Act.put, List.setIfInBounds_toArray, List.set_cons_zero, List.set_cons_succ]))
              refine seq_step rfl rfl rfl (fun K hK => ?_)
              go_simp
              refine (impl_isState).mono ?_
              rw [hA.out]; rintro r w2 ⟨rfl, hx2⟩
              refine hK.out _ _ (Ext.trans (by assumption) hx2) (fun hS => ?_)
              try simp only [Act.put, List.setIfInBounds_toArray, List.set_cons_zero, List.set_cons_succ]
              repeat (first | (refine seq_skip rfl rfl (by assumption) ?_; simp only [Act.put, List.setIfInBounds_toArray, List.set_cons_zero, List.set_cons_succ]) | (refine seq_read (v := ?_) rfl rfl rfl (fun X hX => ?_) (by assumption) ?_; rotate_left; (focus (go_simp <;> with_reducible rfl)); simp only [Act.put, List.setIfInBounds_toArray, List.set_cons_zero, List.set_cons_succ]))
              refine seq_step rfl rfl rfl (fun K hK => ?_)
              go_simp
              refine (impl_isState).mono ?_
              rw [hB.out]; rintro r w3 ⟨rfl, hx3⟩
              refine hK.out _ _ (Ext.trans (by assumption) hx3) (fun hS => ?_)
              try simp only [Act.put, List.setIfInBounds_toArray, List.set_cons_zero, List.set_cons_succ]
              repeat (first | (refine seq_skip rfl rfl (by assumption) ?_; simp only [Act.put, List.setIfInBounds_toArray, List.set_cons_zero, List.set_cons_succ]) | (refine seq_read (v := ?_) rfl rfl rfl (fun X hX => ?_) (by assumption) ?_; rotate_left; (focus (go_simp <;> with_reducible rfl)); simp only [Act.put, List.setIfInBounds_toArray, List.set_cons_zero, List.set_cons_succ]))
              refine seq_nil ?_
              go_wp2_with fail
              go_ret
              exact ⟨ret_bool (by rw [Hv.out, all_stop Hge.out (by rw [edgeOK, he.out]; dsimp only; rw [edgB, hA.out, hB.out]; simp)]; simp), Hfin.out _ (by assumption)⟩
            · have HB := hide hB
              clear hB
              have hB := HB; clear HB
              by_cases hle : 6 ≤ e.le
              · have hL : decide (6 ≤ e.le) = true := by simp; omega
                refine wp_region_ord (fun X => Ext W X) [0, 1, 2, 3, 4, 5, 6, 7, 8, 9, 10, 11, 12, 13, 14, 15, 16, 17, 18, 19, 20, 21, 22, 23, 24, 25, 26, 27, 28, 29, 30, 31, 32, 33, 34, 35, 36, 37, 38, 39] (by kernel_rfl) rfl (by kernel_rfl) (by kernel_rfl) (fun _ _ _ _ _ h => h) ((Ext.refl _).drew) (fun hS => ?_)
                repeat (first | (refine seq_skip rfl rfl (by assumption) ?_; simp only [Act.put, List.setIfInBounds_toArray, List.set_cons_zero, List.set_cons_succ]) | (refine seq_read (v := ?_) rfl rfl rfl (fun X hX => ?_) (by assumption) ?_; rotate_left; (focus (go_simp <;> with_reducible rfl)); simp only [Act.put, List.setIfInBounds_toArray, List.set_cons_zero, List.set_cons_succ]))
                refine seq_step rfl rfl rfl (fun K hK => ?_)
                go_simp
                refine (impl_isState).mono ?_
                rw [hA.out]; rintro r w2 ⟨rfl, hx2⟩
                refine hK.out _ _ (Ext.trans (by assumption) hx2) (fun hS => ?_)
                try simp only [Act.put, List.setIfInBounds_toArray, List.set_cons_zero, List.set_cons_succ]
                repeat (first | (refine seq_skip rfl rfl (by assumption) ?_; simp only [Act.put, List.setIfInBounds_toArray, List.set_cons_zero, List.set_cons_succ]) | (refine seq_read (v := ?_) rfl rfl rfl (fun X hX => ?_) (by assumption) ?_; rotate_left; (focus (go_simp <;> with_reducible rfl)); simp only [Act.put, List.setIfInBounds_toArray, List.set_cons_zero, List.set_cons_succ]))
                refine seq_step rfl rfl rfl (fun K hK => ?_)
                go_simp
                refine (impl_isState).mono ?_
                rw [hB.out]; rintro r w3 ⟨rfl, hx3⟩
                refine hK.out _ _ (Ext.trans (by assumption) hx3) (fun hS => ?_)
                try simp only [Act.put, List.setIfInBounds_toArray, List.set_cons_zero, List.set_cons_succ]
                repeat (first | (refine seq_skip rfl rfl (by assumption) ?_; simp only [Act.put, List.setIfInBounds_toArray, List.set_cons_zero, List.set_cons_succ]) | (refine seq_read (v := ?_) rfl rfl rfl (fun X hX => ?_) (by assumption) ?_; rotate_left; (focus (go_simp <;> with_reducible rfl)); simp only [Act.put, List.setIfInBounds_toArray, List.set_cons_zero, List.set_cons_succ]))
                refine seq_nil ?_
                go_wp2_with fail
                go_ret
                exact ⟨ret_bool (by rw [Hv.out, all_stop Hge.out (by rw [edgeOK, he.out]; dsimp only; rw [edgB, hA.out, hB.out]; simp; omega)]; simp), Hfin.out _ (by assumption)⟩
              · have hL : decide (6 ≤ e.le) = false := by simp; omega
                have hlt6 := hide (show decide (e.le < 6) = true by simp; omega)
                cases hC : hasB al e.le
                · have HC := hide hC
                  clear hC
                  have hC := HC; clear HC
                  refine wp_region_ord (fun X => Ext W X) [0, 1, 2, 3, 4, 5, 6, 7, 8, 9, 10, 11, 12, 13, 14, 15, 16, 17, 18, 19, 20, 21, 22, 23, 24, 25, 26, 27, 28, 29, 30, 31, 32, 33, 34, 35, 36, 37, 38, 39] (by kernel_rfl) rfl (by kernel_rfl) (by kernel_rfl) (fun _ _ _ _ _ h => h) ((Ext.refl _).drew) (fun hS => ?_)
                  repeat (first | (refine seq_skip rfl rfl (by assumption) ?_; simp only [Act.put, List.setIfInBounds_toArray, List.set_cons_zero, List.set_cons_succ]) | (refine seq_read (v := ?_) rfl rfl rfl (fun X hX => ?_) (by assumption) ?_; rotate_left; (focus (go_simp <;> with_reducible rfl)); simp only [Act.put, List.setIfInBounds_toArray, List.set_cons_zero, List.set_cons_succ]))
                  refine seq_step rfl rfl rfl (fun K hK => ?_)
                  go_simp
                  refine (impl_isState).mono ?_
                  rw [hA.out]; rintro r w2 ⟨rfl, hx2⟩
                  refine hK.out _ _ (Ext.trans (by assumption) hx2) (fun hS => ?_)
                  try simp only [Act.put, List.setIfInBounds_toArray, List.set_cons_zero, List.set_cons_succ]
                  repeat (first | (refine seq_skip rfl rfl (by assumption) ?_; simp only [Act.put, List.setIfInBounds_toArray, List.set_cons_zero, List.set_cons_succ]) | (refine seq_read (v := ?_) rfl rfl rfl (fun X hX => ?_) (by assumption) ?_; rotate_left; (focus (go_simp <;> with_reducible rfl)); simp only [Act.put, List.setIfInBounds_toArray, List.set_cons_zero, List.set_cons_succ]))
                  refine seq_step rfl rfl rfl (fun K hK => ?_)
                  go_simp
                  refine (impl_isState).mono ?_
                  rw [hB.out]; rintro r w3 ⟨rfl, hx3⟩
                  refine hK.out _ _ (Ext.trans (by assumption) hx3) (fun hS => ?_)
                  try simp only [Act.put, List.setIfInBounds_toArray, List.set_cons_zero, List.set_cons_succ]
                  repeat (first | (refine seq_skip rfl rfl (by assumption) ?_; simp only [Act.put, List.setIfInBounds_toArray, List.set_cons_zero, List.set_cons_succ]) | (refine seq_read (v := ?_) rfl rfl rfl (fun X hX => ?_) (by assumption) ?_; rotate_left; (focus (go_simp <;> with_reducible rfl)); simp only [Act.put, List.setIfInBounds_toArray, List.set_cons_zero, List.set_cons_succ]))
                  refine seq_step rfl rfl rfl (fun K hK => ?_)
                  go_simp
                  refine (impl_has _ _ hsm _).mono ?_
                  rw [hC.out]; rintro r w4 ⟨rfl, rfl⟩
                  refine hK.out _ _ (by assumption) (fun hS => ?_)
                  try simp only [Act.put, List.setIfInBounds_toArray, List.set_cons_zero, List.set_cons_succ]
                  repeat (first | (refine seq_skip rfl rfl (by assumption) ?_; simp only [Act.put, List.setIfInBounds_toArray, List.set_cons_zero, List.set_cons_succ]) | (refine seq_read (v := ?_) rfl rfl rfl (fun X hX => ?_) (by assumption) ?_; rotate_left; (focus (go_simp <;> with_reducible rfl)); simp only [Act.put, List.setIfInBounds_toArray, List.set_cons_zero, List.set_cons_succ]))
                  refine seq_nil ?_
                  go_wp2_with fail
                  go_ret
                  exact ⟨ret_bool (by rw [Hv.out, all_stop Hge.out (by rw [edgeOK, he.out]; dsimp only; rw [edgB, hA.out, hB.out, hC.out]; simp)]; simp), Hfin.out _ (by assumption)⟩
                · have HC := hide hC
                  clear hC
                  have hC := HC; clear HC
                  have hedg := hide (show edgB al st e = true by rw [edgB, hA.out, hB.out, hC.out, hlt6.out]; rfl)
                  by_cases hk0 : k = 0
                  · subst hk0
                    refine wp_region_ord (fun X => Ext W X) [0, 1, 2, 3, 4, 5, 6, 7, 8, 9, 10, 11, 12, 13, 14, 15, 16, 17, 18, 19, 20, 21, 22, 23, 24, 25, 26, 27, 28, 29, 30, 31, 32, 33, 34, 35, 36, 37, 38, 39] (by kernel_rfl) rfl (by kernel_rfl) (by kernel_rfl) (fun _ _ _ _ _ h => h) ((Ext.refl _).drew) (fun hS => ?_)
                    repeat (first | (refine seq_skip rfl rfl (by assumption) ?_; simp only [Act.put, List.setIfInBounds_toArray, List.set_cons_zero, List.set_cons_succ]) | (refine seq_read (v := ?_) rfl rfl rfl (fun X hX => ?_) (by assumption) ?_; rotate_left; (focus (go_simp <;> with_reducible rfl)); simp only [Act.put, List.setIfInBounds_toArray, List.set_cons_zero, List.set_cons_succ]))
                    refine seq_step rfl rfl rfl (fun K hK => ?_)
                    go_simp
                    refine (impl_isState).mono ?_
                    rw [hA.out]; rintro r w2 ⟨rfl, hx2⟩
                    refine hK.out _ _ (Ext.trans (by assumption) hx2) (fun hS => ?_)
                    try simp only [Act.put, List.setIfInBounds_toArray, List.set_cons_zero, List.set_cons_succ]
                    repeat (first | (refine seq_skip rfl rfl (by assumption) ?_; simp only [Act.put, List.setIfInBounds_toArray, List.set_cons_zero, List.set_cons_succ]) | (refine seq_read (v := ?_) rfl rfl rfl (fun X hX => ?_) (by assumption) ?_; rotate_left; (focus (go_simp <;> with_reducible rfl)); simp only [Act.put, List.setIfInBounds_toArray, List.set_cons_zero, List.set_cons_succ]))
                    refine seq_step rfl rfl rfl (fun K hK => ?_)
                    go_simp
                    refine (impl_isState).mono ?_
                    rw [hB.out]; rintro r w3 ⟨rfl, hx3⟩
                    refine hK.out _ _ (Ext.trans (by assumption) hx3) (fun hS => ?_)
                    try simp only [Act.put, List.setIfInBounds_toArray, List.set_cons_zero, List.set_cons_succ]
                    repeat (first | (refine seq_skip rfl rfl (by assumption) ?_; simp only [Act.put, List.setIfInBounds_toArray, List.set_cons_zero, List.set_cons_succ]) | (refine seq_read (v := ?_) rfl rfl rfl (fun X hX => ?_) (by assumption) ?_; rotate_left; (focus (go_simp <;> with_reducible rfl)); simp only [Act.put, List.setIfInBounds_toArray, List.set_cons_zero, List.set_cons_succ]))
                    refine seq_step rfl rfl rfl (fun K hK => ?_)
                    go_simp
                    refine (impl_has _ _ hsm _).mono ?_
                    rw [hC.out]; rintro r w4 ⟨rfl, rfl⟩
                    refine hK.out _ _ (by assumption) (fun hS => ?_)
                    try simp only [Act.put, List.setIfInBounds_toArray, List.set_cons_zero, List.set_cons_succ]
                    repeat (first | (refine seq_skip rfl rfl (by assumption) ?_; simp only [Act.put, List.setIfInBounds_toArray, List.set_cons_zero, List.set_cons_succ]) | (refine seq_read (v := ?_) rfl rfl rfl (fun X hX => ?_) (by assumption) ?_; rotate_left; (focus (go_simp <;> with_reducible rfl)); simp only [Act.put, List.setIfInBounds_toArray, List.set_cons_zero, List.set_cons_succ]))
                    refine seq_nil ?_
                    go_wp2_with fail
                    go_roundw
                    case rel => exact ⟨0 + 1, by omega, by go_num, all_step Hge.out hall.out (by rw [edgeOK, he.out]; dsimp only; rw [hedg.out]; simp), (hext.trans hx).trans (by assumption)⟩
                    case measure => simp [intOf]; omega
                  · obtain ⟨j, rfl⟩ : ∃ j, k = j + 1 := ⟨k - 1, by omega⟩
                    have hp : s.edges[j]? = some (s.edges[j]'(by have := h.1; omega)) := List.getElem?_eq_getElem _
                    generalize s.edges[j]'(by have := h.1; omega) = p at hp
                    have Hp := hide hp
                    clear hp
                    have hpc := (HR.out wr (((Ext.refl _).alloc _).trans hext)).edge2 Hp.out
                    have p0 : ∀ X, Ext W X → X.cell? ⟨b, o + j * 3, none⟩ = some (.int .i64 p.fr) := fun X hX => (hx.trans hX).cell_some hpc.1
                    have p1 : ∀ X, Ext W X → X.cell? ⟨b, o + j * 3 + 1, none⟩ = some (.int .i64 p.le) := fun X hX => (hx.trans hX).cell_some hpc.2.1
                    have p2 : ∀ X, Ext W X → X.cell? ⟨b, o + j * 3 + 2, none⟩ = some (.int .i64 p.to) := fun X hX => (hx.trans hX).cell_some hpc.2.2
                    clear hpc
                    have hk1 : decide ((0 : Int) < (j : Int) + 1) = true := decide_eq_true (by omega)
                    have hw1 : IntKind.i64.wrap ((j : Int) + 1 - 1) = (j : Int) := by rw [IntKind.wrap_i64]; omega
                    have hw2 : IntKind.i64.wrap (j : Int) = (j : Int) := by rw [IntKind.wrap_i64]; omega
                    have hj0 : (0 : Int) ≤ (j : Int) := by omega
                    have hj1 : (j : Int) < (n : Int) := by omega
                    have hpl := cmpE_lt p e
                    have Hpl := hide hpl
                    clear hpl
                    by_cases hc : 0 ≤ cmpE p e
                    · have hcd : decide (0 ≤ cmpE p e) = true := by simpa using hc
                      have hnl := hide (show ltE p e = false by rw [Bool.eq_false_iff]; intro hh; have := Hpl.out.2 hh; omega)
                      refine wp_region_ord (fun X => Ext W X) [0, 1, 2, 3, 4, 5, 6, 7, 8, 9, 10, 11, 12, 13, 14, 15, 16, 17, 18, 19, 20, 21, 22, 23, 24, 25, 26, 27, 28, 29, 30, 31, 32, 33, 34, 35, 36, 37, 38, 39] (by kernel_rfl) rfl (by kernel_rfl) (by kernel_rfl) (fun _ _ _ _ _ h => h) ((Ext.refl _).drew) (fun hS => ?_)
                      repeat (first | (refine seq_skip rfl rfl (by assumption) ?_; simp only [Act.put, List.setIfInBounds_toArray, List.set_cons_zero, List.set_cons_succ]) | (refine seq_read (v := ?_) rfl rfl rfl (fun X hX => ?_) (by assumption) ?_; rotate_left; (focus (go_simp <;> with_reducible rfl)); simp only [Act.put, List.setIfInBounds_toArray, List.set_cons_zero, List.set_cons_succ]))
                      refine seq_step rfl rfl rfl (fun K hK => ?_)
                      go_simp
                      refine (impl_isState).mono ?_
                      rw [hA.out]; rintro r w2 ⟨rfl, hx2⟩
                      refine hK.out _ _ (Ext.trans (by assumption) hx2) (fun hS => ?_)
                      try simp only [Act.put, List.setIfInBounds_toArray, List.set_cons_zero, List.set_cons_succ]
                      repeat (first | (refine seq_skip rfl rfl (by assumption) ?_; simp only [Act.put, List.setIfInBounds_toArray, List.set_cons_zero, List.set_cons_succ]) | (refine seq_read (v := ?_) rfl rfl rfl (fun X hX => ?_) (by assumption) ?_; rotate_left; (focus (go_simp <;> with_reducible rfl)); simp only [Act.put, List.setIfInBounds_toArray, List.set_cons_zero, List.set_cons_succ]))
                      refine seq_step rfl rfl rfl (fun K hK => ?_)
                      go_simp
                      refine (impl_isState).mono ?_
                      rw [hB.out]; rintro r w3 ⟨rfl, hx3⟩
                      refine hK.out _ _ (Ext.trans (by assumption) hx3) (fun hS => ?_)
                      try simp only [Act.put, List.setIfInBounds_toArray, List.set_cons_zero, List.set_cons_succ]
                      repeat (first | (refine seq_skip rfl rfl (by assumption) ?_; simp only [Act.put, List.setIfInBounds_toArray, List.set_cons_zero, List.set_cons_succ]) | (refine seq_read (v := ?_) rfl rfl rfl (fun X hX => ?_) (by assumption) ?_; rotate_left; (focus (go_simp <;> with_reducible rfl)); simp only [Act.put, List.setIfInBounds_toArray, List.set_cons_zero, List.set_cons_succ]))
                      refine seq_step rfl rfl rfl (fun K hK => ?_)
                      go_simp
                      refine (impl_has _ _ hsm _).mono ?_
                      rw [hC.out]; rintro r w4 ⟨rfl, rfl⟩
                      refine hK.out _ _ (by assumption) (fun hS => ?_)
                      try simp only [Act.put, List.setIfInBounds_toArray, List.set_cons_zero, List.set_cons_succ]
                      repeat (first | (refine seq_skip rfl rfl (by assumption) ?_; simp only [Act.put, List.setIfInBounds_toArray, List.set_cons_zero, List.set_cons_succ]) | (refine seq_read (v := ?_) rfl rfl rfl (fun X hX => ?_) (by assumption) ?_; rotate_left; (focus (go_simp <;> with_reducible rfl)); simp only [Act.put, List.setIfInBounds_toArray, List.set_cons_zero, List.set_cons_succ]))
                      refine seq_step rfl rfl rfl (fun K hK => ?_)
                      go_simp
                      refine (impl_compareEdges (a := p) (b := e)).mono ?_
                      rintro r w5 ⟨rfl, hx5⟩
                      refine hK.out _ _ (Ext.trans (by assumption) hx5) (fun hS => ?_)
                      try simp only [Act.put, List.setIfInBounds_toArray, List.set_cons_zero, List.set_cons_succ]
                      repeat (first | (refine seq_skip rfl rfl (by assumption) ?_; simp only [Act.put, List.setIfInBounds_toArray, List.set_cons_zero, List.set_cons_succ]) | (refine seq_read (v := ?_) rfl rfl rfl (fun X hX => ?_) (by assumption) ?_; rotate_left; (focus (go_simp <;> with_reducible rfl)); simp only [Act.put, List.setIfInBounds_toArray, List.set_cons_zero, List.set_cons_succ]))
                      refine seq_nil ?_
                      go_wp2_with fail
                      go_ret
                      exact ⟨ret_bool (by rw [Hv.out, all_stop Hge.out (by rw [edgeOK, he.out]; dsimp only; rw [Nat.add_sub_cancel, Hp.out]; simp [hnl.out])]; simp), Hfin.out _ (by assumption)⟩
                    · have hcd : decide (0 ≤ cmpE p e) = false := by simp; omega
                      have hnl := hide (show ltE p e = true from Hpl.out.1 (by omega))
                      refine wp_region_ord (fun X => Ext W X) [0, 1, 2, 3, 4, 5, 6, 7, 8, 9, 10, 11, 12, 13, 14, 15, 16, 17, 18, 19, 20, 21, 22, 23, 24, 25, 26, 27, 28, 29, 30, 31, 32, 33, 34, 35, 36, 37, 38, 39] (by kernel_rfl) rfl (by kernel_rfl) (by kernel_rfl) (fun _ _ _ _ _ h => h) ((Ext.refl _).drew) (fun hS => ?_)
                      repeat (first | (refine seq_skip rfl rfl (by assumption) ?_; simp only [Act.put, List.setIfInBounds_toArray, List.set_cons_zero, List.set_cons_succ]) | (refine seq_read (v := ?_) rfl rfl rfl (fun X hX => ?_) (by assumption) ?_; rotate_left; (focus (go_simp <;> with_reducible rfl)); simp only [Act.put, List.setIfInBounds_toArray, List.set_cons_zero, List.set_cons_succ]))
                      refine seq_step rfl rfl rfl (fun K hK => ?_)
                      go_simp
                      refine (impl_isState).mono ?_
                      rw [hA.out]; rintro r w2 ⟨rfl, hx2⟩
                      refine hK.out _ _ (Ext.trans (by assumption) hx2) (fun hS => ?_)
                      try simp only [Act.put, List.setIfInBounds_toArray, List.set_cons_zero, List.set_cons_succ]
                      repeat (first | (refine seq_skip rfl rfl (by assumption) ?_; simp only [Act.put, List.setIfInBounds_toArray, List.set_cons_zero, List.set_cons_succ]) | (refine seq_read (v := ?_) rfl rfl rfl (fun X hX => ?_) (by assumption) ?_; rotate_left; (focus (go_simp <;> with_reducible rfl)); simp only [Act.put, List.setIfInBounds_toArray, List.set_cons_zero, List.set_cons_succ]))
                      refine seq_step rfl rfl rfl (fun K hK => ?_)
                      go_simp
                      refine (impl_isState).mono ?_
                      rw [hB.out]; rintro r w3 ⟨rfl, hx3⟩
                      refine hK.out _ _ (Ext.trans (by assumption) hx3) (fun hS => ?_)
                      try simp only [Act.put, List.setIfInBounds_toArray, List.set_cons_zero, List.set_cons_succ]
                      repeat (first | (refine seq_skip rfl rfl (by assumption) ?_; simp only [Act.put, List.setIfInBounds_toArray, List.set_cons_zero, List.set_cons_succ]) | (refine seq_read (v := ?_) rfl rfl rfl (fun X hX => ?_) (by assumption) ?_; rotate_left; (focus (go_simp <;> with_reducible rfl)); simp only [Act.put, List.setIfInBounds_toArray, List.set_cons_zero, List.set_cons_succ]))
                      refine seq_step rfl rfl rfl (fun K hK => ?_)
                      go_simp
                      refine (impl_has _ _ hsm _).mono ?_
                      rw [hC.out]; rintro r w4 ⟨rfl, rfl⟩
                      refine hK.out _ _ (by assumption) (fun hS => ?_)
                      try simp only [Act.put, List.setIfInBounds_toArray, List.set_cons_zero, List.set_cons_succ]
                      repeat (first | (refine seq_skip rfl rfl (by assumption) ?_; simp only [Act.put, List.setIfInBounds_toArray, List.set_cons_zero, List.set_cons_succ]) | (refine seq_read (v := ?_) rfl rfl rfl (fun X hX => ?_) (by assumption) ?_; rotate_left; (focus (go_simp <;> with_reducible rfl)); simp only [Act.put, List.setIfInBounds_toArray, List.set_cons_zero, List.set_cons_succ]))
                      refine seq_step rfl rfl rfl (fun K hK => ?_)
                      go_simp
                      refine (impl_compareEdges (a := p) (b := e)).mono ?_
                      rintro r w5 ⟨rfl, hx5⟩
                      refine hK.out _ _ (Ext.trans (by assumption) hx5) (fun hS => ?_)
                      try simp only [Act.put, List.setIfInBounds_toArray, List.set_cons_zero, List.set_cons_succ]
                      repeat (first | (refine seq_skip rfl rfl (by assumption) ?_; simp only [Act.put, List.setIfInBounds_toArray, List.set_cons_zero, List.set_cons_succ]) | (refine seq_read (v := ?_) rfl rfl rfl (fun X hX => ?_) (by assumption) ?_; rotate_left; (focus (go_simp <;> with_reducible rfl)); simp only [Act.put, List.setIfInBounds_toArray, List.set_cons_zero, List.set_cons_succ]))
                      refine seq_nil ?_
                      go_wp2_with fail
                      go_roundw
                      case rel => exact ⟨j + 1 + 1, by omega, by go_num, all_step Hge.out hall.out (by rw [edgeOK, he.out]; dsimp only; rw [Nat.add_sub_cancel, Hp.out, hedg.out]; simp [hnl.out]), (hext.trans hx).trans (by assumption)⟩
                      case measure => simp [intOf]; omega
        · obtain rfl : k = n := by omega
          go_wp2
          go_ret
          exact ⟨ret_bool (by rw [Hv.out, all_end (by simp) hall.out, hd.out]; simp; omega), ((Ext.refl _).alloc _).trans hext⟩
    · go_enter Tryz.func44, Tryz.ntmps44
      have hd := hide (show decide (0 ≤ s.al ∧ s.al ≤ 63) = true by simp; omega)
      go_wp2_with (go_at_call 60; refine (impl_isAlphabet _ _).mono ?_; rw [hd.out]; rintro e w' ⟨rfl, rfl⟩)
      all_goals go_ret
      all_goals exact ⟨ret_bool (by rw [Hv.out]; simp [hst]), (Ext.refl _).alloc _⟩
  · go_enter Tryz.func44, Tryz.ntmps44
    have hd := hide (show decide (0 ≤ s.al ∧ s.al ≤ 63) = false by simp; omega)
    go_wp2_with (go_at_call 60; refine (impl_isAlphabet _ _).mono ?_; rw [hd.out]; rintro e w' ⟨rfl, rfl⟩)
    go_ret
    exact ⟨ret_bool (by rw [Hv.out]; simp; omega), (Ext.refl _).alloc _⟩
end Go.Proofs.YtplllipekeomiaaGreatDoor

namespace Go.Proofs.YtplllipekeomiaaGreatDoor
open Go Go.RowKit
set_option maxHeartbeats 4000000

theorem spec_l2Edge {al : Nat} {st : Int} {e : Edg} {w : World} (hsm : Sm al) :
    Calls Tryz.prog 90 #[.int .i64 al, .int .i64 st, .agg #[.int .i64 e.fr, .int .i64 e.le, .int .i64 e.to]] w fun r w' => r = .returned (.bool (edgB al st e)) ∧ Ext w w' := by
  have Hv := hide (show edgB al st e = ((decide (0 ≤ e.fr) && decide (e.fr < st)) && ((decide (0 ≤ e.to) && decide (e.to < st)) && (decide (e.le < 6) && hasB al e.le))) from rfl)
  by_cases h0 : e.fr < 0
  · go_enter Tryz.func90, Tryz.ntmps90
    go_wp2
    go_ret
    exact ⟨ret_bool (by rw [Hv.out]; simp; omega), (Ext.refl _).alloc _⟩
  · by_cases h1 : st ≤ e.fr
    · go_enter Tryz.func90, Tryz.ntmps90
      go_wp2
      go_ret
      exact ⟨ret_bool (by rw [Hv.out]; simp; omega), (Ext.refl _).alloc _⟩
    · by_cases h2 : e.to < 0
      · go_enter Tryz.func90, Tryz.ntmps90
        go_wp2
        go_ret
        exact ⟨ret_bool (by rw [Hv.out]; simp; omega), (Ext.refl _).alloc _⟩
      · by_cases h3 : st ≤ e.to
        · go_enter Tryz.func90, Tryz.ntmps90
          go_wp2
          go_ret
          exact ⟨ret_bool (by rw [Hv.out]; simp; omega), (Ext.refl _).alloc _⟩
        · by_cases h4 : 0 ≤ e.le
          · by_cases h5 : e.le < 6
            · obtain ⟨le, hle⟩ : ∃ le : Nat, Hid (e.le = le) := ⟨e.le.toNat, by unfold Hid; omega⟩
              have hl6 : (le : Int) < 6 := by have := hle.out; omega
              clear h4 h5
              rw [hle.out]
              go_enter Tryz.func90, Tryz.ntmps90
              go_wp2_with (go_at_call 83; refine (spec_l1Has al le hsm _ (by omega)).mono ?_; rintro r w' ⟨rfl, rfl⟩)
              go_ret
              exact ⟨ret_bool (by rw [Hv.out, hle.out, decide_eq_true (show 0 ≤ e.fr by omega), decide_eq_true (show e.fr < st by omega), decide_eq_true (show 0 ≤ e.to by omega), decide_eq_true (show e.to < st by omega), decide_eq_true hl6]; simp [hasB]), (Ext.refl _).alloc _⟩
            · go_enter Tryz.func90, Tryz.ntmps90
              go_wp2_with fail
              go_ret
              exact ⟨ret_bool (by rw [Hv.out]; simp; omega), (Ext.refl _).alloc _⟩
          · go_enter Tryz.func90, Tryz.ntmps90
            go_wp2_with fail
            go_ret
            exact ⟨ret_bool (by rw [Hv.out]; simp [hasB]; omega), (Ext.refl _).alloc _⟩

theorem spec_l2Before {a b : Edg} {w : World} :
    Calls Tryz.prog 91 #[.agg #[.int .i64 a.fr, .int .i64 a.le, .int .i64 a.to], .agg #[.int .i64 b.fr, .int .i64 b.le, .int .i64 b.to]] w fun e w' => e = .returned (.bool (ltE a b)) ∧ Ext w w' := by
  have Hv := hide (show ltE a b = if a.fr = b.fr then if a.le = b.le then decide (a.to < b.to) else decide (a.le < b.le) else decide (a.fr < b.fr) from rfl)
  have hx : Ext w ((w.alloc (.cells #[Value.int .i64 a.fr, .int .i64 a.le, .int .i64 a.to] 96)).alloc (.cells #[Value.int .i64 b.fr, .int .i64 b.le, .int .i64 b.to] 96)) := ((Ext.refl _).alloc _).alloc _
  have Hx := hide hx
  clear hx
  by_cases h0 : a.fr = b.fr
  · have n0 : (a.fr != b.fr) = false := by simp [h0]
    have H0 := hide h0
    clear h0
    by_cases h1 : a.le = b.le
    · have n1 : (a.le != b.le) = false := by simp [h1]
      have H1 := hide h1
      clear h1
      go_enter Tryz.func91, Tryz.ntmps91
      go_wp2
      go_ret
      exact ⟨ret_bool (by rw [Hv.out, if_pos H0.out, if_pos H1.out]), Hx.out⟩
    · have n1 : (a.le != b.le) = true := by simp [h1]
      go_enter Tryz.func91, Tryz.ntmps91
      go_wp2
      go_ret
      exact ⟨ret_bool (by rw [Hv.out, if_pos H0.out, if_neg h1]), Hx.out⟩
  · have n0 : (a.fr != b.fr) = true := by simp [h0]
    go_enter Tryz.func91, Tryz.ntmps91
    go_wp2
    go_ret
    exact ⟨ret_bool (by rw [Hv.out, if_neg h0]), Hx.out⟩

theorem spec_SystemValid {lo hi : Nat} {A : Option Addr} {n c : Nat} {s : Sys} {w : World} (h : SysAt w lo hi A n s) :
    Calls Tryz.prog 65 #[.agg #[.int .i64 s.al, .int .i64 s.st, .slice A n c]] w fun e w' => e = .returned (.bool (sysValid s)) ∧ Ext w w' := by
  have Hv := hide (show sysValid s = (decide (0 ≤ s.al ∧ s.al ≤ 63) && (decide (1 ≤ s.st ∧ s.st ≤ 16) && (List.range n).all (edgeOK s.al.toNat s.st s.edges))) by unfold sysValid; rw [← h.1])
  have hn := h.2.len
  by_cases hal : 0 ≤ s.al ∧ s.al ≤ 63
  · by_cases hst : 1 ≤ s.st ∧ s.st ≤ 16
    · obtain ⟨al, hal'⟩ : ∃ al : Nat, Hid (s.al = al) := ⟨s.al.toNat, by unfold Hid; omega⟩
      have hsm : Sm al := by have := hal'.out; unfold Sm; omega
      have hd := hide (show decide (0 ≤ (al : Int) ∧ (al : Int) ≤ 63) = true by have := hal'.out; simp; omega)
      rw [hal'.out]
      rw [hal'.out, Int.toNat_natCast] at Hv
      clear hal
      have hd1 : decide (s.st < 1) = false := by simp; omega
      have hd2 : decide (16 < s.st) = false := by simp; omega
      obtain ⟨st, hst', hs1, hs2⟩ : ∃ st : Int, Hid (s.st = st) ∧ 1 ≤ st ∧ st ≤ 16 := ⟨s.st, hide rfl, hst.1, hst.2⟩
      rw [hst'.out] at hd1 hd2 Hv ⊢
      clear hst
      have hR := fun W (hW : Ext w W) => h.2.ext hW
      have HR := hide hR
      clear hR
      go_enter Tryz.func65, Tryz.ntmps65
      go_wp2_with (go_at_call 52; refine (spec_l1Alphabet _ _).mono ?_; rw [hd.out]; rintro e w' ⟨rfl, rfl⟩)
      go_loopw [3] (fun i wr => ∃ k : Nat, k ≤ n ∧ i = .int .i64 k ∧ Hid (((List.range n).take k).all (edgeOK al st s.edges) = true) ∧ Ext (w.alloc (.cells #[Value.int .i64 al, .int .i64 st, Value.slice A n c] 54)) wr)
        (fun i _ => n - (intOf i).toNat)
      case atStart => exact ⟨0, Nat.zero_le _, rfl, rfl, Ext.refl _⟩
      case round =>
        obtain ⟨k, hk, rfl, hall, hext⟩ := hrel
        have hbx := ext_box hext
        by_cases hlt : k < n
        · obtain ⟨b, o, e, rfl, hlo, hhi, he, c0, c1, c2⟩ := (HR.out wr (((Ext.refl _).alloc _).trans hext)).edge hlt
          go_wp2_with fail
          clear hbx
          have e0 : ∀ X, Ext wr X → ∀ j, X.cell? ⟨w.heap.size, j, none⟩ = #[Value.int .i64 al, .int .i64 st, Value.slice (some ⟨b, o, none⟩) n c][j]? := fun X hX => ext_box (hext.trans hX)
          have q0 : ∀ X, Ext wr X → X.cell? ⟨b, o + k * 3, none⟩ = some (.int .i64 e.fr) := fun X hX => hX.cell_some c0
          have q1 : ∀ X, Ext wr X → X.cell? ⟨b, o + k * 3 + 1, none⟩ = some (.int .i64 e.le) := fun X hX => hX.cell_some c1
          have q2 : ∀ X, Ext wr X → X.cell? ⟨b, o + k * 3 + 2, none⟩ = some (.int .i64 e.to) := fun X hX => hX.cell_some c2
          have hr := Ext.refl wr
          clear c0 c1 c2
          have hfin : ∀ X, Ext wr X → Ext w X := fun X hX => (((Ext.refl _).alloc _).trans hext).trans hX
          have Hfin := hide hfin
          clear hfin
          have hk0' : (0 : Int) ≤ (k : Int) := by omega
          have hk1' : (k : Int) < (n : Int) := by omega
          have hge : (List.range n)[k]? = some k := by rw [List.getElem?_range hlt]
          have Hge := hide hge
          clear hge
          cases hA' : edgB al st e
          · have hA := hide hA'
            clear hA'
            refine wp_region_ord (fun X => Ext wr X) [0, 1, 2, 3, 4, 5, 6, 7, 8, 9, 10, 11, 12, 13, 14, 15, 16, 17, 18, 19, 20, 21, 22, 23, 24, 25, 26, 27, 28, 29] (by kernel_rfl) rfl (by kernel_rfl) (by kernel_rfl) (fun _ _ _ _ _ h => h) ((Ext.refl _).drew) (fun hS => ?_)
            repeat (first | (refine seq_skip rfl rfl (by assumption) ?_; simp only [Act.put, List.setIfInBounds_toArray, List.set_cons_zero, List.set_cons_succ]) | (refine seq_read (v := ?_) rfl rfl rfl (fun X hX => ?_) (by assumption) ?_; rotate_left; (focus (go_simp <;> with_reducible rfl)); simp only [Act.put, List.setIfInBounds_toArray, List.set_cons_zero, List.set_cons_succ]))
            refine seq_step rfl rfl rfl (fun K hK => ?_)
            go_simp
            refine (spec_l2Edge (e := e) hsm).mono ?_
            rw [hA.out]; rintro r w2 ⟨rfl, hx2⟩
            refine hK.out _ _ (Ext.trans (by assumption) hx2) (fun hS => ?_)
            try simp only [Act.put, List.setIfInBounds_toArray, List.set_cons_zero, List.set_cons_succ]
            repeat (first | (refine seq_skip rfl rfl (by assumption) ?_; simp only [Act.put, List.setIfInBounds_toArray, List.set_cons_zero, List.set_cons_succ]) | (refine seq_read (v := ?_) rfl rfl rfl (fun X hX => ?_) (by assumption) ?_; rotate_left; (focus (go_simp <;> with_reducible rfl)); simp only [Act.put, List.setIfInBounds_toArray, List.set_cons_zero, List.set_cons_succ]))
            refine seq_nil ?_
            go_wp2_with fail
            go_ret
            exact ⟨ret_bool (by rw [Hv.out, all_stop Hge.out (by rw [edgeOK, he.out]; dsimp only; rw [hA.out]; simp)]; simp), Hfin.out _ (by assumption)⟩
          · have hA := hide hA'
            clear hA'
            by_cases hk0 : k = 0
            · subst hk0
              simp only [Nat.zero_mul, Nat.add_zero] at q0 q1 q2
              refine wp_region_ord (fun X => Ext wr X) [0, 1, 2, 3, 4, 5, 6, 7, 8, 9, 10, 11, 12, 13, 14, 15, 16, 17, 18, 19, 20, 21, 22, 23, 24, 25, 26, 27, 28, 29] (by kernel_rfl) rfl (by kernel_rfl) (by kernel_rfl) (fun _ _ _ _ _ h => h) ((Ext.refl _).drew) (fun hS => ?_)
              repeat (first | (refine seq_skip rfl rfl (by assumption) ?_; simp only [Act.put, List.setIfInBounds_toArray, List.set_cons_zero, List.set_cons_succ]) | (refine seq_read (v := ?_) rfl rfl rfl (fun X hX => ?_) (by assumption) ?_; rotate_left; (focus (go_simp <;> with_reducible rfl)); simp only [Act.put, List.setIfInBounds_toArray, List.set_cons_zero, List.set_cons_succ]))
              refine seq_step rfl rfl rfl (fun K hK => ?_)
              go_simp
              refine (spec_l2Edge (e := e) hsm).mono ?_
              rw [hA.out]; rintro r w2 ⟨rfl, hx2⟩
              refine hK.out _ _ (Ext.trans (by assumption) hx2) (fun hS => ?_)
              try simp only [Act.put, List.setIfInBounds_toArray, List.set_cons_zero, List.set_cons_succ]
              repeat (first | (refine seq_skip rfl rfl (by assumption) ?_; simp only [Act.put, List.setIfInBounds_toArray, List.set_cons_zero, List.set_cons_succ]) | (refine seq_read (v := ?_) rfl rfl rfl (fun X hX => ?_) (by assumption) ?_; rotate_left; (focus (go_simp <;> with_reducible rfl)); simp only [Act.put, List.setIfInBounds_toArray, List.set_cons_zero, List.set_cons_succ]))
              refine seq_nil ?_
              go_wp2_with fail
              go_roundw
              case rel => exact ⟨0 + 1, by omega, by go_num, all_step Hge.out hall.out (by rw [edgeOK, he.out]; dsimp only; rw [hA.out]; simp), hext.trans (by assumption)⟩
              case measure => simp [intOf]; omega
            · obtain ⟨j, rfl⟩ : ∃ j, k = j + 1 := ⟨k - 1, by omega⟩
              have hp : s.edges[j]? = some (s.edges[j]'(by have := h.1; omega)) := List.getElem?_eq_getElem _
              generalize s.edges[j]'(by have := h.1; omega) = p at hp
              have Hp := hide hp
              clear hp
              have hpc := (HR.out wr (((Ext.refl _).alloc _).trans hext)).edge2 Hp.out
              have p0 : ∀ X, Ext wr X → X.cell? ⟨b, o + j * 3, none⟩ = some (.int .i64 p.fr) := fun X hX => hX.cell_some hpc.1
              have p1 : ∀ X, Ext wr X → X.cell? ⟨b, o + j * 3 + 1, none⟩ = some (.int .i64 p.le) := fun X hX => hX.cell_some hpc.2.1
              have p2 : ∀ X, Ext wr X → X.cell? ⟨b, o + j * 3 + 2, none⟩ = some (.int .i64 p.to) := fun X hX => hX.cell_some hpc.2.2
              clear hpc
              have hk1 : decide ((0 : Int) < (j : Int) + 1) = true := decide_eq_true (by omega)
              have hw1 : IntKind.i64.wrap ((j : Int) + 1 - 1) = (j : Int) := by rw [IntKind.wrap_i64]; omega
              have hw2 : IntKind.i64.wrap (j : Int) = (j : Int) := by rw [IntKind.wrap_i64]; omega
              have hj0 : (0 : Int) ≤ (j : Int) := by omega
              have hj1 : (j : Int) < (n : Int) := by omega
              have hj2 : (0 : Int) ≤ (j : Int) + 1 := by omega
              have hj3 : (j : Int) + 1 < (n : Int) := by omega
              have hj4 : ((j : Int) + 1).toNat = j + 1 := by omega
              cases hnl' : ltE p e
              · have hnl := hide hnl'
                clear hnl'
                refine wp_region_ord (fun X => Ext wr X) [0, 1, 2, 3, 4, 5, 6, 7, 8, 9, 10, 11, 12, 13, 14, 15, 16, 17, 18, 19, 20, 21, 22, 23, 24, 25, 26, 27, 28, 29] (by kernel_rfl) rfl (by kernel_rfl) (by kernel_rfl) (fun _ _ _ _ _ h => h) ((Ext.refl _).drew) (fun hS => ?_)
                repeat (first | (refine seq_skip rfl rfl (by assumption) ?_; simp only [Act.put, List.setIfInBounds_toArray, List.set_cons_zero, List.set_cons_succ]) | (refine seq_read (v := ?_) rfl rfl rfl (fun X hX => ?_) (by assumption) ?_; rotate_left; (focus (go_simp <;> with_reducible rfl)); simp only [Act.put, List.setIfInBounds_toArray, List.set_cons_zero, List.set_cons_succ]))
                refine seq_step rfl rfl rfl (fun K hK => ?_)
                go_simp
                refine (spec_l2Edge (e := e) hsm).mono ?_
                rw [hA.out]; rintro r w2 ⟨rfl, hx2⟩
                refine hK.out _ _ (Ext.trans (by assumption) hx2) (fun hS => ?_)
                try simp only [Act.put, List.setIfInBounds_toArray, List.set_cons_zero, List.set_cons_succ]
                repeat (first | (refine seq_skip rfl rfl (by assumption) ?_; simp only [Act.put, List.setIfInBounds_toArray, List.set_cons_zero, List.set_cons_succ]) | (refine seq_read (v := ?_) rfl rfl rfl (fun X hX => ?_) (by assumption) ?_; rotate_left; (focus (go_simp <;> with_reducible rfl)); simp only [Act.put, List.setIfInBounds_toArray, List.set_cons_zero, List.set_cons_succ]))
                refine seq_step rfl rfl rfl (fun K hK => ?_)
                go_simp
                refine (spec_l2Before (a := p) (b := e)).mono ?_
                rw [hnl.out]; rintro r w3 ⟨rfl, hx3⟩
                refine hK.out _ _ (Ext.trans (by assumption) hx3) (fun hS => ?_)
                try simp only [Act.put, List.setIfInBounds_toArray, List.set_cons_zero, List.set_cons_succ]
                repeat (first | (refine seq_skip rfl rfl (by assumption) ?_; simp only [Act.put, List.setIfInBounds_toArray, List.set_cons_zero, List.set_cons_succ]) | (refine seq_read (v := ?_) rfl rfl rfl (fun X hX => ?_) (by assumption) ?_; rotate_left; (focus (go_simp <;> with_reducible rfl)); simp only [Act.put, List.setIfInBounds_toArray, List.set_cons_zero, List.set_cons_succ]))
                refine seq_nil ?_
                go_wp2_with fail
                go_ret
                exact ⟨ret_bool (by rw [Hv.out, all_stop Hge.out (by rw [edgeOK, he.out]; dsimp only; rw [Nat.add_sub_cancel, Hp.out]; simp [hnl.out])]; simp), Hfin.out _ (by assumption)⟩
              · have hnl := hide hnl'
                clear hnl'
                refine wp_region_ord (fun X => Ext wr X) [0, 1, 2, 3, 4, 5, 6, 7, 8, 9, 10, 11, 12, 13, 14, 15, 16, 17, 18, 19, 20, 21, 22, 23, 24, 25, 26, 27, 28, 29] (by kernel_rfl) rfl (by kernel_rfl) (by kernel_rfl) (fun _ _ _ _ _ h => h) ((Ext.refl _).drew) (fun hS => ?_)
                repeat (first | (refine seq_skip rfl rfl (by assumption) ?_; simp only [Act.put, List.setIfInBounds_toArray, List.set_cons_zero, List.set_cons_succ]) | (refine seq_read (v := ?_) rfl rfl rfl (fun X hX => ?_) (by assumption) ?_; rotate_left; (focus (go_simp <;> with_reducible rfl)); simp only [Act.put, List.setIfInBounds_toArray, List.set_cons_zero, List.set_cons_succ]))
                refine seq_step rfl rfl rfl (fun K hK => ?_)
                go_simp
                refine (spec_l2Edge (e := e) hsm).mono ?_
                rw [hA.out]; rintro r w2 ⟨rfl, hx2⟩
                refine hK.out _ _ (Ext.trans (by assumption) hx2) (fun hS => ?_)
                try simp only [Act.put, List.setIfInBounds_toArray, List.set_cons_zero, List.set_cons_succ]
                repeat (first | (refine seq_skip rfl rfl (by assumption) ?_; simp only [Act.put, List.setIfInBounds_toArray, List.set_cons_zero, List.set_cons_succ]) | (refine seq_read (v := ?_) rfl rfl rfl (fun X hX => ?_) (by assumption) ?_; rotate_left; (focus (go_simp <;> with_reducible rfl)); simp only [Act.put, List.setIfInBounds_toArray, List.set_cons_zero, List.set_cons_succ]))
                refine seq_step rfl rfl rfl (fun K hK => ?_)
                go_simp
                refine (spec_l2Before (a := p) (b := e)).mono ?_
                rw [hnl.out]; rintro r w3 ⟨rfl, hx3⟩
                refine hK.out _ _ (Ext.trans (by assumption) hx3) (fun hS => ?_)
                try simp only [Act.put, List.setIfInBounds_toArray, List.set_cons_zero, List.set_cons_succ]
                repeat (first | (refine seq_skip rfl rfl (by assumption) ?_; simp only [Act.put, List.setIfInBounds_toArray, List.set_cons_zero, List.set_cons_succ]) | (refine seq_read (v := ?_) rfl rfl rfl (fun X hX => ?_) (by assumption) ?_; rotate_left; (focus (go_simp <;> with_reducible rfl)); simp only [Act.put, List.setIfInBounds_toArray, List.set_cons_zero, List.set_cons_succ]))
                refine seq_nil ?_
                go_wp2_with fail
                go_roundw
                case rel => exact ⟨j + 1 + 1, by omega, by go_num, all_step Hge.out hall.out (by rw [edgeOK, he.out]; dsimp only; rw [Nat.add_sub_cancel, Hp.out, hA.out]; simp [hnl.out]), hext.trans (by assumption)⟩
                case measure => simp [intOf]; omega
        · obtain rfl : k = n := by omega
          go_wp2
          go_ret
          exact ⟨ret_bool (by rw [Hv.out, all_end (by simp) hall.out, hd.out]; simp; omega), ((Ext.refl _).alloc _).trans hext⟩
    · go_enter Tryz.func65, Tryz.ntmps65
      have hd := hide (show decide (0 ≤ s.al ∧ s.al ≤ 63) = true by simp; omega)
      go_wp2_with (go_at_call 52; refine (spec_l1Alphabet _ _).mono ?_; rw [hd.out]; rintro e w' ⟨rfl, rfl⟩)
      all_goals go_ret
      all_goals exact ⟨ret_bool (by rw [Hv.out]; simp [hst]), (Ext.refl _).alloc _⟩
  · go_enter Tryz.func65, Tryz.ntmps65
    have hd := hide (show decide (0 ≤ s.al ∧ s.al ≤ 63) = false by simp; omega)
    go_wp2_with (go_at_call 52; refine (spec_l1Alphabet _ _).mono ?_; rw [hd.out]; rintro e w' ⟨rfl, rfl⟩)
    go_ret
    exact ⟨ret_bool (by rw [Hv.out]; simp; omega), (Ext.refl _).alloc _⟩
end Go.Proofs.YtplllipekeomiaaGreatDoor

namespace Go.Proofs.YtplllipekeomiaaGreatDoor
open Go Go.RowKit
set_option maxHeartbeats 1000000

/-- Two valid systems over one alphabet. -/
def sameB (s t : Sys) : Bool := sysValid s && (sysValid t && s.al == t.al)
end Go.Proofs.YtplllipekeomiaaGreatDoor

namespace Go.Proofs.YtplllipekeomiaaGreatDoor
open Go Go.RowKit

/-- What a value stands for, in blocks from lo on and below hi. -/
abbrev Lay (α : Type) := World → Nat → Nat → Value → α → Prop
/-- It stays where these blocks stay. -/
structure Lay.Ok {α : Type} (P : Lay α) : Prop where
  frm : ∀ {S : Nat → Prop} {W W' : World} {lo hi : Nat} {r : Value} {x : α}, P W lo hi r x → Frm S W W' → (∀ k, lo ≤ k → k < hi → ¬ S k) → P W' lo hi r x
  more : ∀ {W : World} {lo hi lo' hi' : Nat} {r : Value} {x : α}, P W lo hi r x → lo' ≤ lo → hi ≤ hi' → P W lo' hi' r x
/-- A number. -/
def NatP : Lay Nat := fun _ _ _ r n => r = .int .i64 (n : Nat)
/-- A string. -/
def StrP : Lay ByteArray := fun _ _ _ r s => r = .string s
theorem NatP.ok : Lay.Ok NatP := ⟨fun h _ _ => h, fun h _ _ => h⟩
theorem StrP.ok : Lay.Ok StrP := ⟨fun h _ _ => h, fun h _ _ => h⟩
/-- A slice of one-cell values. -/
def Lst {α : Type} (P : Lay α) (W : World) (lo hi : Nat) (A : Option Addr) (xs : List α) : Prop :=
  ∃ rows, Reads W lo hi 1 A xs.length rows ∧ ∀ (i : Nat) (r : Value) (x : α), rows[i]? = some r → xs[i]? = some x → P W lo hi r x
def LstP {α : Type} (P : Lay α) : Lay (List α) := fun W lo hi r xs => ∃ A c, r = .slice A xs.length c ∧ Lst P W lo hi A xs
section
variable {α : Type} {P : Lay α} {W W' : World} {lo hi : Nat} {A : Option Addr} {xs : List α}
theorem Lst.frm (hP : Lay.Ok P) {S : Nat → Prop} (h : Lst P W lo hi A xs) (hx : Frm S W W') (hS : ∀ k, lo ≤ k → k < hi → ¬ S k) : Lst P W' lo hi A xs := by
  obtain ⟨rows, h1, h2⟩ := h
  exact ⟨rows, h1.frm hx hS, fun i r x hr hx' => hP.frm (h2 i r x hr hx') hx hS⟩
theorem Lst.ext (hP : Lay.Ok P) (h : Lst P W lo hi A xs) (hx : Ext W W') : Lst P W' lo hi A xs := h.frm hP hx (fun _ _ _ h => h)
theorem Lst.more (hP : Lay.Ok P) {lo' hi' : Nat} (h : Lst P W lo hi A xs) (h1 : lo' ≤ lo) (h2 : hi ≤ hi') : Lst P W lo' hi' A xs := by
  obtain ⟨rows, h3, h4⟩ := h
  exact ⟨rows, h3.more h1 h2, fun i r x hr hx' => hP.more (h4 i r x hr hx') h1 h2⟩
theorem LstP.ok (hP : Lay.Ok P) : Lay.Ok (LstP P) := by
  refine ⟨fun h hx hS => ?_, fun h h1 h2 => ?_⟩
  · obtain ⟨A, c, e, h⟩ := h
    exact ⟨A, c, e, h.frm hP hx hS⟩
  · obtain ⟨A, c, e, h⟩ := h
    exact ⟨A, c, e, h.more hP h1 h2⟩
theorem Lst.len (h : Lst P W lo hi A xs) : xs.length ≤ 9223372036854775807 := by
  obtain ⟨rows, h1, _⟩ := h
  exact h1.len
theorem Lst.get {k : Nat} (h : Lst P W lo hi A xs) (hk : k < xs.length) : ∃ b o r x, A = some ⟨b, o, none⟩ ∧ lo ≤ b ∧ b < hi ∧ Hid (xs[k]? = some x) ∧ W.cell? ⟨b, o + k, none⟩ = some r ∧ P W lo hi r x := by
  obtain ⟨rows, h1, h2⟩ := h
  have hl := h1.length
  rw [Nat.mul_one] at hl
  obtain ⟨ad, e, h3, h4, h5⟩ := h1.at_ hk
  have hr0 : rows[0]? = some (rows[0]'(by omega)) := List.getElem?_eq_getElem _
  have hrk : rows[k]? = some (rows[k]'(by omega)) := List.getElem?_eq_getElem _
  have hs := addr_spot (h5 0 _ hr0)
  have hc := h5 k _ hrk
  rw [hs, addr_lit] at hc
  exact ⟨ad.block, ad.off, _, _, by rw [e, ← hs], h3, h4, List.getElem?_eq_getElem hk, hc, h2 k _ _ hrk (List.getElem?_eq_getElem hk)⟩
theorem Lst.get2 {k b o : Nat} {x : α} (h : Lst P W lo hi (some ⟨b, o, none⟩) xs) (hx : xs[k]? = some x) : ∃ r, W.cell? ⟨b, o + k, none⟩ = some r ∧ P W lo hi r x := by
  obtain ⟨b', o', r, y, e, _, _, hy, hc, hp⟩ := h.get (List.getElem?_eq_some_iff.1 hx).1
  injection e with e
  injection e with e1 e2
  subst e1; subst e2
  rw [hx] at hy
  have := Option.some.inj hy.out
  subst this
  exact ⟨r, hc, hp⟩
theorem Lst.nil : Lst P W lo hi A [] := ⟨[], Reads.nil, fun i r x hr => by simp at hr⟩
end
/-- Numbers as they were called before. -/
theorem Lst.of_nats {W : World} {lo hi : Nat} {A : Option Addr} {xs : List Nat} (h : Reads W lo hi 1 A xs.length (nats xs)) : Lst NatP W lo hi A xs := ⟨nats xs, h, fun i r x hr hx => by
  simp only [nats, List.getElem?_map, hx, Option.map_some] at hr
  exact (Option.some.inj hr).symm⟩
theorem Lst.own_nats {W : World} {base c : Nat} {A : Option Addr} {xs : List Nat} (h : W.ownsRow base 3 1 (.slice A xs.length c) xs.length (nats xs)) : Lst NatP W base W.heap.size A xs := Lst.of_nats (Reads.of_own h)
theorem Lst.num {W : World} {lo hi k : Nat} {A : Option Addr} {xs : List Nat} (h : Lst NatP W lo hi A xs) (hk : k < xs.length) : ∃ b o x, A = some ⟨b, o, none⟩ ∧ lo ≤ b ∧ b < hi ∧ Hid (xs[k]? = some x) ∧ W.cell? ⟨b, o + k, none⟩ = some (.int .i64 (x : Nat)) := by
  obtain ⟨b, o, r, x, e, h1, h2, h3, h4, h5⟩ := h.get hk
  exact ⟨b, o, x, e, h1, h2, h3, by rw [h4, h5]⟩
theorem Lst.num2 {W : World} {lo hi k b o x : Nat} {xs : List Nat} (h : Lst NatP W lo hi (some ⟨b, o, none⟩) xs) (hx : xs[k]? = some x) : W.cell? ⟨b, o + k, none⟩ = some (.int .i64 (x : Nat)) := by
  obtain ⟨r, h1, h2⟩ := h.get2 hx
  rw [h1, h2]
/-- A slice of one-cell values that grows in new memory: what its values stand for lies in other blocks than its own. -/
def Grl {α : Type} (P : Lay α) (W : World) (base : Nat) (e : TypeId) (v : Value) (xs : List α) : Prop :=
  ∃ rows : List Value, W.ownsRow base e 1 v xs.length rows ∧ ∀ (i : Nat) (r : Value) (x : α), rows[i]? = some r → xs[i]? = some x → ∃ lo hi, base ≤ lo ∧ hi ≤ W.heap.size ∧ P W lo hi r x ∧ ∀ b, v.ownBlock = some b → b < lo ∨ hi ≤ b
section
variable {α : Type} {P : Lay α} {W W' : World} {base : Nat} {e : TypeId} {v : Value} {xs : List α}
theorem Grl.nil (W : World) (base : Nat) (e : TypeId) : Grl P W base e (.slice none 0 0) [] := ⟨[], World.ownsRow_nil _ _ _ _, fun i r x hr => by simp at hr⟩
theorem Grl.form (h : Grl P W base e v xs) : ∃ A c, v = .slice A xs.length c := by
  obtain ⟨rows, h1, _⟩ := h
  exact own_form h1
theorem Grl.frm (hP : Lay.Ok P) {S : Nat → Prop} (h : Grl P W base e v xs) (hx : Frm S W W') (hS : ∀ b, base ≤ b → b < W.heap.size → ¬ S b) : Grl P W' base e v xs := by
  obtain ⟨rows, h1, h2⟩ := h
  refine ⟨rows, own_frm h1 hx (fun b hb => hS b (h1.lt b hb).1 (h1.lt b hb).2), fun i r x hr hx' => ?_⟩
  obtain ⟨lo, hi, h3, h4, h5, h6⟩ := h2 i r x hr hx'
  exact ⟨lo, hi, h3, Nat.le_trans h4 hx.size, hP.frm h5 hx (fun k hk1 hk2 => hS k (by omega) (by omega)), h6⟩
theorem Grl.ext (hP : Lay.Ok P) (h : Grl P W base e v xs) (hx : Ext W W') : Grl P W' base e v xs := h.frm hP hx (fun _ _ _ h => h)
theorem Grl.lst (hP : Lay.Ok P) {A : Option Addr} {n c : Nat} (h : Grl P W base e (.slice A n c) xs) : Lst P W base W.heap.size A xs := by
  obtain ⟨rows, h1, h2⟩ := h
  have hn : n = xs.length := by
    obtain ⟨A', c', hh⟩ := own_form h1
    injection hh
  subst hn
  refine ⟨rows, Reads.of_own h1, fun i r x hr hx => ?_⟩
  obtain ⟨lo, hi, h3, h4, h5, _⟩ := h2 i r x hr hx
  exact hP.more h5 h3 h4
theorem Grl.lstP (hP : Lay.Ok P) (h : Grl P W base e v xs) : LstP P W base W.heap.size v xs := by
  obtain ⟨A, c, rfl⟩ := h.form
  exact ⟨A, c, rfl, h.lst hP⟩
/-- One value more; it was made since. -/
theorem Grl.push (hP : Lay.Ok P) {W1 : World} {rows : List Value} {v' r : Value} {x : α} {lo hi : Nat} (h2 : ∀ (i : Nat) (r : Value) (x : α), rows[i]? = some r → xs[i]? = some x → ∃ lo hi, base ≤ lo ∧ hi ≤ W.heap.size ∧ P W lo hi r x ∧ ∀ b, v.ownBlock = some b → b < lo ∨ hi ≤ b) (h1 : W.ownsRow base e 1 v xs.length rows)
    (hx : Ext W W1) (hr : P W1 lo hi r x) (hlo : W.heap.size ≤ lo) (hb : base ≤ lo) (hhi : hi ≤ W1.heap.size) (hown : W'.ownsRow base e 1 v' (xs.length + 1) (rows ++ [r])) (hg : W1.grownBy W' v.ownBlock) (hat : v'.ownBlock = v.ownBlock ∨ v'.ownBlock = some (W1.heap.size + 1)) : Grl P W' base e v' (xs ++ [x]) := by
  have hlen : rows.length = xs.length := by have := own_len h1; omega
  have hfr : Frm (fun k => v.ownBlock = some k) W1 W' := Frm.of_grown hg
  refine ⟨rows ++ [r], by rw [List.length_append, List.length_singleton]; exact hown, fun i s y hs hy => ?_⟩
  rcases Nat.lt_trichotomy i rows.length with hi' | hi' | hi'
  · rw [List.getElem?_append_left hi'] at hs
    rw [List.getElem?_append_left (by omega)] at hy
    obtain ⟨lo', hi'', h3, h4, h5, h6⟩ := h2 i s y hs hy
    refine ⟨lo', hi'', h3, Nat.le_trans h4 (Nat.le_trans hx.size hfr.size), hP.frm (hP.frm h5 hx (fun _ _ _ h => h)) hfr (fun k hk1 hk2 hk => by have := h6 k hk; omega), fun b hb' => ?_⟩
    rcases hat with h7 | h7
    · rw [h7] at hb'; exact h6 b hb'
    · rw [h7] at hb'
      have := Option.some.inj hb'
      have := hx.size
      omega
  · rw [List.getElem?_append_right (by omega), hi', Nat.sub_self] at hs
    rw [List.getElem?_append_right (by omega), hi', hlen, Nat.sub_self] at hy
    simp at hs hy
    subst hs; subst hy
    refine ⟨lo, hi, hb, Nat.le_trans hhi hfr.size, hP.frm hr hfr (fun k hk1 hk2 hk => by have := (h1.lt k hk).2; omega), fun b hb' => ?_⟩
    rcases hat with h7 | h7
    · rw [h7] at hb'
      have := (h1.lt b hb').2
      omega
    · rw [h7] at hb'
      have := Option.some.inj hb'
      omega
  · rw [List.getElem?_eq_none (by simp; omega)] at hs; cases hs
theorem Grl.push2 (hP : Lay.Ok P) {W1 : World} {rows : List Value} {r : Value} {x : α} {lo hi g cap : Nat} (h2 : ∀ (i : Nat) (r : Value) (x : α), rows[i]? = some r → xs[i]? = some x → ∃ lo hi, base ≤ lo ∧ hi ≤ W.heap.size ∧ P W lo hi r x ∧ ∀ b, v.ownBlock = some b → b < lo ∨ hi ≤ b) (h1 : W.ownsRow base e 1 v xs.length rows)
    (hx : Ext W W1) (hr : P W1 lo hi r x) (hlo : W.heap.size ≤ lo) (hb : base ≤ lo) (hhi : hi ≤ W1.heap.size) (hown : W'.ownsRow base e 1 (.slice (some ⟨g, 0, none⟩) (xs.length + 1) cap) (xs.length + 1) (rows ++ [r])) (hg : W1.grownBy W' v.ownBlock) (hat : v.ownBlock = some g ∨ g = W1.heap.size + 1) : Grl P W' base e (.slice (some ⟨g, 0, none⟩) (xs.length + 1) cap) (xs ++ [x]) :=
  Grl.push hP h2 h1 hx hr hlo hb hhi hown hg (by
    rcases hat with h | h
    · exact Or.inl h.symm
    · exact Or.inr (by rw [h]; rfl))
theorem Grl.len (h : Grl P W base e v xs) {A : Option Addr} {n c : Nat} (hv : v = .slice A n c) : n = xs.length := by
  obtain ⟨A', c', hh⟩ := h.form
  rw [hv] at hh
  injection hh
end
end Go.Proofs.YtplllipekeomiaaGreatDoor

namespace Go.Proofs.YtplllipekeomiaaGreatDoor
open Go Go.RowKit

section
variable {P : Program} {ops : Array Oper} {Q : Exit → Act → World → Prop} {md : Region.Mode} {S : Array Bool → World → Prop}

/-- Whatever order is picked; behind every operation the condition of what has come up holds. -/
def wpAnyL (P : Program) (md : Region.Mode) (ops : Array Oper) (Q : Exit → Act → World → Prop) (S : Array Bool → World → Prop) : Nat → Array Bool → Act → World → Prop
  | 0, listed, a, w => Region.ready md ops listed = [] ∧ Q .normal a w
  | fuel + 1, listed, a, w =>
    (Region.ready md ops listed = [] → Q .normal a w) ∧
    ∀ i ∈ Region.ready md ops listed, wpOp P ops Q i (fun a' w' => S (listed.setIfInBounds i true) w' ∧ wpAnyL P md ops Q S fuel (listed.setIfInBounds i true) a' w') a w
theorem wpAny_of_L : ∀ (fuel : Nat) (listed : Array Bool) (a : Act) (w : World), wpAnyL P md ops Q S fuel listed a w → wpAny P md ops Q fuel listed a w
  | 0, _, _, _, h => h
  | fuel + 1, _, _, _, h => ⟨h.1, fun i hi => wpOp_mono (fun a' w' h' => wpAny_of_L fuel _ a' w' h'.2) (h.2 i hi)⟩
theorem wpAnyL_first {i : Nat} {oi : Oper} {v : Value} {Si : World → Prop} {G : Array Bool → Prop} (hi : ops[i]? = some oi) (hsel : ∀ (j : Nat) (o : Oper) cs b, ops[j]? = some o → o.op ≠ .select cs b)
    (hQ : ∀ c a w, Q (.panic c) (a.put oi.dst v) w → Q (.panic c) a w)
    (hG : ∀ listed j, j ∈ Region.ready md ops listed → G listed → G (listed.setIfInBounds j true))
    (hSi : ∀ listed w, G listed → listed.getD i true = false → S listed w → Si w)
    (hup : ∀ listed w, S listed w → S (listed.setIfInBounds i true) w) (hdn : ∀ listed w, listed.getD i true = false → S (listed.setIfInBounds i true) w → S listed w) :
    ∀ (fuel : Nat) (listed : Array Bool) (a : Act) (w : World), G listed →
      (∀ j oj, ops[j]? = some oj → j ≠ i → listed.getD j true = false → (∀ e ∈ oj.after, Region.binds md e = true → e.on ≠ i) → oi.apart ops oj = true) →
      i ∈ Region.ready md ops listed → YieldsIf P ops Si oi v a → S listed w →
      wpAnyL P md ops Q S fuel (listed.setIfInBounds i true) (a.put oi.dst v) w → wpAnyL P md ops Q S (fuel + 1) listed a w := by
  intro fuel
  induction fuel with
  | zero =>
    intro listed a w hg _ hr hy hS H
    refine ⟨fun h => (by rw [h] at hr; cases hr), fun j hj => ?_⟩
    by_cases hji : j = i
    · subst hji; exact hy.wpOp hi (hSi _ _ hg (mem_ready.1 hr).1 hS) ⟨hup _ _ hS, H⟩
    · have := ready_mono hj hji
      rw [H.1] at this
      cases this
  | succ fuel ih =>
    intro listed a w hg hfree hr hy hS H
    refine ⟨fun h => (by rw [h] at hr; cases hr), fun j hj => ?_⟩
    by_cases hji : j = i
    · subst hji; exact hy.wpOp hi (hSi _ _ hg (mem_ready.1 hr).1 hS) ⟨hup _ _ hS, H⟩
    · have h1 := H.2 j (ready_mono hj hji)
      obtain ⟨hjun, oj, hoj, hall⟩ := mem_ready.1 hj
      have hnot : ∀ e ∈ oj.after, Region.binds md e = true → e.on ≠ i := fun e he hb heq => by
        have h1 := hall e he hb
        have h0 := (mem_ready.1 hr).1
        rw [heq] at h1
        rcases Nat.lt_or_ge i listed.size with h' | h'
        · simp [h'] at h0 h1; rw [h0] at h1; cases h1
        · simp [Array.getElem?_eq_none h'] at h1
      have h2 := wpOp_putIf hoj (hfree j oj hoj hji hjun hnot) (fun cs b => hsel i oi cs b hi) (fun cs b => hsel j oj cs b hoj) hQ hy h1
      have hfree' : ∀ k ok, ops[k]? = some ok → k ≠ i → (listed.setIfInBounds j true).getD k true = false →
          (∀ e ∈ ok.after, Region.binds md e = true → e.on ≠ i) → oi.apart ops ok = true := fun k ok hk hki hun hno => by
        refine hfree k ok hk hki ?_ hno
        by_cases hjk : j = k
        · subst hjk; exact hjun
        · rw [getD_set_ne true hjk] at hun; exact hun
      have hiun : (listed.setIfInBounds j true).getD i true = false := by
        rw [getD_set_ne true hji]; exact (mem_ready.1 hr).1
      refine wpOp_mono (fun a' w' h3 => ?_) h2
      have h4 : S (listed.setIfInBounds j true) w' := hdn _ _ hiun (by rw [Array.setIfInBounds_comm _ _ hji]; exact h3.2.1)
      refine ⟨h4, ih (listed.setIfInBounds j true) a' w' (hG _ _ hj hg) hfree' (ready_mono hr (Ne.symm hji)) h3.1 h4 ?_⟩
      rw [Array.setIfInBounds_comm _ _ hji]
      exact h3.2.2
end

/-- What has come up is shut downward. -/
def Clo (l : List Oper) (listed : Array Bool) : Prop := ∀ j, listed.getD j false = true → ∀ o, l[j]? = some o → ∀ e ∈ o.after, Region.binds .any e = true → listed.getD e.on false = true
/-- Number i comes ahead of t, by the region's edges. -/
def below (l : List Oper) : Nat → Nat → Nat → Bool
  | 0, _, _ => false
  | f + 1, t, i => match l[t]? with
    | some o => o.after.any fun e => Region.binds .any e && (e.on == i || below l f e.on i)
    | none => false
theorem below_spec {l : List Oper} {listed : Array Bool} (hc : Clo l listed) : ∀ (f t i : Nat), below l f t i = true → listed.getD t false = true → listed.getD i false = true
  | 0, _, _, h, _ => by simp [below] at h
  | f + 1, t, i, h, ht => by
    unfold below at h
    cases ho : l[t]? with
    | none => simp [ho] at h
    | some o =>
      simp only [ho] at h
      obtain ⟨e, he, hb⟩ := Array.any_eq_true'.1 h
      simp only [Bool.and_eq_true, Bool.or_eq_true, beq_iff_eq] at hb
      have h1 := hc t ht o ho e he hb.1
      rcases hb.2 with h2 | h2
      · rw [← h2]; exact h1
      · exact below_spec hc f e.on i h2 h1
theorem clo_step {l : List Oper} {listed : Array Bool} {j : Nat} (hj : j ∈ Region.ready .any l.toArray listed) (h : Clo l listed) : Clo l (listed.setIfInBounds j true) := by
  intro k hk o ho e he hb
  by_cases hkj : j = k
  · subst hkj
    obtain ⟨_, o', ho', hall⟩ := mem_ready.1 hj
    have : o' = o := by
      have h1 : l[j]? = some o' := by simpa using ho'
      rw [ho] at h1
      exact (Option.some.inj h1).symm
    subst this
    exact getD_set_true (hall e he hb)
  · rw [getD_set_ne false hkj] at hk
    exact getD_set_true (h k hk o ho e he hb)

/-- Operations whose value hangs on no memory. -/
def pureOp : Op → Bool
  | .move _ | .assign _ | .pick _ _ _ | .binOp _ _ _ _ _ | .unOp _ _ _ | .fieldAddr _ _ _ | .field _ _ _ | .extract _ _ | .build _ _ => true
  | _ => false

/-- An order of a region's operations; where two may come up, both. -/
inductive Ord where
  | nil : Ord
  | one : Nat → Ord → Ord
  | two : Nat → Ord → Nat → Ord → Ord
/-- One order. -/
def Ord.of : List Nat → Ord
  | [] => .nil
  | i :: r => .one i (Ord.of r)
/-- Ahead of another order. -/
def Ord.app : List Nat → Ord → Ord
  | [], o => o
  | i :: r, o => .one i (Ord.app r o)
/-- The order serves: as okOrd, with the operations of the tail T, each behind all that reads memory. -/
def okOrdT (l : List Oper) (T : List Nat) : Ord → Array Bool → Bool
  | .nil, listed => (Region.ready .any l.toArray listed).isEmpty
  | .one i rest, listed =>
    (match l[i]? with
      | some o => if quietOp o.op then Region.free .any l.toArray listed i && (Region.ready .any l.toArray listed).contains i && !T.contains i && (pureOp o.op || T.all fun t => below l l.length t i)
        else Region.ready .any l.toArray listed == [i]
      | none => false) && okOrdT l T rest (listed.setIfInBounds i true)
  | .two i r j r', listed => (i < l.length && j < l.length && Region.ready .any l.toArray listed == [i, j]) && (okOrdT l T r (listed.setIfInBounds i true) && okOrdT l T r' (listed.setIfInBounds j true))

def wpSeqT (P : Program) (l : List Oper) (T : List Nat) (Q : Exit → Act → World → Prop) (S : World → Prop) : Ord → Act → World → Prop
  | .nil, a, w => Q .normal a w
  | .one i rest, a, w => match l[i]? with
    | some o => if quietOp o.op then ∃ v, YieldsIf P l.toArray (if pureOp o.op then fun _ => True else S) o v a ∧ wpSeqT P l T Q S rest (a.put o.dst v) w
      else wpOp P l.toArray Q i (fun a' w' => (T.contains i = false → S w') ∧ wpSeqT P l T Q S rest a' w') a w
    | none => False
  | .two i r j r', a, w => wpOp P l.toArray Q i (fun a' w' => (T.contains i = false → S w') ∧ wpSeqT P l T Q S r a' w') a w ∧ wpOp P l.toArray Q j (fun a' w' => (T.contains j = false → S w') ∧ wpSeqT P l T Q S r' a' w') a w
/-- How many operations an order has. -/
def Ord.len : Ord → Nat
  | .nil => 0
  | .one _ r => r.len + 1
  | .two _ r _ r' => (if r.len = r'.len then r.len else 0) + 1
/-- Both ways are of one length. -/
def Ord.even : Ord → Bool
  | .nil => true
  | .one _ r => r.even
  | .two _ r _ r' => r.len == r'.len && (r.even && r'.even)

section
variable {P : Program} {l : List Oper} {Q : Exit → Act → World → Prop} {S : World → Prop} {T : List Nat}

def tailed (T : List Nat) (listed : Array Bool) : Prop := ∃ t ∈ T, listed.getD t false = true
theorem seqT_sound (hs : Region.noSelect l.toArray = true) (hQ : ∀ (c : List PanicEntry) (a : Act) (d : Tmp) (v : Value) (w : World), Q (.panic c) (a.put (some d) v) w → Q (.panic c) a w) :
    ∀ (ord : Ord) (listed : Array Bool) (a : Act) (w : World), listed.size = l.length → Clo l listed → ord.even = true → okOrdT l T ord listed = true → (tailed T listed ∨ S w) → wpSeqT P l T Q S ord a w →
      wpAnyL P .any l.toArray Q (fun listed w => tailed T listed ∨ S w) ord.len listed a w
  | .nil, listed, a, w, _, _, _, hok, _, h => by
    simp only [okOrdT, List.isEmpty_iff] at hok
    exact ⟨hok, h⟩
  | .one i rest, listed, a, w, hsz, hc, hev, hok, hS, h => by
    cases ho : l[i]? with
    | none => simp [okOrdT, ho] at hok
    | some o =>
      have hil : i < l.length := (List.getElem?_eq_some_iff.1 ho).1
      simp only [okOrdT, ho, Bool.and_eq_true] at hok
      simp only [wpSeqT, ho] at h
      by_cases hq : quietOp o.op = true
      · rw [if_pos hq] at hok h
        simp only [Bool.and_eq_true] at hok
        obtain ⟨⟨⟨⟨hf, hrd⟩, hnT⟩, hpure⟩, hrest⟩ := hok
        obtain ⟨v, hy, hr⟩ := h
        have hmem : i ∈ Region.ready .any l.toArray listed := by simpa using hrd
        have hnT' : i ∉ T := by simpa using hnT
        have hset : ∀ listed : Array Bool, tailed T (listed.setIfInBounds i true) ↔ tailed T listed := fun listed => by
          constructor
          · rintro ⟨t, ht, hl⟩
            refine ⟨t, ht, ?_⟩
            rwa [getD_set_ne false (by rintro rfl; exact hnT' ht)] at hl
          · rintro ⟨t, ht, hl⟩
            exact ⟨t, ht, getD_set_true hl⟩
        refine wpAnyL_first (G := fun listed => Clo l listed ∧ listed.size = l.length) (by simpa using ho) (Region.noSelect_spec hs)
          (fun c a w h => by cases hd : o.dst with | none => rw [hd] at h; exact h | some d => rw [hd] at h; exact hQ c a d v w h)
          (fun li j hj hg => ⟨clo_step hj hg.1, by simpa using hg.2⟩) ?_ (fun li w h => h.imp (fun x => (hset li).2 x) id) (fun li w _ h => h.imp (fun x => (hset li).1 x) id)
          rest.len listed a w ⟨hc, hsz⟩ (Region.free_spec (by simpa using ho) hf) hmem hy hS ?_
        · intro li w' hg hun h
          by_cases hp : pureOp o.op = true
          · rw [if_pos hp]; trivial
          · rw [if_neg hp]
            rcases h with ⟨t, ht, hl⟩ | h
            · exfalso
              simp only [hp, Bool.false_or] at hpure
              have hb := List.all_eq_true.1 hpure t ht
              have h1 := below_spec hg.1 _ _ _ hb hl
              have h2 : i < li.size := by rw [hg.2]; exact hil
              simp [h2] at hun h1
              rw [h1] at hun; cases hun
            · exact h
        · exact seqT_sound hs hQ rest _ _ _ (by simpa using hsz) (clo_step hmem hc) hev hrest (hS.imp (fun x => (hset _).2 x) id) hr
      · rw [if_neg hq] at hok h
        have hready : Region.ready .any l.toArray listed = [i] := by simpa using hok.1
        have hmem : i ∈ Region.ready .any l.toArray listed := by rw [hready]; simp
        refine ⟨fun h0 => (by rw [h0] at hready; cases hready), fun j hj => ?_⟩
        rw [hready] at hj
        rw [List.mem_singleton.1 hj]
        refine wpOp_mono (fun a' w' h => ?_) h
        have hS' : tailed T (listed.setIfInBounds i true) ∨ S w' := by
          cases hT : T.contains i
          · exact Or.inr (h.1 hT)
          · refine Or.inl ⟨i, by simpa using hT, ?_⟩
            have : i < listed.size := by omega
            simp [this]
        exact ⟨hS', seqT_sound hs hQ rest _ _ _ (by simpa using hsz) (clo_step hmem hc) hev hok.2 hS' h.2⟩
  | .two i r j r', listed, a, w, hsz, hc, hev, hok, hS, h => by
    simp only [Ord.even, Bool.and_eq_true, beq_iff_eq] at hev
    simp only [okOrdT, Bool.and_eq_true, decide_eq_true_eq, beq_iff_eq] at hok
    simp only [wpSeqT] at h
    obtain ⟨⟨⟨hi, hj⟩, hready⟩, hok1, hok2⟩ := hok
    have hlen : (Ord.two i r j r').len = r.len + 1 := by simp [Ord.len, hev.1]
    rw [hlen]
    have hm : ∀ k, k ∈ Region.ready .any l.toArray listed ↔ k = i ∨ k = j := fun k => by rw [hready]; simp
    have hS' : ∀ k w', k < l.length → (T.contains k = false → S w') → tailed T (listed.setIfInBounds k true) ∨ S w' := fun k w' hk hx => by
      cases hT : T.contains k
      · exact Or.inr (hx hT)
      · refine Or.inl ⟨k, by simpa using hT, ?_⟩
        have : k < listed.size := by omega
        simp [this]
    refine ⟨fun h0 => (by rw [h0] at hready; cases hready), fun k hk => ?_⟩
    rcases (hm k).1 hk with hk' | hk'
    · rw [hk'] at hk ⊢
      refine wpOp_mono (fun a' w' h => ?_) h.1
      exact ⟨hS' _ _ hi h.1, seqT_sound hs hQ r _ _ _ (by simpa using hsz) (clo_step hk hc) hev.2.1 hok1 (hS' _ _ hi h.1) h.2⟩
    · rw [hk'] at hk ⊢
      refine wpOp_mono (fun a' w' h => ?_) h.2
      have := seqT_sound hs hQ r' _ _ _ (by simpa using hsz) (clo_step hk hc) hev.2.2 hok2 (hS' _ _ hj h.1) h.2
      rw [← hev.1] at this
      exact ⟨hS' _ _ hj h.1, this⟩

theorem clo_start (l : List Oper) : Clo l (Array.replicate l.length false) := by
  intro j hj
  exfalso
  rcases Nat.lt_or_ge j l.length with h | h
  · simp [h] at hj
  · simp [Nat.not_lt.2 h] at hj

/-- The region, walked in one order: what reads under S first, then the tail. -/
theorem wp_region_tail {id : Nat} {a : Act} {w : World} (S : World → Prop) (T : List Nat) (ord : Ord) (hm : P.follows .mixedOrders = true) (hlen : ord.len = l.length) (hev : ord.even = true) (hs : Region.noSelect l.toArray = true) (hok : okOrdT l T ord (Array.replicate l.length false) = true)
    (hQ : ∀ (c : List PanicEntry) (a : Act) (d : Tmp) (v : Value) (w : World), Q (.panic c) (a.put (some d) v) w → Q (.panic c) a w) (hS : S w.drew) (h : wpSeqT P l T Q S ord a w.drew) : (Code.region id l.toArray true).wp P Q a w := by
  refine wp_region_any hm ?_
  have := wpAny_of_L _ _ _ _ (seqT_sound hs hQ ord _ a w.drew (by simp) (clo_start l) hev hok (Or.inr hS) h)
  rw [hlen] at this
  simpa using this

theorem tseq_nil {a : Act} {w : World} (h : Q .normal a w) : wpSeqT P l T Q S .nil a w := h
/-- A step that needs no memory. -/
theorem tseq_pure {i : Nat} {rest : Ord} {o : Oper} {v : Value} {a : Act} {w : World} (ho : l[i]? = some o) (hq : quietOp o.op = true) (_hp : pureOp o.op = true) (hw : Region.wanted o (yielded l.toArray a.tmps) = true)
    (hy : ∀ W, (execOp a.eval o).run P W = .ok (.value v) W) (h : wpSeqT P l T Q S rest (a.put o.dst v) w) : wpSeqT P l T Q S (.one i rest) a w := by
  simp only [wpSeqT, ho, hq, if_true]
  exact ⟨v, .inl ⟨hw, fun W _ => hy W⟩, h⟩
/-- A step that reads. -/
theorem tseq_read {i : Nat} {rest : Ord} {o : Oper} {v : Value} {a : Act} {w : World} (ho : l[i]? = some o) (hq : quietOp o.op = true) (hp : pureOp o.op = false) (hw : Region.wanted o (yielded l.toArray a.tmps) = true)
    (hy : ∀ W, S W → (execOp a.eval o).run P W = .ok (.value v) W) (h : wpSeqT P l T Q S rest (a.put o.dst v) w) : wpSeqT P l T Q S (.one i rest) a w := by
  simp only [wpSeqT, ho, hq, hp, if_true]
  exact ⟨v, .inl ⟨hw, hy⟩, h⟩
/-- A step whose guard is off. -/
theorem tseq_skip {i : Nat} {rest : Ord} {o : Oper} {a : Act} {w : World} (ho : l[i]? = some o) (hw : Region.wanted o (yielded l.toArray a.tmps) = false)
    (hS : S w) (h : wpSeqT P l T Q S rest (a.put o.dst undef) w) : wpSeqT P l T Q S (.one i rest) a w := by
  simp only [wpSeqT, ho]
  split
  · exact ⟨undef, .inr ⟨hw, rfl⟩, h⟩
  · unfold wpOp
    simp only [List.getElem?_toArray, ho, hw, Bool.false_eq_true, if_false]
    exact ⟨fun _ => hS, h⟩
/-- A step that makes memory, or calls, ahead of the tail. -/
theorem tseq_step {i : Nat} {rest : Ord} {o : Oper} {a : Act} {w : World} (ho : l[i]? = some o) (hq : quietOp o.op = false) (hw : Region.wanted o (yielded l.toArray a.tmps) = true)
    (h : ∀ K : Act → World → Prop, Shut (∀ a w, S w → wpSeqT P l T Q S rest a w → K a w) → o.wp P a w K Q) : wpSeqT P l T Q S (.one i rest) a w := by
  simp only [wpSeqT, ho, hq]
  unfold wpOp
  simp only [List.getElem?_toArray, ho, hw, if_true]
  exact .inl (h _ fun a w hS hW => ⟨fun _ => hS, hW⟩)
/-- A step of the tail. -/
theorem tseq_last {i : Nat} {rest : Ord} {o : Oper} {a : Act} {w : World} (ho : l[i]? = some o) (hq : quietOp o.op = false) (hT : T.contains i = true) (hw : Region.wanted o (yielded l.toArray a.tmps) = true)
    (h : ∀ K : Act → World → Prop, Shut (∀ a w, wpSeqT P l T Q S rest a w → K a w) → o.wp P a w K Q) : wpSeqT P l T Q S (.one i rest) a w := by
  simp only [wpSeqT, ho, hq]
  unfold wpOp
  simp only [List.getElem?_toArray, ho, hw, if_true]
  exact .inl (h _ fun a w hW => ⟨fun hn => absurd (hn.symm.trans hT) (by decide), hW⟩)
end

section
variable {P : Program} {l : List Oper} {Q : Exit → Act → World → Prop} {S : World → Prop} {T : List Nat}
/-- Two that may come up, neither of the tail. -/
theorem tseq_both {i j : Nat} {r r' : Ord} {o o' : Oper} {a : Act} {w : World} (ho : l[i]? = some o) (ho' : l[j]? = some o') (hw : Region.wanted o (yielded l.toArray a.tmps) = true) (hw' : Region.wanted o' (yielded l.toArray a.tmps) = true)
    (h1 : ∀ K : Act → World → Prop, Shut (∀ a w, S w → wpSeqT P l T Q S r a w → K a w) → o.wp P a w K Q) (h2 : ∀ K : Act → World → Prop, Shut (∀ a w, S w → wpSeqT P l T Q S r' a w → K a w) → o'.wp P a w K Q) : wpSeqT P l T Q S (.two i r j r') a w := by
  constructor
  · unfold wpOp
    simp only [List.getElem?_toArray, ho, hw, if_true]
    exact .inl (h1 _ fun a w hS hW => ⟨fun _ => hS, hW⟩)
  · unfold wpOp
    simp only [List.getElem?_toArray, ho', hw', if_true]
    exact .inl (h2 _ fun a w hS hW => ⟨fun _ => hS, hW⟩)
end
/-- 'append(s, x)' of one element, in a region that draws. -/
theorem wp_push {P : Program} (wb w : World) {o : Oper} {a : Act} {K : Act → World → Prop} {Q : Exit → Act → World → Prop} (s x : Operand) (t : TypeId)
    (ho : o.op = .call { callee := .builtin .append, args := #[s, x], argTypes := #[t, t] })
    (e : TypeId) (z : Value) (size bytes : Nat) (ht : P.underlying t = some (.slice e)) (hi : (P.info? e).map (fun i => (i.zero, i.size, i.bytes)) = some (some z, size, bytes)) (hzs : z.cells.size = size) (hsz : 0 < size)
    (v : Value) (n : Nat) (xs : List Value) (us : Array Value) (e' : TypeId) (hs : a.eval s = v) (hx : a.eval x = .slice (some ⟨w.heap.size, 0, none⟩) 1 1)
    (hext : wb.heap.size ≤ w.heap.size) (hown : w.ownsRow wb.heap.size e size v n xs) (hus : us.size = size) (h1 : ∀ u ∈ us.toList, u.oneCell' = true)
    (h63 : n + 1 ≤ maxLen) (hbytes : (n + 1) * bytes ≤ 140737488355328)
    (h : ∀ g cap w', w'.ownsRow wb.heap.size e size (.slice (some ⟨g, 0, none⟩) (n + 1) cap) (n + 1) (xs ++ us.toList) → w.grownBy w' v.ownBlock → (v.ownBlock = some g ∨ g = w.heap.size + 1) → g < w'.heap.size → K (a.put o.dst (.slice (some ⟨g, 0, none⟩) (n + 1) cap)) w') :
    o.wp P a (w.alloc (.cells us e')) K Q := by
  obtain ⟨i, hi0, hz0, hz1, hz2⟩ := info_parts hi
  refine wp_append_lies (w.alloc (.cells us e')) s x t ho wb.heap.size e i z size bytes ht hi0 hz0 hz1 hz2 hzs hsz v n xs hs (hown.alloc _) ⟨w.heap.size, 0, none⟩ 1 1 us.toList hx (by simpa using hus) ?_ h1 (by omega) h63 hbytes (by simp; omega) (w.heap.size + 1) (by simp) ?_
  · intro j u hu
    rw [addr_lit, Nat.zero_add, (Blk.new w e' us).cell]
    simpa using hu
  · intro g cap w' hown' hg hat hlt
    have hg' : w.grownBy w' v.ownBlock := ⟨hg.os, hg.tape, hg.output, Nat.le_trans (by simp) hg.size, fun k hk hne => (hg.block k (by simp; omega) hne).trans (Below.heap_alloc w _ k hk)⟩
    exact h g cap w' hown' hg' hat hlt
/-- 'append(s, x)' of one element, in a region that keeps its order. -/
theorem wpList_push3 {P : Program} (wb w : World) {ops : Array Oper} {rest : List Oper} {o : Oper} {a : Act} {Q : Exit → Act → World → Prop} (hgd : o.guard = none) (s x : Operand) (t : TypeId)
    (ho : o.op = .call { callee := .builtin .append, args := #[s, x], argTypes := #[t, t] })
    (e : TypeId) (z : Value) (size bytes : Nat) (ht : P.underlying t = some (.slice e)) (hi : (P.info? e).map (fun i => (i.zero, i.size, i.bytes)) = some (some z, size, bytes)) (hzs : z.cells.size = size) (hsz : 0 < size)
    (v : Value) (n : Nat) (xs : List Value) (us : Array Value) (e' : TypeId) (hs : a.eval s = v) (hx : a.eval x = .slice (some ⟨w.heap.size, 0, none⟩) 1 1)
    (hext : wb.heap.size ≤ w.heap.size) (hown : w.ownsRow wb.heap.size e size v n xs) (hus : us.size = size) (h1 : ∀ u ∈ us.toList, u.oneCell' = true)
    (h63 : n + 1 ≤ maxLen) (hbytes : (n + 1) * bytes ≤ 140737488355328)
    (h : ∀ g cap w', w'.ownsRow wb.heap.size e size (.slice (some ⟨g, 0, none⟩) (n + 1) cap) (n + 1) (xs ++ us.toList) → w.grownBy w' v.ownBlock → (v.ownBlock = some g ∨ g = w.heap.size + 1) → g < w'.heap.size → wpList P ops Q rest (a.put o.dst (.slice (some ⟨g, 0, none⟩) (n + 1) cap)) w') :
    wpList P ops Q (o :: rest) a (w.alloc (.cells us e')) :=
  wpList_plain hgd fun _ hK => wp_push wb w s x t ho e z size bytes ht hi hzs hsz v n xs us e' hs hx hext hown hus h1 h63 hbytes fun g cap w' h2 h3 h4 h5 => hK _ _ (h g cap w' h2 h3 h4 h5)
end Go.Proofs.YtplllipekeomiaaGreatDoor

namespace Go.Proofs.YtplllipekeomiaaGreatDoor
open Go Go.RowKit

section
variable {P : Program} (w : World)
theorem run_onto_none (base : Nat) (t ty e : TypeId) (i : TypeInfo) (size : Nat) (ht : P.underlying t = some (.slice e)) (hi : P.info? e = some i)
    (v : Value) (n : Nat) (xs : List Value) (hown : w.ownsRow base e size v n xs) (c : Nat) : (Builtin.append_ #[t, t] ty #[v, .slice none 0 c]).run P w = .ok v w := by
  rcases hown.2 with ⟨rfl, rfl⟩ | ⟨g, cap, cur, rfl, _, _, hnc, _⟩
  · simp [Builtin.append_, run_underlying ht, sizeOf, typeInfo, hi, Builtin.lenOf, Builtin.firstCells]
  · simp [Builtin.append_, run_underlying ht, sizeOf, typeInfo, hi, Builtin.lenOf, Builtin.firstCells, hnc, storeCells]
theorem wp_onto {o : Oper} {a : Act} {K : Act → World → Prop} {Q : Exit → Act → World → Prop} (s x : Operand) (t : TypeId)
    (ho : o.op = .call { callee := .builtin .append, args := #[s, x], argTypes := #[t, t] })
    (base : Nat) (e : TypeId) (z : Value) (size bytes : Nat) (ht : P.underlying t = some (.slice e)) (hi : (P.info? e).map (fun i => (i.zero, i.size, i.bytes)) = some (some z, size, bytes)) (hzs : z.cells.size = size) (hsz : 0 < size)
    (v : Value) (n : Nat) (xs : List Value) (hs : a.eval s = v) (hown : w.ownsRow base e size v n xs)
    (lo hi' : Nat) (A : Option Addr) (m c : Nat) (news : List Value) (hx : a.eval x = .slice A m c) (hr : Reads w lo hi' size A m news) (h1 : ∀ u ∈ news, u.oneCell' = true)
    (h63 : n + m ≤ maxLen) (hbytes : (n + m) * bytes ≤ 140737488355328) (hbase : base ≤ w.heap.size)
    (h : ∀ v' w', w'.ownsRow base e size v' (n + m) (xs ++ news) → w.grownBy w' v.ownBlock → (v'.ownBlock = v.ownBlock ∨ v'.ownBlock = some w.heap.size) → K (a.put o.dst v') w') : o.wp P a w K Q := by
  obtain ⟨i, hi0, hz0, hz1, hz2⟩ := info_parts hi
  have hrun : ∃ v' w', (Builtin.append_ #[t, t] o.type #[v, .slice A m c]).run P w = .ok v' w' ∧ w'.ownsRow base e size v' (n + m) (xs ++ news) ∧ w.grownBy w' v.ownBlock ∧ (v'.ownBlock = v.ownBlock ∨ v'.ownBlock = some w.heap.size) := by
    by_cases h0 : m = 0
    · subst h0
      obtain rfl : news = [] := List.eq_nil_of_length_eq_zero (by simpa using hr.1)
      cases A with
      | none => exact ⟨v, w, run_onto_none w base t o.type e i size ht hi0 v n xs hown c, by simpa using hown, World.grownBy.refl w _, .inl rfl⟩
      | some ad =>
        obtain ⟨v', w', h2, h3, h4, _, h5⟩ := run_append_own_at (P := P) w base t o.type e i z size bytes ht hi0 hz0 hz1 hz2 hzs hsz v n xs hown ad 0 c [] (by simp) (fun j u hu => by simp at hu) h1 h63 hbytes hbase
        exact ⟨v', w', h2, h3, h4, h5⟩
    · obtain ⟨ad, rfl, _, _, hc⟩ := hr.2.2 (by omega)
      obtain ⟨v', w', h2, h3, h4, _, h5⟩ := run_append_own_at (P := P) w base t o.type e i z size bytes ht hi0 hz0 hz1 hz2 hzs hsz v n xs hown ad m c news hr.1 hc h1 h63 hbytes hbase
      exact ⟨v', w', h2, h3, h4, h5⟩
  obtain ⟨v', w', h2, h3, h4, h5⟩ := hrun
  unfold Oper.wp execOp
  simp only [ho, resolve, invoke, builtin, Sem.run_bind, Sem.run_pure, Result.andThen_ok, List.map_toArray, List.map_cons, List.map_nil, hs, hx, h2]
  exact h v' w' h3 h4 h5
theorem wpList_onto {ops : Array Oper} {rest : List Oper} {o : Oper} {a : Act} {Q : Exit → Act → World → Prop} (hgd : o.guard = none) (s x : Operand) (t : TypeId)
    (ho : o.op = .call { callee := .builtin .append, args := #[s, x], argTypes := #[t, t] })
    (base : Nat) (e : TypeId) (z : Value) (size bytes : Nat) (ht : P.underlying t = some (.slice e)) (hi : (P.info? e).map (fun i => (i.zero, i.size, i.bytes)) = some (some z, size, bytes)) (hzs : z.cells.size = size) (hsz : 0 < size)
    (v : Value) (n : Nat) (xs : List Value) (hs : a.eval s = v) (hown : w.ownsRow base e size v n xs)
    (lo hi' : Nat) (A : Option Addr) (m c : Nat) (news : List Value) (hx : a.eval x = .slice A m c) (hr : Reads w lo hi' size A m news) (h1 : ∀ u ∈ news, u.oneCell' = true)
    (h63 : n + m ≤ maxLen) (hbytes : (n + m) * bytes ≤ 140737488355328) (hbase : base ≤ w.heap.size)
    (h : ∀ v' w', w'.ownsRow base e size v' (n + m) (xs ++ news) → w.grownBy w' v.ownBlock → (v'.ownBlock = v.ownBlock ∨ v'.ownBlock = some w.heap.size) → wpList P ops Q rest (a.put o.dst v') w') : wpList P ops Q (o :: rest) a w :=
  wpList_plain hgd fun _ hK => wp_onto w s x t ho base e z size bytes ht hi hzs hsz v n xs hs hown lo hi' A m c news hx hr h1 h63 hbytes hbase fun v' w' h2 h3 h4 => hK _ _ (h v' w' h2 h3 h4)
end

end Go.Proofs.YtplllipekeomiaaGreatDoor

namespace Go.Proofs.YtplllipekeomiaaGreatDoor
open Go Go.RowKit
set_option maxHeartbeats 1000000

theorem eqSystemS_any {lo hi lo' hi' : Nat} {A : Option Addr} {n c : Nat} {B : Option Addr} {m d : Nat} {l l' : List Sys} {w : World} (h : SLAt w lo hi A n l) (h' : SLAt w lo' hi' B m l') (hll : l = l') :
    Calls Tryz.prog 13 #[.slice A n c, .slice B m d] w fun e w' => e = .returned (.bool true) ∧ Ext w w' := by
  subst hll
  have hn := h.len
  have hm := h'.len
  obtain rfl : n = m := by rw [h.1, h'.1]
  go_enter Tryz.func13, Tryz.ntmps13
  go_wp2
  go_loopw [5] (fun i wr => ∃ k : Nat, k ≤ n ∧ i = .int .i64 k ∧ Ext w wr) (fun i _ => n - (intOf i).toNat)
  case atStart => exact ⟨0, Nat.zero_le _, rfl, Ext.refl _⟩
  case round =>
    obtain ⟨k, hk, rfl, hext⟩ := hrel
    by_cases hlt : k < n
    · obtain ⟨b, o, x, q, r, z, rfl, _, _, hx, c0, c1, c2, hsx⟩ := (h.ext hext).sys hlt
      obtain ⟨b', o', y, q', r', z', rfl, _, _, hy, d0, d1, d2, hsy⟩ := (h'.ext hext).sys hlt
      obtain rfl : x = y := by have hx := hx.out; have hy := hy.out; rw [hx] at hy; exact Option.some.inj hy
      have e0 : ∀ W, Ext wr W → W.cell? ⟨b, o + k * 3, none⟩ = some (.int .i64 x.al) := fun W hW => hW.cell_some c0
      have e1 : ∀ W, Ext wr W → W.cell? ⟨b, o + k * 3 + 1, none⟩ = some (.int .i64 x.st) := fun W hW => hW.cell_some c1
      have e2 : ∀ W, Ext wr W → W.cell? ⟨b, o + k * 3 + 2, none⟩ = some (.slice q r z) := fun W hW => hW.cell_some c2
      have g0 : ∀ W, Ext wr W → W.cell? ⟨b', o' + k * 3, none⟩ = some (.int .i64 x.al) := fun W hW => hW.cell_some d0
      have g1 : ∀ W, Ext wr W → W.cell? ⟨b', o' + k * 3 + 1, none⟩ = some (.int .i64 x.st) := fun W hW => hW.cell_some d1
      have g2 : ∀ W, Ext wr W → W.cell? ⟨b', o' + k * 3 + 2, none⟩ = some (.slice q' r' z') := fun W hW => hW.cell_some d2
      clear c0 c1 c2 d0 d1 d2
      have hwr := Ext.refl wr
      go_wp2_with fail
      go_region_held3 (fun W => Ext wr W) (first | assumption | (refine Ext.drew ?_; assumption) | (refine Ext.trans ?_ (by assumption); assumption) | (refine Ext.trans ?_ (by assumption); refine Ext.drew ?_; assumption)) ((go_at_call 22; refine (eqSystem_any (hsx.ext ?_) (hsy.ext ?_)).mono ?_; assumption; assumption; rw [sysEq_self]; rintro e w3 ⟨rfl, hext3⟩))
      go_wp2
      go_roundw
      case rel => exact ⟨k + 1, by omega, by go_num, hext.trans (by assumption)⟩
      case measure => simp [intOf]; omega
    · obtain rfl : k = n := by omega
      go_wp2
      go_ret
      exact ⟨rfl, hext⟩
end Go.Proofs.YtplllipekeomiaaGreatDoor
