/- Bisimilar, Simulates and SimilarStates of the program and of the reference, walked: both compute the greatest relation. -/
import Derived.Test.YtdeopnjheeekcaaDoorRel
import Derived.Test.YtdeopnjheeekcaaDoorSame
namespace Go.Proofs.YtdeopnjheeekcaaDoor
open Go Go.RowKit
set_option maxHeartbeats 400000

/-- The greatest relation. -/
noncomputable def gfp (both : Bool) (s t : Sys) : List Nat := Classical.epsilon (Gfp both s.edges t.edges s.st.toNat t.st.toNat)
theorem gfp_eq {both : Bool} {s t : Sys} {p q : Nat} {R : List Nat} (hp : s.st = p) (hq : t.st = q) (h : Gfp both s.edges t.edges p q R) : R = gfp both s t := by
  have e1 : s.st.toNat = p := by rw [hp]; rfl
  have e2 : t.st.toNat = q := by rw [hq]; rfl
  have h' : Gfp both s.edges t.edges s.st.toNat t.st.toNat R := by rw [e1, e2]; exact h
  exact h'.unique (Classical.epsilon_spec ⟨R, h'⟩)
theorem exists_bits (n : Nat) (P : Nat → Prop) : ∃ a, a < 2 ^ n ∧ ∀ j, a.testBit j = true ↔ j < n ∧ P j := by
  induction n with
  | zero => exact ⟨0, by simp, fun j => by simp⟩
  | succ n ih =>
    obtain ⟨a, ha, hj⟩ := ih
    by_cases hp : P n
    · refine ⟨2 ^ n * 1 + a, by rw [Nat.pow_succ]; omega, fun j => ?_⟩
      rw [Nat.testBit_two_pow_mul_add _ ha]
      by_cases h : j < n
      · rw [if_pos h, hj]
        exact ⟨fun x => ⟨by omega, x.2⟩, fun x => ⟨h, x.2⟩⟩
      · rw [if_neg h]
        by_cases e : j = n
        · subst e; simp [hp]
        · constructor
          · intro x
            obtain ⟨d, hd⟩ : ∃ d, j - n = d + 1 := ⟨j - n - 1, by omega⟩
            have h1 : (1 : Nat).testBit (d + 1) = false := by rw [Nat.testBit_succ]; exact Nat.zero_testBit d
            rw [hd, h1] at x
            cases x
          · intro x; omega
    · refine ⟨a, by rw [Nat.pow_succ]; omega, fun j => ?_⟩
      rw [hj]
      constructor
      · intro x; exact ⟨by omega, x.2⟩
      · rintro ⟨h1, h2⟩
        refine ⟨?_, h2⟩
        rcases Nat.lt_or_ge j n with h | h
        · exact h
        · obtain rfl : j = n := by omega
          exact absurd h2 hp
theorem gfp_exists (both : Bool) (es es' : List Edg) (m n : Nat) : ∃ R, Gfp both es es' m n R := by
  have hx : ∀ i, ∃ a, a < 2 ^ n ∧ ∀ j, a.testBit j = true ↔ j < n ∧ ∃ X, Post both es es' m n X ∧ X i j := fun i => exists_bits n _
  obtain ⟨f, hf⟩ : ∃ f : Nat → Nat, ∀ i, f i < 2 ^ n ∧ ∀ j, (f i).testBit j = true ↔ j < n ∧ ∃ X, Post both es es' m n X ∧ X i j := ⟨fun i => Classical.choose (hx i), fun i => Classical.choose_spec (hx i)⟩
  have hr : ∀ i j, rel ((List.range m).map f) i j ↔ i < m ∧ j < n ∧ ∃ X, Post both es es' m n X ∧ X i j := by
    intro i j
    unfold rel
    rw [List.length_map, List.length_range]
    constructor
    · rintro ⟨h1, h2⟩
      rw [List.getD_eq_getElem?_getD, List.getElem?_map, List.getElem?_range h1] at h2
      exact ⟨h1, ((hf i).2 j).1 h2⟩
    · rintro ⟨h1, h2⟩
      refine ⟨h1, ?_⟩
      rw [List.getD_eq_getElem?_getD, List.getElem?_map, List.getElem?_range h1]
      exact ((hf i).2 j).2 h2
  refine ⟨(List.range m).map f, ⟨by simp, fun r hr => ?_, fun X hX i j hx => (hr i j).2 ⟨(hX i j hx).1, (hX i j hx).2.1, X, hX, hx⟩⟩, fun i j h => ?_⟩
  · obtain ⟨i, _, rfl⟩ := List.mem_map.1 hr
    exact (hf i).1
  · obtain ⟨h1, h2, X, hX, hx⟩ := (hr i j).1 h
    exact (hX i j hx).2.2.mono fun a b hab => (hr a b).2 ⟨(hX a b hab).1, (hX a b hab).2.1, X, hX, hab⟩
theorem gfp_spec (both : Bool) (s t : Sys) : Gfp both s.edges t.edges s.st.toNat t.st.toNat (gfp both s t) := Classical.epsilon_spec (gfp_exists both s.edges t.edges s.st.toNat t.st.toNat)
theorem valid_few {s : Sys} (h : sysValid s = true) : ∃ p : Nat, s.st = p ∧ 1 ≤ p ∧ p ≤ 16 ∧ Few p s.edges := by
  simp only [sysValid, Bool.and_eq_true, decide_eq_true_eq, List.all_eq_true, List.mem_range] at h
  obtain ⟨_, ⟨h1, h2⟩, h3⟩ := h
  refine ⟨s.st.toNat, by omega, by omega, by omega, fun e he => ?_⟩
  obtain ⟨k, hk⟩ := List.getElem?_of_mem he
  have := h3 k (List.getElem?_eq_some_iff.1 hk).1
  rw [edgeOK, hk] at this
  simp only [Bool.and_eq_true, edgB, decide_eq_true_eq, hasB] at this
  omega
theorem same_valid {s t : Sys} (h : sameB s t = true) : sysValid s = true ∧ sysValid t = true ∧ s.al = t.al := by
  simp only [sameB, Bool.and_eq_true, beq_iff_eq] at h
  exact ⟨h.1, h.2.1, h.2.2⟩
theorem gfp_small {both : Bool} {s t : Sys} {p q : Nat} {R : List Nat} (hq : q ≤ 16) (h : Gfp both s.edges t.edges p q R) : ∀ r ∈ R, Sm r := fun r hr => by
  refine Sm.of_lt (Nat.lt_of_lt_of_le (h.small r hr) ?_)
  rw [show (4294967296 : Nat) = 2 ^ 32 from rfl]
  exact Nat.pow_le_pow_right (by omega) (by omega)
/-- The first states are related. -/
noncomputable def simB (both : Bool) (s t : Sys) : Bool := sameB s t && ((gfp both s t).getD 0 0).testBit 0
/-- The relation, or none. -/
noncomputable def simR (s t : Sys) : List Nat := if sameB s t then gfp false s t else []
theorem simR_length (s t : Sys) : (simR s t).length ≤ 16 := by
  unfold simR
  split
  · rename_i h
    obtain ⟨p, hp, _, hp2, _⟩ := valid_few (same_valid h).1
    rw [(gfp_spec false s t).len, hp]
    exact hp2
  · simp
/-- Numbers in new memory. -/
def OwnN (w : World) (base : Nat) (A : Option Addr) (n c : Nat) (R : List Nat) : Prop := n = R.length ∧ w.ownsRow base 3 1 (.slice A n c) n (nats R)
theorem OwnN.ext {w w' : World} {base : Nat} {A : Option Addr} {n c : Nat} {R : List Nat} (h : OwnN w base A n c R) (hb : Ext w w') : OwnN w' base A n c R := ⟨h.1, own_ext h.2 hb⟩
theorem OwnN.less {w : World} {base base' : Nat} {A : Option Addr} {n c : Nat} {R : List Nat} (h : OwnN w base A n c R) (hb : base' ≤ base) : OwnN w base' A n c R := ⟨h.1, own_less h.2 hb⟩
def RetN (w : World) (R : List Nat) (e : Ending) (w' : World) : Prop := ∃ A n c, e = .returned (.slice A n c) ∧ OwnN w' w.heap.size A n c R ∧ Ext w w'

theorem impl_Bisimilar {lo hi lo' hi' : Nat} {A : Option Addr} {n c : Nat} {B : Option Addr} {m d : Nat} {s t : Sys} {w : World} (h : SysAt w lo hi A n s) (h' : SysAt w lo' hi' B m t) (hT : Tab w) :
    Calls Tryd.prog 10 #[.agg #[.int .i64 s.al, .int .i64 s.st, .slice A n c], .agg #[.int .i64 t.al, .int .i64 t.st, .slice B m d]] w fun e w' => e = .returned (.bool (simB true s t)) ∧ Ext w w' := by
  have HS := hide (fun W (hW : Ext w W) => h.ext hW)
  have HT := hide (fun W (hW : Ext w W) => h'.ext hW)
  clear h h'
  cases h1 : sameB s t
  · have H1 := hide h1
    clear h1
    go_enter Tryd.func10, Tryd.ntmps10
    go_wp2_with (go_at_call 27; refine (impl_sameAlphabets (HS.out _ (((Ext.refl _).alloc _).alloc _)) (HT.out _ (((Ext.refl _).alloc _).alloc _))).mono ?_; rw [H1.out]; rintro e w1 ⟨rfl, hx⟩)
    go_ret
    exact ⟨ret_bool (by unfold simB; rw [H1.out]; rfl), (((Ext.refl _).alloc _).alloc _).trans hx⟩
  · obtain ⟨v1, v2, -⟩ := same_valid h1
    obtain ⟨p, hp, hp1, hp2, hf⟩ := valid_few v1
    obtain ⟨q, hq, hq1, hq2, hg⟩ := valid_few v2
    have H1 := hide h1
    have Hf := hide hf
    have Hg := hide hg
    have Hp := hide hp
    have Hq := hide hq
    clear h1 v1 v2 hf hg hp hq
    go_enter Tryd.func10, Tryd.ntmps10
    go_wp2_with fail
    refine (impl_sameAlphabets (HS.out _ (((Ext.refl _).alloc _).alloc _)) (HT.out _ (((Ext.refl _).alloc _).alloc _))).mono ?_
    rw [H1.out]
    rintro e w1 ⟨rfl, hx⟩
    obtain ⟨b1, b2⟩ := ext_blk2 hx
    have c1 := b1.cell
    have c2 := b2.cell
    have hw1 := (((Ext.refl w).alloc _).alloc _).trans hx
    go_wp2_with fail
    refine (impl_greatestRelation (both := true) (HS.out _ hw1) (HT.out _ hw1) (hT.ext hw1) Hp.out Hq.out hp1 hp2 hq2 Hf.out Hg.out).mono ?_
    rintro e w2 ⟨g, R, rfl, hown, hG, hx2⟩
    have hRl := hG.len
    obtain ⟨r, hr⟩ : ∃ r, R[0]? = some r := ⟨_, List.getElem?_eq_getElem (by omega)⟩
    have hrs := gfp_small hq2 hG r (List.mem_of_getElem? hr)
    have hc0 : w2.cell? ⟨g, 0, none⟩ = some (.int .i64 (r : Nat)) := by rw [hown.cellAt 0 (by omega)]; simp [nats, hr]
    have hres := hide (show r.testBit 0 = simB true s t by unfold simB; rw [H1.out, ← gfp_eq Hp.out Hq.out hG, List.getD_eq_getElem?_getD, hr]; rfl)
    have Hhas := hide (show Calls Tryd.prog 28 #[.int .i64 r, .int .i64 (0 : Int)] w2 fun e w' => e = .returned (.bool (simB true s t)) ∧ w2 = w' by rw [← hres.out]; exact (by have := impl_has r (0 : Int) hrs w2; have e : hasB r 0 = r.testBit 0 := (by simp [hasB]); rw [e] at this; exact this))
    clear hr hRl hres
    go_wp2_with (go_at_call 28; refine (Hhas.out).mono ?_; rintro e w3 ⟨rfl, rfl⟩)
    go_ret
    exact ⟨rfl, hw1.trans hx2⟩

theorem impl_Simulates {lo hi lo' hi' : Nat} {A : Option Addr} {n c : Nat} {B : Option Addr} {m d : Nat} {s t : Sys} {w : World} (h : SysAt w lo hi A n s) (h' : SysAt w lo' hi' B m t) (hT : Tab w) :
    Calls Tryd.prog 13 #[.agg #[.int .i64 s.al, .int .i64 s.st, .slice A n c], .agg #[.int .i64 t.al, .int .i64 t.st, .slice B m d]] w fun e w' => e = .returned (.bool (simB false s t)) ∧ Ext w w' := by
  have HS := hide (fun W (hW : Ext w W) => h.ext hW)
  have HT := hide (fun W (hW : Ext w W) => h'.ext hW)
  clear h h'
  cases h1 : sameB s t
  · have H1 := hide h1
    clear h1
    go_enter Tryd.func13, Tryd.ntmps13
    go_wp2_with (go_at_call 27; refine (impl_sameAlphabets (HS.out _ (((Ext.refl _).alloc _).alloc _)) (HT.out _ (((Ext.refl _).alloc _).alloc _))).mono ?_; rw [H1.out]; rintro e w1 ⟨rfl, hx⟩)
    go_ret
    exact ⟨ret_bool (by unfold simB; rw [H1.out]; rfl), (((Ext.refl _).alloc _).alloc _).trans hx⟩
  · obtain ⟨v1, v2, -⟩ := same_valid h1
    obtain ⟨p, hp, hp1, hp2, hf⟩ := valid_few v1
    obtain ⟨q, hq, hq1, hq2, hg⟩ := valid_few v2
    have H1 := hide h1
    have Hf := hide hf
    have Hg := hide hg
    have Hp := hide hp
    have Hq := hide hq
    clear h1 v1 v2 hf hg hp hq
    go_enter Tryd.func13, Tryd.ntmps13
    go_wp2_with fail
    refine (impl_sameAlphabets (HS.out _ (((Ext.refl _).alloc _).alloc _)) (HT.out _ (((Ext.refl _).alloc _).alloc _))).mono ?_
    rw [H1.out]
    rintro e w1 ⟨rfl, hx⟩
    obtain ⟨b1, b2⟩ := ext_blk2 hx
    have c1 := b1.cell
    have c2 := b2.cell
    have hw1 := (((Ext.refl w).alloc _).alloc _).trans hx
    go_wp2_with fail
    refine (impl_greatestRelation (both := false) (HS.out _ hw1) (HT.out _ hw1) (hT.ext hw1) Hp.out Hq.out hp1 hp2 hq2 Hf.out Hg.out).mono ?_
    rintro e w2 ⟨g, R, rfl, hown, hG, hx2⟩
    have hRl := hG.len
    obtain ⟨r, hr⟩ : ∃ r, R[0]? = some r := ⟨_, List.getElem?_eq_getElem (by omega)⟩
    have hrs := gfp_small hq2 hG r (List.mem_of_getElem? hr)
    have hc0 : w2.cell? ⟨g, 0, none⟩ = some (.int .i64 (r : Nat)) := by rw [hown.cellAt 0 (by omega)]; simp [nats, hr]
    have hres := hide (show r.testBit 0 = simB false s t by unfold simB; rw [H1.out, ← gfp_eq Hp.out Hq.out hG, List.getD_eq_getElem?_getD, hr]; rfl)
    have Hhas := hide (show Calls Tryd.prog 28 #[.int .i64 r, .int .i64 (0 : Int)] w2 fun e w' => e = .returned (.bool (simB false s t)) ∧ w2 = w' by rw [← hres.out]; exact (by have := impl_has r (0 : Int) hrs w2; have e : hasB r 0 = r.testBit 0 := (by simp [hasB]); rw [e] at this; exact this))
    clear hr hRl hres
    go_wp2_with (go_at_call 28; refine (Hhas.out).mono ?_; rintro e w3 ⟨rfl, rfl⟩)
    go_ret
    exact ⟨rfl, hw1.trans hx2⟩

theorem spec_Bisimilar {lo hi lo' hi' : Nat} {A : Option Addr} {n c : Nat} {B : Option Addr} {m d : Nat} {s t : Sys} {w : World} (h : SysAt w lo hi A n s) (h' : SysAt w lo' hi' B m t) :
    Calls Tryd.prog 8 #[.agg #[.int .i64 s.al, .int .i64 s.st, .slice A n c], .agg #[.int .i64 t.al, .int .i64 t.st, .slice B m d]] w fun e w' => e = .returned (.bool (simB true s t)) ∧ Ext w w' := by
  have HS := hide (fun W (hW : Ext w W) => h.ext hW)
  have HT := hide (fun W (hW : Ext w W) => h'.ext hW)
  clear h h'
  cases h1 : sameB s t
  · have H1 := hide h1
    clear h1
    go_enter Tryd.func8, Tryd.ntmps8
    go_wp2_with (go_at_call 23; refine (spec_l6Comparable (HS.out _ (((Ext.refl _).alloc _).alloc _)) (HT.out _ (((Ext.refl _).alloc _).alloc _))).mono ?_; rw [H1.out]; rintro e w1 ⟨rfl, hx⟩)
    go_ret
    exact ⟨ret_bool (by unfold simB; rw [H1.out]; rfl), (((Ext.refl _).alloc _).alloc _).trans hx⟩
  · obtain ⟨v1, v2, -⟩ := same_valid h1
    obtain ⟨p, hp, hp1, hp2, hf⟩ := valid_few v1
    obtain ⟨q, hq, hq1, hq2, hg⟩ := valid_few v2
    have H1 := hide h1
    have Hf := hide hf
    have Hg := hide hg
    have Hp := hide hp
    have Hq := hide hq
    clear h1 v1 v2 hf hg hp hq
    go_enter Tryd.func8, Tryd.ntmps8
    go_wp2_with fail
    refine (spec_l6Comparable (HS.out _ (((Ext.refl _).alloc _).alloc _)) (HT.out _ (((Ext.refl _).alloc _).alloc _))).mono ?_
    rw [H1.out]
    rintro e w1 ⟨rfl, hx⟩
    obtain ⟨b1, b2⟩ := ext_blk2 hx
    have c1 := b1.cell
    have c2 := b2.cell
    have hw1 := (((Ext.refl w).alloc _).alloc _).trans hx
    go_wp2_with fail
    refine (spec_l15Relate (both := true) (HS.out _ hw1) (HT.out _ hw1) Hp.out Hq.out hp1 hp2 hq2 Hf.out Hg.out).mono ?_
    rintro e w2 ⟨g, c0, R, rfl, hown, hG, hx2⟩
    have hRl := hG.len
    obtain ⟨r, hr⟩ : ∃ r, R[0]? = some r := ⟨_, List.getElem?_eq_getElem (by omega)⟩
    have hrs := gfp_small hq2 hG r (List.mem_of_getElem? hr)
    have hc0 : w2.cell? ⟨g, 0, none⟩ = some (.int .i64 (r : Nat)) := by rw [hown.cellAt 0 (by omega)]; simp [nats, hr]
    have hres := hide (show r.testBit 0 = simB true s t by unfold simB; rw [H1.out, ← gfp_eq Hp.out Hq.out hG, List.getD_eq_getElem?_getD, hr]; rfl)
    have Hhas := hide (show Calls Tryd.prog 24 #[.int .i64 r, .int .i64 (0 : Int)] w2 fun e w' => e = .returned (.bool (simB true s t)) ∧ w2 = w' by rw [← hres.out]; exact (spec_l1Has r 0 hrs w2 (by omega)))
    clear hr hRl hres
    go_wp2_with (go_at_call 24; refine (Hhas.out).mono ?_; rintro e w3 ⟨rfl, rfl⟩)
    go_ret
    exact ⟨rfl, hw1.trans hx2⟩

theorem spec_Simulates {lo hi lo' hi' : Nat} {A : Option Addr} {n c : Nat} {B : Option Addr} {m d : Nat} {s t : Sys} {w : World} (h : SysAt w lo hi A n s) (h' : SysAt w lo' hi' B m t) :
    Calls Tryd.prog 12 #[.agg #[.int .i64 s.al, .int .i64 s.st, .slice A n c], .agg #[.int .i64 t.al, .int .i64 t.st, .slice B m d]] w fun e w' => e = .returned (.bool (simB false s t)) ∧ Ext w w' := by
  have HS := hide (fun W (hW : Ext w W) => h.ext hW)
  have HT := hide (fun W (hW : Ext w W) => h'.ext hW)
  clear h h'
  cases h1 : sameB s t
  · have H1 := hide h1
    clear h1
    go_enter Tryd.func12, Tryd.ntmps12
    go_wp2_with (go_at_call 23; refine (spec_l6Comparable (HS.out _ (((Ext.refl _).alloc _).alloc _)) (HT.out _ (((Ext.refl _).alloc _).alloc _))).mono ?_; rw [H1.out]; rintro e w1 ⟨rfl, hx⟩)
    go_ret
    exact ⟨ret_bool (by unfold simB; rw [H1.out]; rfl), (((Ext.refl _).alloc _).alloc _).trans hx⟩
  · obtain ⟨v1, v2, -⟩ := same_valid h1
    obtain ⟨p, hp, hp1, hp2, hf⟩ := valid_few v1
    obtain ⟨q, hq, hq1, hq2, hg⟩ := valid_few v2
    have H1 := hide h1
    have Hf := hide hf
    have Hg := hide hg
    have Hp := hide hp
    have Hq := hide hq
    clear h1 v1 v2 hf hg hp hq
    go_enter Tryd.func12, Tryd.ntmps12
    go_wp2_with fail
    refine (spec_l6Comparable (HS.out _ (((Ext.refl _).alloc _).alloc _)) (HT.out _ (((Ext.refl _).alloc _).alloc _))).mono ?_
    rw [H1.out]
    rintro e w1 ⟨rfl, hx⟩
    obtain ⟨b1, b2⟩ := ext_blk2 hx
    have c1 := b1.cell
    have c2 := b2.cell
    have hw1 := (((Ext.refl w).alloc _).alloc _).trans hx
    go_wp2_with fail
    refine (spec_l15Relate (both := false) (HS.out _ hw1) (HT.out _ hw1) Hp.out Hq.out hp1 hp2 hq2 Hf.out Hg.out).mono ?_
    rintro e w2 ⟨g, c0, R, rfl, hown, hG, hx2⟩
    have hRl := hG.len
    obtain ⟨r, hr⟩ : ∃ r, R[0]? = some r := ⟨_, List.getElem?_eq_getElem (by omega)⟩
    have hrs := gfp_small hq2 hG r (List.mem_of_getElem? hr)
    have hc0 : w2.cell? ⟨g, 0, none⟩ = some (.int .i64 (r : Nat)) := by rw [hown.cellAt 0 (by omega)]; simp [nats, hr]
    have hres := hide (show r.testBit 0 = simB false s t by unfold simB; rw [H1.out, ← gfp_eq Hp.out Hq.out hG, List.getD_eq_getElem?_getD, hr]; rfl)
    have Hhas := hide (show Calls Tryd.prog 24 #[.int .i64 r, .int .i64 (0 : Int)] w2 fun e w' => e = .returned (.bool (simB false s t)) ∧ w2 = w' by rw [← hres.out]; exact (spec_l1Has r 0 hrs w2 (by omega)))
    clear hr hRl hres
    go_wp2_with (go_at_call 24; refine (Hhas.out).mono ?_; rintro e w3 ⟨rfl, rfl⟩)
    go_ret
    exact ⟨rfl, hw1.trans hx2⟩

theorem impl_SimilarStates {lo hi lo' hi' : Nat} {A : Option Addr} {n c : Nat} {B : Option Addr} {m d : Nat} {s t : Sys} {w : World} (h : SysAt w lo hi A n s) (h' : SysAt w lo' hi' B m t) (hT : Tab w) :
    Calls Tryd.prog 15 #[.agg #[.int .i64 s.al, .int .i64 s.st, .slice A n c], .agg #[.int .i64 t.al, .int .i64 t.st, .slice B m d]] w (RetN w (simR s t)) := by
  have HS := hide (fun W (hW : Ext w W) => h.ext hW)
  have HT := hide (fun W (hW : Ext w W) => h'.ext hW)
  clear h h'
  cases h1 : sameB s t
  · have H1 := hide h1
    have hR := hide (show simR s t = [] by unfold simR; rw [h1]; rfl)
    clear h1
    go_enter Tryd.func15, Tryd.ntmps15
    go_wp2_with (go_at_call 27; refine (impl_sameAlphabets (HS.out _ (((Ext.refl _).alloc _).alloc _)) (HT.out _ (((Ext.refl _).alloc _).alloc _))).mono ?_; rw [H1.out]; rintro e w1 ⟨rfl, hx⟩)
    go_ret
    exact ⟨_, _, _, rfl, by rw [hR.out]; exact ⟨rfl, World.ownsRow_nil _ _ _ _⟩, (((Ext.refl _).alloc _).alloc _).trans hx⟩
  · obtain ⟨v1, v2, -⟩ := same_valid h1
    obtain ⟨p, hp, hp1, hp2, hf⟩ := valid_few v1
    obtain ⟨q, hq, hq1, hq2, hg⟩ := valid_few v2
    have hR := hide (show simR s t = gfp false s t by unfold simR; rw [h1]; rfl)
    have H1 := hide h1
    have Hf := hide hf
    have Hg := hide hg
    have Hp := hide hp
    have Hq := hide hq
    clear h1 v1 v2 hf hg hp hq
    go_enter Tryd.func15, Tryd.ntmps15
    go_wp2_with fail
    refine (impl_sameAlphabets (HS.out _ (((Ext.refl _).alloc _).alloc _)) (HT.out _ (((Ext.refl _).alloc _).alloc _))).mono ?_
    rw [H1.out]
    rintro e w1 ⟨rfl, hx⟩
    obtain ⟨b1, b2⟩ := ext_blk2 hx
    have c1 := b1.cell
    have c2 := b2.cell
    have hw1 := (((Ext.refl w).alloc _).alloc _).trans hx
    go_wp2_with fail
    refine (impl_greatestRelation (both := false) (HS.out _ hw1) (HT.out _ hw1) (hT.ext hw1) Hp.out Hq.out hp1 hp2 hq2 Hf.out Hg.out).mono ?_
    rintro e w2 ⟨g, R, rfl, hown, hG, hx2⟩
    have hRe := gfp_eq Hp.out Hq.out hG
    have hRl := hG.len
    have Hfin := hide (show OwnN w2 w.heap.size (some ⟨g, 0, none⟩) p p (simR s t) from ⟨by rw [hR.out, ← hRe, hRl], by rw [hR.out, ← hRe]; exact own_less hown hw1.size⟩)
    clear hRe hRl hG hR
    go_wp2_with fail
    go_ret
    exact ⟨_, _, _, rfl, Hfin.out, hw1.trans hx2⟩

theorem spec_SimilarStates {lo hi lo' hi' : Nat} {A : Option Addr} {n c : Nat} {B : Option Addr} {m d : Nat} {s t : Sys} {w : World} (h : SysAt w lo hi A n s) (h' : SysAt w lo' hi' B m t) :
    Calls Tryd.prog 14 #[.agg #[.int .i64 s.al, .int .i64 s.st, .slice A n c], .agg #[.int .i64 t.al, .int .i64 t.st, .slice B m d]] w (RetN w (simR s t)) := by
  have HS := hide (fun W (hW : Ext w W) => h.ext hW)
  have HT := hide (fun W (hW : Ext w W) => h'.ext hW)
  clear h h'
  cases h1 : sameB s t
  · have H1 := hide h1
    have hR := hide (show simR s t = [] by unfold simR; rw [h1]; rfl)
    clear h1
    go_enter Tryd.func14, Tryd.ntmps14
    go_wp2_with (go_at_call 23; refine (spec_l6Comparable (HS.out _ (((Ext.refl _).alloc _).alloc _)) (HT.out _ (((Ext.refl _).alloc _).alloc _))).mono ?_; rw [H1.out]; rintro e w1 ⟨rfl, hx⟩)
    go_ret
    exact ⟨_, _, _, rfl, by rw [hR.out]; exact ⟨rfl, World.ownsRow_nil _ _ _ _⟩, (((Ext.refl _).alloc _).alloc _).trans hx⟩
  · obtain ⟨v1, v2, -⟩ := same_valid h1
    obtain ⟨p, hp, hp1, hp2, hf⟩ := valid_few v1
    obtain ⟨q, hq, hq1, hq2, hg⟩ := valid_few v2
    have hR := hide (show simR s t = gfp false s t by unfold simR; rw [h1]; rfl)
    have H1 := hide h1
    have Hf := hide hf
    have Hg := hide hg
    have Hp := hide hp
    have Hq := hide hq
    clear h1 v1 v2 hf hg hp hq
    go_enter Tryd.func14, Tryd.ntmps14
    go_wp2_with fail
    refine (spec_l6Comparable (HS.out _ (((Ext.refl _).alloc _).alloc _)) (HT.out _ (((Ext.refl _).alloc _).alloc _))).mono ?_
    rw [H1.out]
    rintro e w1 ⟨rfl, hx⟩
    obtain ⟨b1, b2⟩ := ext_blk2 hx
    have c1 := b1.cell
    have c2 := b2.cell
    have hw1 := (((Ext.refl w).alloc _).alloc _).trans hx
    go_wp2_with fail
    refine (spec_l15Relate (both := false) (HS.out _ hw1) (HT.out _ hw1) Hp.out Hq.out hp1 hp2 hq2 Hf.out Hg.out).mono ?_
    rintro e w2 ⟨g, c0, R, rfl, hown, hG, hx2⟩
    have hRe := gfp_eq Hp.out Hq.out hG
    have hRl := hG.len
    have Hfin := hide (show OwnN w2 w.heap.size (some ⟨g, 0, none⟩) p c0 (simR s t) from ⟨by rw [hR.out, ← hRe, hRl], by rw [hR.out, ← hRe]; exact own_less hown hw1.size⟩)
    clear hRe hRl hG hR
    go_wp2_with fail
    go_ret
    exact ⟨_, _, _, rfl, Hfin.out, hw1.trans hx2⟩
end Go.Proofs.YtdeopnjheeekcaaDoor
