/- BisimClasses of the program and of the reference, walked. -/
import Derived.Test.YtdeopnjheeekcaaDoorSimFn
import Derived.Test.YtdeopnjheeekcaaDoorLeast
import Derived.Test.YtdeopnjheeekcaaDoorMark
namespace Go.Proofs.YtdeopnjheeekcaaDoor
open Go Go.RowKit
set_option maxHeartbeats 1000000

/-- The least number of a set. -/
def lst (x : Nat) : Nat := (letters x 32).headD 0
theorem range_head (n : Nat) (f : Nat → Bool) (k : Nat) (t : List Nat) (h : (List.range n).filter f = k :: t) : f k = true ∧ k < n ∧ ∀ i, i < k → f i = false := by
  have hk : k ∈ (List.range n).filter f := by rw [h]; simp
  rw [List.mem_filter, List.mem_range] at hk
  refine ⟨hk.2, hk.1, fun i hi => ?_⟩
  cases hf : f i
  · rfl
  · have hm : i ∈ (List.range n).filter f := List.mem_filter.2 ⟨List.mem_range.2 (by omega), hf⟩
    have hp : ((List.range n).filter f).Pairwise (· < ·) := List.Pairwise.filter _ List.pairwise_lt_range
    rw [h] at hm hp
    rcases List.mem_cons.1 hm with h1 | h1
    · omega
    · have := (List.pairwise_cons.1 hp).1 i h1
      omega
theorem lst_spec {x k : Nat} (hk : k < 32) (hb : x.testBit k = true) : ∃ t, letters x 32 = lst x :: t ∧ x.testBit (lst x) = true ∧ lst x ≤ k ∧ ∀ i, i < lst x → x.testBit i = false := by
  cases h : letters x 32 with
  | nil =>
    have : k ∈ letters x 32 := mem_letters.2 ⟨hk, hb⟩
    rw [h] at this
    cases this
  | cons a t =>
    have hl : lst x = a := by unfold lst; rw [h]; rfl
    obtain ⟨h1, h2, h3⟩ := range_head 32 _ a t h
    rw [hl]
    refine ⟨t, rfl, h1, ?_, h3⟩
    rcases Nat.lt_or_ge k a with h4 | h4
    · rw [h3 k h4] at hb; cases hb
    · exact h4
/-- The classes of the first k states, and how many there are. -/
def clsOf (R : List Nat) : Nat → List Nat × Nat
  | 0 => ([], 0)
  | k + 1 => if lst (R.getD k 0) = k then ((clsOf R k).1 ++ [(clsOf R k).2], (clsOf R k).2 + 1) else ((clsOf R k).1 ++ [(clsOf R k).1.getD (lst (R.getD k 0)) 0], (clsOf R k).2)
theorem clsOf_length (R : List Nat) (k : Nat) : (clsOf R k).1.length = k := by
  induction k with
  | zero => rfl
  | succ k ih => unfold clsOf; split <;> simp [ih]
theorem clsOf_le (R : List Nat) (k : Nat) : (clsOf R k).2 ≤ k := by
  induction k with
  | zero => exact Nat.le_refl _
  | succ k ih => unfold clsOf; split <;> simp <;> omega
theorem clsOf_yes {R : List Nat} {k : Nat} (h : lst (R.getD k 0) = k) : clsOf R (k + 1) = ((clsOf R k).1 ++ [(clsOf R k).2], (clsOf R k).2 + 1) := by rw [clsOf, if_pos h]
theorem clsOf_no {R : List Nat} {k : Nat} (h : ¬ lst (R.getD k 0) = k) : clsOf R (k + 1) = ((clsOf R k).1 ++ [(clsOf R k).1.getD (lst (R.getD k 0)) 0], (clsOf R k).2) := by rw [clsOf, if_neg h]
/-- The classes of a system. -/
noncomputable def clsR (s : Sys) : List Nat := if sysValid s then (clsOf (gfp true s s) s.st.toNat).1 else []
theorem clsR_length (s : Sys) : (clsR s).length ≤ 16 := by
  unfold clsR
  split
  · rename_i h
    obtain ⟨p, hp, _, hp2, _⟩ := valid_few h
    rw [clsOf_length, hp]
    exact hp2
  · simp
/-- Every state is related to itself. -/
theorem gfp_self {both : Bool} {es : List Edg} {p : Nat} {R : List Nat} (hf : Few p es) (h : Gfp both es es p p R) {i : Nat} (hi : i < p) : rel R i i := by
  refine h.great (fun i j => i = j ∧ i < p) ?_ i i ⟨rfl, hi⟩
  rintro i j ⟨rfl, hi⟩
  refine ⟨hi, hi, fun l k hk => ⟨k, hk, rfl, ?_⟩, fun _ l k hk => ⟨k, hk, rfl, ?_⟩⟩
  all_goals
    obtain ⟨e, he, _, _, h3⟩ := hk
    have := hf e he
    omega

/-- Classes and their number. -/
def RetCls (w : World) (x : List Nat × Nat) (e : Ending) (w' : World) : Prop := ∃ B m d, e = .returned (.tuple #[.slice B m d, .int .i64 (x.2 : Nat)]) ∧ OwnN w' w.heap.size B m d x.1 ∧ Ext w w'
theorem spec_l15Classes {lo hi : Nat} {A : Option Addr} {n c : Nat} {s : Sys} {p : Nat} {w : World} (h : SysAt w lo hi A n s) (hsp : s.st = p) (hp1 : 1 ≤ p) (hp : p ≤ 16) (hf : Few p s.edges) :
    Calls Tryd.prog 33 #[.agg #[.int .i64 s.al, .int .i64 s.st, .slice A n c]] w (RetCls w (clsOf (gfp true s s) p)) := by
  have HS := hide (fun W (hW : Ext w W) => h.ext hW)
  have Hf := hide hf
  have Hsp := hide hsp
  clear h hf hsp
  go_enter Tryd.func33, Tryd.ntmps33
  go_wp2_with fail
  refine (spec_l15Relate (both := true) (HS.out _ ((Ext.refl _).alloc _)) (HS.out _ ((Ext.refl _).alloc _)) Hsp.out Hsp.out hp1 hp hp Hf.out Hf.out).mono ?_
  rintro e w1 ⟨g, c1, R, rfl, hown1, hG, hx1⟩
  have HRe := hide (gfp_eq Hsp.out Hsp.out hG)
  have hGs := hide (fun i (hi : i < p) => gfp_self Hf.out hG hi)
  have hGm := hide (gfp_small hp hG)
  have hRl := hide hG.len
  have cb := fun j => ext_box (j := j) hx1
  have hw1 := ((Ext.refl w).alloc _).trans hx1
  clear hG
  go_wp2_with fail
  have hle := clsOf_le R
  have Hle := hide hle
  have Hll := hide (clsOf_length R)
  clear hle
  go_loopw [5, 6, 7] (fun v q i wr => ∃ k : Nat, k ≤ p ∧ i = .int .i64 k ∧ q = .int .i64 ((clsOf R k).2 : Nat) ∧ wr.ownsRow w1.heap.size 3 1 v k (nats (clsOf R k).1) ∧ Ext w1 wr) (fun _ _ i _ => p - (intOf i).toNat)
  case atStart => exact ⟨0, Nat.zero_le _, rfl, rfl, World.ownsRow_lit w1 #[] 0 (Nat.le_refl _) (by unfold maxLen; omega) rfl, (Ext.refl _).alloc _⟩
  case round =>
    obtain ⟨k, hk, rfl, rfl, hown, hext⟩ := hrel
    have c5 : ∀ j, wr.cell? ⟨w.heap.size, j, none⟩ = #[Value.int .i64 s.al, .int .i64 s.st, .slice A n c][j]? := fun j => (ext_blk1 (hx1.trans hext)).cell j
    rw [Hsp.out] at c5
    by_cases hlt : k < p
    · obtain ⟨r, hr⟩ : ∃ r, R[k]? = some r := ⟨_, List.getElem?_eq_getElem (by have := hRl.out; omega)⟩
      have hrD := hide (show R.getD k 0 = r by rw [List.getD_eq_getElem?_getD, hr]; rfl)
      have hrs := hGm.out r (List.mem_of_getElem? hr)
      have hrb : r.testBit k = true := by have := (hGs.out k hlt).2; rw [hrD.out] at this; exact this
      obtain ⟨tl, ht1, ht2, ht3, ht4⟩ := lst_spec (by omega) hrb
      have hc0 : wr.cell? ⟨g, k, none⟩ = some (.int .i64 (r : Nat)) := hext.cell_some (by rw [hown1.cellAt k (by omega)]; simp [nats, hr])
      have Hr := hide hr
      have HL := hide (spec_l2Least r (lst r) hrs (by omega) ht2 ht4)
      have hcn := Hle.out k
      clear hr hrb ht1 ht2 ht4
      obtain ⟨m, hm⟩ : ∃ m, Hid (lst r = m) := ⟨_, rfl⟩
      rw [hm.out] at ht3 HL
      obtain ⟨q, hq⟩ : ∃ q, Hid ((clsOf R k).2 = q) := ⟨_, rfl⟩
      rw [hq.out] at hcn ⊢
      by_cases hkm : m = k
      · have hst := hide (clsOf_yes (R := R) (k := k) (by rw [hrD.out, hm.out]; exact hkm))
        subst hkm
        go_wp2_with (first
          | (go_at_call 46; refine (HL.out _).mono ?_; rintro e w' ⟨rfl, rfl⟩)
          | (at_builtin; refine wpList_push w1 wr rfl _ _ _ rfl 3 _ 1 8 Tryd.underlying32 info_int rfl (by decide) u5 _ _ _ _ rfl rfl hext hown rfl (cells_int _) (by unfold maxLen; omega) (by omega) ?_; intro v' w2 hext2 hown2 hg2 hat2))
        go_roundw
        case rel => exact ⟨m + 1, by omega, by go_num, by rw [hst.out]; simp [hq.out], by rw [hst.out]; simpa [nats, hq.out] using hown2, by assumption⟩
        case measure => simp [intOf]; omega
      · have hst := hide (clsOf_no (R := R) (k := k) (by rw [hrD.out, hm.out]; exact hkm))
        obtain ⟨B, d, rfl⟩ := own_form hown
        obtain ⟨g5, rfl, _, _⟩ := own_some' hown (by omega)
        have hkl := Hll.out k
        obtain ⟨y, hy⟩ : ∃ y, (clsOf R k).1[m]? = some y := ⟨_, List.getElem?_eq_getElem (by omega)⟩
        have hcy : wr.cell? ⟨g5, m, none⟩ = some (.int .i64 (y : Nat)) := by rw [hown.cellAt m (by omega)]; simp [nats, hy]
        have hyD := hide (show (clsOf R k).1.getD m 0 = y by rw [List.getD_eq_getElem?_getD, hy]; rfl)
        have Hy := hide hy
        have hmk : m < k := by omega
        have hne : ((m : Int) == (k : Int)) = false := by simp; omega
        clear hy hkl hkm
        go_wp2_with (first
          | (go_at_call 46; refine (HL.out _).mono ?_; rintro e w' ⟨rfl, rfl⟩)
          | (at_builtin; refine wpList_push w1 wr rfl _ _ _ rfl 3 _ 1 8 Tryd.underlying32 info_int rfl (by decide) (.slice (some ⟨g5, 0, none⟩) k d) _ _ _ _ rfl rfl hext hown rfl (cells_int _) (by unfold maxLen; omega) (by omega) ?_; intro v' w2 hext2 hown2 hg2 hat2))
        go_roundw
        case rel => exact ⟨k + 1, by omega, by go_num, by rw [hst.out, hq.out], by rw [hst.out, hrD.out, hm.out, hyD.out]; simpa [nats] using hown2, by assumption⟩
        case measure => simp [intOf]; omega
    · obtain rfl : p = k := by omega
      obtain ⟨B, d, rfl⟩ := own_form hown
      go_wp2
      go_ret2
      exact ⟨B, p, d, by rw [← HRe.out]; rfl, by rw [← HRe.out]; exact ⟨(Hll.out p).symm, own_less hown hw1.size⟩, hw1.trans hext⟩
end Go.Proofs.YtdeopnjheeekcaaDoor
