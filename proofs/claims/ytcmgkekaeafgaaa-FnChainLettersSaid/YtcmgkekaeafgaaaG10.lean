/- The laws' own marks: numbers written into what was returned, and asked for later; walked. | spec.l2Least, walked. | BisimClasses of the program and of the reference, walked. | Plain: the greatest relation of a system to itself is an order, with both an equivalence; classes are its classes. No program in sight. -/
import Derived.Test.YtcmgkekaeafgaaaG02
import Derived.Test.YtcmgkekaeafgaaaG03
import Derived.Test.YtcmgkekaeafgaaaG08
namespace Go.Proofs.Ytcmgkekaeafgaaa
open Go Go.RowKit
set_option maxHeartbeats 400000

/-- The marks from k on. -/
def marks (k n : Nat) : List Nat := (List.range n).map (k + ·)
theorem marks_length (k n : Nat) : (marks k n).length = n := by simp [marks]
theorem marks_get {k n i : Nat} (h : i < n) : (marks k n)[i]? = some (k + i) := by simp [marks, h]
theorem marks_take {k n i : Nat} (h : i ≤ n) : (marks k n).take i = marks k i := by
  unfold marks
  rw [← List.map_take, List.take_range, Nat.min_eq_left h]
theorem own_some' {w : World} {base : Nat} {e : TypeId} {size n c : Nat} {A : Option Addr} {xs : List Value} (h : w.ownsRow base e size (.slice A n c) n xs) (hn : 0 < n) : ∃ g, A = some ⟨g, 0, none⟩ ∧ base ≤ g ∧ g < w.heap.size := by
  rcases h.2 with ⟨_, h0⟩ | ⟨g, cap, cur, hv, hg, hh, _⟩
  · omega
  · injection hv with h1 h2 h3
    exact ⟨g, h1, hg, (Array.getElem?_eq_some_iff.1 hh).1⟩
/-- The block of a slice. -/
def blk (A : Option Addr) (b : Nat) : Prop := ∃ a, A = some a ∧ a.block = b

end Go.Proofs.Ytcmgkekaeafgaaa

namespace Go.Proofs.Ytcmgkekaeafgaaa
open Go Go.RowKit
set_option maxHeartbeats 1000000

end Go.Proofs.Ytcmgkekaeafgaaa

namespace Go.Proofs.Ytcmgkekaeafgaaa
open Go Go.RowKit
set_option maxHeartbeats 1000000

/-- The least number of a set. -/
def lst (x : Nat) : Nat := (letters x 32).headD 0
theorem range_head (n : Nat) (f : Nat → Bool) (k : Nat) (t : List Nat) (h : (List.range n).filter f = k :: t) : f k = true ∧ k < n ∧ ∀ i, i < k → f i = false := by
  have hk : k ∈ (List.range n).filter f := by rw [h]; simp
  rw [List.mem_filter, List.mem_range] at hk
  refine ⟨hk.2, hk.1, fun i hi => ?_⟩
  cases hf : f i
  · rfl
  · have hm : i ∈ (List.range n).filter f := List.mem_filter.2 ⟨List.mem_range.2 (by omega), hf⟩
    have hp : ((List.range n).filter f).Pairwise (· < ·) := List.Pairwise.filter _ List.pairwise_lt_range
    rw [h] at hm hp
    rcases List.mem_cons.1 hm with h1 | h1
    · omega
    · have := (List.pairwise_cons.1 hp).1 i h1
      omega
theorem lst_spec {x k : Nat} (hk : k < 32) (hb : x.testBit k = true) : ∃ t, letters x 32 = lst x :: t ∧ x.testBit (lst x) = true ∧ lst x ≤ k ∧ ∀ i, i < lst x → x.testBit i = false := by
  cases h : letters x 32 with
  | nil =>
    have : k ∈ letters x 32 := mem_letters.2 ⟨hk, hb⟩
    rw [h] at this
    cases this
  | cons a t =>
    have hl : lst x = a := by unfold lst; rw [h]; rfl
    obtain ⟨h1, h2, h3⟩ := range_head 32 _ a t h
    rw [hl]
    refine ⟨t, rfl, h1, ?_, h3⟩
    rcases Nat.lt_or_ge k a with h4 | h4
    · rw [h3 k h4] at hb; cases hb
    · exact h4
/-- The classes of the first k states, and how many there are. -/
def clsOf (R : List Nat) : Nat → List Nat × Nat
  | 0 => ([], 0)
  | k + 1 => if lst (R.getD k 0) = k then ((clsOf R k).1 ++ [(clsOf R k).2], (clsOf R k).2 + 1) else ((clsOf R k).1 ++ [(clsOf R k).1.getD (lst (R.getD k 0)) 0], (clsOf R k).2)
theorem clsOf_length (R : List Nat) (k : Nat) : (clsOf R k).1.length = k := by
  induction k with
  | zero => rfl
  | succ k ih => unfold clsOf; split <;> simp [ih]
theorem clsOf_le (R : List Nat) (k : Nat) : (clsOf R k).2 ≤ k := by
  induction k with
  | zero => exact Nat.le_refl _
  | succ k ih => unfold clsOf; split <;> simp <;> omega
theorem clsOf_yes {R : List Nat} {k : Nat} (h : lst (R.getD k 0) = k) : clsOf R (k + 1) = ((clsOf R k).1 ++ [(clsOf R k).2], (clsOf R k).2 + 1) := by rw [clsOf, if_pos h]
theorem clsOf_no {R : List Nat} {k : Nat} (h : ¬ lst (R.getD k 0) = k) : clsOf R (k + 1) = ((clsOf R k).1 ++ [(clsOf R k).1.getD (lst (R.getD k 0)) 0], (clsOf R k).2) := by rw [clsOf, if_neg h]
/-- The classes of a system. -/
noncomputable def clsR (s : Sys) : List Nat := if sysValid s then (clsOf (gfp true s s) s.st.toNat).1 else []
theorem clsR_length (s : Sys) : (clsR s).length ≤ 16 := by
  unfold clsR
  split
  · rename_i h
    obtain ⟨p, hp, _, hp2, _⟩ := valid_few h
    rw [clsOf_length, hp]
    exact hp2
  · simp
/-- Every state is related to itself. -/
theorem gfp_self {both : Bool} {es : List Edg} {p : Nat} {R : List Nat} (hf : Few p es) (h : Gfp both es es p p R) {i : Nat} (hi : i < p) : rel R i i := by
  refine h.great (fun i j => i = j ∧ i < p) ?_ i i ⟨rfl, hi⟩
  rintro i j ⟨rfl, hi⟩
  refine ⟨hi, hi, fun l k hk => ⟨k, hk, rfl, ?_⟩, fun _ l k hk => ⟨k, hk, rfl, ?_⟩⟩
  all_goals
    obtain ⟨e, he, _, _, h3⟩ := hk
    have := hf e he
    omega

/-- Classes and their number. -/
def RetCls (w : World) (x : List Nat × Nat) (e : Ending) (w' : World) : Prop := ∃ B m d, e = .returned (.tuple #[.slice B m d, .int .i64 (x.2 : Nat)]) ∧ OwnN w' w.heap.size B m d x.1 ∧ Ext w w'
end Go.Proofs.Ytcmgkekaeafgaaa

namespace Go.Proofs.Ytcmgkekaeafgaaa
open Go Go.RowKit

section
variable {both : Bool} {es es' es'' : List Edg} {m n q : Nat} {R S T : List Nat}
theorem Gfp.trans (h : Gfp both es es' m n R) (h' : Gfp both es' es'' n q S) (h'' : Gfp both es es'' m q T) {i j k : Nat} (a : rel R i j) (b : rel S j k) : rel T i k := by
  refine h''.great (fun i k => ∃ j, rel R i j ∧ rel S j k) ?_ i k ⟨j, a, b⟩
  rintro i k ⟨j, a, b⟩
  refine ⟨(rel_lt h.toInv a).1, (rel_lt h'.toInv b).2, fun l x hx => ?_, fun hb l z hz => ?_⟩
  · obtain ⟨y, hy, r1⟩ := (h.post i j a).1 l x hx
    obtain ⟨z, hz, r2⟩ := (h'.post j k b).1 l y hy
    exact ⟨z, hz, y, r1, r2⟩
  · obtain ⟨y, hy, r2⟩ := (h'.post j k b).2 hb l z hz
    obtain ⟨x, hx, r1⟩ := (h.post i j a).2 hb l y hy
    exact ⟨x, hx, y, r1, r2⟩
theorem Gfp.symm (h : Gfp true es es' m n R) (h' : Gfp true es' es n m S) {i j : Nat} (a : rel R i j) : rel S j i := by
  refine h'.great (fun j i => rel R i j) ?_ j i a
  intro j i a
  refine ⟨(rel_lt h.toInv a).2, (rel_lt h.toInv a).1, fun l x hx => ?_, fun _ l z hz => ?_⟩
  · exact (h.post i j a).2 rfl l x hx
  · exact (h.post i j a).1 l z hz
theorem Gfp.weak (h : Gfp true es es' m n R) (h' : Gfp false es es' m n S) {i j : Nat} (a : rel R i j) : rel S i j := by
  refine h'.great (rel R) ?_ i j a
  intro i j a
  exact ⟨(rel_lt h.toInv a).1, (rel_lt h.toInv a).2, (h.post i j a).1, fun hb => by cases hb⟩
/-- Fewer edges are simulated. -/
theorem Gfp.fewer (hf : Few m es) (hs : ∀ e ∈ es, e ∈ es') (h : Gfp false es es' m m R) {i : Nat} (hi : i < m) : rel R i i := by
  refine h.great (fun i j => i = j ∧ i < m) ?_ i i ⟨rfl, hi⟩
  rintro i j ⟨rfl, hi⟩
  refine ⟨hi, hi, fun l x hx => ?_, fun hb => by cases hb⟩
  obtain ⟨e, he, h1, h2, h3⟩ := hx
  have := hf e he
  exact ⟨x, ⟨e, hs e he, h1, h2, h3⟩, rfl, by omega⟩
end

theorem rel_iff {R : List Nat} {i r : Nat} (hr : R[i]? = some r) (j : Nat) : r.testBit j = true ↔ rel R i j := by
  unfold rel
  rw [List.getD_eq_getElem?_getD, hr]
  simp only [Option.getD_some]
  exact ⟨fun x => ⟨(List.getElem?_eq_some_iff.1 hr).1, x⟩, fun x => x.2⟩
theorem or_same {a b : Nat} (h : ∀ k, a.testBit k = true → b.testBit k = true) : a ||| b = b := by
  apply Nat.eq_of_testBit_eq
  intro k
  rw [Nat.testBit_or]
  have := h k
  cases ha : a.testBit k <;> simp_all
/-- The greatest relation of the edges of one system. -/
structure Eqv (p : Nat) (R : List Nat) : Prop where
  len : R.length = p
  lt : ∀ i j, rel R i j → i < p ∧ j < p
  refl : ∀ i, i < p → rel R i i
  symm : ∀ i j, rel R i j → rel R j i
  trans : ∀ i j k, rel R i j → rel R j k → rel R i k
theorem Gfp.eqv {es : List Edg} {p : Nat} {R : List Nat} (h : Gfp true es es p p R) (hf : Few p es) : Eqv p R :=
  ⟨h.len, fun _ _ a => rel_lt h.toInv a, fun _ hi => gfp_self hf h hi, fun _ _ a => h.symm h a, fun _ _ _ a b => h.trans h h a b⟩
theorem Eqv.same {p : Nat} {R : List Nat} (h : Eqv p R) {i j : Nat} (a : rel R i j) : R.getD i 0 = R.getD j 0 := by
  apply Nat.eq_of_testBit_eq
  intro k
  rw [Bool.eq_iff_iff]
  constructor
  · intro hk
    exact (h.trans j i k (h.symm i j a) (rel_getD hk)).2
  · intro hk
    exact (h.trans i j k a (rel_getD hk)).2
/-- The least state that is related to i. -/
theorem Eqv.least {p : Nat} {R : List Nat} (h : Eqv p R) (hp : p ≤ 32) {i : Nat} (hi : i < p) : rel R i (lst (R.getD i 0)) ∧ lst (R.getD i 0) ≤ i ∧ lst (R.getD (lst (R.getD i 0)) 0) = lst (R.getD i 0) := by
  obtain ⟨t, _, h2, h3, h4⟩ := lst_spec (x := R.getD i 0) (k := i) (by omega) (h.refl i hi).2
  have hr : rel R i (lst (R.getD i 0)) := rel_getD h2
  exact ⟨hr, h3, by rw [← h.same hr]⟩

/-- The class of the state i. -/
def cl (R : List Nat) (i : Nat) : Nat := (clsOf R (i + 1)).1.getD i 0
theorem clsOf_get {R : List Nat} {k i : Nat} (hi : i < k) : (clsOf R k).1.getD i 0 = cl R i := by
  induction k with
  | zero => omega
  | succ k ih =>
    by_cases h : i = k
    · subst h; rfl
    · have hl := clsOf_length R k
      rw [← ih (by omega)]
      by_cases hb : lst (R.getD k 0) = k
      · rw [clsOf_yes hb, List.getD_eq_getElem?_getD, List.getD_eq_getElem?_getD, List.getElem?_append_left (by omega)]
      · rw [clsOf_no hb]
        simp only [List.getD_eq_getElem?_getD]
        rw [List.getElem?_append_left (by omega)]
theorem cl_yes {R : List Nat} {k : Nat} (h : lst (R.getD k 0) = k) : cl R k = (clsOf R k).2 := by
  have hl := clsOf_length R k
  rw [cl, clsOf_yes h, List.getD_eq_getElem?_getD, List.getElem?_append_right (by omega), hl, Nat.sub_self]
  rfl
theorem cl_no {R : List Nat} {k : Nat} (h : ¬ lst (R.getD k 0) = k) (hk : lst (R.getD k 0) < k) : cl R k = cl R (lst (R.getD k 0)) := by
  have hl := clsOf_length R k
  rw [cl, clsOf_no h, List.getD_eq_getElem?_getD, List.getElem?_append_right (by omega), hl, Nat.sub_self]
  exact clsOf_get hk
theorem num_mono (R : List Nat) {a b : Nat} (h : a ≤ b) : (clsOf R a).2 ≤ (clsOf R b).2 := by
  induction b with
  | zero => rw [Nat.le_zero.1 h]; exact Nat.le_refl _
  | succ b ih =>
    by_cases e : a = b + 1
    · subst e; exact Nat.le_refl _
    · have h1 := ih (by omega)
      have h2 : (clsOf R b).2 ≤ (clsOf R (b + 1)).2 := by
        by_cases hb : lst (R.getD b 0) = b
        · rw [clsOf_yes hb]; exact Nat.le_succ _
        · rw [clsOf_no hb]; exact Nat.le_refl _
      exact Nat.le_trans h1 h2
theorem num_step {R : List Nat} {a : Nat} (h : lst (R.getD a 0) = a) {b : Nat} (hb : a < b) : cl R a < (clsOf R b).2 := by
  have := num_mono R (show a + 1 ≤ b by omega)
  rw [clsOf_yes h] at this
  rw [cl_yes h]
  exact this
section
variable {p : Nat} {R : List Nat} (h : Eqv p R) (hp : p ≤ 32)
include h hp
theorem Eqv.cl_least {i : Nat} (hi : i < p) : cl R i = cl R (lst (R.getD i 0)) := by
  obtain ⟨_, h2, _⟩ := h.least hp hi
  by_cases e : lst (R.getD i 0) = i
  · rw [e]
  · exact cl_no e (by omega)
theorem Eqv.cl_iff {i j : Nat} (hi : i < p) (hj : j < p) : cl R i = cl R j ↔ rel R i j := by
  obtain ⟨a1, a2, a3⟩ := h.least hp hi
  obtain ⟨b1, b2, b3⟩ := h.least hp hj
  constructor
  · intro e
    rw [h.cl_least hp hi, h.cl_least hp hj] at e
    have hm : lst (R.getD i 0) = lst (R.getD j 0) := by
      rcases Nat.lt_trichotomy (lst (R.getD i 0)) (lst (R.getD j 0)) with x | x | x
      · have := num_step a3 x
        rw [e, cl_yes b3] at this
        omega
      · exact x
      · have := num_step b3 x
        rw [← e, cl_yes a3] at this
        omega
    rw [← hm] at b1
    exact h.trans i _ j a1 (h.symm j _ b1)
  · intro r
    rw [h.cl_least hp hi, h.cl_least hp hj, h.same r]
/-- Numbered in order. -/
theorem Eqv.cl_order {i : Nat} (hi : i < p) : cl R i ≤ (clsOf R i).2 ∧ (clsOf R (i + 1)).2 = if cl R i = (clsOf R i).2 then (clsOf R i).2 + 1 else (clsOf R i).2 := by
  obtain ⟨a1, a2, a3⟩ := h.least hp hi
  by_cases e : lst (R.getD i 0) = i
  · rw [cl_yes e, if_pos rfl, clsOf_yes e]
    exact ⟨Nat.le_refl _, rfl⟩
  · have hlt := num_step a3 (show lst (R.getD i 0) < i by omega)
    rw [← h.cl_least hp hi] at hlt
    rw [if_neg (by omega), clsOf_no e]
    exact ⟨by omega, rfl⟩
theorem Eqv.cl_zero (h0 : 0 < p) : cl R 0 = 0 := by
  have := (h.cl_order hp h0).1
  have e : (clsOf R 0).2 = 0 := rfl
  omega
end

/-- The classes of the states of a set. -/
def img (R : List Nat) (x : Nat) : Nat → Nat
  | 0 => 0
  | k + 1 => if x.testBit k then img R x k ||| 2 ^ cl R k else img R x k
theorem img_bit (R : List Nat) (x k b : Nat) : (img R x k).testBit b = true ↔ ∃ n, n < k ∧ x.testBit n = true ∧ cl R n = b := by
  induction k with
  | zero => simp [img]
  | succ k ih =>
    unfold img
    split
    · rename_i hx
      rw [Nat.testBit_or, Bool.or_eq_true, ih, Nat.testBit_two_pow, decide_eq_true_eq]
      constructor
      · rintro (⟨n, h1, h2⟩ | e)
        · exact ⟨n, by omega, h2⟩
        · exact ⟨k, by omega, hx, e⟩
      · rintro ⟨n, h1, h2, h3⟩
        by_cases e : n = k
        · subst e; exact Or.inr h3
        · exact Or.inl ⟨n, by omega, h2, h3⟩
    · rename_i hx
      rw [ih]
      constructor
      · rintro ⟨n, h1, h2⟩
        exact ⟨n, by omega, h2⟩
      · rintro ⟨n, h1, h2, h3⟩
        by_cases e : n = k
        · subst e; exact absurd h2 hx
        · exact ⟨n, by omega, h2, h3⟩
theorem img_lt {R : List Nat} {x k B : Nat} (h : ∀ n, n < k → cl R n < B) : img R x k < 2 ^ B := by
  apply Nat.lt_pow_two_of_testBit
  intro b hb
  rw [Bool.eq_false_iff]
  intro hc
  obtain ⟨n, h1, _, h3⟩ := (img_bit R x k b).1 hc
  have := h n h1
  omega
theorem cl_lt {p : Nat} {R : List Nat} (h : Eqv p R) (hp : p ≤ 32) {i : Nat} (hi : i < p) : cl R i < p := by
  have h1 := (h.cl_order hp hi).1
  have h2 := clsOf_le R i
  omega
/-- States of one class lead to the same classes. -/
theorem img_same {es : List Edg} {p : Nat} {R : List Nat} (h : Gfp true es es p p R) (hf : Few p es) (hp : p ≤ 32) {i j : Nat} (hi : i < p) (hj : j < p) (e : cl R i = cl R j) (l : Nat) : img R (succ es i l) p = img R (succ es j l) p := by
  have hv := h.eqv hf
  have hr := (hv.cl_iff hp hi hj).1 e
  have half : ∀ i j b, rel R i j → (img R (succ es i l) p).testBit b = true → (img R (succ es j l) p).testBit b = true := by
    intro i j b hr hb
    obtain ⟨n, h1, h2, h3⟩ := (img_bit _ _ _ _).1 hb
    obtain ⟨n', h4, h5⟩ := (h.post i j hr).1 l n ((E_iff hf i l n).2 h2)
    have hn' := (hv.lt _ _ h5).2
    exact (img_bit _ _ _ _).2 ⟨n', hn', (E_iff hf j l n').1 h4, by rw [← h3]; exact ((hv.cl_iff hp h1 hn').2 h5).symm⟩
  apply Nat.eq_of_testBit_eq
  intro b
  rw [Bool.eq_iff_iff]
  exact ⟨half i j b hr, half j i b (hv.symm _ _ hr)⟩
end Go.Proofs.Ytcmgkekaeafgaaa
