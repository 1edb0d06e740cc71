/- The laws' own marks: numbers written into what was returned, and asked for later; walked. | BisimClasses of the program and of the reference, walked. | Plain: the greatest relation of a system to itself is an order, with both an equivalence; classes are its classes. No program in sight. | Plain: a search through words in their order (shorter first, then by letters); what it finds is the first word that leads to a goal. No program in sight. | impl.firstPath's closure (a visit of some nodes), walked. | impl.firstPath's closure (a visit of some nodes), walked. | slices.Reverse at bytes, walked. | impl.letterByte; slices.Reverse at no byte. -/
import Derived.Test.YtbifoikcmjmdeaaDoorG02
import Derived.Test.YtbifoikcmjmdeaaDoorG05
import Derived.Test.YtbifoikcmjmdeaaDoorG07
import Derived.Test.YtbifoikcmjmdeaaDoorG01
import Derived.Test.YtbifoikcmjmdeaaDoorG03
import Derived.Deep.DeepCutAuto
import Derived.Shelf.RegionOpenPlain
import Derived.Deep.LoopGhost
import Derived.Sort.WalkB12
import Derived.Lib.SlicesMore
import Derived.Laws.BytesArg
namespace Go.Proofs.YtbifoikcmjmdeaaDoor
open Go Go.RowKit
set_option maxHeartbeats 400000

/-- The marks from k on. -/
def marks (k n : Nat) : List Nat := (List.range n).map (k + ·)
theorem marks_length (k n : Nat) : (marks k n).length = n := by simp [marks]
theorem marks_get {k n i : Nat} (h : i < n) : (marks k n)[i]? = some (k + i) := by simp [marks, h]
theorem marks_take {k n i : Nat} (h : i ≤ n) : (marks k n).take i = marks k i := by
  unfold marks
  rw [← List.map_take, List.take_range, Nat.min_eq_left h]
theorem own_some' {w : World} {base : Nat} {e : TypeId} {size n c : Nat} {A : Option Addr} {xs : List Value} (h : w.ownsRow base e size (.slice A n c) n xs) (hn : 0 < n) : ∃ g, A = some ⟨g, 0, none⟩ ∧ base ≤ g ∧ g < w.heap.size := by
  rcases h.2 with ⟨_, h0⟩ | ⟨g, cap, cur, hv, hg, hh, _⟩
  · omega
  · injection hv with h1 h2 h3
    exact ⟨g, h1, hg, (Array.getElem?_eq_some_iff.1 hh).1⟩
/-- The block of a slice. -/
def blk (A : Option Addr) (b : Nat) : Prop := ∃ a, A = some a ∧ a.block = b

end Go.Proofs.YtbifoikcmjmdeaaDoor

namespace Go.Proofs.YtbifoikcmjmdeaaDoor
open Go Go.RowKit
set_option maxHeartbeats 1000000

/-- The least number of a set. -/
def lst (x : Nat) : Nat := (letters x 32).headD 0
theorem range_head (n : Nat) (f : Nat → Bool) (k : Nat) (t : List Nat) (h : (List.range n).filter f = k :: t) : f k = true ∧ k < n ∧ ∀ i, i < k → f i = false := by
  have hk : k ∈ (List.range n).filter f := by rw [h]; simp
  rw [List.mem_filter, List.mem_range] at hk
  refine ⟨hk.2, hk.1, fun i hi => ?_⟩
  cases hf : f i
  · rfl
  · have hm : i ∈ (List.range n).filter f := List.mem_filter.2 ⟨List.mem_range.2 (by omega), hf⟩
    have hp : ((List.range n).filter f).Pairwise (· < ·) := List.Pairwise.filter _ List.pairwise_lt_range
    rw [h] at hm hp
    rcases List.mem_cons.1 hm with h1 | h1
    · omega
    · have := (List.pairwise_cons.1 hp).1 i h1
      omega
theorem lst_spec {x k : Nat} (hk : k < 32) (hb : x.testBit k = true) : ∃ t, letters x 32 = lst x :: t ∧ x.testBit (lst x) = true ∧ lst x ≤ k ∧ ∀ i, i < lst x → x.testBit i = false := by
  cases h : letters x 32 with
  | nil =>
    have : k ∈ letters x 32 := mem_letters.2 ⟨hk, hb⟩
    rw [h] at this
    cases this
  | cons a t =>
    have hl : lst x = a := by unfold lst; rw [h]; rfl
    obtain ⟨h1, h2, h3⟩ := range_head 32 _ a t h
    rw [hl]
    refine ⟨t, rfl, h1, ?_, h3⟩
    rcases Nat.lt_or_ge k a with h4 | h4
    · rw [h3 k h4] at hb; cases hb
    · exact h4
/-- The classes of the first k states, and how many there are. -/
def clsOf (R : List Nat) : Nat → List Nat × Nat
  | 0 => ([], 0)
  | k + 1 => if lst (R.getD k 0) = k then ((clsOf R k).1 ++ [(clsOf R k).2], (clsOf R k).2 + 1) else ((clsOf R k).1 ++ [(clsOf R k).1.getD (lst (R.getD k 0)) 0], (clsOf R k).2)
theorem clsOf_length (R : List Nat) (k : Nat) : (clsOf R k).1.length = k := by
  induction k with
  | zero => rfl
  | succ k ih => unfold clsOf; split <;> simp [ih]
theorem clsOf_le (R : List Nat) (k : Nat) : (clsOf R k).2 ≤ k := by
  induction k with
  | zero => exact Nat.le_refl _
  | succ k ih => unfold clsOf; split <;> simp <;> omega
theorem clsOf_yes {R : List Nat} {k : Nat} (h : lst (R.getD k 0) = k) : clsOf R (k + 1) = ((clsOf R k).1 ++ [(clsOf R k).2], (clsOf R k).2 + 1) := by rw [clsOf, if_pos h]
theorem clsOf_no {R : List Nat} {k : Nat} (h : ¬ lst (R.getD k 0) = k) : clsOf R (k + 1) = ((clsOf R k).1 ++ [(clsOf R k).1.getD (lst (R.getD k 0)) 0], (clsOf R k).2) := by rw [clsOf, if_neg h]
/-- The classes of a system. -/
noncomputable def clsR (s : Sys) : List Nat := if sysValid s then (clsOf (gfp true s s) s.st.toNat).1 else []
theorem clsR_length (s : Sys) : (clsR s).length ≤ 16 := by
  unfold clsR
  split
  · rename_i h
    obtain ⟨p, hp, _, hp2, _⟩ := valid_few h
    rw [clsOf_length, hp]
    exact hp2
  · simp
/-- Every state is related to itself. -/
theorem gfp_self {both : Bool} {es : List Edg} {p : Nat} {R : List Nat} (hf : Few p es) (h : Gfp both es es p p R) {i : Nat} (hi : i < p) : rel R i i := by
  refine h.great (fun i j => i = j ∧ i < p) ?_ i i ⟨rfl, hi⟩
  rintro i j ⟨rfl, hi⟩
  refine ⟨hi, hi, fun l k hk => ⟨k, hk, rfl, ?_⟩, fun _ l k hk => ⟨k, hk, rfl, ?_⟩⟩
  all_goals
    obtain ⟨e, he, _, _, h3⟩ := hk
    have := hf e he
    omega

/-- Classes and their number. -/
def RetCls (w : World) (x : List Nat × Nat) (e : Ending) (w' : World) : Prop := ∃ B m d, e = .returned (.tuple #[.slice B m d, .int .i64 (x.2 : Nat)]) ∧ OwnN w' w.heap.size B m d x.1 ∧ Ext w w'
end Go.Proofs.YtbifoikcmjmdeaaDoor

namespace Go.Proofs.YtbifoikcmjmdeaaDoor
open Go Go.RowKit

section
variable {both : Bool} {es es' es'' : List Edg} {m n q : Nat} {R S T : List Nat}
theorem Gfp.trans (h : Gfp both es es' m n R) (h' : Gfp both es' es'' n q S) (h'' : Gfp both es es'' m q T) {i j k : Nat} (a : rel R i j) (b : rel S j k) : rel T i k := by
  refine h''.great (fun i k => ∃ j, rel R i j ∧ rel S j k) ?_ i k ⟨j, a, b⟩
  rintro i k ⟨j, a, b⟩
  refine ⟨(rel_lt h.toInv a).1, (rel_lt h'.toInv b).2, fun l x hx => ?_, fun hb l z hz => ?_⟩
  · obtain ⟨y, hy, r1⟩ := (h.post i j a).1 l x hx
    obtain ⟨z, hz, r2⟩ := (h'.post j k b).1 l y hy
    exact ⟨z, hz, y, r1, r2⟩
  · obtain ⟨y, hy, r2⟩ := (h'.post j k b).2 hb l z hz
    obtain ⟨x, hx, r1⟩ := (h.post i j a).2 hb l y hy
    exact ⟨x, hx, y, r1, r2⟩
theorem Gfp.symm (h : Gfp true es es' m n R) (h' : Gfp true es' es n m S) {i j : Nat} (a : rel R i j) : rel S j i := by
  refine h'.great (fun j i => rel R i j) ?_ j i a
  intro j i a
  refine ⟨(rel_lt h.toInv a).2, (rel_lt h.toInv a).1, fun l x hx => ?_, fun _ l z hz => ?_⟩
  · exact (h.post i j a).2 rfl l x hx
  · exact (h.post i j a).1 l z hz
theorem Gfp.weak (h : Gfp true es es' m n R) (h' : Gfp false es es' m n S) {i j : Nat} (a : rel R i j) : rel S i j := by
  refine h'.great (rel R) ?_ i j a
  intro i j a
  exact ⟨(rel_lt h.toInv a).1, (rel_lt h.toInv a).2, (h.post i j a).1, fun hb => by cases hb⟩
/-- Fewer edges are simulated. -/
theorem Gfp.fewer (hf : Few m es) (hs : ∀ e ∈ es, e ∈ es') (h : Gfp false es es' m m R) {i : Nat} (hi : i < m) : rel R i i := by
  refine h.great (fun i j => i = j ∧ i < m) ?_ i i ⟨rfl, hi⟩
  rintro i j ⟨rfl, hi⟩
  refine ⟨hi, hi, fun l x hx => ?_, fun hb => by cases hb⟩
  obtain ⟨e, he, h1, h2, h3⟩ := hx
  have := hf e he
  exact ⟨x, ⟨e, hs e he, h1, h2, h3⟩, rfl, by omega⟩
end

theorem rel_iff {R : List Nat} {i r : Nat} (hr : R[i]? = some r) (j : Nat) : r.testBit j = true ↔ rel R i j := by
  unfold rel
  rw [List.getD_eq_getElem?_getD, hr]
  simp only [Option.getD_some]
  exact ⟨fun x => ⟨(List.getElem?_eq_some_iff.1 hr).1, x⟩, fun x => x.2⟩
theorem or_same {a b : Nat} (h : ∀ k, a.testBit k = true → b.testBit k = true) : a ||| b = b := by
  apply Nat.eq_of_testBit_eq
  intro k
  rw [Nat.testBit_or]
  have := h k
  cases ha : a.testBit k <;> simp_all
/-- The greatest relation of the edges of one system. -/
structure Eqv (p : Nat) (R : List Nat) : Prop where
  len : R.length = p
  lt : ∀ i j, rel R i j → i < p ∧ j < p
  refl : ∀ i, i < p → rel R i i
  symm : ∀ i j, rel R i j → rel R j i
  trans : ∀ i j k, rel R i j → rel R j k → rel R i k
theorem Gfp.eqv {es : List Edg} {p : Nat} {R : List Nat} (h : Gfp true es es p p R) (hf : Few p es) : Eqv p R :=
  ⟨h.len, fun _ _ a => rel_lt h.toInv a, fun _ hi => gfp_self hf h hi, fun _ _ a => h.symm h a, fun _ _ _ a b => h.trans h h a b⟩
theorem Eqv.same {p : Nat} {R : List Nat} (h : Eqv p R) {i j : Nat} (a : rel R i j) : R.getD i 0 = R.getD j 0 := by
  apply Nat.eq_of_testBit_eq
  intro k
  rw [Bool.eq_iff_iff]
  constructor
  · intro hk
    exact (h.trans j i k (h.symm i j a) (rel_getD hk)).2
  · intro hk
    exact (h.trans i j k a (rel_getD hk)).2
/-- The least state that is related to i. -/
theorem Eqv.least {p : Nat} {R : List Nat} (h : Eqv p R) (hp : p ≤ 32) {i : Nat} (hi : i < p) : rel R i (lst (R.getD i 0)) ∧ lst (R.getD i 0) ≤ i ∧ lst (R.getD (lst (R.getD i 0)) 0) = lst (R.getD i 0) := by
  obtain ⟨t, _, h2, h3, h4⟩ := lst_spec (x := R.getD i 0) (k := i) (by omega) (h.refl i hi).2
  have hr : rel R i (lst (R.getD i 0)) := rel_getD h2
  exact ⟨hr, h3, by rw [← h.same hr]⟩

/-- The class of the state i. -/
def cl (R : List Nat) (i : Nat) : Nat := (clsOf R (i + 1)).1.getD i 0
theorem clsOf_get {R : List Nat} {k i : Nat} (hi : i < k) : (clsOf R k).1.getD i 0 = cl R i := by
  induction k with
  | zero => omega
  | succ k ih =>
    by_cases h : i = k
    · subst h; rfl
    · have hl := clsOf_length R k
      rw [← ih (by omega)]
      by_cases hb : lst (R.getD k 0) = k
      · rw [clsOf_yes hb, List.getD_eq_getElem?_getD, List.getD_eq_getElem?_getD, List.getElem?_append_left (by omega)]
      · rw [clsOf_no hb]
        simp only [List.getD_eq_getElem?_getD]
        rw [List.getElem?_append_left (by omega)]
theorem cl_yes {R : List Nat} {k : Nat} (h : lst (R.getD k 0) = k) : cl R k = (clsOf R k).2 := by
  have hl := clsOf_length R k
  rw [cl, clsOf_yes h, List.getD_eq_getElem?_getD, List.getElem?_append_right (by omega), hl, Nat.sub_self]
  rfl
theorem cl_no {R : List Nat} {k : Nat} (h : ¬ lst (R.getD k 0) = k) (hk : lst (R.getD k 0) < k) : cl R k = cl R (lst (R.getD k 0)) := by
  have hl := clsOf_length R k
  rw [cl, clsOf_no h, List.getD_eq_getElem?_getD, List.getElem?_append_right (by omega), hl, Nat.sub_self]
  exact clsOf_get hk
theorem num_mono (R : List Nat) {a b : Nat} (h : a ≤ b) : (clsOf R a).2 ≤ (clsOf R b).2 := by
  induction b with
  | zero => rw [Nat.le_zero.1 h]; exact Nat.le_refl _
  | succ b ih =>
    by_cases e : a = b + 1
    · subst e; exact Nat.le_refl _
    · have h1 := ih (by omega)
      have h2 : (clsOf R b).2 ≤ (clsOf R (b + 1)).2 := by
        by_cases hb : lst (R.getD b 0) = b
        · rw [clsOf_yes hb]; exact Nat.le_succ _
        · rw [clsOf_no hb]; exact Nat.le_refl _
      exact Nat.le_trans h1 h2
theorem num_step {R : List Nat} {a : Nat} (h : lst (R.getD a 0) = a) {b : Nat} (hb : a < b) : cl R a < (clsOf R b).2 := by
  have := num_mono R (show a + 1 ≤ b by omega)
  rw [clsOf_yes h] at this
  rw [cl_yes h]
  exact this
section
variable {p : Nat} {R : List Nat} (h : Eqv p R) (hp : p ≤ 32)
include h hp
theorem Eqv.cl_least {i : Nat} (hi : i < p) : cl R i = cl R (lst (R.getD i 0)) := by
  obtain ⟨_, h2, _⟩ := h.least hp hi
  by_cases e : lst (R.getD i 0) = i
  · rw [e]
  · exact cl_no e (by omega)
theorem Eqv.cl_iff {i j : Nat} (hi : i < p) (hj : j < p) : cl R i = cl R j ↔ rel R i j := by
  obtain ⟨a1, a2, a3⟩ := h.least hp hi
  obtain ⟨b1, b2, b3⟩ := h.least hp hj
  constructor
  · intro e
    rw [h.cl_least hp hi, h.cl_least hp hj] at e
    have hm : lst (R.getD i 0) = lst (R.getD j 0) := by
      rcases Nat.lt_trichotomy (lst (R.getD i 0)) (lst (R.getD j 0)) with x | x | x
      · have := num_step a3 x
        rw [e, cl_yes b3] at this
        omega
      · exact x
      · have := num_step b3 x
        rw [← e, cl_yes a3] at this
        omega
    rw [← hm] at b1
    exact h.trans i _ j a1 (h.symm j _ b1)
  · intro r
    rw [h.cl_least hp hi, h.cl_least hp hj, h.same r]
/-- Numbered in order. -/
theorem Eqv.cl_order {i : Nat} (hi : i < p) : cl R i ≤ (clsOf R i).2 ∧ (clsOf R (i + 1)).2 = if cl R i = (clsOf R i).2 then (clsOf R i).2 + 1 else (clsOf R i).2 := by
  obtain ⟨a1, a2, a3⟩ := h.least hp hi
  by_cases e : lst (R.getD i 0) = i
  · rw [cl_yes e, if_pos rfl, clsOf_yes e]
    exact ⟨Nat.le_refl _, rfl⟩
  · have hlt := num_step a3 (show lst (R.getD i 0) < i by omega)
    rw [← h.cl_least hp hi] at hlt
    rw [if_neg (by omega), clsOf_no e]
    exact ⟨by omega, rfl⟩
theorem Eqv.cl_zero (h0 : 0 < p) : cl R 0 = 0 := by
  have := (h.cl_order hp h0).1
  have e : (clsOf R 0).2 = 0 := rfl
  omega
end

/-- The classes of the states of a set. -/
def img (R : List Nat) (x : Nat) : Nat → Nat
  | 0 => 0
  | k + 1 => if x.testBit k then img R x k ||| 2 ^ cl R k else img R x k
theorem img_bit (R : List Nat) (x k b : Nat) : (img R x k).testBit b = true ↔ ∃ n, n < k ∧ x.testBit n = true ∧ cl R n = b := by
  induction k with
  | zero => simp [img]
  | succ k ih =>
    unfold img
    split
    · rename_i hx
      rw [Nat.testBit_or, Bool.or_eq_true, ih, Nat.testBit_two_pow, decide_eq_true_eq]
      constructor
      · rintro (⟨n, h1, h2⟩ | e)
        · exact ⟨n, by omega, h2⟩
        · exact ⟨k, by omega, hx, e⟩
      · rintro ⟨n, h1, h2, h3⟩
        by_cases e : n = k
        · subst e; exact Or.inr h3
        · exact Or.inl ⟨n, by omega, h2, h3⟩
    · rename_i hx
      rw [ih]
      constructor
      · rintro ⟨n, h1, h2⟩
        exact ⟨n, by omega, h2⟩
      · rintro ⟨n, h1, h2, h3⟩
        by_cases e : n = k
        · subst e; exact absurd h2 hx
        · exact ⟨n, by omega, h2, h3⟩
theorem img_lt {R : List Nat} {x k B : Nat} (h : ∀ n, n < k → cl R n < B) : img R x k < 2 ^ B := by
  apply Nat.lt_pow_two_of_testBit
  intro b hb
  rw [Bool.eq_false_iff]
  intro hc
  obtain ⟨n, h1, _, h3⟩ := (img_bit R x k b).1 hc
  have := h n h1
  omega
theorem cl_lt {p : Nat} {R : List Nat} (h : Eqv p R) (hp : p ≤ 32) {i : Nat} (hi : i < p) : cl R i < p := by
  have h1 := (h.cl_order hp hi).1
  have h2 := clsOf_le R i
  omega
/-- States of one class lead to the same classes. -/
theorem img_same {es : List Edg} {p : Nat} {R : List Nat} (h : Gfp true es es p p R) (hf : Few p es) (hp : p ≤ 32) {i j : Nat} (hi : i < p) (hj : j < p) (e : cl R i = cl R j) (l : Nat) : img R (succ es i l) p = img R (succ es j l) p := by
  have hv := h.eqv hf
  have hr := (hv.cl_iff hp hi hj).1 e
  have half : ∀ i j b, rel R i j → (img R (succ es i l) p).testBit b = true → (img R (succ es j l) p).testBit b = true := by
    intro i j b hr hb
    obtain ⟨n, h1, h2, h3⟩ := (img_bit _ _ _ _).1 hb
    obtain ⟨n', h4, h5⟩ := (h.post i j hr).1 l n ((E_iff hf i l n).2 h2)
    have hn' := (hv.lt _ _ h5).2
    exact (img_bit _ _ _ _).2 ⟨n', hn', (E_iff hf j l n').1 h4, by rw [← h3]; exact ((hv.cl_iff hp h1 hn').2 h5).symm⟩
  apply Nat.eq_of_testBit_eq
  intro b
  rw [Bool.eq_iff_iff]
  exact ⟨half i j b hr, half j i b (hv.symm _ _ hr)⟩
end Go.Proofs.YtbifoikcmjmdeaaDoor

namespace Go.Proofs.YtbifoikcmjmdeaaDoor
open Go Go.RowKit

/-- The number of a word of letters below 6: numbers go as words are ordered. -/
def wval (w : List Nat) : Nat := w.foldl (fun v l => v * 7 + (l + 1)) 0
theorem wval_snoc (w : List Nat) (l : Nat) : wval (w ++ [l]) = wval w * 7 + (l + 1) := by simp [wval]
theorem wval_nil : wval [] = 0 := rfl
theorem snoc_cases {α : Type} (w : List α) : w = [] ∨ ∃ u l, w = u ++ [l] := by
  rcases List.eq_nil_or_concat w with h | ⟨u, l, h⟩
  · exact Or.inl h
  · exact Or.inr ⟨u, l, by simpa using h⟩
theorem wval_inj : ∀ (n : Nat) (u v : List Nat), u.length ≤ n → (∀ l ∈ u, l < 6) → (∀ l ∈ v, l < 6) → wval u = wval v → u = v := by
  intro n
  induction n with
  | zero =>
    intro u v hu _ _ h
    obtain rfl : u = [] := List.eq_nil_of_length_eq_zero (by omega)
    rcases snoc_cases v with rfl | ⟨v, m, rfl⟩
    · rfl
    · rw [wval_snoc, wval_nil] at h; omega
  | succ n ih =>
    intro u v hu h1 h2 h
    rcases snoc_cases u with rfl | ⟨u, l, rfl⟩
    · rcases snoc_cases v with rfl | ⟨v, m, rfl⟩
      · rfl
      · rw [wval_snoc, wval_nil] at h; omega
    · rcases snoc_cases v with rfl | ⟨v, m, rfl⟩
      · rw [wval_snoc, wval_nil] at h; omega
      · have hl := h1 l (by simp)
        have hm := h2 m (by simp)
        rw [wval_snoc, wval_snoc] at h
        have e1 : l = m := by omega
        have e2 : wval u = wval v := by omega
        simp only [List.length_append, List.length_singleton] at hu
        rw [e1, ih u v (by omega) (fun x hx => h1 x (by simp [hx])) (fun x hx => h2 x (by simp [hx])) e2]

/-- The nodes that a word leads to. -/
inductive Goes (d : Nat → Nat → List Nat) (start : List Nat) : List Nat → Nat → Prop where
  | nil {x : Nat} (h : x ∈ start) : Goes d start [] x
  | snoc {w : List Nat} {l n x : Nat} (h : Goes d start w n) (hx : x ∈ d n l) : Goes d start (w ++ [l]) x
theorem Goes.inv {d : Nat → Nat → List Nat} {start w : List Nat} {l x : Nat} (h : Goes d start (w ++ [l]) x) : ∃ n, Goes d start w n ∧ x ∈ d n l := by
  generalize hv : w ++ [l] = v at h
  cases h with
  | nil _ => simp at hv
  | @snoc w' l' n _ h hx =>
    have := List.append_inj' hv rfl
    obtain ⟨rfl, h2⟩ := this
    simp at h2
    subst h2
    exact ⟨n, h, hx⟩
theorem Goes.inv_nil {d : Nat → Nat → List Nat} {start : List Nat} {x : Nat} (h : Goes d start [] x) : x ∈ start := by
  generalize hv : ([] : List Nat) = v at h
  cases h with
  | nil h => exact h
  | snoc _ _ => simp at hv

/-- Nodes seen so far, and the new ones among some nodes. -/
def visN (st : List Bool × List Nat) (n : Nat) : List Bool × List Nat := if st.1.getD n true then st else (st.1.set n true, st.2 ++ [n])
def vis (S : List Bool) (ns : List Nat) : List Bool × List Nat := ns.foldl visN (S, [])
theorem vis_snoc (S : List Bool) (ns : List Nat) (n : Nat) : vis S (ns ++ [n]) = visN (vis S ns) n := by simp [vis]
theorem vis_spec (S : List Bool) (ns : List Nat) (hn : ∀ n ∈ ns, n < S.length) :
    (vis S ns).1.length = S.length ∧ (∀ x, x < S.length → ((vis S ns).1.getD x true = true ↔ S.getD x true = true ∨ x ∈ ns)) ∧ (∀ x, x ∈ (vis S ns).2 ↔ x ∈ ns ∧ S.getD x true = false) := by
  have key : ∀ k, k ≤ ns.length → (vis S (ns.take k)).1.length = S.length ∧ (∀ x, x < S.length → ((vis S (ns.take k)).1.getD x true = true ↔ S.getD x true = true ∨ x ∈ ns.take k)) ∧ (∀ x, x ∈ (vis S (ns.take k)).2 ↔ x ∈ ns.take k ∧ S.getD x true = false) := by
    intro k
    induction k with
    | zero => intro _; exact ⟨rfl, fun x _ => by simp [vis], fun x => by simp [vis]⟩
    | succ k ih =>
      intro hk
      obtain ⟨h1, h2, h3⟩ := ih (by omega)
      have hx : ns[k]? = some ns[k] := List.getElem?_eq_getElem (by omega)
      have hnk := hn ns[k] (List.getElem_mem _)
      rw [List.take_add_one, hx]
      simp only [Option.toList_some]
      generalize ns[k] = n at *
      rw [vis_snoc]
      generalize vis S (ns.take k) = st at *
      obtain ⟨T, fr⟩ := st
      simp only at h1 h2 h3
      unfold visN
      simp only
      cases hT : T.getD n true
      · have hTS := h2 n hnk
        rw [hT] at hTS
        have hnS : S.getD n true = false := by cases h : S.getD n true <;> simp_all
        have hnn : n ∉ ns.take k := fun h => by simp [h] at hTS
        refine ⟨by simp [h1], fun x hx => ?_, fun x => ?_⟩
        · simp only [Bool.false_eq_true, if_false, List.getD_eq_getElem?_getD, List.mem_append, List.mem_singleton]
          by_cases e : x = n
          · subst e
            rw [List.getElem?_set_self (by omega)]
            simp
          · rw [List.getElem?_set_ne (by omega)]
            have := h2 x hx
            rw [List.getD_eq_getElem?_getD, List.getD_eq_getElem?_getD] at this
            simp only [e, or_false]
            exact this
        · simp only [Bool.false_eq_true, if_false, List.mem_append, List.mem_singleton]
          constructor
          · rintro (h | rfl)
            · exact ⟨Or.inl ((h3 x).1 h).1, ((h3 x).1 h).2⟩
            · exact ⟨Or.inr rfl, hnS⟩
          · rintro ⟨h | rfl, h'⟩
            · exact Or.inl ((h3 x).2 ⟨h, h'⟩)
            · exact Or.inr rfl
      · refine ⟨h1, fun x hx => ?_, fun x => ?_⟩
        · simp only [if_true, List.mem_append, List.mem_singleton]
          rw [h2 x hx]
          have hTS := (h2 n hnk).1 hT
          constructor
          · rintro (h | h)
            · exact Or.inl h
            · exact Or.inr (Or.inl h)
          · rintro (h | h | rfl)
            · exact Or.inl h
            · exact Or.inr h
            · exact hTS
        · simp only [if_true, List.mem_append, List.mem_singleton]
          rw [h3 x]
          have hTS := (h2 n hnk).1 hT
          constructor
          · rintro ⟨h, h'⟩; exact ⟨Or.inl h, h'⟩
          · rintro ⟨h | rfl, h'⟩
            · exact ⟨h, h'⟩
            · rcases hTS with h | h
              · rw [h] at h'; cases h'
              · exact ⟨h, h'⟩
  have := key ns.length (Nat.le_refl _)
  rwa [List.take_length] at this

/-- A step of the search: where it came from, by which letter, and its nodes. -/
structure Stp where
  parent : Int
  letter : Nat
  nodes : List Nat
/-- The search stands at the letter number j of the step number i. -/
structure Bfs (d : Nat → Nat → List Nat) (start : List Nat) (goal : Nat → Bool) (L : List Nat) (N : Nat) (S : List Bool) (st : List Stp) (ws : List (List Nat)) (i j : Nat) : Prop where
  len : S.length = N
  wl : ws.length = st.length
  small : ∀ (k : Nat) (p : Stp), st[k]? = some p → ∀ x ∈ p.nodes, x < N
  some_ : ∀ (k : Nat) (p : Stp), st[k]? = some p → p.nodes ≠ []
  word : ∀ (k : Nat) (p : Stp), st[k]? = some p → (k = 0 ∧ p.parent = -1 ∧ ws.getD k [] = []) ∨ (∃ a b : Nat, p.parent = (a : Int) ∧ a < k ∧ (a < i ∨ a = i ∧ b < j) ∧ L[b]? = some p.letter ∧ ws.getD k [] = ws.getD a [] ++ [p.letter])
  goes : ∀ (k : Nat) (p : Stp), st[k]? = some p → ∀ x ∈ p.nodes, Goes d start (ws.getD k []) x
  incr : ∀ a b : Nat, a < b → b < st.length → wval (ws.getD a []) < wval (ws.getD b [])
  seen : ∀ x, x < N → (S.getD x true = true ↔ ∃ (k : Nat) (p : Stp), st[k]? = some p ∧ x ∈ p.nodes)
  first : ∀ x ∈ start, ∃ (p : Stp), st[0]? = some p ∧ x ∈ p.nodes
  zero : ∀ p, st[0]? = some p → ws.getD 0 [] = []
  proc : ∀ (k : Nat) (p : Stp) (b l : Nat), st[k]? = some p → L[b]? = some l → (k < i ∨ k = i ∧ b < j) → ∀ n ∈ p.nodes, ∀ x ∈ d n l, ∃ (k' : Nat) (q : Stp), st[k']? = some q ∧ x ∈ q.nodes ∧ wval (ws.getD k' []) ≤ wval (ws.getD k [] ++ [l])
  dull : ∀ (k : Nat) (p : Stp), st[k]? = some p → ∀ x ∈ p.nodes, goal x = false
section
variable {d : Nat → Nat → List Nat} {start : List Nat} {goal : Nat → Bool} {L : List Nat} {N : Nat} {S : List Bool} {st : List Stp} {ws : List (List Nat)} {i j : Nat}
/-- Letters that rise, below 6. -/
def Rise (L : List Nat) : Prop := (∀ l ∈ L, l < 6) ∧ ∀ (a b x y : Nat), L[a]? = some x → L[b]? = some y → a < b → x < y
/-- Whatever a word that is behind the search leads to has been seen. -/
theorem Bfs.before (h : Bfs d start goal L N S st ws i j) {V : Nat} (hV : ∀ (k : Nat) (p : Stp) (b l : Nat), st[k]? = some p → L[b]? = some l → wval (ws.getD k [] ++ [l]) < V → (k < i ∨ k = i ∧ b < j)) :
    ∀ (m : Nat) (v : List Nat), v.length ≤ m → (∀ l ∈ v, l ∈ L) → wval v < V → ∀ x, Goes d start v x → ∃ (k : Nat) (p : Stp), st[k]? = some p ∧ x ∈ p.nodes ∧ wval (ws.getD k []) ≤ wval v := by
  intro m
  induction m with
  | zero =>
    intro v hv _ _ x hx
    obtain rfl : v = [] := List.eq_nil_of_length_eq_zero (by omega)
    obtain ⟨p, hp, hxp⟩ := h.first x hx.inv_nil
    exact ⟨0, p, hp, hxp, by rw [h.zero p hp]; exact Nat.le_refl _⟩
  | succ m ih =>
    intro v hv hl hlt x hx
    rcases snoc_cases v with rfl | ⟨u, l, rfl⟩
    · obtain ⟨p, hp, hxp⟩ := h.first x hx.inv_nil
      exact ⟨0, p, hp, hxp, by rw [h.zero p hp]; exact Nat.le_refl _⟩
    · obtain ⟨n, hn, hxn⟩ := hx.inv
      simp only [List.length_append, List.length_singleton] at hv
      have hlL := hl l (by simp)
      obtain ⟨b, hb⟩ := List.getElem?_of_mem hlL
      rw [wval_snoc] at hlt
      obtain ⟨k, p, hp, hnp, hk⟩ := ih u (by omega) (fun x hx => hl x (by simp [hx])) (by omega) n hn
      have hlt2 : wval (ws.getD k [] ++ [l]) < V := by rw [wval_snoc]; omega
      obtain ⟨k', q, hq, hxq, hk'⟩ := h.proc k p b l hp hb (hV k p b l hp hb hlt2) n hnp x hxn
      exact ⟨k', q, hq, hxq, by rw [wval_snoc] at hk' ⊢; omega⟩
/-- The search has come to its end: no word leads to a goal. -/
theorem Bfs.none (h : Bfs d start goal L N S st ws i j) (hend : st.length ≤ i) {v : List Nat} (hv : ∀ l ∈ v, l ∈ L) {x : Nat} (hx : Goes d start v x) : goal x = false := by
  by_cases hst : st = []
  · subst hst
    exfalso
    have : ∀ (m : Nat) (v : List Nat), v.length ≤ m → ∀ x, ¬ Goes d start v x := by
      intro m
      induction m with
      | zero =>
        intro v hv x hx
        obtain rfl : v = [] := List.eq_nil_of_length_eq_zero (by omega)
        obtain ⟨p, hp, _⟩ := h.first x hx.inv_nil
        simp at hp
      | succ m ih =>
        intro v hv x hx
        rcases snoc_cases v with rfl | ⟨u, l, rfl⟩
        · obtain ⟨p, hp, _⟩ := h.first x hx.inv_nil
          simp at hp
        · obtain ⟨n, hn, _⟩ := hx.inv
          exact ih u (by simp at hv; omega) n hn
    exact this v.length v (Nat.le_refl _) x hx
  · obtain ⟨k, p, hp, hxp, _⟩ := h.before (V := wval v + 1) (fun k p b l hp hb _ => Or.inl (by have := (List.getElem?_eq_some_iff.1 hp).1; omega)) v.length v (Nat.le_refl _) hv (by omega) x hx
    exact h.dull k p hp x hxp
/-- The next word is behind all that have been taken. -/
theorem Bfs.ahead (h : Bfs d start goal L N S st ws i j) (hL : Rise L) {l : Nat} (hi : i < st.length) (hl : L[j]? = some l) {k : Nat} (hk : k < st.length) : wval (ws.getD k []) < wval (ws.getD i [] ++ [l]) := by
  rw [wval_snoc]
  rcases h.word k _ (List.getElem?_eq_getElem hk) with ⟨_, _, e⟩ | ⟨a, b, _, hak, hab, hb, e⟩
  · rw [e, wval_nil]; omega
  · rw [e, wval_snoc]
    have hbl := hL.1 _ (List.mem_of_getElem? hb)
    rcases hab with h1 | ⟨rfl, h2⟩
    · have := h.incr a i h1 hi
      omega
    · have := hL.2 b j _ _ hb hl h2
      omega
/-- What comes ahead of the next word has been taken. -/
theorem Bfs.taken (h : Bfs d start goal L N S st ws i j) (hL : Rise L) {l : Nat} (hi : i < st.length) (hl : L[j]? = some l) (k : Nat) (p : Stp) (b m : Nat) (hp : st[k]? = some p) (hb : L[b]? = some m) (hlt : wval (ws.getD k [] ++ [m]) < wval (ws.getD i [] ++ [l])) : k < i ∨ k = i ∧ b < j := by
  rw [wval_snoc, wval_snoc] at hlt
  have hk := (List.getElem?_eq_some_iff.1 hp).1
  have h1 := hL.1 _ (List.mem_of_getElem? hb)
  have h2 := hL.1 _ (List.mem_of_getElem? hl)
  rcases Nat.lt_trichotomy k i with h3 | h3 | h3
  · exact Or.inl h3
  · subst h3
    refine Or.inr ⟨rfl, ?_⟩
    rcases Nat.lt_trichotomy b j with h4 | h4 | h4
    · exact h4
    · subst h4
      rw [hb] at hl
      have := Option.some.inj hl
      omega
    · have := hL.2 j b _ _ hl hb h4
      omega
  · have := h.incr i k h3 hk
    omega
/-- A goal among the new nodes: the word is the first that leads to one. -/
theorem Bfs.found (h : Bfs d start goal L N S st ws i j) (hL : Rise L) {l : Nat} (hi : i < st.length) (hl : L[j]? = some l) {v : List Nat} (hv : ∀ x ∈ v, x ∈ L) (hlt : wval v < wval (ws.getD i [] ++ [l])) {x : Nat} (hx : Goes d start v x) : goal x = false := by
  obtain ⟨k, p, hp, hxp, _⟩ := h.before (fun k p b m hp hb hlt => h.taken hL hi hl k p b m hp hb hlt) v.length v (Nat.le_refl _) hv hlt x hx
  exact h.dull k p hp x hxp
/-- All letters of a step are done. -/
theorem Bfs.row (h : Bfs d start goal L N S st ws i j) (hj : L.length ≤ j) : Bfs d start goal L N S st ws (i + 1) 0 :=
  { h with
    word := fun k p hp => by
      rcases h.word k p hp with h1 | ⟨a, b, h1, h2, h3, h4⟩
      · exact Or.inl h1
      · exact Or.inr ⟨a, b, h1, h2, by omega, h4⟩
    proc := fun k p b l hp hb hk => by
      have hbl := (List.getElem?_eq_some_iff.1 hb).1
      exact h.proc k p b l hp hb (by omega) }
/-- The steps behind a visit. -/
def addS (st : List Stp) (a : Int) (l : Nat) (fr : List Nat) : List Stp := if fr = [] then st else st ++ [⟨a, l, fr⟩]
def addW (ws : List (List Nat)) (w : List Nat) (fr : List Nat) : List (List Nat) := if fr = [] then ws else ws ++ [w]
theorem getD_left {ws : List (List Nat)} {k : Nat} (w : List Nat) (hk : k < ws.length) : (ws ++ [w]).getD k [] = ws.getD k [] := by
  rw [List.getD_eq_getElem?_getD, List.getD_eq_getElem?_getD, List.getElem?_append_left hk]
theorem getD_last {ws : List (List Nat)} (w : List Nat) : (ws ++ [w]).getD ws.length [] = w := by
  rw [List.getD_eq_getElem?_getD, List.getElem?_append_right (Nat.le_refl _), Nat.sub_self]
  rfl
/-- One letter more. -/
theorem Bfs.step (h : Bfs d start goal L N S st ws i j) (hL : Rise L) {l : Nat} {pi : Stp} (hi : st[i]? = some pi) (hl : L[j]? = some l) {rs : List Nat} (hrs : ∀ x, x ∈ rs ↔ ∃ n ∈ pi.nodes, x ∈ d n l) (hN : ∀ x ∈ rs, x < N) (hg : ∀ x ∈ (vis S rs).2, goal x = false) :
    Bfs d start goal L N (vis S rs).1 (addS st i l (vis S rs).2) (addW ws (ws.getD i [] ++ [l]) (vis S rs).2) i (j + 1) := by
  have hil := (List.getElem?_eq_some_iff.1 hi).1
  obtain ⟨v1, v2, v3⟩ := vis_spec S rs (fun n hn => by rw [h.len]; exact hN n hn)
  generalize (vis S rs).1 = T at *
  generalize (vis S rs).2 = fr at *
  have hahead := fun k hk => h.ahead hL hil hl (k := k) hk
  by_cases hfr : fr = []
  · subst hfr
    rw [addS, if_pos rfl, addW, if_pos rfl]
    have hsub : ∀ x ∈ rs, S.getD x true = true := fun x hx => by
      cases hS : S.getD x true
      · have := (v3 x).2 ⟨hx, hS⟩
        cases this
      · rfl
    refine { h with len := v1.trans h.len, word := ?_, seen := ?_, proc := ?_ }
    · intro k p hp
      rcases h.word k p hp with h1 | ⟨a, b, h1, h2, h3, h4⟩
      · exact Or.inl h1
      · exact Or.inr ⟨a, b, h1, h2, by omega, h4⟩
    · intro x hx
      rw [v2 x (by rw [h.len]; exact hx)]
      constructor
      · rintro (h1 | h1)
        · exact (h.seen x hx).1 h1
        · exact (h.seen x hx).1 (hsub x h1)
      · intro h1
        exact Or.inl ((h.seen x hx).2 h1)
    · intro k p b m hp hb hk n hn x hx
      by_cases hkj : k = i ∧ b = j
      · obtain ⟨rfl, rfl⟩ := hkj
        rw [hi] at hp
        obtain rfl := Option.some.inj hp
        rw [hl] at hb
        obtain rfl := Option.some.inj hb
        have hxr := (hrs x).2 ⟨n, hn, hx⟩
        obtain ⟨k', q, hq, hxq⟩ := (h.seen x (hN x hxr)).1 (hsub x hxr)
        exact ⟨k', q, hq, hxq, Nat.le_of_lt (hahead k' (List.getElem?_eq_some_iff.1 hq).1)⟩
      · exact h.proc k p b m hp hb (by omega) n hn x hx
  · rw [addS, if_neg hfr, addW, if_neg hfr]
    have hold : ∀ {k : Nat} {p : Stp}, (st ++ [(⟨i, l, fr⟩ : Stp)])[k]? = some p → (k < st.length ∧ st[k]? = some p) ∨ (k = st.length ∧ p = ⟨i, l, fr⟩) := by
      intro k p hp
      rcases Nat.lt_trichotomy k st.length with hk | hk | hk
      · rw [List.getElem?_append_left hk] at hp
        exact Or.inl ⟨hk, hp⟩
      · rw [List.getElem?_append_right (by omega), hk, Nat.sub_self] at hp
        exact Or.inr ⟨hk, (Option.some.inj hp).symm⟩
      · rw [List.getElem?_eq_none (by simp; omega)] at hp
        cases hp
    have hkeep : ∀ {k : Nat} {p : Stp}, st[k]? = some p → (st ++ [(⟨i, l, fr⟩ : Stp)])[k]? = some p := fun {k p} hp => by
      rw [List.getElem?_append_left (List.getElem?_eq_some_iff.1 hp).1]; exact hp
    have hnew : (st ++ [(⟨i, l, fr⟩ : Stp)])[st.length]? = some ⟨i, l, fr⟩ := by rw [List.getElem?_append_right (Nat.le_refl _), Nat.sub_self]; rfl
    have hwl := h.wl
    have hgl : ∀ k, k < st.length → (ws ++ [ws.getD i [] ++ [l]]).getD k [] = ws.getD k [] := fun k hk => getD_left _ (by omega)
    have hgn : (ws ++ [ws.getD i [] ++ [l]]).getD st.length [] = ws.getD i [] ++ [l] := by rw [← hwl]; exact getD_last _
    have hfrs : ∀ x ∈ fr, x ∈ rs ∧ S.getD x true = false := fun x hx => (v3 x).1 hx
    refine ⟨v1.trans h.len, by simp [hwl], ?_, ?_, ?_, ?_, ?_, ?_, ?_, ?_, ?_, ?_⟩
    · intro k p hp x hx
      rcases hold hp with ⟨_, h1⟩ | ⟨_, rfl⟩
      · exact h.small k p h1 x hx
      · exact hN x (hfrs x hx).1
    · intro k p hp
      rcases hold hp with ⟨_, h1⟩ | ⟨_, rfl⟩
      · exact h.some_ k p h1
      · exact hfr
    · intro k p hp
      rcases hold hp with ⟨h0, h1⟩ | ⟨rfl, rfl⟩
      · rcases h.word k p h1 with ⟨e0, e1, e2⟩ | ⟨a, b, e1, e2, e3, e4, e5⟩
        · exact Or.inl ⟨e0, e1, by rw [hgl k h0]; exact e2⟩
        · exact Or.inr ⟨a, b, e1, e2, by omega, e4, by rw [hgl k h0, hgl a (by omega)]; exact e5⟩
      · exact Or.inr ⟨i, j, rfl, hil, Or.inr ⟨rfl, by omega⟩, hl, by rw [hgn, hgl i hil]⟩
    · intro k p hp x hx
      rcases hold hp with ⟨h0, h1⟩ | ⟨rfl, rfl⟩
      · rw [hgl k h0]; exact h.goes k p h1 x hx
      · rw [hgn]
        obtain ⟨n, hn, hxn⟩ := (hrs x).1 (hfrs x hx).1
        exact .snoc (h.goes i pi hi n hn) hxn
    · intro a b hab hb
      simp only [List.length_append, List.length_singleton] at hb
      by_cases hbl : b < st.length
      · rw [hgl a (by omega), hgl b hbl]; exact h.incr a b hab hbl
      · obtain rfl : b = st.length := by omega
        rw [hgl a hab, hgn]; exact hahead a hab
    · intro x hx
      rw [v2 x (by rw [h.len]; exact hx)]
      constructor
      · rintro (h1 | h1)
        · obtain ⟨k, p, hp, hxp⟩ := (h.seen x hx).1 h1
          exact ⟨k, p, hkeep hp, hxp⟩
        · cases hS : S.getD x true
          · exact ⟨_, _, hnew, (v3 x).2 ⟨h1, hS⟩⟩
          · obtain ⟨k, p, hp, hxp⟩ := (h.seen x hx).1 hS
            exact ⟨k, p, hkeep hp, hxp⟩
      · rintro ⟨k, p, hp, hxp⟩
        rcases hold hp with ⟨_, h1⟩ | ⟨_, rfl⟩
        · exact Or.inl ((h.seen x hx).2 ⟨k, p, h1, hxp⟩)
        · exact Or.inr (hfrs x hxp).1
    · intro x hx
      obtain ⟨p, hp, hxp⟩ := h.first x hx
      exact ⟨p, hkeep hp, hxp⟩
    · intro p hp
      rcases hold hp with ⟨h0, h1⟩ | ⟨h0, _⟩
      · rw [hgl 0 h0]; exact h.zero p h1
      · omega
    · intro k p b m hp hb hk n hn x hx
      rcases hold hp with ⟨h0, h1⟩ | ⟨rfl, rfl⟩
      · rw [hgl k h0]
        by_cases hkj : k = i ∧ b = j
        · obtain ⟨rfl, rfl⟩ := hkj
          rw [hi] at h1
          obtain rfl := Option.some.inj h1
          rw [hl] at hb
          obtain rfl := Option.some.inj hb
          have hxr := (hrs x).2 ⟨n, hn, hx⟩
          cases hS : S.getD x true
          · exact ⟨_, _, hnew, (v3 x).2 ⟨hxr, hS⟩, by rw [hgn]; exact Nat.le_refl _⟩
          · obtain ⟨k', q, hq, hxq⟩ := (h.seen x (hN x hxr)).1 hS
            have hk' := (List.getElem?_eq_some_iff.1 hq).1
            exact ⟨k', q, hkeep hq, hxq, by rw [hgl k' hk']; exact Nat.le_of_lt (hahead k' hk')⟩
        · obtain ⟨k', q, hq, hxq, hle⟩ := h.proc k p b m h1 hb (by omega) n hn x hx
          have hk' := (List.getElem?_eq_some_iff.1 hq).1
          exact ⟨k', q, hkeep hq, hxq, by rw [hgl k' hk']; exact hle⟩
      · omega
    · intro k p hp x hx
      rcases hold hp with ⟨_, h1⟩ | ⟨_, rfl⟩
      · exact h.dull k p h1 x hx
      · exact hg x hx
/-- The search begins. -/
theorem Bfs.begin_ {d : Nat → Nat → List Nat} {start : List Nat} {goal : Nat → Bool} {L : List Nat} {N : Nat} (hN : ∀ x ∈ start, x < N) (hg : ∀ x ∈ (vis (List.replicate N false) start).2, goal x = false) :
    Bfs d start goal L N (vis (List.replicate N false) start).1 (addS [] (-1) 0 (vis (List.replicate N false) start).2) (addW [] [] (vis (List.replicate N false) start).2) 0 0 := by
  obtain ⟨v1, v2, v3⟩ := vis_spec (List.replicate N false) start (fun n hn => by simpa using hN n hn)
  have hf : ∀ x, x < N → (List.replicate N false).getD x true = false := fun x hx => by simp [List.getD_eq_getElem?_getD, hx]
  generalize (vis (List.replicate N false) start).1 = T at *
  generalize (vis (List.replicate N false) start).2 = fr at *
  have hfr : ∀ x, x ∈ fr ↔ x ∈ start := fun x => (v3 x).trans ⟨fun h => h.1, fun h => ⟨h, hf x (hN x h)⟩⟩
  have hT : ∀ x, x < N → (T.getD x true = true ↔ x ∈ start) := fun x hx => by
    rw [v2 x (by simpa using hx), hf x hx]
    simp
  by_cases he : fr = []
  · subst he
    rw [addS, if_pos rfl, addW, if_pos rfl]
    have hs : ∀ x, x ∉ start := fun x hx => by have := (hfr x).2 hx; cases this
    refine ⟨by simpa using v1, rfl, fun k p hp => by simp at hp, fun k p hp => by simp at hp, fun k p hp => by simp at hp, fun k p hp => by simp at hp, fun a b _ hb => by simp at hb, fun x hx => ?_, fun x hx => absurd hx (hs x), fun p hp => by simp at hp, fun k p b l hp => by simp at hp, fun k p hp => by simp at hp⟩
    rw [hT x hx]
    exact ⟨fun h => absurd h (hs x), fun ⟨k, p, hp, _⟩ => by simp at hp⟩
  · rw [addS, if_neg he, addW, if_neg he]
    have hold : ∀ {k : Nat} {p : Stp}, ([] ++ [(⟨-1, 0, fr⟩ : Stp)])[k]? = some p → k = 0 ∧ p = ⟨-1, 0, fr⟩ := by
      intro k p hp
      cases k with
      | zero => exact ⟨rfl, by simpa using hp.symm⟩
      | succ k => simp at hp
    refine ⟨by simpa using v1, rfl, ?_, ?_, ?_, ?_, ?_, ?_, ?_, ?_, ?_, ?_⟩
    · intro k p hp x hx
      obtain ⟨rfl, rfl⟩ := hold hp
      exact hN x ((hfr x).1 hx)
    · intro k p hp
      obtain ⟨rfl, rfl⟩ := hold hp
      exact he
    · intro k p hp
      obtain ⟨rfl, rfl⟩ := hold hp
      exact Or.inl ⟨rfl, rfl, rfl⟩
    · intro k p hp x hx
      obtain ⟨rfl, rfl⟩ := hold hp
      exact .nil ((hfr x).1 hx)
    · intro a b hab hb
      simp at hb; omega
    · intro x hx
      rw [hT x hx]
      constructor
      · intro h
        exact ⟨0, _, rfl, (hfr x).2 h⟩
      · rintro ⟨k, p, hp, hxp⟩
        obtain ⟨rfl, rfl⟩ := hold hp
        exact (hfr x).1 hxp
    · intro x hx
      exact ⟨_, rfl, (hfr x).2 hx⟩
    · intro p _
      rfl
    · intro k p b l hp _ hk
      omega
    · intro k p hp x hx
      obtain ⟨rfl, rfl⟩ := hold hp
      exact hg x hx
end
end Go.Proofs.YtbifoikcmjmdeaaDoor

namespace Go.Proofs.YtbifoikcmjmdeaaDoor
open Go Go.RowKit
set_option maxHeartbeats 2000000

/-- A slice of numbers below some block's type: it lies in a block of numbers. -/
def IntsAt (w : World) (A : Option Addr) (m : Nat) (l : List Nat) : Prop :=
  m = l.length ∧ m ≤ 9223372036854775807 ∧ (0 < m → ∃ (g o : Nat) (cs : Array Value), A = some ⟨g, o, none⟩ ∧ w.heap[g]? = some (.cells cs 3 (0, 0)) ∧ ∀ j x, l[j]? = some x → w.cell? ⟨g, o + j, none⟩ = some (.int .i64 (x : Nat)))
theorem IntsAt.frm {S : Nat → Prop} {w w' : World} {A : Option Addr} {m : Nat} {l : List Nat} (h : IntsAt w A m l) (hb : Frm S w w') (hS : ∀ k, S k → ∀ cs, w.heap[k]? ≠ some (.cells cs 3 (0, 0))) : IntsAt w' A m l := by
  refine ⟨h.1, h.2.1, fun h0 => ?_⟩
  obtain ⟨g, o, cs, e, hh, hc⟩ := h.2.2 h0
  have hlt := (Array.getElem?_eq_some_iff.1 hh).1
  have hn : ¬ S g := fun hs => hS g hs cs hh
  exact ⟨g, o, cs, e, (hb.block g hlt hn).trans hh, fun j x hx => (World.cell?_of_block (w := w) (hb.block g hlt hn)).trans (hc j x hx)⟩
theorem IntsAt.ext {w w' : World} {A : Option Addr} {m : Nat} {l : List Nat} (h : IntsAt w A m l) (hb : Ext w w') : IntsAt w' A m l := h.frm (S := fun _ => False) hb (fun _ hk => hk.elim)
theorem IntsAt.at_ {w : World} {A : Option Addr} {m k : Nat} {l : List Nat} (h : IntsAt w A m l) (hk : k < m) : ∃ (g o x : Nat), A = some ⟨g, o, none⟩ ∧ Hid (l[k]? = some x) ∧ w.cell? ⟨g, o + k, none⟩ = some (.int .i64 (x : Nat)) := by
  obtain ⟨g, o, cs, e, _, hc⟩ := h.2.2 (by omega)
  have hx : l[k]? = some (l[k]'(by have := h.1; omega)) := List.getElem?_eq_getElem _
  exact ⟨g, o, _, e, hx, hc k _ hx⟩
theorem IntsAt.own {w : World} {base n c : Nat} {A : Option Addr} {l : List Nat} (h : w.ownsRow base 3 1 (.slice A n c) n (nats l)) : IntsAt w A n l := by
  have hl := h.1
  rw [nats_length] at hl
  refine ⟨by omega, (Reads.of_own h).len, fun h0 => ?_⟩
  rcases h.2 with ⟨_, h1⟩ | ⟨g, cap, cur, hv, _, hh, _⟩
  · omega
  · have hA : A = some ⟨g, 0, none⟩ := by injection hv
    subst hA
    refine ⟨g, 0, cur, rfl, hh, fun j x hx => ?_⟩
    have hj := (List.getElem?_eq_some_iff.1 hx).1
    rw [Nat.zero_add, h.cellAt j (by omega)]
    simp [nats, hx]
theorem info_step : (Tryd.prog.info? 79).map (fun i => (i.zero, i.size, i.bytes)) = some (some (.agg #[.int .i64 0, .int .i64 0, .slice none 0 0]), 3, 40) := by kernel_rfl
/-- The cells of steps, each with the slice that holds its nodes. -/
def stCells : List (Stp × Value) → List Value
  | [] => []
  | (p, v) :: r => .int .i64 p.parent :: .int .i64 (p.letter : Nat) :: v :: stCells r
theorem stCells_length (l : List (Stp × Value)) : (stCells l).length = l.length * 3 := by
  induction l with
  | nil => rfl
  | cons x r ih => obtain ⟨p, v⟩ := x; simp only [stCells, List.length_cons, ih]; omega
theorem stCells_append (l m : List (Stp × Value)) : stCells (l ++ m) = stCells l ++ stCells m := by
  induction l with
  | nil => rfl
  | cons x r ih => obtain ⟨p, v⟩ := x; simp [stCells, ih]
theorem stCells_get {l : List (Stp × Value)} {k : Nat} {p : Stp} {v : Value} (h : l[k]? = some (p, v)) : (stCells l)[k * 3]? = some (.int .i64 p.parent) ∧ (stCells l)[k * 3 + 1]? = some (.int .i64 (p.letter : Nat)) ∧ (stCells l)[k * 3 + 2]? = some v := by
  induction l generalizing k with
  | nil => simp at h
  | cons a r ih =>
    cases k with
    | zero => simp at h; subst h; exact ⟨rfl, rfl, rfl⟩
    | succ k =>
      obtain ⟨p', v'⟩ := a
      have := ih (k := k) (by simpa using h)
      have e1 : (k + 1) * 3 = k * 3 + 1 + 1 + 1 := by omega
      refine ⟨?_, ?_, ?_⟩ <;> rw [e1] <;> simp only [stCells, List.getElem?_cons_succ]
      · exact this.1
      · exact this.2.1
      · exact this.2.2
/-- The nodes of each step lie in a block of numbers. -/
def Nodes (w : World) (sts : List (Stp × Value)) : Prop := ∀ (k : Nat) (p : Stp) (v : Value), sts[k]? = some (p, v) → ∃ A c, v = .slice A p.nodes.length c ∧ IntsAt w A p.nodes.length p.nodes
theorem Nodes.frm {S : Nat → Prop} {w w' : World} {sts : List (Stp × Value)} (h : Nodes w sts) (hb : Frm S w w') (hS : ∀ k, S k → ∀ cs, w.heap[k]? ≠ some (.cells cs 3 (0, 0))) : Nodes w' sts := fun k p v hk => by
  obtain ⟨A, c, e, hx⟩ := h k p v hk
  exact ⟨A, c, e, hx.frm hb hS⟩
/-- The search's memory: what its variables hold. -/
structure Sea (w0 w : World) (bs bg bt gs N cs : Nat) (fg : Value) (S : List Bool) (vst : Value) (sts : List (Stp × Value)) : Prop where
  ext : Ext w0 w
  vs : Blk w bs 76 #[.slice (some ⟨gs, 0, none⟩) N cs]
  ds : w.ownsRow w0.heap.size 4 1 (.slice (some ⟨gs, 0, none⟩) N cs) N (bools S)
  vg : ∃ t, Blk w bg t #[fg]
  vt : Blk w bt 77 #[vst]
  dt : w.ownsRow w0.heap.size 79 3 vst sts.length (stCells sts)
  nd : Nodes w sts
  hs : w0.heap.size ≤ bs
  hg : w0.heap.size ≤ bg
  ht : w0.heap.size ≤ bt
  hgt : bg ≠ bt
  hgg : bg ≠ gs
  hgv : ∀ b, vst.ownBlock = some b → b ≠ bg
section
variable {w0 w w' : World} {bs bg bt gs N cs : Nat} {fg vst : Value} {S : List Bool} {sts : List (Stp × Value)}
/-- What turns newer blocks alone leaves it. -/
theorem Sea.far {T : Nat → Prop} {H : Nat} (h : Sea w0 w bs bg bt gs N cs fg S vst sts) (hb : Frm T w w') (hT : ∀ k, T k → H ≤ k) (h1 : bs < H) (h2 : bg < H) (h3 : bt < H) (h4 : gs < H) (h5 : ∀ b, vst.ownBlock = some b → b < H) (h0 : w0.heap.size ≤ H) (hn : Nodes w' sts) : Sea w0 w' bs bg bt gs N cs fg S vst sts := by
  obtain ⟨t, hvg⟩ := h.vg
  refine ⟨h.ext.frm hb (fun k hk hS => by have := hT k hS; omega), h.vs.frm hb (fun hS => by have := hT _ hS; omega), own_frm h.ds hb (fun b hv hS => ?_), ⟨t, hvg.frm hb (fun hS => by have := hT _ hS; omega)⟩, h.vt.frm hb (fun hS => by have := hT _ hS; omega), own_frm h.dt hb (fun b hv hS => by have := hT _ hS; have := h5 b hv; omega), hn, h.hs, h.hg, h.ht, h.hgt, h.hgg, h.hgv⟩
  have hbg : gs = b := by simpa [Value.ownBlock] using hv
  have := hT _ hS
  omega
theorem Sea.ext_ (h : Sea w0 w bs bg bt gs N cs fg S vst sts) (hx : Ext w w') : Sea w0 w' bs bg bt gs N cs fg S vst sts := by
  obtain ⟨t, hvg⟩ := h.vg
  exact ⟨h.ext.trans hx, h.vs.ext hx, own_ext h.ds hx, ⟨t, hvg.ext hx⟩, h.vt.ext hx, own_ext h.dt hx, h.nd.frm (S := fun _ => False) hx (fun _ hk => hk.elim), h.hs, h.hg, h.ht, h.hgt, h.hgg, h.hgv⟩
theorem Sea.gs_lt (h : Sea w0 w bs bg bt gs N cs fg S vst sts) : w0.heap.size ≤ gs ∧ gs < w.heap.size := h.ds.lt gs rfl
theorem Sea.gs_row (h : Sea w0 w bs bg bt gs N cs fg S vst sts) : ∃ cur, w.heap[gs]? = some (.cells cur 4 (0, 0)) := by
  rcases h.ds.2 with ⟨hv, _⟩ | ⟨g, cap, cur, hv, _, hh, _⟩
  · injection hv with h1; cases h1
  · have : gs = g := by injection hv with h1; injection h1 with h1; injection h1
    subst this
    exact ⟨cur, hh⟩
theorem Sea.vst_row (h : Sea w0 w bs bg bt gs N cs fg S vst sts) {b : Nat} (hb : vst.ownBlock = some b) : ∃ cur, w.heap[b]? = some (.cells cur 79 (0, 0)) := by
  rcases h.dt.2 with ⟨rfl, _⟩ | ⟨g, cap, cur, rfl, _, hh, _⟩
  · simp [Value.ownBlock] at hb
  · have hg : g = b := by simpa [Value.ownBlock] using hb
    subst hg
    exact ⟨cur, hh⟩
/-- A node is marked as seen. -/
theorem Sea.mark (h : Sea w0 w bs bg bt gs N cs fg S vst sts) {n : Nat} : Sea w0 (w.setCell ⟨gs, n, none⟩ (.bool true)) bs bg bt gs N cs fg (S.set n true) vst sts := by
  obtain ⟨t, hvg⟩ := h.vg
  obtain ⟨cur, hh⟩ := h.gs_row
  have hf := Frm.setCell w gs n (.bool true)
  have hne : ∀ {b : Nat} {t : TypeId} {cs : Array Value}, w.heap[b]? = some (.cells cs t (0, 0)) → t ≠ 4 → b ≠ gs := by
    rintro b t cs hb ht rfl
    rw [hh] at hb
    injection hb with hb
    injection hb with _ h2
    exact ht h2.symm
  have hset : (bools S).set n (.bool true) = bools (S.set n true) := by simp [bools, List.map_set]
  have hds := (h.ds.stored n (.bool true)).1
  rw [hset] at hds
  refine ⟨h.ext.setCell h.gs_lt.1 _, h.vs.frm hf (hne h.vs (by decide)), hds, ⟨t, hvg.frm hf h.hgg⟩, h.vt.frm hf (hne h.vt (by decide)), own_frm h.dt hf (fun b hv => ?_), h.nd.frm hf (fun k hk cs hc => ?_), h.hs, h.hg, h.ht, h.hgt, h.hgg, h.hgv⟩
  · obtain ⟨cur', hh'⟩ := h.vst_row hv
    exact hne hh' (by decide)
  · exact hne hc (by decide) hk
/-- A step more: what 'append' left, and its store into the variable. -/
theorem Sea.push {g cap l c' : Nat} {A' : Option Addr} {p : Stp} (h : Sea w0 w bs bg bt gs N cs fg S vst sts) (hown : w'.ownsRow w0.heap.size 79 3 (.slice (some ⟨g, 0, none⟩) (sts.length + 1) cap) (sts.length + 1) (stCells sts ++ [.int .i64 p.parent, .int .i64 (p.letter : Nat), .slice A' l c']))
    (hg : w.grownBy w' vst.ownBlock) (hat : vst.ownBlock = some g ∨ g = w.heap.size + 1) (hl : l = p.nodes.length) (hA : IntsAt w A' l p.nodes) :
    Hid (w'.cell? ⟨bt, 0, none⟩ = some vst) ∧ w'.frozen? ⟨bt, 0, none⟩ = false ∧ Sea w0 (w'.setCell ⟨bt, 0, none⟩ (.slice (some ⟨g, 0, none⟩) (sts.length + 1) cap)) bs bg bt gs N cs fg S (.slice (some ⟨g, 0, none⟩) (sts.length + 1) cap) (sts ++ [(p, .slice A' l c')]) := by
  obtain ⟨t, hvg⟩ := h.vg
  have hf := Frm.of_grown hg
  have hrow : ∀ {b : Nat} {t : TypeId} {cs : Array Value}, w.heap[b]? = some (.cells cs t (0, 0)) → t ≠ 79 → ¬ (vst.ownBlock = some b) := by
    intro b t cs hb ht hv
    obtain ⟨cur, hh⟩ := h.vst_row hv
    rw [hh] at hb
    injection hb with hb
    injection hb with _ h2
    exact ht h2.symm
  obtain ⟨cur, hgs⟩ := h.gs_row
  have hvt : Blk w' bt 77 #[vst] := h.vt.frm hf (hrow h.vt (by decide))
  have hvs := h.vs.frm hf (hrow h.vs (by decide))
  have hds := own_frm h.ds hf (fun b hv => by
    have hb : gs = b := by simpa [Value.ownBlock] using hv
    subst hb
    exact hrow hgs (by decide))
  have hvg' := hvg.frm hf (fun hv => h.hgv _ hv rfl)
  have hnd := h.nd.frm hf (fun k hk cs hc => hrow hc (by decide) hk)
  have hA' := hA.frm hf (fun k hk cs hc => hrow hc (by decide) hk)
  have hgs' : w'.heap[gs]? = some (.cells cur 4 (0, 0)) := (hf.block gs h.gs_lt.2 (hrow hgs (by decide))).trans hgs
  have hx : Ext w0 w' := h.ext.frm hf (fun k hk hv => by have := (h.dt.lt k hv).1; omega)
  have hgbg : g ≠ bg := by
    rcases hat with h1 | h1
    · exact h.hgv g h1
    · have := hvg.lt; omega
  have hgr : ∃ cur, w'.heap[g]? = some (.cells cur 79 (0, 0)) := by
    rcases hown.2 with ⟨hv, _⟩ | ⟨g', cap', cur, hv, _, hh, _⟩
    · injection hv with h1; cases h1
    · have : g = g' := by injection hv with h1; injection h1 with h1; injection h1
      subst this
      exact ⟨cur, hh⟩
  obtain ⟨cur', hgr⟩ := hgr
  have hf2 := Frm.setCell w' bt 0 (.slice (some ⟨g, 0, none⟩) (sts.length + 1) cap)
  have hne : ∀ {b : Nat} {t : TypeId} {cs : Array Value}, w'.heap[b]? = some (.cells cs t (0, 0)) → t ≠ 77 → b ≠ bt := by
    rintro b t cs hb ht rfl
    unfold Blk at hvt
    rw [hvt] at hb
    injection hb with hb
    injection hb with _ h2
    exact ht h2.symm
  have hdt := own_frm hown hf2 (fun b hv => by
    have hb : g = b := by simpa [Value.ownBlock] using hv
    subst hb
    exact hne hgr (by decide))
  have hnd2 := hnd.frm hf2 (fun k hk cs hc => hne hc (by decide) hk)
  have hA2 := hA'.frm hf2 (fun k hk cs hc => hne hc (by decide) hk)
  refine ⟨hvt.cell 0, hvt.frozen 0, hx.setCell h.ht _, hvs.frm hf2 (hne hvs (by decide)), own_frm hds hf2 (fun b hv => by
    have hb : gs = b := by simpa [Value.ownBlock] using hv
    subst hb
    exact hne hgs' (by decide)), ⟨t, hvg'.frm hf2 h.hgt⟩, by simpa using hvt.set_ 0 _, ?_, ?_, h.hs, h.hg, h.ht, h.hgt, h.hgg, fun b hv => ?_⟩
  · rw [stCells_append]
    simpa [stCells] using hdt
  · intro k p' v' hk
    rcases Nat.lt_trichotomy k sts.length with h1 | h1 | h1
    · rw [List.getElem?_append_left h1] at hk
      exact hnd2 k p' v' hk
    · rw [List.getElem?_append_right (by omega), h1, Nat.sub_self] at hk
      have := Option.some.inj hk
      injection this with e1 e2
      subst e1; subst e2
      subst hl
      exact ⟨A', c', rfl, hA2⟩
    · rw [List.getElem?_eq_none (by simp; omega)] at hk
      cases hk
  · have hb : g = b := by simpa [Value.ownBlock] using hv
    subst hb
    exact hgbg
end
end Go.Proofs.YtbifoikcmjmdeaaDoor

namespace Go.Proofs.YtbifoikcmjmdeaaDoor
open Go Go.RowKit
set_option maxHeartbeats 2000000

/-- What a visit leaves. -/
def RetVisit (w0 w : World) (bs bg bt gs N cs : Nat) (fg : Value) (S : List Bool) (sts : List (Stp × Value)) (goal : Nat → Bool) (parent : Int) (letter : Nat) (ns : List Nat) (e : Ending) (w' : World) : Prop :=
  e = .returned (.bool ((vis S ns).2.any goal)) ∧ Ext w0 w' ∧ w.heap.size ≤ w'.heap.size ∧
    ∃ (vst : Value) (sts' : List (Stp × Value)), Sea w0 w' bs bg bt gs N cs fg (vis S ns).1 vst sts' ∧
      (((vis S ns).2 = [] ∧ sts' = sts) ∨ ((vis S ns).2 ≠ [] ∧ ∃ v, sts' = sts ++ [(⟨parent, letter, (vis S ns).2⟩, v)]))
theorem vis_take {S : List Bool} {ns : List Nat} {k n : Nat} (h : ns[k]? = some n) : vis S (ns.take (k + 1)) = visN (vis S (ns.take k)) n := by
  rw [List.take_add_one, h]
  exact vis_snoc _ _ _
theorem Frm.grown_ {T : Nat → Prop} {w W W' : World} {row : Option Nat} (h : Frm T w W) (hg : W.grownBy W' row) (hr : ∀ k, row = some k → w.heap.size ≤ k) : Frm T w W' :=
  ⟨hg.os.trans h.os, hg.tape.trans h.tape, hg.output.trans h.output, Nat.le_trans h.size hg.size, fun k hk hn => (hg.block k (Nat.lt_of_lt_of_le hk h.size) (fun e => by have := hr k e.symm; omega)).trans (h.block k hk hn)⟩
theorem any_snoc {l : List Nat} {n : Nat} {p : Nat → Bool} : (l ++ [n]).any p = (l.any p || p n) := by simp
set_option maxRecDepth 100000 in
theorem visit_any {w0 w : World} {bs bg bt gs N cs kg : Nat} {capg : Array Value} {goal : Nat → Bool} {S : List Bool} {vst : Value} {sts : List (Stp × Value)} {A : Option Addr} {m c letter : Nat} {parent : Int} {ns : List Nat}
    (h : Sea w0 w bs bg bt gs N cs (.func (.func kg) #[] capg) S vst sts) (hA : IntsAt w A m ns) (hN : ∀ n ∈ ns, n < N) (hm : m ≤ 1099511627776) (hst : sts.length ≤ 1073741824)
    (hin : ∀ args W, (callFunc kg args).run Tryd.prog W = .ok (.enter kg args) W) (hgoal : ∀ W, Ext w0 W → ∀ n, n < N → Calls Tryd.prog kg (#[.int .i64 (n : Nat)] ++ capg) W fun e W' => e = .returned (.bool (goal n)) ∧ Ext W W') :
    Calls Tryd.prog 67 #[.int .i64 parent, .int .i64 letter, .slice A m c, .pointer (some ⟨bs, 0, none⟩), .pointer (some ⟨bg, 0, none⟩), .pointer (some ⟨bt, 0, none⟩)] w (RetVisit w0 w bs bg bt gs N cs (.func (.func kg) #[] capg) S sts goal parent letter ns) := by
  have hSl := hide (show S.length = N by have := h.ds.1; rw [bools_length] at this; omega)
  have hnl := hide hA.1
  have hNs := hide hN
  have Hgoal := hide hgoal
  have h1 := h.vs.lt
  have h2 : bg < w.heap.size := by obtain ⟨t, hh⟩ := h.vg; exact hh.lt
  have h3 := h.vt.lt
  have h4 := h.gs_lt
  have h5 := hide (fun b (hb : vst.ownBlock = some b) => (h.dt.lt b hb).2)
  have h0 := h.ext.size
  have HgsI := hide (show ∀ k, k = gs → ∀ cs, w.heap[k]? ≠ some (.cells cs 3 (0, 0)) by
    rintro k rfl cs' hc
    obtain ⟨cur, hh⟩ := h.gs_row
    rw [hh] at hc
    injection hc with hc
    injection hc with _ h2
    exact absurd h2 (by decide))
  have Hnd := hide h.nd
  clear hN hgoal
  go_enter Tryd.func67, Tryd.ntmps67
  go_wp2_with fail
  go_loopw [10, 11, 16] (fun v q i wr => ∃ k : Nat, k ≤ m ∧ i = .int .i64 k ∧ q = .bool ((vis S (ns.take k)).2.any goal) ∧ wr.ownsRow w.heap.size 3 1 v (vis S (ns.take k)).2.length (nats (vis S (ns.take k)).2) ∧ (vis S (ns.take k)).2.length ≤ k ∧
      Sea w0 wr bs bg bt gs N cs (.func (.func kg) #[] capg) (vis S (ns.take k)).1 vst sts ∧ Frm (fun b => b = gs) w wr) (fun _ _ i _ => m - (intOf i).toNat)
  case atStart => exact ⟨0, Nat.zero_le _, rfl, rfl, World.ownsRow_nil _ _ _ _, Nat.zero_le _, h, Frm.refl _ _⟩
  case round =>
    clear h
    obtain ⟨k, hk, rfl, rfl, hown, hfl, h, hfr⟩ := hrel
    have hTl := hide (show (vis S (ns.take k)).1.length = N by have := h.ds.1; rw [bools_length] at this; omega)
    by_cases hlt : k < m
    · obtain ⟨g, o, n, rfl, hx, hc⟩ := (hA.frm hfr HgsI.out).at_ hlt
      have hnN := hNs.out n (List.mem_of_getElem? hx.out)
      have hv1 := hide (vis_take (S := S) hx.out)
      generalize vis S (ns.take k) = st at *
      obtain ⟨T, fr⟩ := st
      simp only at hown hfl h hTl
      obtain ⟨tb, htb⟩ : ∃ tb, Hid (T[n]? = some tb) := ⟨_, List.getElem?_eq_getElem (by have := hTl.out; omega)⟩
      have htd := hide (show T.getD n true = tb by rw [List.getD_eq_getElem?_getD, htb.out]; rfl)
      have cS := h.vs.cell
      have cD : wr.cell? ⟨gs, n, none⟩ = some (.bool tb) := by rw [h.ds.cellAt n (by omega)]; simp [bools, htb.out]
      have fD := h.ds.frozenAt n
      cases tb
      · have hv2 := hide (hv1.out.trans (show visN (T, fr) n = (T.set n true, fr ++ [n]) by unfold visN; rw [if_neg (by rw [htd.out]; decide)]))
        have hmk := h.mark (n := n)
        have hfm : Frm (fun b => b = gs) w (wr.setCell ⟨gs, n, none⟩ (.bool true)) := hfr.cell rfl _
        have hgsw := h4.2
        have hownm := own_frm hown (Frm.setCell wr gs n (.bool true)) (fun b hv hS => by have := (hown.lt b hv).1; omega)
        have hcf : ∃ tg, Blk wr bg tg #[.func (.func kg) #[] capg] := h.vg
        cases hfb : fr.any goal
        all_goals
          have Hfb := hide hfb
          clear hfb
          go_upto_region 8 with fail
          generalize wr.setCell ⟨gs, n, none⟩ (.bool true) = w2 at *
          go_wp2_with (at_builtin; refine wpList_push3 w _ rfl _ _ _ rfl 3 _ 1 8 Tryd.underlying33 info_int rfl (by decide) u10 fr.length (nats fr) _ _ rfl rfl hfm.size hownm rfl (by simp [Value.oneCell']) (by unfold maxLen; omega) (by omega) ?_; intro g5 cap5 w3 hown3 hg3 hat3 hlt3; have hf3 : Frm (fun b => b = gs) w w3 := hfm.grown_ hg3 (fun k hk => (hownm.lt k hk).1); have hsea3 := hmk.far (Frm.of_grown hg3) (fun k hk => (hownm.lt k hk).1) h1 h2 h3 h4.2 h5.out h0 (Hnd.out.frm hf3 HgsI.out); obtain ⟨tg, hbg3⟩ := hsea3.vg; have cg3 := hbg3.cell)
        · refine (Hgoal.out w3 hsea3.ext n hnN).mono ?_
          rintro e w4 ⟨rfl, hx4⟩
          go_wp2_with fail
          go_roundw
          case rel => exact ⟨k + 1, by omega, by go_num, by rw [hv2.out, any_snoc, Hfb.out]; rfl, by rw [hv2.out]; simpa [nats] using own_ext hown3 hx4, by rw [hv2.out]; simp; omega, by rw [hv2.out]; exact hsea3.ext_ hx4, hf3.ext hx4⟩
          case measure => simp [intOf]; omega
        · go_roundw
          case rel => exact ⟨k + 1, by omega, by go_num, by rw [hv2.out, any_snoc, Hfb.out]; rfl, by rw [hv2.out]; simpa [nats] using hown3, by rw [hv2.out]; simp; omega, by rw [hv2.out]; exact hsea3, hf3⟩
          case measure => simp [intOf]; omega
      · have hv2 := hide (hv1.out.trans (show visN (T, fr) n = (T, fr) by unfold visN; rw [if_pos htd.out]))
        go_wp2_with fail
        go_roundw
        case rel => exact ⟨k + 1, by omega, by go_num, by rw [hv2.out], by rw [hv2.out]; exact hown, by rw [hv2.out]; exact Nat.le_succ_of_le hfl, by rw [hv2.out]; exact h, hfr⟩
        case measure => simp [intOf]; omega
    · obtain rfl : k = m := by omega
      have htk : ns.take k = ns := List.take_of_length_le (by have := hnl.out; omega)
      rw [htk] at hown hfl h ⊢
      have hsz := hfr.size
      clear htk hTl
      obtain ⟨A', c', rfl⟩ := own_form hown
      have hA' := IntsAt.own hown
      have hres := hide (show ∀ W vst' sts', Sea w0 W bs bg bt gs N cs (.func (.func kg) #[] capg) (vis S ns).1 vst' sts' → w.heap.size ≤ W.heap.size → (((vis S ns).2 = [] ∧ sts' = sts) ∨ ((vis S ns).2 ≠ [] ∧ ∃ v, sts' = sts ++ [(⟨parent, letter, (vis S ns).2⟩, v)])) → RetVisit w0 w bs bg bt gs N cs (.func (.func kg) #[] capg) S sts goal parent letter ns (.returned (.bool ((vis S ns).2.any goal))) W from fun W vst' sts' h1 h2 h3 => ⟨rfl, h1.ext, h2, vst', sts', h1, h3⟩)
      clear Hgoal hin
      generalize vis S ns = st at *
      obtain ⟨T, fr⟩ := st
      simp only at hown hfl h hA' hres ⊢
      generalize fr.any goal = found at *
      cases hfr0 : fr with
      | nil =>
        subst hfr0
        go_wp2_with fail
        go_ret
        exact hres.out _ _ _ h hsz (Or.inl (by simp))
      | cons x r =>
        have hfl0 : 0 < fr.length := by rw [hfr0]; simp
        have hfne := hide (show fr ≠ [] by rw [hfr0]; simp)
        rw [← hfr0]
        clear hfr0
        have cT := h.vt.cell
        go_wp2_with (at_builtin; refine wpList_push3 w0 wr rfl _ _ _ rfl 79 _ 3 40 Tryd.underlying77 info_step rfl (by decide) vst sts.length (stCells sts) _ _ rfl rfl h.ext.size h.dt rfl (by simp [Value.oneCell']) (by unfold maxLen; omega) (by omega) ?_; intro g5 cap5 w3 hown3 hg3 hat3 hlt3; obtain ⟨q1, q2, q3⟩ := h.push (p := ⟨parent, letter, fr⟩) hown3 hg3 hat3 rfl hA'; have q1' := q1.out; have hsz3 := hg3.size)
        go_ret
        exact hres.out _ _ _ q3 (by simp; omega) (Or.inr ⟨hfne.out, _, rfl⟩)
end Go.Proofs.YtbifoikcmjmdeaaDoor

namespace Go.Proofs.YtbifoikcmjmdeaaDoor
open Go Go.RowKit Go.Lib Go.Sort
set_option maxHeartbeats 2000000

abbrev enc8 (n : Int) : Value := .int .u8 n
set_option maxRecDepth 1000000 in
theorem rev_bytes (blk off cap : Nat) (d : Array Int) (w : World) (hH : Holds enc8 w blk off d) (hsz : d.size ≤ 9223372036854775807) :
    Calls Tryd.prog 86 #[.slice (some ⟨blk, off, none⟩) d.size cap] w fun e w' => e = .returned (.tuple #[]) ∧ ∃ n, w' = putRow enc8 (Sort.ahead w n) blk off d.reverse := by
  have mixed : Tryd.prog.follows .mixedOrders = true := by kernel_rfl
  go_enter Tryd.func86, Tryd.ntmps86
  go_wp2
  go_loopg [2, 3] d.size (fun k s2 s3 wr => ∃ (i jn : Nat) (jz : Int) (dk : Array Int) (n : Nat), s2 = .int .i64 i ∧ s3 = .int .i64 jz ∧ ((i : Int) < jz → jz = jn ∧ jn < d.size) ∧ (¬ (i : Int) < jz → ¬ i < jn) ∧ jn - i ≤ k ∧
    dk.size = d.size ∧ wr = putRow enc8 (Sort.ahead w n) blk off dk ∧ reverseLoop i jn dk = reverseLoop 0 (d.size - 1) d)
  case atStart => exact ⟨0, d.size - 1, (d.size : Int) - 1, d, 0, rfl, rfl, fun h => ⟨by omega, by omega⟩, fun h => by omega, by omega, rfl, (putRow_self enc8 w blk off d hH).symm, rfl⟩
  case round =>
    obtain ⟨i, jn, jz, dk, n, rfl, rfl, h1, h2, hk, hds, hwr, heq⟩ := hrel
    by_cases hlt : (i : Int) < jz
    · obtain ⟨rfl, hjn⟩ := h1 hlt
      have hij : i < jn := by omega
      have hid : i < d.size := by omega
      have hHk : Holds enc8 wr blk off dk := by rw [hwr]; exact holds_putRow enc8 _ blk off d dk (holds_ahead enc8 w n blk off d hH) hds
      obtain ⟨ci, fi⟩ := hHk i (by omega)
      obtain ⟨cj, fj⟩ := hHk jn (by omega)
      have A : Aside (wr = putRow enc8 (Sort.ahead w n) blk off dk) := hwr
      clear hwr hHk hH h1 h2
      go_wp2_with fail
      go_region_o
      go_wp2
      go_roundg (jn - 1 - (i + 1))
      case measure => omega
      case rel =>
        rw [reverseLoop, if_pos hij] at heq
        exact ⟨i + 1, jn - 1, (jn : Int) - 1, swp dk i jn, n + 1, by simp, rfl, fun h => ⟨by omega, by omega⟩, fun h => by omega, Nat.le_refl _, by rw [size_swp]; exact hds,
          swap_world enc8 (by omega) (by omega) A.out (by first | rfl | simp [enc8, getElem!_pos, show jn < dk.size by omega]) (by first | rfl | simp [enc8, getElem!_pos, show i < dk.size by omega]), heq⟩
    · have hnot := h2 hlt
      go_wp2
      go_end0
      refine ⟨rfl, n, ?_⟩
      rw [reverseLoop, if_neg hnot] at heq
      rw [← Lib.reverseLoop_reverse, ← heq]
end Go.Proofs.YtbifoikcmjmdeaaDoor

namespace Go.Proofs.YtbifoikcmjmdeaaDoor
open Go Go.RowKit
set_option maxHeartbeats 2000000

theorem letterByte_any {l : Nat} (hl : l < 6) (w : World) : Calls Tryd.prog 85 #[.int .i64 (l : Nat)] w fun e w' => e = .returned (.int .u8 ((97 + l : Nat) : Nat)) ∧ w = w' := by
  go_enter Tryd.func85, Tryd.ntmps85
  go_wp2
  go_ret
  exact ⟨by rw [show (((97 + l : Nat) : Nat) : Int) = 97 + (l : Int) by omega]; rfl, rfl⟩

theorem rev_none (w : World) : Calls Tryd.prog 86 #[.slice none 0 0] w fun e w' => e = .returned (.tuple #[]) ∧ w' = w := by
  go_enter Tryd.func86, Tryd.ntmps86
  go_wp2
  go_loopg [2, 3] 0 (fun k s2 s3 wr => s2 = .int .i64 0 ∧ s3 = .int .i64 (-1) ∧ wr = w)
  case atStart => exact ⟨rfl, rfl, rfl⟩
  case round =>
    obtain ⟨rfl, rfl, rfl⟩ := hrel
    go_wp2
    go_end0
    exact ⟨rfl, rfl⟩

theorem info_u8 : (Tryd.prog.info? 5).map (fun i => (i.zero, i.size, i.bytes)) = some (some (.int .u8 0), 1, 1) := by kernel_rfl
/-- The bytes of letters. -/
def lbs (o : List Nat) : List Int := o.map fun l => ((97 + l : Nat) : Int)
theorem lbs_append (o p : List Nat) : lbs (o ++ p) = lbs o ++ lbs p := by simp [lbs]
theorem lbs_reverse (o : List Nat) : lbs o.reverse = (lbs o).reverse := by simp [lbs]
theorem lbs_length (o : List Nat) : (lbs o).length = o.length := by simp [lbs]
def u8s (l : List Int) : List Value := l.map enc8
theorem Holds.own8 {w : World} {base g n cap : Nat} {e : TypeId} {l : List Int} (h : w.ownsRow base e 1 (.slice (some ⟨g, 0, none⟩) n cap) n (u8s l)) : Sort.Holds enc8 w g 0 l.toArray := by
  intro j hj
  have hj' : j < l.length := by simpa using hj
  have hn := h.1
  simp only [u8s, List.length_map] at hn
  refine ⟨?_, by rw [Nat.zero_add]; exact h.frozenAt j⟩
  rw [Nat.zero_add, h.cellAt j (by omega)]
  simp [u8s, hj']
theorem Ext.putRow {w W : World} {g off n : Nat} {d : Array Int} (h : Ext w W) (hg : w.heap.size ≤ g) : Ext w (Sort.putRow enc8 (Sort.ahead W n) g off d) := by
  refine ⟨h.os, h.tape, h.output, ?_, fun k hk _ => ?_⟩
  · show w.heap.size ≤ (W.heap.modify g _).size
    rw [Array.size_modify]; exact h.size
  · show (W.heap.modify g _)[k]? = _
    rw [Array.getElem?_modify, if_neg (by omega)]
    exact h.heap hk

theorem u8_row : Tryd.prog.underlying 22 = some (.slice 5) := by kernel_rfl
theorem u8_und : Tryd.prog.underlying 5 = some (.int .u8) := by kernel_rfl
theorem str_und : Tryd.prog.underlying 9 = some .string := by kernel_rfl
theorem Ext.put_some {w W w' : World} {g off : Nat} {d : Array Int} (h : Ext w W) (hg : w.heap.size ≤ g) (hw : ∃ n, w' = Sort.putRow enc8 (Sort.ahead W n) g off d) : Ext w w' := by
  obtain ⟨n, rfl⟩ := hw
  exact h.putRow hg
theorem conv_rev {W w' : World} {g cap : Nat} {o : List Nat} (h : Sort.Holds enc8 W g 0 (lbs o).toArray) (hw : ∃ n, w' = Sort.putRow enc8 (Sort.ahead W n) g 0 (lbs o).toArray.reverse) :
    (convert 22 9 (.slice (some ⟨g, 0, none⟩) o.length cap)).run Tryd.prog w' = .ok (.string (strOfNums (lbs o.reverse))) w' := by
  obtain ⟨n, rfl⟩ := hw
  have hH := Sort.holds_putRow enc8 _ g 0 _ (lbs o).toArray.reverse (Sort.holds_ahead enc8 W n g 0 _ h) (by simp)
  refine run_convert_bytes_arg (P := Tryd.prog) _ 22 5 u8_row u8_und g 0 o.length cap (lbs o.reverse) (by simp [lbs]) (fun i hi => ?_) _ str_und
  rw [(hH i (by simpa [lbs] using hi)).1, lbs_reverse]
  have hi2 : i < (lbs o).reverse.length := by simpa [lbs] using hi
  have hi3 : i < (lbs o).toArray.reverse.size := by simpa [lbs] using hi
  rw [getElem!_pos (lbs o).toArray.reverse i hi3]
  simp [enc8, List.getD, List.getElem?_eq_getElem hi2, -List.getElem?_reverse, -List.getElem_reverse]

set_option maxRecDepth 100000 in
theorem pathWord_any {w : World} {base : Nat} {A : Option Addr} {n c : Nat} {sts : List (Stp × Value)} {ws : List (List Nat)} (h : w.ownsRow base 79 3 (.slice A n c) n (stCells sts)) (hn : sts.length = n) (h0 : 0 < n) (hsz : n ≤ 1073741824)
    (hw : ∀ (k : Nat) (p : Stp) (v : Value), sts[k]? = some (p, v) → (p.parent = -1 ∧ ws.getD k [] = []) ∨ ∃ a : Nat, p.parent = (a : Int) ∧ a < k ∧ p.letter < 6 ∧ ws.getD k [] = ws.getD a [] ++ [p.letter]) :
    Calls Tryd.prog 68 #[.slice A n c] w fun e w' => e = .returned (.string (strOfNums (lbs (ws.getD (n - 1) [])))) ∧ Ext w w' := by
  have Hw := hide hw
  have Hn := hide hn
  obtain ⟨g, rfl⟩ : ∃ g, A = some ⟨g, 0, none⟩ := by
    rcases h.2 with ⟨_, hh⟩ | ⟨g, cap, cur, hv, _⟩
    · omega
    · exact ⟨g, by injection hv⟩
  have hgl := (h.lt g rfl).2
  have Hcell := hide (fun (k : Nat) (p : Stp) (v : Value) (hk : sts[k]? = some (p, v)) => (show w.cell? ⟨g, k * 3, none⟩ = some (.int .i64 p.parent) ∧ w.cell? ⟨g, k * 3 + 1, none⟩ = some (.int .i64 (p.letter : Nat)) by
    have hkl := (List.getElem?_eq_some_iff.1 hk).1
    obtain ⟨e1, e2, _⟩ := stCells_get hk
    rw [h.cellAt _ (by omega), h.cellAt _ (by omega)]
    exact ⟨e1, e2⟩))
  clear hw hn h
  go_enter Tryd.func68, Tryd.ntmps68
  go_wp2
  go_loopw [3, 4] (fun v i wr => ∃ (k : Nat) (o : List Nat), k < n ∧ i = .int .i64 k ∧ wr.ownsRow w.heap.size 5 1 v o.length (u8s (lbs o)) ∧ Hid (ws.getD (n - 1) [] = ws.getD k [] ++ o.reverse) ∧ o.length + k < n ∧ Ext w wr)
    (fun _ i _ => (intOf i).toNat)
  case atStart => exact ⟨n - 1, [], by omega, by first | go_num | (congr 1; omega), World.ownsRow_nil _ _ _ _, by simp [Hid], by simp; omega, Ext.refl _⟩
  case round =>
    obtain ⟨k, o, hk, rfl, hown, hword, hol, hext⟩ := hrel
    obtain ⟨p, v, hp⟩ : ∃ p v, sts[k]? = some (p, v) := ⟨_, _, List.getElem?_eq_getElem (by have := Hn.out; omega)⟩
    obtain ⟨c0, c1⟩ := Hcell.out k p v hp
    have C0 : ∀ W, Ext w W → W.cell? ⟨g, k * 3, none⟩ = some (.int .i64 p.parent) := fun W hW => hW.cell_some c0
    have C1 : ∀ W, Ext w W → W.cell? ⟨g, k * 3 + 1, none⟩ = some (.int .i64 (p.letter : Nat)) := fun W hW => hW.cell_some c1
    obtain ⟨par, l, ns⟩ := p
    dsimp only at C0 C1
    have hkn : (k : Int) < (n : Int) := by omega
    clear c0 c1 
    rcases Hw.out k _ v hp with ⟨hpar, hwk⟩ | ⟨a, hpar, hak, hl6, hwk⟩
    · dsimp only at hpar
      subst hpar
      have hwf := hide (show ws.getD (n - 1) [] = o.reverse by rw [hword.out, hwk]; rfl)
      clear hword hwk hp
      rcases hown.2 with ⟨rfl, hol0⟩ | ⟨gg, cap, cur, rfl, hgg, hh, _⟩
      · have ho : o = [] := List.eq_nil_of_length_eq_zero hol0
        subst ho
        have hcv : ∀ W, (convert 22 9 (.slice none 0 0)).run Tryd.prog W = .ok (.string ByteArray.empty) W := fun W => run_convert_bytes_nil (P := Tryd.prog) W 22 5 u8_row u8_und _ _ _ str_und
        go_wp2_with (go_at_call 86; refine (rev_none _).mono ?_; rintro e w' ⟨rfl, rfl⟩)
        go_ret
        exact ⟨by rw [hwf.out]; rfl, hext⟩
      · have key := rev_bytes gg 0 cap (lbs o).toArray wr (Holds.own8 hown) (by simp [lbs]; omega)
        rw [show (lbs o).toArray.size = o.length by simp [lbs]] at key
        have hH := hide (Holds.own8 hown)
        go_wp2_with (go_at_call 86; refine key.mono ?_; rintro e w' ⟨rfl, hw'⟩; have hcv := conv_rev (cap := cap) hH.out hw'; have hx := Ext.put_some hext hgg hw'; clear hw')
        go_ret
        exact ⟨by rw [hwf.out]; rfl, hx⟩
    · dsimp only at hpar hwk hl6
      subst hpar
      have hwn := hide (show ws.getD (n - 1) [] = ws.getD a [] ++ (o ++ [l]).reverse by rw [hword.out, hwk]; simp)
      clear hword hwk hp
      go_wp2_with (first
        | (go_at_call 85; refine (letterByte_any hl6 _).mono ?_; rintro e w' ⟨rfl, rfl⟩)
        | (at_builtin; refine wpList_push w wr rfl (.tmp 19) (.tmp 26) _ rfl 5 _ 1 1 Tryd.underlying22 info_u8 rfl (by decide) u3 _ _ _ _ rfl rfl hext hown rfl (cells_u8 _) (by unfold maxLen; omega) (by omega) ?_; intro v' w1 hext1 hown1 hg1 hat1))
      go_roundw
      case rel => exact ⟨a, o ++ [l], by omega, rfl, by simpa [u8s, lbs] using hown1, hwn, by simp; omega, by assumption⟩
      case measure => simp [intOf]; omega
end Go.Proofs.YtbifoikcmjmdeaaDoor
