/- Plain: the greatest relation in which the edges of two systems answer each other, as a list of sets. No program in sight. | The members of a set, walked. | Plain: the sets of the states that letters lead to, and what makes edges answer each other, in bits. | Plain: the nodes to which a letter leads in systems that run together. No program in sight. | Contracts of the leaves on words. | Contracts: validity of automata. | spec.l1Bit, spec.l2Step, walked. | impl.answers, walked. -/
import Derived.Test.YtplllipekeomiaaGreatDoorG01
import Derived.Test.YtplllipekeomiaaGreatDoorG02
namespace Go.Proofs.YtplllipekeomiaaGreatDoor
open Go Go.RowKit

/-- There is an edge from i over l to k. -/
def E (es : List Edg) (i l k : Nat) : Prop := ∃ e ∈ es, e.fr = i ∧ e.le = l ∧ e.to = k
/-- The edges from i are answered by those from j, into X; the other way round too, if both. -/
def Ok (both : Bool) (es es' : List Edg) (X : Nat → Nat → Prop) (i j : Nat) : Prop :=
  (∀ l k, E es i l k → ∃ k', E es' j l k' ∧ X k k') ∧ (both = true → ∀ l k', E es' j l k' → ∃ k, E es i l k ∧ X k k')
theorem Ok.mono {both : Bool} {es es' : List Edg} {X Y : Nat → Nat → Prop} {i j : Nat} (h : Ok both es es' X i j) (hXY : ∀ i j, X i j → Y i j) : Ok both es es' Y i j := by
  refine ⟨fun l k hk => ?_, fun hb l k hk => ?_⟩
  · obtain ⟨k', h1, h2⟩ := h.1 l k hk
    exact ⟨k', h1, hXY _ _ h2⟩
  · obtain ⟨k', h1, h2⟩ := h.2 hb l k hk
    exact ⟨k', h1, hXY _ _ h2⟩
/-- A list of sets, as a relation. -/
def rel (R : List Nat) (i j : Nat) : Prop := i < R.length ∧ (R.getD i 0).testBit j = true
/-- A relation between the m and the n states in which the edges answer each other. -/
def Post (both : Bool) (es es' : List Edg) (m n : Nat) (X : Nat → Nat → Prop) : Prop := ∀ i j, X i j → i < m ∧ j < n ∧ Ok both es es' X i j
/-- The sets hold the greatest relation, and are small. -/
structure Inv (both : Bool) (es es' : List Edg) (m n : Nat) (R : List Nat) : Prop where
  len : R.length = m
  small : ∀ r ∈ R, r < 2 ^ n
  great : ∀ X, Post both es es' m n X → ∀ i j, X i j → rel R i j
structure Gfp (both : Bool) (es es' : List Edg) (m n : Nat) (R : List Nat) : Prop extends Inv both es es' m n R where
  post : ∀ i j, rel R i j → Ok both es es' (rel R) i j

theorem rel_lt {both : Bool} {es es' : List Edg} {m n : Nat} {R : List Nat} (h : Inv both es es' m n R) {i j : Nat} (hr : rel R i j) : i < m ∧ j < n := by
  refine ⟨by have := h.len; have := hr.1; omega, ?_⟩
  rcases Nat.lt_or_ge j n with h1 | h1
  · exact h1
  · have hi := hr.1
    have hm := h.small _ (List.getElem_mem hi)
    have := Nat.testBit_lt_two_pow (Nat.lt_of_lt_of_le hm (Nat.pow_le_pow_right (by omega) h1))
    have h2 := hr.2
    rw [List.getD_eq_getElem?_getD, List.getElem?_eq_getElem hi] at h2
    simp [this] at h2

theorem Gfp.unique {both : Bool} {es es' : List Edg} {m n : Nat} {R S : List Nat} (h : Gfp both es es' m n R) (h' : Gfp both es es' m n S) : R = S := by
  have p : Post both es es' m n (rel R) := fun i j hr => ⟨(rel_lt h.toInv hr).1, (rel_lt h.toInv hr).2, h.post i j hr⟩
  have p' : Post both es es' m n (rel S) := fun i j hr => ⟨(rel_lt h'.toInv hr).1, (rel_lt h'.toInv hr).2, h'.post i j hr⟩
  have e : ∀ i j, rel R i j ↔ rel S i j := fun i j => ⟨fun x => h'.great _ p i j x, fun x => h.great _ p' i j x⟩
  apply List.ext_getElem (by rw [h.len, h'.len])
  intro i h1 h2
  apply Nat.eq_of_testBit_eq
  intro j
  have := e i j
  simp only [rel, h1, h2, true_and, List.getD_eq_getElem?_getD, List.getElem?_eq_getElem, Option.getD_some] at this
  exact Bool.eq_iff_iff.2 this

theorem Inv.start (both : Bool) (es es' : List Edg) (m n : Nat) : Inv both es es' m n (List.replicate m (2 ^ n - 1)) where
  len := by simp
  small r hr := by
    have := Nat.two_pow_pos n
    rw [List.eq_of_mem_replicate hr]; omega
  great X hX i j hx := by
    obtain ⟨h1, h2, _⟩ := hX i j hx
    refine ⟨by simpa using h1, ?_⟩
    rw [List.getD_eq_getElem?_getD, List.getElem?_replicate, if_pos h1, Option.getD_some, Nat.testBit_two_pow_sub_one]
    simpa using h2

/-- A set without one number. -/
theorem sub_part (p q r : Nat) (h : 1 ≤ q) : p * q + r - p = p * (q - 1) + r := by
  obtain ⟨d, rfl⟩ : ∃ d, q = d + 1 := ⟨q - 1, by omega⟩
  rw [Nat.mul_add, Nat.mul_one, Nat.add_sub_cancel]
  omega
theorem testBit_part {q r j : Nat} (hq : q % 2 = 1) (hr : r < 2 ^ j) (k : Nat) : (2 ^ j * (q - 1) + r).testBit k = ((2 ^ j * q + r).testBit k && !decide (k = j)) := by
  rw [Nat.testBit_two_pow_mul_add _ hr, Nat.testBit_two_pow_mul_add _ hr]
  by_cases hk : k < j
  · rw [if_pos hk, if_pos hk]
    have : k ≠ j := by omega
    simp [this]
  · rw [if_neg hk, if_neg hk]
    obtain ⟨d, rfl⟩ : ∃ d, k = j + d := ⟨k - j, by omega⟩
    rw [Nat.add_sub_cancel_left]
    cases d with
    | zero => simp [Nat.testBit_zero]; omega
    | succ d =>
      rw [Nat.testBit_succ, Nat.testBit_succ, show (q - 1) / 2 = q / 2 by omega]
      simp
theorem testBit_sub_pow {x j : Nat} (h : x.testBit j = true) (k : Nat) : (x - 2 ^ j).testBit k = (x.testBit k && !decide (k = j)) := by
  have hodd : x / 2 ^ j % 2 = 1 := by
    have := h
    rw [Nat.testBit_eq_decide_div_mod_eq] at this
    simpa using this
  have hdm := Nat.div_add_mod x (2 ^ j)
  have hlt := Nat.mod_lt x (Nat.two_pow_pos j)
  have hq : 1 ≤ x / 2 ^ j := by generalize x / 2 ^ j = q at hodd; omega
  have := testBit_part hodd hlt k
  rw [← sub_part _ _ _ hq, hdm] at this
  exact this

theorem rel_set {R : List Nat} {i j : Nat} (h : rel R i j) (a b : Nat) : rel (R.set i (R.getD i 0 - 2 ^ j)) a b ↔ rel R a b ∧ ¬ (a = i ∧ b = j) := by
  unfold rel
  have h1 := h.1
  have h2 := h.2
  simp only [List.length_set, List.getD_eq_getElem?_getD] at h2 ⊢
  by_cases ha : a = i
  · subst ha
    rw [List.getElem?_set_self h1, Option.getD_some, testBit_sub_pow h2]
    by_cases hb : b = j
    · simp [hb]
    · simp [hb]
  · rw [List.getElem?_set_ne (by omega)]
    simp [ha]

theorem Inv.drop {both : Bool} {es es' : List Edg} {m n : Nat} {R : List Nat} {i j : Nat} (h : Inv both es es' m n R) (hr : rel R i j) (hn : ¬ Ok both es es' (rel R) i j) : Inv both es es' m n (R.set i (R.getD i 0 - 2 ^ j)) where
  len := by rw [List.length_set, h.len]
  small r hm := by
    rcases List.mem_or_eq_of_mem_set hm with h1 | h1
    · exact h.small r h1
    · have hi := hr.1
      have := h.small _ (List.getElem_mem hi)
      rw [h1, List.getD_eq_getElem?_getD, List.getElem?_eq_getElem hi, Option.getD_some]
      exact Nat.lt_of_le_of_lt (Nat.sub_le _ _) this
  great X hX a b hx := by
    rw [rel_set hr]
    refine ⟨h.great X hX a b hx, ?_⟩
    rintro ⟨rfl, rfl⟩
    exact hn ((hX _ _ hx).2.2.mono (h.great X hX))
theorem sum_drop {R : List Nat} {i j : Nat} (hr : rel R i j) : (R.set i (R.getD i 0 - 2 ^ j)).sum + 2 ^ j = R.sum := by
  obtain ⟨hi, hb⟩ := hr
  have hle := Nat.ge_two_pow_of_testBit hb
  induction R generalizing i with
  | nil => simp at hi
  | cons x r ih =>
    cases i with
    | zero => simp at hle ⊢; omega
    | succ i =>
      simp only [List.getD_cons_succ] at hb hle ⊢
      have := ih (by simpa using hi) hb hle
      simp only [List.set_cons_succ, List.sum_cons]
      omega
theorem sum_drop_lt {R : List Nat} {i j : Nat} (hr : rel R i j) : (R.set i (R.getD i 0 - 2 ^ j)).sum < R.sum := by
  have := sum_drop hr
  have := Nat.two_pow_pos j
  omega

/-- The set of the states that a letter leads to. -/
def succ (es : List Edg) (i l : Int) : Nat := es.foldl (fun m e => if e.fr = i ∧ e.le = l then m ||| 2 ^ e.to.toNat else m) 0
theorem succ_snoc (es : List Edg) (e : Edg) (i l : Int) : succ (es ++ [e]) i l = if e.fr = i ∧ e.le = l then succ es i l ||| 2 ^ e.to.toNat else succ es i l := by
  simp [succ]
end Go.Proofs.YtplllipekeomiaaGreatDoor

namespace Go.Proofs.YtplllipekeomiaaGreatDoor
open Go Go.RowKit
set_option maxHeartbeats 1000000

theorem and_pred (k m : Nat) : (2 ^ k * (2 * m + 1)) &&& (2 ^ k * (2 * m + 1) - 1) = 2 ^ k * (2 * m) := by
  have hp := Nat.two_pow_pos k
  have e : 2 ^ k * (2 * m + 1) - 1 = 2 ^ k * (2 * m) + (2 ^ k - 1) := by rw [Nat.mul_add, Nat.mul_one]; omega
  rw [e]
  apply Nat.eq_of_testBit_eq
  intro i
  have e0 : ∀ q, (2 ^ k * q).testBit i = if i < k then false else q.testBit (i - k) := fun q => by
    have := Nat.testBit_two_pow_mul_add q (b := 0) (i := k) hp i
    rw [Nat.add_zero] at this
    rw [this, Nat.zero_testBit]
  rw [Nat.testBit_and, e0, Nat.testBit_two_pow_mul_add _ (by omega), e0]
  by_cases hi : i < k
  · simp [hi]
  · simp only [hi, if_false]
    cases hd : i - k with
    | zero => simp [Nat.testBit_zero]
    | succ d => rw [Nat.testBit_succ, Nat.testBit_succ, show (2 * m + 1) / 2 = m by omega, show (2 * m) / 2 = m by omega]; simp
/-- The lowest number of a set: what lies below is not in it; taken away, the rest stays. -/
theorem lowest {x : Nat} (h0 : x ≠ 0) (hs : Sm x) : ∃ k, Lib.ctz 64 x = k ∧ k < 32 ∧ x.testBit k = true ∧ (∀ i, i < k → x.testBit i = false) ∧ x &&& (x - 1) = x - 2 ^ k ∧ 2 ^ k ≤ x := by
  have hx := hs.lt
  obtain ⟨m, hm, hk⟩ := Lib.ctzFrom_spec 64 x (by omega) (by omega)
  have e : Lib.ctz 64 x = Lib.ctzFrom 64 x := by simp [Lib.ctz, h0]
  generalize Lib.ctzFrom 64 x = k at *
  have hp := Nat.two_pow_pos k
  have hle : 2 ^ k ≤ x := by rw [hm]; exact Nat.le_mul_of_pos_right _ (by omega)
  have e0 : ∀ q i, (2 ^ k * q).testBit i = if i < k then false else q.testBit (i - k) := fun q i => by
    have := Nat.testBit_two_pow_mul_add q (b := 0) (i := k) hp i
    rw [Nat.add_zero] at this
    rw [this, Nat.zero_testBit]
  refine ⟨k, e, ?_, ?_, fun i hi => ?_, ?_, hle⟩
  · apply Nat.lt_of_not_le
    intro h32
    have := Nat.pow_le_pow_right (n := 2) (by omega) h32
    omega
  · rw [hm, e0]; simp
  · rw [hm, e0]; simp [hi]
  · rw [hm, and_pred, Nat.mul_add, Nat.mul_one, Nat.add_sub_cancel]
theorem testBit_sub_low {x j : Nat} (h : x.testBit j = true) (hl : ∀ i, i < j → x.testBit i = false) (k : Nat) : (x - 2 ^ j).testBit k = (x.testBit k && !decide (k = j)) := by
  have hodd : x / 2 ^ j % 2 = 1 := by
    have := h
    rw [Nat.testBit_eq_decide_div_mod_eq] at this
    simpa using this
  have hp := Nat.two_pow_pos j
  have hr : x % 2 ^ j = 0 := by
    apply Nat.eq_of_testBit_eq
    intro i
    rw [Nat.testBit_mod_two_pow, Nat.zero_testBit]
    by_cases hi : i < j
    · simp [hi, hl i hi]
    · simp [hi]
  have hdm := Nat.div_add_mod x (2 ^ j)
  rw [hr, Nat.add_zero] at hdm
  generalize x / 2 ^ j = q at *
  have e0 : ∀ q i, (2 ^ j * q).testBit i = if i < j then false else q.testBit (i - j) := fun q i => by
    have := Nat.testBit_two_pow_mul_add q (b := 0) (i := j) hp i
    rw [Nat.add_zero] at this
    rw [this, Nat.zero_testBit]
  have e : x - 2 ^ j = 2 ^ j * (q - 1) := by rw [← hdm, Nat.mul_sub, Nat.mul_one]
  rw [e, ← hdm, e0, e0]
  by_cases hk : k < j
  · simp [hk]
  · simp only [hk, if_false]
    obtain ⟨d, rfl⟩ : ∃ d, k = j + d := ⟨k - j, by omega⟩
    rw [Nat.add_sub_cancel_left]
    cases d with
    | zero => simp [Nat.testBit_zero]; omega
    | succ d =>
      rw [Nat.testBit_succ, Nat.testBit_succ, show (q - 1) / 2 = q / 2 by omega]
      simp
theorem letters_low {x k : Nat} (h : x.testBit k = true) (hl : ∀ i, i < k → x.testBit i = false) : ∀ n, (n ≤ k → letters x n = [] ∧ letters (x - 2 ^ k) n = []) ∧ (k < n → letters x n = k :: letters (x - 2 ^ k) n)
  | 0 => ⟨fun _ => ⟨rfl, rfl⟩, fun h => by omega⟩
  | n + 1 => by
    have ih := letters_low h hl n
    have hb := testBit_sub_low h hl n
    rw [letters_succ, letters_succ, hb]
    refine ⟨fun hn => ?_, fun hn => ?_⟩
    · obtain ⟨e1, e2⟩ := ih.1 (by omega)
      rw [e1, e2, hl n (by omega)]
      simp
    · rcases Nat.lt_or_ge k n with h1 | h1
      · rw [ih.2 h1]
        have : n ≠ k := by omega
        simp [this]
      · obtain ⟨e1, e2⟩ := ih.1 h1
        obtain rfl : n = k := by omega
        rw [e1, e2, h]
        simp
theorem letters_step {x : Nat} (h0 : x ≠ 0) (hs : Sm x) : letters x 32 = Lib.ctz 64 x :: letters (x &&& (x - 1)) 32 ∧ x &&& (x - 1) < x ∧ Lib.ctz 64 x < 32 := by
  obtain ⟨k, e, hk, hb, hl, ha, hle⟩ := lowest h0 hs
  have hp := Nat.two_pow_pos k
  rw [e, ha]
  exact ⟨(letters_low hb hl 32).2 hk, by omega, hk⟩

theorem impl_members (a : Nat) (hs : Sm a) (w : World) (hT : Tab w) :
    Calls Tryz.prog 128 #[.int .i64 a] w (RetNats w (letters a 32)) := by
  have hlen := letters_length a 32
  go_enter Tryz.func128, Tryz.ntmps128
  go_wp2
  go_loopw [0, 3, 4] (fun s v _ wr => ∃ x : Nat, s = .int .i64 x ∧ Sm x ∧ ∃ o : List Nat, Hid (letters a 32 = o ++ letters x 32) ∧ wr.ownsRow w.heap.size 3 1 v o.length (nats o) ∧ Ext w wr)
    (fun s _ _ _ => (intOf s).toNat)
  case atStart => exact ⟨a, rfl, hs, [], rfl, World.ownsRow_nil _ _ _ _, Ext.refl _⟩
  case round =>
    obtain ⟨x, rfl, hx, o, ho, hown, hext⟩ := hrel
    have hx' := hx.lt
    have hol : o.length + (letters x 32).length ≤ 32 := by have := ho.out; rw [this, List.length_append] at hlen; exact hlen
    by_cases h0 : x = 0
    · subst h0
      obtain ⟨A, c, rfl⟩ := own_form hown
      go_wp2
      go_ret
      have hl0 := ho.out
      rw [show letters 0 32 = [] by decide, List.append_nil] at hl0
      exact ⟨A, c, by rw [hl0]; rfl, by rw [hl0]; exact hown, hext⟩
    · obtain ⟨hl, hlt, hc⟩ := letters_step h0 hx
      have Hl := hide hl
      have hne : ((x : Int) != 0) = true := by simp; omega
      have hT' := hT.ext hext
      have hb := hide (bits_and (a := x) (b := x - 1) hx (by unfold Sm; omega))
      have hol' : o.length < 32 := by rw [hl] at hol; simp at hol; omega
      clear hl hlen hol
      have hi := hide (show ((x : Int) - 1) = ((x - 1 : Nat) : Int) by omega)
      go_wp2_with (first
        | (go_at_call 134; refine (tz x (by omega) h0 _ hT').mono ?_; rintro e w' ⟨rfl, rfl⟩)
        | (at_builtin; refine wpList_push w wr rfl (.tmp 10) (.tmp 14) _ rfl 3 _ 1 8 Tryz.underlying84 info_int rfl (by decide) u3 _ _ _ _ rfl rfl hext hown rfl (cells_int _) (by unfold maxLen; omega) (by omega) ?_; intro v' w1 hext1 hown1 hg1 hat1))
      go_roundw
      case rel => exact ⟨x &&& (x - 1), by rw [hi.out, hb.out], Nat.lt_of_le_of_lt Nat.and_le_left hx, o ++ [Lib.ctz 64 x], by have := ho.out; unfold Hid; rw [this, Hl.out]; simp, by simpa [nats] using hown1, by assumption⟩
      case measure =>
        have := hb.out
        rw [← hi.out] at this
        simp [intOf]
        omega
end Go.Proofs.YtplllipekeomiaaGreatDoor

namespace Go.Proofs.YtplllipekeomiaaGreatDoor
open Go Go.RowKit

theorem foldl_bit (es : List Edg) (p : Edg → Prop) [DecidablePred p] (m k : Nat) : (es.foldl (fun m e => if p e then m ||| 2 ^ e.to.toNat else m) m).testBit k = true ↔ m.testBit k = true ∨ ∃ e ∈ es, p e ∧ e.to.toNat = k := by
  induction es generalizing m with
  | nil => simp
  | cons e r ih =>
    rw [List.foldl_cons, ih]
    by_cases hp : p e
    · rw [if_pos hp, Nat.testBit_or, Nat.testBit_two_pow]
      simp only [Bool.or_eq_true, decide_eq_true_eq, List.mem_cons]
      constructor
      · rintro ((h | h) | ⟨e', h1, h2⟩)
        · exact Or.inl h
        · exact Or.inr ⟨e, Or.inl rfl, hp, h⟩
        · exact Or.inr ⟨e', Or.inr h1, h2⟩
      · rintro (h | ⟨e', h1 | h1, h2⟩)
        · exact Or.inl (Or.inl h)
        · subst h1; exact Or.inl (Or.inr h2.2)
        · exact Or.inr ⟨e', h1, h2⟩
    · rw [if_neg hp]
      constructor
      · rintro (h | ⟨e', h1, h2⟩)
        · exact Or.inl h
        · exact Or.inr ⟨e', List.mem_cons_of_mem _ h1, h2⟩
      · rintro (h | ⟨e', h1, h2⟩)
        · exact Or.inl h
        · rcases List.mem_cons.1 h1 with h1 | h1
          · subst h1; exact absurd h2.1 hp
          · exact Or.inr ⟨e', h1, h2⟩
theorem succ_bit (es : List Edg) (i l : Int) (k : Nat) : (succ es i l).testBit k = true ↔ ∃ e ∈ es, (e.fr = i ∧ e.le = l) ∧ e.to.toNat = k := by
  have := foldl_bit es (fun e => e.fr = i ∧ e.le = l) 0 k
  simpa [succ] using this
/-- Edges between few states. -/
def Few (n : Nat) (es : List Edg) : Prop := ∀ e ∈ es, (0 ≤ e.fr ∧ e.fr < n) ∧ (0 ≤ e.le ∧ e.le < 6) ∧ (0 ≤ e.to ∧ e.to < n)
theorem E_iff {n : Nat} {es : List Edg} (h : Few n es) (i l k : Nat) : E es i l k ↔ (succ es i l).testBit k = true := by
  rw [succ_bit]
  constructor
  · rintro ⟨e, he, h1, h2, h3⟩
    exact ⟨e, he, ⟨h1, h2⟩, by omega⟩
  · rintro ⟨e, he, ⟨h1, h2⟩, h3⟩
    have := h e he
    exact ⟨e, he, h1, h2, by omega⟩
theorem succ_lt {n : Nat} {es : List Edg} (h : Few n es) (i l : Int) : succ es i l < 2 ^ n := by
  apply Nat.lt_pow_two_of_testBit
  intro k hk
  rw [Bool.eq_false_iff]
  intro hb
  obtain ⟨e, he, _, h3⟩ := (succ_bit es i l k).1 hb
  have := h e he
  omega
theorem succ_sm {n : Nat} {es : List Edg} (h : Few n es) (hn : n ≤ 16) (i l : Int) : Sm (succ es i l) :=
  Nat.lt_of_lt_of_le (succ_lt h i l) (by rw [show (4294967296 : Nat) = 2 ^ 32 from rfl]; exact Nat.pow_le_pow_right (by omega) (by omega))

/-- The numbers of one set and not of another. -/
def diff (a b : Nat) : Nat := a ^^^ (a &&& b)
theorem diff_bit (a b k : Nat) : (diff a b).testBit k = (a.testBit k && !b.testBit k) := by
  unfold diff
  rw [Nat.testBit_xor, Nat.testBit_and]
  cases a.testBit k <;> cases b.testBit k <;> rfl
theorem diff_le (a b : Nat) : diff a b ≤ a := by
  apply Nat.le_of_testBit
  intro k hk
  rw [diff_bit] at hk
  simp at hk
  exact hk.1
theorem ne_zero_bit {a : Nat} : a ≠ 0 ↔ ∃ k, a.testBit k = true := by
  constructor
  · intro h
    exact Nat.exists_testBit_of_ne_zero h
  · rintro ⟨k, hk⟩ rfl
    simp at hk
/-- All sets of these states together. -/
def orAll (R : List Nat) (ks : List Nat) : Nat := ks.foldl (fun m k => m ||| R.getD k 0) 0
theorem orAll_snoc (R ks : List Nat) (k : Nat) : orAll R (ks ++ [k]) = orAll R ks ||| R.getD k 0 := by simp [orAll]
theorem orAll_bit (R ks : List Nat) (j : Nat) : (orAll R ks).testBit j = true ↔ ∃ k ∈ ks, (R.getD k 0).testBit j = true := by
  have : ∀ m, (ks.foldl (fun m k => m ||| R.getD k 0) m).testBit j = true ↔ m.testBit j = true ∨ ∃ k ∈ ks, (R.getD k 0).testBit j = true := by
    induction ks with
    | nil => simp
    | cons x r ih =>
      intro m
      rw [List.foldl_cons, ih, Nat.testBit_or]
      simp only [Bool.or_eq_true, List.mem_cons, exists_eq_or_imp]
      exact or_assoc
  simpa [orAll] using this 0
theorem mem_letters {a n k : Nat} : k ∈ letters a n ↔ k < n ∧ a.testBit k = true := by simp [letters]
/-- One letter: the edges from i are answered by those from j. -/
def ansL (both : Bool) (es es' : List Edg) (R : List Nat) (i j l : Nat) : Bool :=
  (letters (succ es i l) 32).all (fun k => !(R.getD k 0 &&& succ es' j l == 0)) && !(both && diff (succ es' j l) (orAll R (letters (succ es i l) 32)) != 0)
def ansB (both : Bool) (es es' : List Edg) (R : List Nat) (i j : Nat) : Bool := (List.range 6).all (ansL both es es' R i j)

theorem rel_getD {R : List Nat} {k j : Nat} (h : (R.getD k 0).testBit j = true) : rel R k j := by
  refine ⟨?_, h⟩
  rcases Nat.lt_or_ge k R.length with h1 | h1
  · exact h1
  · rw [List.getD_eq_getElem?_getD, List.getElem?_eq_none h1] at h
    simp at h
theorem ansB_iff {both : Bool} {m n : Nat} {es es' : List Edg} {R : List Nat} {i j : Nat} (h : Few m es) (h' : Few n es') (hm : m ≤ 16) : ansB both es es' R i j = true ↔ Ok both es es' (rel R) i j := by
  unfold ansB ansL
  simp only [List.all_eq_true, List.mem_range, Bool.and_eq_true, Bool.not_eq_true', mem_letters]
  have hk32 : ∀ {l k : Nat}, (succ es i l).testBit k = true → k < 32 := fun {l k} hk => by
    obtain ⟨e, he, _, h3⟩ := (succ_bit es i l k).1 hk
    have := h e he
    omega
  have hl6 : ∀ {i l k : Nat}, E es i l k → l < 6 := fun {i l k} hk => by
    obtain ⟨e, he, _, h3, _⟩ := hk
    have := h e he
    omega
  have hl6' : ∀ {i l k : Nat}, E es' i l k → l < 6 := fun {i l k} hk => by
    obtain ⟨e, he, _, h3, _⟩ := hk
    have := h' e he
    omega
  constructor
  · intro hA
    refine ⟨fun l k hk => ?_, fun hb l k' hk' => ?_⟩
    · have hk1 := (E_iff h i l k).1 hk
      have h1 := (hA l (hl6 hk)).1 k ⟨hk32 hk1, hk1⟩
      have h2 : R.getD k 0 &&& succ es' j l ≠ 0 := by simpa using h1
      obtain ⟨k', hk'⟩ := ne_zero_bit.1 h2
      rw [Nat.testBit_and, Bool.and_eq_true] at hk'
      exact ⟨k', (E_iff h' j l k').2 hk'.2, rel_getD hk'.1⟩
    · have h1 := (hA l (hl6' hk')).2
      rw [hb, Bool.true_and] at h1
      have h2 : diff (succ es' j l) (orAll R (letters (succ es i l) 32)) = 0 := by simpa using h1
      have h3 := diff_bit (succ es' j l) (orAll R (letters (succ es i l) 32)) k'
      rw [h2, (E_iff h' j l k').1 hk'] at h3
      simp at h3
      obtain ⟨k, hk, hr⟩ := (orAll_bit _ _ _).1 h3
      exact ⟨k, (E_iff h i l k).2 (mem_letters.1 hk).2, rel_getD hr⟩
  · rintro ⟨h1, h2⟩ l hl
    refine ⟨fun k hk => ?_, ?_⟩
    · obtain ⟨k', hk', hr⟩ := h1 l k ((E_iff h i l k).2 hk.2)
      have : R.getD k 0 &&& succ es' j l ≠ 0 := ne_zero_bit.2 ⟨k', by rw [Nat.testBit_and, hr.2, (E_iff h' j l k').1 hk']; rfl⟩
      simpa using this
    · cases hb : both
      · rfl
      · rw [Bool.true_and]
        have : diff (succ es' j l) (orAll R (letters (succ es i l) 32)) = 0 := by
          apply Classical.byContradiction
          intro hne
          obtain ⟨k', hk'⟩ := ne_zero_bit.1 hne
          rw [diff_bit, Bool.and_eq_true] at hk'
          obtain ⟨k, hk, hr⟩ := h2 hb l k' ((E_iff h' j l k').2 hk'.1)
          have hk1 := (E_iff h i l k).1 hk
          have := (orAll_bit R (letters (succ es i l) 32) k').2 ⟨k, mem_letters.2 ⟨hk32 hk1, hk1⟩, hr.2⟩
          rw [this] at hk'
          simp at hk'
        rw [this]; rfl
end Go.Proofs.YtplllipekeomiaaGreatDoor

namespace Go.Proofs.YtplllipekeomiaaGreatDoor
open Go Go.RowKit

/-- The states to which a letter leads one system. -/
def cho (s : Sys) (i l : Nat) : List Nat := if s.al.toNat.testBit l then letters (succ s.edges i l) 32 else [i]
/-- The nodes reached, the weight, and what is left of the node. -/
def nx : List Sys → Nat → Nat → List Nat × Nat × Nat
  | [], m, _ => ([0], 1, m)
  | s :: r, m, l => ((cho s ((nx r m l).2.2 % s.st.toNat) l).flatMap (fun q => (nx r m l).1.map fun x => q * (nx r m l).2.1 + x), (nx r m l).2.1 * s.st.toNat, (nx r m l).2.2 / s.st.toNat)
/-- A system of at most 16 states. -/
def Sml (s : Sys) : Prop := 1 ≤ s.st ∧ s.st ≤ 16 ∧ Few s.st.toNat s.edges ∧ 0 ≤ s.al ∧ s.al ≤ 63
theorem letters_nodup (a k : Nat) : (letters a k).Nodup := List.Pairwise.filter _ List.nodup_range
theorem letters_mem {a k x : Nat} : x ∈ letters a k ↔ x < k ∧ a.testBit x = true := by simp [letters, List.mem_filter]
theorem cho_lt {s : Sys} (h : Sml s) {i l : Nat} (hi : i < s.st.toNat) : ∀ q ∈ cho s i l, q < s.st.toNat := by
  intro q hq
  unfold cho at hq
  split at hq
  · have hb := (letters_mem.1 hq).2
    rcases Nat.lt_or_ge q s.st.toNat with h1 | h1
    · exact h1
    · have := Nat.testBit_lt_two_pow (Nat.lt_of_lt_of_le (succ_lt h.2.2.1 i l) (Nat.pow_le_pow_right (by omega) h1))
      rw [hb] at this; cases this
  · rw [List.mem_singleton.1 hq]; exact hi
theorem cho_nodup (s : Sys) (i l : Nat) : (cho s i l).Nodup := by
  unfold cho
  split
  · exact letters_nodup _ _
  · simp
theorem nodup_len {l : List Nat} (h : l.Nodup) {p : Nat} (hl : ∀ x ∈ l, x < p) : l.length ≤ p := by
  have h1 : l ⊆ List.range p := fun x hx => List.mem_range.2 (hl x hx)
  have := List.Nodup.length_le_of_subset h h1
  simpa using this
theorem cho_len {s : Sys} (h : Sml s) {i l : Nat} (hi : i < s.st.toNat) : (cho s i l).length ≤ s.st.toNat := nodup_len (cho_nodup s i l) (cho_lt h hi)
theorem flat_nodup {l R : List Nat} {W : Nat} (hl : l.Nodup) (hR : R.Nodup) (hW : ∀ x ∈ R, x < W) : (l.flatMap fun q => R.map fun x => q * W + x).Nodup := by
  induction l with
  | nil => simp
  | cons a r ih =>
    rw [List.flatMap_cons]
    rw [List.nodup_cons] at hl
    refine List.nodup_append.2 ⟨?_, ih hl.2, ?_⟩
    · exact List.Pairwise.map _ (fun a b h => by simpa using h) hR
    · intro x hx y hy hxy
      subst hxy
      obtain ⟨u, hu, rfl⟩ := List.mem_map.1 hx
      obtain ⟨b, hb, hy⟩ := List.mem_flatMap.1 hy
      obtain ⟨v, hv, he⟩ := List.mem_map.1 hy
      have h1 := hW u hu
      have h2 := hW v hv
      have : a = b := by
        have e1 : (a * W + u) / W = a := by rw [Nat.add_comm, Nat.add_mul_div_right _ _ (by omega), Nat.div_eq_of_lt h1, Nat.zero_add]
        have e2 : (b * W + v) / W = b := by rw [Nat.add_comm, Nat.add_mul_div_right _ _ (by omega), Nat.div_eq_of_lt h2, Nat.zero_add]
        rw [← e1, ← e2, he]
      subst this
      exact hl.1 hb
/-- What is known of them. -/
theorem nx_facts {ss : List Sys} (h : ∀ s ∈ ss, Sml s) (m l : Nat) : 1 ≤ (nx ss m l).2.1 ∧ (nx ss m l).2.1 ≤ 16 ^ ss.length ∧ (∀ x ∈ (nx ss m l).1, x < (nx ss m l).2.1) ∧ (nx ss m l).1.Nodup ∧ (nx ss m l).2.2 ≤ m := by
  induction ss with
  | nil => simp [nx]
  | cons s r ih =>
    obtain ⟨h1, h2, h3, h4, h5⟩ := ih fun s hs => h s (List.mem_cons_of_mem _ hs)
    have hs := h s List.mem_cons_self
    have hst : 1 ≤ s.st.toNat ∧ s.st.toNat ≤ 16 := by have := hs.1; have := hs.2.1; omega
    refine ⟨Nat.mul_pos h1 hst.1, ?_, fun x hx => ?_, flat_nodup (cho_nodup _ _ _) h4 h3, Nat.le_trans (Nat.div_le_self _ _) h5⟩
    · rw [nx, List.length_cons, Nat.pow_succ]
      exact Nat.mul_le_mul h2 hst.2
    · rw [nx] at hx ⊢
      obtain ⟨q, hq, hx⟩ := List.mem_flatMap.1 hx
      obtain ⟨y, hy, rfl⟩ := List.mem_map.1 hx
      have hq' := cho_lt hs (Nat.mod_lt _ hst.1) q hq
      have hy' := h3 y hy
      calc q * (nx r m l).2.1 + y < q * (nx r m l).2.1 + (nx r m l).2.1 := by omega
        _ = (q + 1) * (nx r m l).2.1 := by rw [Nat.add_mul, Nat.one_mul]
        _ ≤ s.st.toNat * (nx r m l).2.1 := Nat.mul_le_mul_right _ hq'
        _ = (nx r m l).2.1 * s.st.toNat := Nat.mul_comm _ _
theorem nx_len {ss : List Sys} (h : ∀ s ∈ ss, Sml s) (m l : Nat) : (nx ss m l).1.length ≤ 16 ^ ss.length := by
  obtain ⟨h1, h2, h3, h4, _⟩ := nx_facts h m l
  exact Nat.le_trans (nodup_len h4 h3) h2
end Go.Proofs.YtplllipekeomiaaGreatDoor

namespace Go.Proofs.YtplllipekeomiaaGreatDoor
open Go Go.RowKit
set_option maxHeartbeats 400000

theorem spec_l1Letters (a : Nat) (hs : Sm a) (w : World) :
    Calls Tryz.prog 54 #[.int .i64 a] w (RetNats w (letters a 6)) := by
  go_enter Tryz.func54, Tryz.ntmps54
  go_wp2
  go_loopw [3, 4] (fun v i wr => ∃ k : Nat, k ≤ 6 ∧ i = .int .i64 k ∧ wr.ownsRow w.heap.size 3 1 v (letters a k).length (nats (letters a k)) ∧ Ext w wr)
    (fun _ i _ => 6 - (intOf i).toNat)
  case atStart => exact ⟨0, Nat.zero_le _, rfl, World.ownsRow_lit w #[] 0 (Nat.le_refl _) (by unfold maxLen; omega) rfl, (Ext.refl _).alloc _⟩
  case round =>
    obtain ⟨k, hk, rfl, hown, hext⟩ := hrel
    have hl := letters_length a k
    by_cases hlt : k < 6
    · cases hb : a.testBit k
      all_goals
        have Hb := hide hb
        have hls := letters_succ a k
        rw [hb] at hls
        have Hls := hide hls
        clear hls hb
        go_wp2_with (first
          | (go_at_call 83; refine (spec_l1Has a k hs _ (by omega)).mono ?_; rw [Hb.out]; rintro e w' ⟨rfl, rfl⟩)
          | (at_builtin; refine wpList_push w wr rfl _ _ _ rfl 3 _ 1 8 Tryz.underlying84 info_int rfl (by decide) u3 _ _ _ _ rfl rfl hext hown rfl (cells_int _) (by unfold maxLen; omega) (by omega) ?_; intro v' w1 hext1 hown1 hg1 hat1))
        go_roundw
        case rel => exact ⟨k + 1, by omega, by go_num, by rw [Hls.out]; first | simpa [nats] using hown1 | simpa using hown, by assumption⟩
        case measure => simp [intOf]; omega
    · obtain rfl : k = 6 := by omega
      obtain ⟨A, c, rfl⟩ := own_form hown
      go_wp2
      go_ret
      exact ⟨_, _, rfl, hown, hext⟩

/-- A byte is a letter. -/
def letterB (b : UInt8) : Bool := decide (97 ≤ (b.toNat : Int) ∧ (b.toNat : Int) ≤ 102)
/-- A string is a word. -/
def wordB (s : ByteArray) : Bool := decide (s.size ≤ 50000) && s.data.toList.all letterB
theorem byte_get (s : ByteArray) (i : Nat) (h : i < s.size) : s.data.toList[i]? = some s[i] := by
  rw [List.getElem?_eq_getElem (by simpa using h)]; rfl

theorem spec_WordValid (s : ByteArray) (w : World) (hs : s.size ≤ 9223372036854775807) :
    Calls Tryz.prog 67 #[.string s] w fun e w' => e = .returned (.bool (wordB s)) ∧ w = w' := by
  by_cases h : 50000 < s.size
  · go_enter Tryz.func67, Tryz.ntmps67
    go_wp2
    go_ret
    exact ⟨by simp [wordB, show ¬ s.size ≤ 50000 by omega], rfl⟩
  · go_enter Tryz.func67, Tryz.ntmps67
    go_wp2
    go_loop [3] (fun i => ∃ k : Nat, k ≤ s.size ∧ i = .int .i64 k ∧ Hid ((s.data.toList.take k).all letterB = true)) (fun i => s.size - (intOf i).toNat)
    case atStart => exact ⟨0, Nat.zero_le _, rfl, rfl⟩
    case round =>
      obtain ⟨k, hk, rfl, hall⟩ := hrel
      by_cases hlt : k < s.size
      · have hg := hide (byte_get s k hlt)
        obtain ⟨x, hx, hx0, hx1⟩ : ∃ x : Int, Hid ((s[k].toNat : Int) - 97 = x) ∧ -97 ≤ x ∧ x ≤ 158 := ⟨(s[k].toNat : Int) - 97, hide rfl, by omega, by have := byte_lt s k hlt; omega⟩
        by_cases h0 : x < 0
        · go_wp2_with (go_at_call 92; refine (spec_l1At s k hlt _).mono ?_; rw [hx.out]; rintro e w' ⟨rfl, rfl⟩)
          go_ret
          exact ⟨ret_bool (by rw [wordB, all_stop hg.out (by have := hx.out; simp [letterB]; omega), Bool.and_false]), rfl⟩
        · by_cases h1 : 6 ≤ x
          · go_wp2_with (go_at_call 92; refine (spec_l1At s k hlt _).mono ?_; rw [hx.out]; rintro e w' ⟨rfl, rfl⟩)
            go_ret
            exact ⟨ret_bool (by rw [wordB, all_stop hg.out (by have := hx.out; simp [letterB]; omega), Bool.and_false]), rfl⟩
          · go_wp2_with (go_at_call 92; refine (spec_l1At s k hlt _).mono ?_; rw [hx.out]; rintro e w' ⟨rfl, rfl⟩)
            go_round
            case rel => exact ⟨k + 1, by omega, by go_num, all_step hg.out hall.out (by have := hx.out; simp [letterB]; omega)⟩
            case measure => simp [intOf]; omega
      · obtain rfl : k = s.size := by omega
        go_wp2
        go_ret
        exact ⟨ret_bool (by rw [wordB, all_end (by simp) hall.out]; simp; omega), rfl⟩

/-- Each letter of a string is in an alphabet. -/
def overB (s : ByteArray) (a : Nat) : Bool := s.data.toList.all fun b => hasB a (ltr b.toNat)
theorem over_all {a : Nat} (h : a = 63) (b : UInt8) : hasB a (ltr b.toNat) = letterB b := by
  subst h
  have : b.toNat < 256 := b.toNat_lt
  unfold hasB ltr letterB
  by_cases h1 : (b.toNat : Int) - 97 < 0
  · rw [if_pos (.inl h1)]; simp; omega
  · by_cases h2 : 6 ≤ (b.toNat : Int) - 97
    · rw [if_pos (.inr h2)]; simp; omega
    · rw [if_neg (by omega)]
      have h3 : b.toNat = 97 ∨ b.toNat = 98 ∨ b.toNat = 99 ∨ b.toNat = 100 ∨ b.toNat = 101 ∨ b.toNat = 102 := by omega
      rcases h3 with h | h | h | h | h | h <;> rw [h] <;> decide
theorem overB_63 (s : ByteArray) : overB s 63 = s.data.toList.all letterB := by
  unfold overB
  congr 1
  funext b
  exact over_all rfl b

theorem impl_WordWithin (s : ByteArray) (a : Nat) (w : World) (hs : s.size ≤ 9223372036854775807) (ha : a ≤ 63) :
    Calls Tryz.prog 75 #[.string s, .int .i64 a] w fun e w' => e = .returned (.bool (decide (s.size ≤ 50000) && overB s a)) ∧ w = w' := by
  have hsm : Sm a := by unfold Sm; omega
  have hal : (decide ((0 : Int) ≤ a ∧ (a : Int) ≤ 63)) = true := by simp; omega
  have Hal := hide hal
  clear hal
  by_cases h : 50000 < s.size
  · go_enter Tryz.func75, Tryz.ntmps75
    go_wp2_with (go_at_call 60; refine (impl_isAlphabet _ _).mono ?_; rw [Hal.out]; rintro e w' ⟨rfl, rfl⟩)
    go_ret
    exact ⟨by simp [show ¬ s.size ≤ 50000 by omega], rfl⟩
  · go_enter Tryz.func75, Tryz.ntmps75
    go_wp2_with (go_at_call 60; refine (impl_isAlphabet _ _).mono ?_; rw [Hal.out]; rintro e w' ⟨rfl, rfl⟩)
    go_loop [16] (fun i => ∃ k : Nat, k ≤ s.size ∧ i = .int .i64 k ∧ Hid ((s.data.toList.take k).all (fun b => hasB a (ltr b.toNat)) = true)) (fun i => s.size - (intOf i).toNat)
    case atStart => exact ⟨0, Nat.zero_le _, rfl, rfl⟩
    case round =>
      obtain ⟨k, hk, rfl, hall⟩ := hrel
      by_cases hlt : k < s.size
      · have hg := hide (byte_get s k hlt)
        cases hb : hasB a (ltr (s[k].toNat : Int))
        · have Hb := hide hb
          clear hb
          go_wp2_with (first | (go_at_call 99; refine (impl_letterAt s k hlt _).mono ?_; rintro e w' ⟨rfl, rfl⟩) | (go_at_call 72; refine (impl_has _ _ hsm _).mono ?_; rw [Hb.out]; rintro e w' ⟨rfl, rfl⟩))
          go_ret
          exact ⟨ret_bool (by rw [overB, all_stop hg.out Hb.out, Bool.and_false]), rfl⟩
        · have Hb := hide hb
          clear hb
          go_wp2_with (first | (go_at_call 99; refine (impl_letterAt s k hlt _).mono ?_; rintro e w' ⟨rfl, rfl⟩) | (go_at_call 72; refine (impl_has _ _ hsm _).mono ?_; rw [Hb.out]; rintro e w' ⟨rfl, rfl⟩))
          go_round
          case rel => exact ⟨k + 1, by omega, by go_num, all_step hg.out hall.out Hb.out⟩
          case measure => simp [intOf]; omega
      · obtain rfl : k = s.size := by omega
        go_wp2
        go_ret
        exact ⟨ret_bool (by rw [overB, all_end (by simp) hall.out]; simp; omega), rfl⟩

theorem impl_WordValid (s : ByteArray) (w : World) (hs : s.size ≤ 9223372036854775807) :
    Calls Tryz.prog 74 #[.string s] w fun e w' => e = .returned (.bool (wordB s)) ∧ w = w' := by
  have hov := overB_63 s
  have Hov := hide hov
  clear hov
  go_enter Tryz.func74, Tryz.ntmps74
  go_wp2_with (go_at_call 75; refine (impl_WordWithin s 63 _ hs (by omega)).mono ?_; rintro e w' ⟨rfl, rfl⟩)
  go_ret
  exact ⟨ret_bool (by rw [Hov.out]; rfl), rfl⟩
end Go.Proofs.YtplllipekeomiaaGreatDoor

namespace Go.Proofs.YtplllipekeomiaaGreatDoor
open Go Go.RowKit
set_option maxHeartbeats 400000

def rowB (k n : Nat) (row : List Int) : Bool := decide (row.length = k) && row.all fun q => decide (0 ≤ q ∧ q < n)
def autValid (a : Aut) : Bool :=
  decide (0 ≤ a.al ∧ a.al ≤ 63) && (decide (1 ≤ a.next.length ∧ a.next.length ≤ 12) && (decide (a.acc.length = a.next.length) && a.next.all (rowB (letters a.al.toNat 6).length a.next.length)))

theorem spec_l3Row (lo hi : Nat) (A : Option Addr) (n c : Nat) (l : List Int) (k m : Nat) (w : World) (h : Reads w lo hi 1 A n (ints l)) (hk : k ≤ 100) (_hm : m ≤ 100) :
    Calls Tryz.prog 53 #[.slice A n c, .int .i64 k, .int .i64 m] w fun e w' => e = .returned (.bool (rowB k m l)) ∧ w = w' := by
  have hn := h.len
  have hl : l.length = n := by have := h.length; rw [ints_length] at this; omega
  have Hl := hide hl
  clear hl
  by_cases he : n = k
  · subst he
    go_enter Tryz.func53, Tryz.ntmps53
    go_wp2
    go_loop [7] (fun i => ∃ k : Nat, k ≤ n ∧ i = .int .i64 k ∧ Hid ((l.take k).all (fun q => decide (0 ≤ q ∧ q < m)) = true)) (fun i => n - (intOf i).toNat)
    case atStart => exact ⟨0, Nat.zero_le _, rfl, rfl⟩
    case round =>
      obtain ⟨k, hk, rfl, hall⟩ := hrel
      by_cases hlt : k < n
      · obtain ⟨ad, x, rfl, _, _, hx, hcell⟩ := h.int hlt
        by_cases h0 : x < 0
        · go_wp2
          go_ret
          exact ⟨ret_bool (by rw [rowB, all_stop hx.out (by simp; omega), Bool.and_false]), rfl⟩
        · by_cases h1 : (m : Int) ≤ x
          · go_wp2
            go_ret
            exact ⟨ret_bool (by rw [rowB, all_stop hx.out (by simp; omega), Bool.and_false]), rfl⟩
          · go_wp2
            go_round
            case rel => exact ⟨k + 1, by omega, by go_num, all_step hx.out hall.out (by simp; omega)⟩
            case measure => simp [intOf]; omega
      · obtain rfl : k = n := by omega
        go_wp2
        go_ret
        exact ⟨ret_bool (by rw [rowB, all_end (by have := Hl.out; omega) hall.out, Hl.out]; simp), rfl⟩
  · go_enter Tryz.func53, Tryz.ntmps53
    go_wp2
    go_ret
    exact ⟨ret_bool (by rw [rowB, Hl.out]; simp [he]), rfl⟩

theorem spec_AutomatonValid (lo hi : Nat) (A : Option Addr) (n c : Nat) (A' : Option Addr) (n' c' : Nat) (a : Aut) (w : World) (h : AutAt w lo hi A n A' n' a) :
    Calls Tryz.prog 27 #[.agg #[.int .i64 a.al, .slice A n c, .slice A' n' c']] w fun e w' => e = .returned (.bool (autValid a)) ∧ Ext w w' := by
  have h1 := h.n1
  have h2 := h.n2
  have Hv := hide (show autValid a = (decide (0 ≤ a.al ∧ a.al ≤ 63) && (decide (1 ≤ n ∧ n ≤ 12) && (decide (n' = n) && a.next.all (rowB (letters a.al.toNat 6).length n)))) by unfold autValid; rw [← h1, ← h2])
  have hl1 := h.1.len
  have hl2 := h.2.2.len
  clear h1 h2
  by_cases hal : 0 ≤ a.al ∧ a.al ≤ 63
  · have hd := hide (show decide (0 ≤ a.al ∧ a.al ≤ 63) = true by simp; omega)
    by_cases hn : 1 ≤ n ∧ n ≤ 12
    · have hd1 : decide ((n : Int) < 1) = false := by simp; omega
      have hd2 : decide (12 < (n : Int)) = false := by simp; omega
      by_cases hn' : n' = n
      · subst hn'
        obtain ⟨al, hal'⟩ : ∃ al : Nat, Hid (a.al = al) := ⟨a.al.toNat, by unfold Hid; omega⟩
        have hsm : Sm al := by have := hal'.out; unfold Sm; omega
        have hll := letters_length al 6
        rw [hal'.out]
        rw [hal'.out] at hd
        rw [hal'.out, Int.toNat_natCast] at Hv
        clear hal
        have hR := fun W (hW : Ext w W) => h.1.ext hW
        have HR := hide hR
        clear hR
        go_enter Tryz.func27, Tryz.ntmps27
        go_wp2_with (go_at_call 52; refine (spec_l1Alphabet _ _).mono ?_; rw [hd.out]; rintro e w' ⟨rfl, rfl⟩)
        go_loopw [4] (fun i wr => ∃ k : Nat, k ≤ n' ∧ i = .int .i64 k ∧ Hid ((a.next.take k).all (rowB (letters al 6).length n') = true) ∧ Ext (w.alloc (.cells #[Value.int .i64 al, Value.slice A n' c, Value.slice A' n' c'] 35)) wr)
          (fun i _ => n' - (intOf i).toNat)
        case atStart => exact ⟨0, Nat.zero_le _, rfl, rfl, Ext.refl _⟩
        case round =>
          obtain ⟨k, hk, rfl, hall, hext⟩ := hrel
          have hbox : ∀ W, Ext wr W → ∀ j, W.cell? ⟨w.heap.size, j, none⟩ = #[Value.int .i64 al, Value.slice A n' c, Value.slice A' n' c'][j]? := fun W hW => ext_box (hext.trans hW)
          by_cases hlt : k < n'
          · obtain ⟨ad, Ak, ck, l, rfl, hlo, hhi, hl, hcell, hrk⟩ := (HR.out wr (((Ext.refl _).alloc _).trans hext)).row hlt
            have hce : ∀ W, Ext wr W → W.cell? (ad.add k) = some (.slice Ak l.length ck) := fun W hW => hW.cell_some hcell
            have hwr := Ext.refl wr
            have hfin : ∀ W, Ext wr W → Ext w W := fun W hW => (((Ext.refl _).alloc _).trans hext).trans hW
            have Hfin := hide hfin
            clear hfin
            cases hrb : rowB (letters al 6).length n' l
            · have Hrb := hide hrb
              clear hrb
              go_wp2_with fail
              go_region_held3 (fun W => Ext wr W) (first | assumption | (refine Ext.drew ?_; assumption) | (refine Ext.trans ?_ (by assumption); assumption) | (refine Ext.trans ?_ (by assumption); refine Ext.drew ?_; assumption)) (first | (go_at_call 54; refine (spec_l1Letters _ hsm _).mono ?_; rintro e w2 ⟨A2, c2, rfl, hown2, hext2⟩) | (go_at_call 53; refine (spec_l3Row _ _ _ _ _ _ _ _ _ (hrk.ext ?_) (by omega) (by omega)).mono ?_; assumption; rw [Hrb.out]; rintro e w3 ⟨rfl, rfl⟩))
              go_wp2
              go_ret
              exact ⟨ret_bool (by rw [Hv.out, all_stop hl.out Hrb.out]; simp), Hfin.out _ (by assumption)⟩
            · have Hrb := hide hrb
              clear hrb
              go_wp2_with fail
              go_region_held3 (fun W => Ext wr W) (first | assumption | (refine Ext.drew ?_; assumption) | (refine Ext.trans ?_ (by assumption); assumption) | (refine Ext.trans ?_ (by assumption); refine Ext.drew ?_; assumption)) (first | (go_at_call 54; refine (spec_l1Letters _ hsm _).mono ?_; rintro e w2 ⟨A2, c2, rfl, hown2, hext2⟩) | (go_at_call 53; refine (spec_l3Row _ _ _ _ _ _ _ _ _ (hrk.ext ?_) (by omega) (by omega)).mono ?_; assumption; rw [Hrb.out]; rintro e w3 ⟨rfl, rfl⟩))
              go_wp2
              go_roundw
              case rel => exact ⟨k + 1, by omega, by go_num, all_step hl.out hall.out Hrb.out, hext.trans (by assumption)⟩
              case measure => simp [intOf]; omega
          · obtain rfl : k = n' := by omega
            go_wp2
            go_ret
            exact ⟨ret_bool (by rw [Hv.out, all_end (by have := h.n1; omega) hall.out, hd.out]; simp; omega), ((Ext.refl _).alloc _).trans hext⟩
      · have hne : ((n' : Int) != (n : Int)) = true := by simp; omega
        go_enter Tryz.func27, Tryz.ntmps27
        go_wp2_with (go_at_call 52; refine (spec_l1Alphabet _ _).mono ?_; rw [hd.out]; rintro e w' ⟨rfl, rfl⟩)
        go_ret
        exact ⟨ret_bool (by rw [Hv.out]; simp [hn']), (Ext.refl _).alloc _⟩
    · go_enter Tryz.func27, Tryz.ntmps27
      go_wp2_with (go_at_call 52; refine (spec_l1Alphabet _ _).mono ?_; rw [hd.out]; rintro e w' ⟨rfl, rfl⟩)
      all_goals go_ret
      all_goals exact ⟨ret_bool (by rw [Hv.out]; simp [hn]), (Ext.refl _).alloc _⟩
  · go_enter Tryz.func27, Tryz.ntmps27
    have hd : decide (0 ≤ a.al ∧ a.al ≤ 63) = false := by simp; omega
    go_wp2_with (go_at_call 52; refine (spec_l1Alphabet _ _).mono ?_; rw [hd]; rintro e w' ⟨rfl, rfl⟩)
    go_ret
    exact ⟨ret_bool (by rw [Hv.out]; simp; omega), (Ext.refl _).alloc _⟩
end Go.Proofs.YtplllipekeomiaaGreatDoor

namespace Go.Proofs.YtplllipekeomiaaGreatDoor
open Go Go.RowKit
set_option maxHeartbeats 1000000

theorem wrap_pow2 {t : Nat} (ht : t < 32) : wrap64 ((2 : Int) ^ t) = ((2 ^ t : Nat) : Int) := by
  have hp := (Sm.bit ht).lt
  have e : (2 : Int) ^ t = ((2 ^ t : Nat) : Int) := by simp
  rw [e]
  generalize (2 : Nat) ^ t = p at *
  unfold wrap64
  omega
theorem spec_l1Bit (n : Nat) (hn : n < 32) (w : World) :
    Calls Tryz.prog 131 #[.int .i64 n] w fun e w' => e = .returned (.int .i64 (2 ^ n : Nat)) ∧ w = w' := by
  have hu : IntKind.u64.wrap (n : Int) = n := by rw [IntKind.wrap_u64]; omega
  have h64 : (n : Int) ≤ 64 := by omega
  have hw := hide (wrap_pow2 hn)
  go_enter Tryz.func131, Tryz.ntmps131
  go_wp2
  go_ret
  exact ⟨ret_int (by rw [← hw.out]), rfl⟩

/-- The set that a letter leads to from a set. -/
def stepB (es : List Edg) (set : Nat) (l : Int) : Nat := es.foldl (fun m e => if e.le = l ∧ set.testBit e.fr.toNat = true then m ||| 2 ^ e.to.toNat else m) 0
theorem stepB_snoc (es : List Edg) (e : Edg) (set : Nat) (l : Int) : stepB (es ++ [e]) set l = if e.le = l ∧ set.testBit e.fr.toNat = true then stepB es set l ||| 2 ^ e.to.toNat else stepB es set l := by simp [stepB]
theorem stepB_bit (es : List Edg) (set : Nat) (l : Int) (k : Nat) : (stepB es set l).testBit k = true ↔ ∃ e ∈ es, (e.le = l ∧ set.testBit e.fr.toNat = true) ∧ e.to.toNat = k := by
  have := foldl_bit es (fun e => e.le = l ∧ set.testBit e.fr.toNat = true) 0 k
  simpa [stepB] using this
theorem stepB_lt {n : Nat} {es : List Edg} (h : Few n es) (set : Nat) (l : Int) : stepB es set l < 2 ^ n := by
  apply Nat.lt_pow_two_of_testBit
  intro k hk
  rw [Bool.eq_false_iff]
  intro hb
  obtain ⟨e, he, _, h3⟩ := (stepB_bit es set l k).1 hb
  have := h e he
  omega
theorem stepB_one {n : Nat} {es : List Edg} (h : Few n es) (j : Nat) (l : Int) : stepB es (2 ^ j) l = succ es j l := by
  apply Nat.eq_of_testBit_eq
  intro k
  rw [Bool.eq_iff_iff, stepB_bit, succ_bit]
  constructor
  · rintro ⟨e, he, ⟨h1, h2⟩, h3⟩
    have := h e he
    rw [Nat.testBit_two_pow, decide_eq_true_eq] at h2
    exact ⟨e, he, ⟨by omega, h1⟩, h3⟩
  · rintro ⟨e, he, ⟨h1, h2⟩, h3⟩
    exact ⟨e, he, ⟨h2, by rw [Nat.testBit_two_pow, decide_eq_true_eq]; omega⟩, h3⟩

theorem spec_l2Step {lo hi : Nat} {A : Option Addr} {n c : Nat} {s : Sys} {set : Nat} {l : Int} {k0 : Nat} {w : World} (h : SysAt w lo hi A n s) (hf : Few k0 s.edges) (hk0 : k0 ≤ 16) (hset : Sm set) :
    Calls Tryz.prog 138 #[.agg #[.int .i64 s.al, .int .i64 s.st, .slice A n c], .int .i64 set, .int .i64 l] w fun e w' => e = .returned (.int .i64 (stepB s.edges set l : Nat)) ∧ Ext w w' := by
  have hn := h.2.len
  have hL := hide h.1
  have HR := hide (fun W (hW : Ext w W) => h.2.ext hW)
  have Hf := hide hf
  clear hf
  go_enter Tryz.func138, Tryz.ntmps138
  go_wp2
  go_loopw [7, 8] (fun v i wr => ∃ k : Nat, k ≤ n ∧ i = .int .i64 k ∧ ∃ y : Nat, v = .int .i64 y ∧ Sm y ∧ Hid (y = stepB (s.edges.take k) set l) ∧ Ext w wr ∧ Ext (w.alloc (.cells #[.int .i64 s.al, .int .i64 s.st, .slice A n c] 54)) wr) (fun _ i _ => n - (intOf i).toNat)
  case atStart => exact ⟨0, Nat.zero_le _, rfl, 0, rfl, by unfold Sm; omega, rfl, (Ext.refl _).alloc _, Ext.refl _⟩
  case round =>
    obtain ⟨k, hk, rfl, y, rfl, hy, hyo, hext, hexb⟩ := hrel
    have cb := fun j => ext_box (j := j) hexb
    by_cases hlt : k < n
    · obtain ⟨b, o, x, rfl, _, _, hx, c0, c1, c2⟩ := (HR.out wr hext).edge hlt
      obtain ⟨⟨f0, f1⟩, ⟨g0, g1⟩, ⟨t0, t1⟩⟩ := Hf.out x (List.mem_of_getElem? hx.out)
      have Htk := hide (show s.edges.take (k + 1) = s.edges.take k ++ [x] by rw [List.take_add_one, hx.out]; rfl)
      obtain ⟨f, hfe⟩ : ∃ f : Nat, x.fr = f := ⟨x.fr.toNat, by omega⟩
      obtain ⟨t, hte⟩ : ∃ t : Nat, x.to = t := ⟨x.to.toNat, by omega⟩
      rw [hfe] at c0 f0 f1
      rw [hte] at c2 t0 t1
      have hs1 := hide (stepB_snoc (s.edges.take k) x set l)
      by_cases hle : x.le = l
      · have hle' : (x.le == l) = true := by simp [hle]
        have Hle := hide hle
        clear hle
        cases hb : set.testBit f
        · have Hb := hide hb
          clear hb
          go_wp2_with (go_at_call 83; refine (spec_l1Has set f hset _ (by omega)).mono ?_; rw [Hb.out]; rintro e w' ⟨rfl, rfl⟩)
          go_roundw
          case rel => exact ⟨k + 1, by omega, by go_num, y, rfl, hy, by unfold Hid; rw [Htk.out, hs1.out, if_neg (by rintro ⟨_, h2⟩; rw [hfe] at h2; simp [Hb.out] at h2)]; exact hyo.out, hext, hexb⟩
          case measure => simp [intOf]; omega
        · have Hb := hide hb
          clear hb
          have hor := hide (show bits .or .i64 (y : Nat) ((2 : Int) ^ t) = ((y ||| 2 ^ t : Nat) : Int) by have := bits_or hy (Sm.bit (n := t) (by omega)); rw [show (((2 : Nat) ^ t : Nat) : Int) = (2 : Int) ^ t by simp] at this; exact this)
          go_wp2_with (first
            | (go_at_call 83; refine (spec_l1Has set f hset _ (by omega)).mono ?_; rw [Hb.out]; rintro e w' ⟨rfl, rfl⟩)
            | (go_at_call 131; refine (spec_l1Bit t (by omega) _).mono ?_; rintro e w' ⟨rfl, rfl⟩))
          go_roundw
          case rel => exact ⟨k + 1, by omega, by go_num, y ||| 2 ^ t, by rw [hor.out], hy.or (Sm.bit (by omega)), by unfold Hid; rw [Htk.out, hs1.out, if_pos ⟨Hle.out, by rw [hfe]; simpa using Hb.out⟩, ← hyo.out, hte]; rfl, hext, hexb⟩
          case measure => simp [intOf]; omega
      · have hle' : (x.le == l) = false := by simp [hle]
        have Hle := hide hle
        clear hle
        go_wp2
        go_roundw
        case rel => exact ⟨k + 1, by omega, by go_num, y, rfl, hy, by unfold Hid; rw [Htk.out, hs1.out, if_neg (by rintro ⟨h2, _⟩; exact Hle.out h2)]; exact hyo.out, hext, hexb⟩
        case measure => simp [intOf]; omega
    · obtain rfl : n = k := by omega
      go_wp2
      go_ret
      exact ⟨ret_int (by rw [hyo.out, hL.out, List.take_length]), hext⟩
end Go.Proofs.YtplllipekeomiaaGreatDoor

namespace Go.Proofs.YtplllipekeomiaaGreatDoor
open Go Go.RowKit
set_option maxHeartbeats 2000000

theorem Reads.nat {w : World} {lo hi n k : Nat} {A : Option Addr} {l : List Nat} (h : Reads w lo hi 1 A n (nats l)) (hk : k < n) : ∃ ad x, A = some ad ∧ lo ≤ ad.block ∧ ad.block < hi ∧ Hid (l[k]? = some x) ∧ w.cell? (ad.add k) = some (.int .i64 (x : Nat)) := by
  have e : nats l = ints (l.map fun n : Nat => (n : Int)) := by simp [nats, ints]
  rw [e] at h
  obtain ⟨ad, x, ha, hl, hh, hx, hc⟩ := h.int hk
  have hx' := hx.out
  rw [List.getElem?_map] at hx'
  cases hq : l[k]? with
  | none => rw [hq] at hx'; simp at hx'
  | some q =>
    rw [hq] at hx'
    simp at hx'
    exact ⟨ad, q, ha, hl, hh, rfl, by rw [hc, hx']⟩

/-- The block b holds the moves of these edges. -/
def MovAt (w : World) (b : Nat) (es : List Edg) : Prop := ∀ i l : Nat, i < 16 → l < 6 → w.cell? ⟨b, i * 6 + l, none⟩ = some (.int .i64 (succ es i l : Nat))
theorem MovAt.ext {w w' : World} {b : Nat} {es : List Edg} (h : MovAt w b es) (hb : Ext w w') : MovAt w' b es := fun i l hi hl => hb.cell_some (h i l hi hl)

theorem bits_andNot {a b : Nat} (ha : Sm a) (hb : Sm b) : bits .andNot .i64 (a : Int) (b : Int) = (diff a b : Nat) := by
  have h1 := ha.lt; have h2 := hb.lt
  have hd := diff_le a b
  show IntKind.i64.wrap ((BitVec.ofInt 64 (a : Int) &&& ~~~ BitVec.ofInt 64 (b : Int)).toNat : Int) = _
  have e : (BitVec.ofInt 64 (a : Int) &&& ~~~ BitVec.ofInt 64 (b : Int)).toNat = diff a b := by
    apply Nat.eq_of_testBit_eq
    intro k
    rw [diff_bit, BitVec.toNat_and, Nat.testBit_and, i64_toNat a (by omega), BitVec.testBit_toNat, BitVec.getLsbD_not, ← BitVec.testBit_toNat, i64_toNat b (by omega)]
    by_cases hk : k < 64
    · simp [hk]
    · simp only [hk, decide_false, Bool.false_and, Bool.and_false]
      rw [testBit_small ha (by omega)]; rfl
  rw [e, IntKind.wrap_i64]
  omega

end Go.Proofs.YtplllipekeomiaaGreatDoor
