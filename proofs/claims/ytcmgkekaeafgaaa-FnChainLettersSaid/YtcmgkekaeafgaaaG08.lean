/- spec.l15Follows, walked. | Plain: spec.l15Follows asks the first half of 'the edges are answered'. | Plain: what spec.l15Backs asks is the other half of 'the edges are answered'. | spec.l15Backs, walked. | impl.movesOf, walked. | impl.greatestRelation, walked. | spec.l15Relate, walked. | Bisimilar, Simulates and SimilarStates of the program and of the reference, walked: both compute the greatest relation. -/
import Derived.Test.YtcmgkekaeafgaaaG03
import Derived.BigQuiet
import Derived.Deep.RegionHeld3
import Derived.Test.YtcmgkekaeafgaaaG01
import Derived.Test.YtcmgkekaeafgaaaG02
import Derived.StillTailTactics
import Derived.Test.YtcmgkekaeafgaaaG05
namespace Go.Proofs.Ytcmgkekaeafgaaa
open Go Go.RowKit
set_option maxHeartbeats 2000000

/-- One edge of the first system is no edge from i, or is answered by one from j. -/
def folE (es' : List Edg) (R : List Nat) (i j : Nat) (e : Edg) : Bool := !(e.fr == (i : Int) && (stepB es' (2 ^ j) e.le &&& R.getD e.to.toNat 0 == 0))
end Go.Proofs.Ytcmgkekaeafgaaa

namespace Go.Proofs.Ytcmgkekaeafgaaa
open Go Go.RowKit

theorem fol_iff {p q : Nat} {es es' : List Edg} {R : List Nat} {i j : Nat} (h : Few p es) (h' : Few q es') : es.all (folE es' R i j) = true ↔ ∀ l k, E es i l k → ∃ k', E es' j l k' ∧ rel R k k' := by
  rw [List.all_eq_true]
  constructor
  · rintro hA l k ⟨e, he, h1, h2, h3⟩
    have := hA e he
    unfold folE at this
    rw [stepB_one h', h1, h2, show e.to.toNat = k by omega] at this
    simp only [beq_self_eq_true, Bool.true_and, Bool.not_eq_true', beq_eq_false_iff_ne, ne_eq] at this
    obtain ⟨k', hk'⟩ := ne_zero_bit.1 this
    rw [Nat.testBit_and, Bool.and_eq_true] at hk'
    exact ⟨k', (E_iff h' j l k').2 hk'.1, rel_getD hk'.2⟩
  · intro hA e he
    unfold folE
    by_cases hi : e.fr = i
    · have hb := h e he
      obtain ⟨k', h1, h2⟩ := hA e.le.toNat e.to.toNat ⟨e, he, hi, by omega, by omega⟩
      have h3 := (E_iff h' j e.le.toNat k').1 h1
      rw [show ((e.le.toNat : Nat) : Int) = e.le by omega] at h3
      have : succ es' j e.le &&& R.getD e.to.toNat 0 ≠ 0 := ne_zero_bit.2 ⟨k', by rw [Nat.testBit_and, h3, h2.2]; rfl⟩
      rw [stepB_one h']
      simp only [Bool.not_eq_true', Bool.and_eq_false_iff, beq_eq_false_iff_ne, ne_eq]
      exact Or.inr this
    · have : (e.fr == (i : Int)) = false := by simpa using hi
      rw [this]; rfl
end Go.Proofs.Ytcmgkekaeafgaaa

namespace Go.Proofs.Ytcmgkekaeafgaaa
open Go Go.RowKit

/-- One edge of the second system is no edge from j, or is answered by one from i. -/
def bakE (p : Nat) (es : List Edg) (R : List Nat) (i j : Nat) (e : Edg) : Bool := !(e.fr == (j : Int)) || (List.range p).any fun n => (stepB es (2 ^ i) e.le).testBit n && (R.getD n 0).testBit e.to.toNat
theorem bak_iff {p q : Nat} {es es' : List Edg} {R : List Nat} {i j : Nat} (h : Few p es) (h' : Few q es') : es'.all (bakE p es R i j) = true ↔ ∀ l k', E es' j l k' → ∃ k, E es i l k ∧ rel R k k' := by
  rw [List.all_eq_true]
  constructor
  · rintro hA l k' ⟨e, he, h1, h2, h3⟩
    have := hA e he
    unfold bakE at this
    rw [stepB_one h, h1, h2, show e.to.toNat = k' by omega] at this
    simp only [beq_self_eq_true, Bool.not_true, Bool.false_or, List.any_eq_true, List.mem_range, Bool.and_eq_true] at this
    obtain ⟨k, _, hk1, hk2⟩ := this
    exact ⟨k, (E_iff h i l k).2 hk1, rel_getD hk2⟩
  · intro hA e he
    unfold bakE
    by_cases hj : e.fr = j
    · have hb := h' e he
      obtain ⟨k, h1, h2⟩ := hA e.le.toNat e.to.toNat ⟨e, he, hj, by omega, by omega⟩
      have h3 := (E_iff h i e.le.toNat k).1 h1
      rw [show ((e.le.toNat : Nat) : Int) = e.le by omega] at h3
      obtain ⟨e', he', _, _, h4⟩ := h1
      have := h e' he'
      rw [stepB_one h]
      simp only [Bool.or_eq_true, List.any_eq_true, List.mem_range, Bool.and_eq_true]
      exact Or.inr ⟨k, by omega, h3, h2.2⟩
    · have : (e.fr == (j : Int)) = false := by simpa using hj
      rw [this]; rfl
end Go.Proofs.Ytcmgkekaeafgaaa

namespace Go.Proofs.Ytcmgkekaeafgaaa
open Go Go.RowKit
set_option maxHeartbeats 2000000

end Go.Proofs.Ytcmgkekaeafgaaa

namespace Go.Proofs.Ytcmgkekaeafgaaa
open Go Go.RowKit
set_option maxHeartbeats 2000000

theorem wrap_pow {t : Nat} (ht : t < 32) : wrap64 ((2 : Int) ^ t) = ((2 ^ t : Nat) : Int) := by
  have hp := (Sm.bit ht).lt
  have e : (2 : Int) ^ t = ((2 ^ t : Nat) : Int) := by simp
  rw [e]
  generalize (2 : Nat) ^ t = p at *
  unfold wrap64
  omega
theorem mov_store {cs : Array Value} {es : List Edg} {f g t i l : Nat} (hcs : ∀ i l : Nat, i < 16 → l < 6 → cs[i * 6 + l]? = some (.int .i64 (succ es i l : Nat))) (hs : Sm (succ es f g)) (ht : t < 16) (hf : f < 16) (hg : g < 6) (hi : i < 16) (hl : l < 6) :
    (cs.setIfInBounds (f * 6 + g) (.int .i64 (bits .or .i64 (succ es f g : Nat) (wrap64 (2 ^ t)))))[i * 6 + l]? = some (.int .i64 ((if (f : Int) = i ∧ (g : Int) = l then succ es i l ||| 2 ^ (t : Int).toNat else succ es i l : Nat))) := by
  rw [wrap_pow (by omega), bits_or hs (Sm.bit (by omega)), Array.getElem?_setIfInBounds]
  by_cases he : f * 6 + g = i * 6 + l
  · have e1 : f = i := by omega
    have e2 : g = l := by omega
    subst e1; subst e2
    have hsz : f * 6 + g < cs.size := by
      rcases Nat.lt_or_ge (f * 6 + g) cs.size with h1 | h1
      · exact h1
      · have := hcs f g hf hg
        rw [Array.getElem?_eq_none h1] at this
        cases this
    rw [if_pos rfl, if_pos hsz, if_pos ⟨rfl, rfl⟩]
    rfl
  · rw [if_neg he, hcs i l hi hl, if_neg]
    rintro ⟨h1, h2⟩
    exact he (by omega)

end Go.Proofs.Ytcmgkekaeafgaaa

namespace Go.Proofs.Ytcmgkekaeafgaaa
open Go Go.RowKit
set_option maxHeartbeats 4000000

/-- The sum of the numbers in a row of cells. -/
def sumAt (w : World) (g p : Nat) : Nat := ((List.range p).map fun i => (intOf ((w.cell? ⟨g, i, none⟩).getD undef)).toNat).sum
theorem sumAt_eq {w : World} {base g p c : Nat} {R : List Nat} (h : w.ownsRow base 3 1 (.slice (some ⟨g, 0, none⟩) p c) p (nats R)) : sumAt w g p = R.sum := by
  have hl : R.length = p := by have := h.1; rw [nats_length] at this; omega
  have hm : ((List.range p).map fun i => (intOf ((w.cell? ⟨g, i, none⟩).getD undef)).toNat) = R := by
    apply List.ext_getElem (by simp [hl])
    intro i h1 h2
    rw [List.getElem_map, List.getElem_range, h.cellAt i (by omega)]
    simp [nats, h2, intOf]
  unfold sumAt
  rw [hm]
theorem diff_pow {r j : Nat} (h : r.testBit j = true) : diff r (2 ^ j) = r - 2 ^ j := by
  apply Nat.eq_of_testBit_eq
  intro k
  rw [diff_bit, testBit_sub_pow h, Nat.testBit_two_pow]
  by_cases hk : k = j
  · simp [hk]
  · simp [hk, Ne.symm hk]
theorem nats_set (R : List Nat) (i v : Nat) : nats (R.set i v) = (nats R).set i (.int .i64 (v : Nat)) := by simp [nats, List.map_set]

theorem nodup_ne {l : List Nat} (h : l.Nodup) {x y j : Nat} (hxy : x < y) (hx : l[x]? = some j) (hy : l[y]? = some j) : False := by
  obtain ⟨h1, e1⟩ := List.getElem?_eq_some_iff.1 hx
  obtain ⟨h2, e2⟩ := List.getElem?_eq_some_iff.1 hy
  exact (List.pairwise_iff_getElem.1 h) x y h1 h2 hxy (by rw [e1, e2])
theorem nats_fill {k p v : Nat} {rest : List Value} (hr : rest.length = p - k) (hk : k < p) : (nats (List.replicate k v) ++ rest).set k (.int .i64 (v : Nat)) = nats (List.replicate (k + 1) v) ++ rest.drop 1 := by
  match rest, hr with
  | [], hr => simp at hr; omega
  | x :: r, _ =>
    have hl : (nats (List.replicate k v)).length = k := by rw [nats_length, List.length_replicate]
    rw [List.set_append_right _ _ (by omega), hl, Nat.sub_self, List.replicate_succ', nats_append]
    simp [nats]
theorem wrap_full {q : Nat} (hq : q ≤ 16) : wrap64 (wrap64 ((2 : Int) ^ q) - 1) = ((2 ^ q - 1 : Nat) : Int) := by
  rw [wrap_pow (by omega)]
  have hp := (Sm.bit (n := q) (by omega)).lt
  have h1 := Nat.two_pow_pos q
  generalize (2 : Nat) ^ q = x at *
  unfold wrap64
  omega

end Go.Proofs.Ytcmgkekaeafgaaa

namespace Go.Proofs.Ytcmgkekaeafgaaa
open Go Go.RowKit
set_option maxHeartbeats 4000000

theorem own_some {w : World} {base : Nat} {e : TypeId} {size n : Nat} {v : Value} {xs : List Value} (h : w.ownsRow base e size v n xs) (hn : 0 < n) : ∃ g c, v = .slice (some ⟨g, 0, none⟩) n c ∧ base ≤ g := by
  rcases h.2 with ⟨_, h0⟩ | ⟨g, cap, cur, hv, hg, _⟩
  · omega
  · exact ⟨g, cap, hv, hg⟩
theorem ok_false {es es' : List Edg} {p q : Nat} {R : List Nat} {i j : Nat} (h : Few p es) (h' : Few q es') : Ok false es es' (rel R) i j ↔ es.all (folE es' R i j) = true := by
  rw [fol_iff h h']
  exact ⟨fun x => x.1, fun x => ⟨x, fun h => by cases h⟩⟩
theorem ok_true {es es' : List Edg} {p q : Nat} {R : List Nat} {i j : Nat} (h : Few p es) (h' : Few q es') : Ok true es es' (rel R) i j ↔ es.all (folE es' R i j) = true ∧ es'.all (bakE p es R i j) = true := by
  rw [fol_iff h h', bak_iff h h']
  exact ⟨fun x => ⟨x.1, x.2 rfl⟩, fun x => ⟨x.1, fun _ => x.2⟩⟩
theorem replicate_push (k v : Nat) : nats (List.replicate k v) ++ [Value.int .i64 (v : Nat)] = nats (List.replicate (k + 1) v) := by rw [List.replicate_succ', nats_append]; rfl
/-- One for true. -/
def boolN : Value → Nat
  | .bool true => 1
  | _ => 0
/-- What spec.l15Relate hands back. -/
def RetRel (w : World) (both : Bool) (s t : Sys) (p q : Nat) (e : Ending) (w' : World) : Prop :=
  ∃ g c R, e = .returned (.slice (some ⟨g, 0, none⟩) p c) ∧ w'.ownsRow w.heap.size 3 1 (.slice (some ⟨g, 0, none⟩) p c) p (nats R) ∧ Gfp both s.edges t.edges p q R ∧ Ext w w'

end Go.Proofs.Ytcmgkekaeafgaaa

namespace Go.Proofs.Ytcmgkekaeafgaaa
open Go Go.RowKit
set_option maxHeartbeats 400000

/-- The greatest relation. -/
noncomputable def gfp (both : Bool) (s t : Sys) : List Nat := Classical.epsilon (Gfp both s.edges t.edges s.st.toNat t.st.toNat)
theorem gfp_eq {both : Bool} {s t : Sys} {p q : Nat} {R : List Nat} (hp : s.st = p) (hq : t.st = q) (h : Gfp both s.edges t.edges p q R) : R = gfp both s t := by
  have e1 : s.st.toNat = p := by rw [hp]; rfl
  have e2 : t.st.toNat = q := by rw [hq]; rfl
  have h' : Gfp both s.edges t.edges s.st.toNat t.st.toNat R := by rw [e1, e2]; exact h
  exact h'.unique (Classical.epsilon_spec ⟨R, h'⟩)
theorem exists_bits (n : Nat) (P : Nat → Prop) : ∃ a, a < 2 ^ n ∧ ∀ j, a.testBit j = true ↔ j < n ∧ P j := by
  induction n with
  | zero => exact ⟨0, by simp, fun j => by simp⟩
  | succ n ih =>
    obtain ⟨a, ha, hj⟩ := ih
    by_cases hp : P n
    · refine ⟨2 ^ n * 1 + a, by rw [Nat.pow_succ]; omega, fun j => ?_⟩
      rw [Nat.testBit_two_pow_mul_add _ ha]
      by_cases h : j < n
      · rw [if_pos h, hj]
        exact ⟨fun x => ⟨by omega, x.2⟩, fun x => ⟨h, x.2⟩⟩
      · rw [if_neg h]
        by_cases e : j = n
        · subst e; simp [hp]
        · constructor
          · intro x
            obtain ⟨d, hd⟩ : ∃ d, j - n = d + 1 := ⟨j - n - 1, by omega⟩
            have h1 : (1 : Nat).testBit (d + 1) = false := by rw [Nat.testBit_succ]; exact Nat.zero_testBit d
            rw [hd, h1] at x
            cases x
          · intro x; omega
    · refine ⟨a, by rw [Nat.pow_succ]; omega, fun j => ?_⟩
      rw [hj]
      constructor
      · intro x; exact ⟨by omega, x.2⟩
      · rintro ⟨h1, h2⟩
        refine ⟨?_, h2⟩
        rcases Nat.lt_or_ge j n with h | h
        · exact h
        · obtain rfl : j = n := by omega
          exact absurd h2 hp
theorem gfp_exists (both : Bool) (es es' : List Edg) (m n : Nat) : ∃ R, Gfp both es es' m n R := by
  have hx : ∀ i, ∃ a, a < 2 ^ n ∧ ∀ j, a.testBit j = true ↔ j < n ∧ ∃ X, Post both es es' m n X ∧ X i j := fun i => exists_bits n _
  obtain ⟨f, hf⟩ : ∃ f : Nat → Nat, ∀ i, f i < 2 ^ n ∧ ∀ j, (f i).testBit j = true ↔ j < n ∧ ∃ X, Post both es es' m n X ∧ X i j := ⟨fun i => Classical.choose (hx i), fun i => Classical.choose_spec (hx i)⟩
  have hr : ∀ i j, rel ((List.range m).map f) i j ↔ i < m ∧ j < n ∧ ∃ X, Post both es es' m n X ∧ X i j := by
    intro i j
    unfold rel
    rw [List.length_map, List.length_range]
    constructor
    · rintro ⟨h1, h2⟩
      rw [List.getD_eq_getElem?_getD, List.getElem?_map, List.getElem?_range h1] at h2
      exact ⟨h1, ((hf i).2 j).1 h2⟩
    · rintro ⟨h1, h2⟩
      refine ⟨h1, ?_⟩
      rw [List.getD_eq_getElem?_getD, List.getElem?_map, List.getElem?_range h1]
      exact ((hf i).2 j).2 h2
  refine ⟨(List.range m).map f, ⟨by simp, fun r hr => ?_, fun X hX i j hx => (hr i j).2 ⟨(hX i j hx).1, (hX i j hx).2.1, X, hX, hx⟩⟩, fun i j h => ?_⟩
  · obtain ⟨i, _, rfl⟩ := List.mem_map.1 hr
    exact (hf i).1
  · obtain ⟨h1, h2, X, hX, hx⟩ := (hr i j).1 h
    exact (hX i j hx).2.2.mono fun a b hab => (hr a b).2 ⟨(hX a b hab).1, (hX a b hab).2.1, X, hX, hab⟩
theorem gfp_spec (both : Bool) (s t : Sys) : Gfp both s.edges t.edges s.st.toNat t.st.toNat (gfp both s t) := Classical.epsilon_spec (gfp_exists both s.edges t.edges s.st.toNat t.st.toNat)
theorem valid_few {s : Sys} (h : sysValid s = true) : ∃ p : Nat, s.st = p ∧ 1 ≤ p ∧ p ≤ 16 ∧ Few p s.edges := by
  simp only [sysValid, Bool.and_eq_true, decide_eq_true_eq, List.all_eq_true, List.mem_range] at h
  obtain ⟨_, ⟨h1, h2⟩, h3⟩ := h
  refine ⟨s.st.toNat, by omega, by omega, by omega, fun e he => ?_⟩
  obtain ⟨k, hk⟩ := List.getElem?_of_mem he
  have := h3 k (List.getElem?_eq_some_iff.1 hk).1
  rw [edgeOK, hk] at this
  simp only [Bool.and_eq_true, edgB, decide_eq_true_eq, hasB] at this
  omega
theorem same_valid {s t : Sys} (h : sameB s t = true) : sysValid s = true ∧ sysValid t = true ∧ s.al = t.al := by
  simp only [sameB, Bool.and_eq_true, beq_iff_eq] at h
  exact ⟨h.1, h.2.1, h.2.2⟩
theorem gfp_small {both : Bool} {s t : Sys} {p q : Nat} {R : List Nat} (hq : q ≤ 16) (h : Gfp both s.edges t.edges p q R) : ∀ r ∈ R, Sm r := fun r hr => by
  refine Sm.of_lt (Nat.lt_of_lt_of_le (h.small r hr) ?_)
  rw [show (4294967296 : Nat) = 2 ^ 32 from rfl]
  exact Nat.pow_le_pow_right (by omega) (by omega)
/-- The first states are related. -/
noncomputable def simB (both : Bool) (s t : Sys) : Bool := sameB s t && ((gfp both s t).getD 0 0).testBit 0
/-- The relation, or none. -/
noncomputable def simR (s t : Sys) : List Nat := if sameB s t then gfp false s t else []
theorem simR_length (s t : Sys) : (simR s t).length ≤ 16 := by
  unfold simR
  split
  · rename_i h
    obtain ⟨p, hp, _, hp2, _⟩ := valid_few (same_valid h).1
    rw [(gfp_spec false s t).len, hp]
    exact hp2
  · simp
/-- Numbers in new memory. -/
def OwnN (w : World) (base : Nat) (A : Option Addr) (n c : Nat) (R : List Nat) : Prop := n = R.length ∧ w.ownsRow base 3 1 (.slice A n c) n (nats R)
theorem OwnN.ext {w w' : World} {base : Nat} {A : Option Addr} {n c : Nat} {R : List Nat} (h : OwnN w base A n c R) (hb : Ext w w') : OwnN w' base A n c R := ⟨h.1, own_ext h.2 hb⟩
theorem OwnN.less {w : World} {base base' : Nat} {A : Option Addr} {n c : Nat} {R : List Nat} (h : OwnN w base A n c R) (hb : base' ≤ base) : OwnN w base' A n c R := ⟨h.1, own_less h.2 hb⟩
def RetN (w : World) (R : List Nat) (e : Ending) (w' : World) : Prop := ∃ A n c, e = .returned (.slice A n c) ∧ OwnN w' w.heap.size A n c R ∧ Ext w w'

end Go.Proofs.Ytcmgkekaeafgaaa
