/- Plain: traces of one system that are none of another; simulation keeps traces, and determinism makes it inclusion. No program in sight. | impl.FirstTraceOutside's closures, walked. | Plain: a valid system's edges rise; a system without its unreachable states is bisimilar to it. No program in sight. | impl.FirstTraceOutside, walked: a search through pairs of a state and a set of states. | impl.TracesWithin and impl.SameTraces, walked. | Plain: the quotient of a system by its greatest relation. No program in sight. | Plain: a sorted list of edges without repeats rises. No program in sight. | slices.SortFunc at edges, by the library's own contract (its laying, written out for this seat by wip/gen_lay.py). -/
import Derived.Test.YtmlembcpamchjaaDoorG09
import Derived.Test.YtmlembcpamchjaaDoorG05
import Derived.Test.YtmlembcpamchjaaDoorG06
import Derived.Test.YtmlembcpamchjaaDoorG07
import Derived.Deep.DeepCutAuto
import Derived.Test.YtmlembcpamchjaaDoorG04
import Derived.Shelf.SlSortCmp.NoneTotal
namespace Go.Proofs.YtmlembcpamchjaaDoor
open Go Go.RowKit

/-- A node is a state and a set of states; what follows it by a letter. -/
def dW (es es' : List Edg) (Z n l : Nat) : List Nat := (letters (succ es (n / Z : Nat) l) 32).map fun q => q * Z + stepB es' (n % Z) l
section
variable {es es' : List Edg} {p q : Nat}
theorem dW_mem (hp : p ≤ 16) (hf : Few p es) (hg : Few q es') {n l x : Nat} : x ∈ dW es es' (2 ^ q) n l ↔ E es (n / 2 ^ q) l (x / 2 ^ q) ∧ x % 2 ^ q = stepB es' (n % 2 ^ q) l := by
  have hZ := Nat.two_pow_pos q
  have hy := stepB_lt hg (n % 2 ^ q) l
  unfold dW
  rw [List.mem_map]
  constructor
  · rintro ⟨k, hk, rfl⟩
    have h1 : (k * 2 ^ q + stepB es' (n % 2 ^ q) l) / 2 ^ q = k := by
      rw [Nat.mul_comm, Nat.mul_add_div hZ, Nat.div_eq_of_lt hy, Nat.add_zero]
    have h2 : (k * 2 ^ q + stepB es' (n % 2 ^ q) l) % 2 ^ q = stepB es' (n % 2 ^ q) l := by
      rw [Nat.mul_comm, Nat.mul_add_mod, Nat.mod_eq_of_lt hy]
    rw [h1, h2]
    exact ⟨(E_iff hf _ _ _).2 (mem_letters.1 hk).2, rfl⟩
  · rintro ⟨h1, h2⟩
    have h3 := (E_iff hf _ _ _).1 h1
    refine ⟨x / 2 ^ q, mem_letters.2 ⟨?_, h3⟩, ?_⟩
    · obtain ⟨e, he, _, _, h5⟩ := h1
      have := hf e he
      omega
    · rw [← h2, Nat.mul_comm]
      exact Nat.div_add_mod x (2 ^ q)
/-- What a word leads to in a system that is simulated: the set holds a state that simulates. -/
theorem sim_goes (hp : p ≤ 16) (hf : Few p es) (hg : Few q es') (hq : 1 ≤ q) {both : Bool} {R : List Nat} (hR : Gfp both es es' p q R) (h0 : rel R 0 0) {v : List Nat} {x : Nat} (hx : Goes (dW es es' (2 ^ q)) [1] v x) : ∃ j, rel R (x / 2 ^ q) j ∧ (x % 2 ^ q).testBit j = true := by
  have hZ : 2 ≤ 2 ^ q := by
    have := Nat.pow_le_pow_right (n := 2) (by omega) hq
    omega
  induction hx with
  | nil h =>
    obtain rfl := List.mem_singleton.1 h
    exact ⟨0, by rw [Nat.div_eq_of_lt (by omega)]; exact h0, by rw [Nat.mod_eq_of_lt (by omega)]; rfl⟩
  | @snoc w l n x _ h ih =>
    obtain ⟨j, hj, hb⟩ := ih
    obtain ⟨h1, h2⟩ := (dW_mem hp hf hg).1 h
    obtain ⟨k', h3, h4⟩ := (hR.post _ _ hj).1 _ _ h1
    refine ⟨k', h4, ?_⟩
    rw [h2, stepB_bit]
    obtain ⟨e, he, e1, e2, e3⟩ := h3
    exact ⟨e, he, ⟨e2, by rw [show e.fr.toNat = j by omega]; exact hb⟩, by omega⟩
theorem sim_lost (hp : p ≤ 16) (hf : Few p es) (hg : Few q es') (hq : 1 ≤ q) {both : Bool} {R : List Nat} (hR : Gfp both es es' p q R) (h0 : rel R 0 0) (L : List Nat) : Lost (dW es es' (2 ^ q)) [1] (fun n => n % 2 ^ q == 0) L := by
  intro v _ x hx
  obtain ⟨j, _, hj⟩ := sim_goes hp hf hg hq hR h0 hx
  cases h : (x % 2 ^ q == 0)
  · exact h
  · rw [beq_iff_eq] at h
    rw [h, Nat.zero_testBit] at hj
    cases hj
/-- The states that traces lead to. -/
inductive Rch (es : List Edg) : Nat → Prop where
  | zero : Rch es 0
  | step {i l k : Nat} (h : Rch es i) (hk : E es i l k) : Rch es k
/-- Each trace leads to one state. -/
def Det (es : List Edg) : Prop := ∀ i l k k', Rch es i → E es i l k → E es i l k' → k = k'
theorem Det.one (hg : Few q es') (hd : Det es') {j l k : Nat} (hj : Rch es' j) (hk : (stepB es' (2 ^ j) l).testBit k = true) : stepB es' (2 ^ j) l = 2 ^ k := by
  rw [stepB_one hg] at hk ⊢
  apply Nat.eq_of_testBit_eq
  intro i
  rw [Bool.eq_iff_iff, Nat.testBit_two_pow, decide_eq_true_eq]
  constructor
  · intro h
    exact hd j l k i hj ((E_iff hg j l k).2 hk) ((E_iff hg j l i).2 h)
  · rintro rfl
    exact hk
theorem pow_lt_of {j q x : Nat} (h : x % 2 ^ q = 2 ^ j) : j < q := by
  have h1 := Nat.mod_lt x (Nat.two_pow_pos q)
  rw [h] at h1
  exact (Nat.pow_lt_pow_iff_right (by omega)).1 h1
/-- One letter more, where no word leads out. -/
theorem lost_step (hp : p ≤ 16) (hf : Few p es) (hg : Few q es') {L : List Nat} (hL : ∀ i l k, E es i l k → l ∈ L) (hd : Det es') (h : Lost (dW es es' (2 ^ q)) [1] (fun n => n % 2 ^ q == 0) L)
    {v : List Nat} {x i j l k : Nat} (hv : ∀ l ∈ v, l ∈ L) (hx : Goes (dW es es' (2 ^ q)) [1] v x) (h1 : x / 2 ^ q = i) (h2 : x % 2 ^ q = 2 ^ j) (hj : Rch es' j) (hk : E es i l k) :
    l ∈ L ∧ ∃ k', E es' j l k' ∧ Goes (dW es es' (2 ^ q)) [1] (v ++ [l]) (k * 2 ^ q + 2 ^ k') := by
  have hl := hL _ _ _ hk
  have hZ := Nat.two_pow_pos q
  have hy := stepB_lt hg (2 ^ j) l
  have hm : k * 2 ^ q + stepB es' (2 ^ j) l ∈ dW es es' (2 ^ q) x l := by
    rw [dW_mem hp hf hg, h1, h2, Nat.mul_comm, Nat.mul_add_div hZ, Nat.div_eq_of_lt hy, Nat.add_zero, Nat.mul_add_mod, Nat.mod_eq_of_lt hy]
    exact ⟨hk, rfl⟩
  have hg2 := hx.snoc hm
  have hne := h (v ++ [l]) (fun m hm => by
    rcases List.mem_append.1 hm with h | h
    · exact hv m h
    · rw [List.mem_singleton.1 h]; exact hl) _ hg2
  simp only [beq_eq_false_iff_ne, ne_eq] at hne
  rw [Nat.mul_comm, Nat.mul_add_mod, Nat.mod_eq_of_lt hy] at hne
  obtain ⟨k', hk'⟩ := ne_zero_bit.1 hne
  rw [hd.one hg hj hk'] at hg2
  refine ⟨hl, k', ?_, hg2⟩
  rw [stepB_one hg] at hk'
  exact (E_iff hg j l k').2 hk'
theorem node_div {k q k' : Nat} (h : k' < q) : (k * 2 ^ q + 2 ^ k') / 2 ^ q = k ∧ (k * 2 ^ q + 2 ^ k') % 2 ^ q = 2 ^ k' := by
  have hZ := Nat.two_pow_pos q
  have hy : 2 ^ k' < 2 ^ q := (Nat.pow_lt_pow_iff_right (by omega)).2 h
  rw [Nat.mul_comm, Nat.mul_add_div hZ, Nat.div_eq_of_lt hy, Nat.add_zero, Nat.mul_add_mod, Nat.mod_eq_of_lt hy]
  exact ⟨rfl, rfl⟩
theorem E_lt (hf : Few p es) {i l k : Nat} (h : E es i l k) : i < p ∧ k < p := by
  obtain ⟨e, he, h1, h2, h3⟩ := h
  have := hf e he
  omega
theorem node_one (hq : 1 ≤ q) : 1 / 2 ^ q = 0 ∧ 1 % 2 ^ q = 2 ^ 0 := by
  have hZ : 2 ≤ 2 ^ q := by
    have := Nat.pow_le_pow_right (n := 2) (by omega) hq
    omega
  exact ⟨Nat.div_eq_of_lt (by omega), Nat.mod_eq_of_lt (by omega)⟩
/-- Determinism makes inclusion simulation. -/
theorem lost_sim (hp1 : 1 ≤ p) (hp : p ≤ 16) (hf : Few p es) (hg : Few q es') (hq : 1 ≤ q) {L : List Nat} (hL : ∀ i l k, E es i l k → l ∈ L) (hd : Det es') (h : Lost (dW es es' (2 ^ q)) [1] (fun n => n % 2 ^ q == 0) L)
    {R : List Nat} (hR : Gfp false es es' p q R) : rel R 0 0 := by
  refine hR.great (fun i j => i < p ∧ Rch es' j ∧ ∃ v x, (∀ l ∈ v, l ∈ L) ∧ Goes (dW es es' (2 ^ q)) [1] v x ∧ x / 2 ^ q = i ∧ x % 2 ^ q = 2 ^ j) ?_ 0 0 ⟨by omega, .zero, [], 1, (fun l hl => by cases hl), .nil (by simp), (node_one hq).1, (node_one hq).2⟩
  rintro i j ⟨hi, hj, v, x, hv, hx, h1, h2⟩
  refine ⟨hi, pow_lt_of h2, fun l k hk => ?_, fun hb => by cases hb⟩
  obtain ⟨hl, k', e', g'⟩ := lost_step hp hf hg hL hd h hv hx h1 h2 hj hk
  obtain ⟨d1, d2⟩ := node_div (k := k) (E_lt hg e').2
  refine ⟨k', e', (E_lt hf hk).2, hj.step e', v ++ [l], _, fun m hm => ?_, g', d1, d2⟩
  rcases List.mem_append.1 hm with h | h
  · exact hv m h
  · rw [List.mem_singleton.1 h]; exact hl
/-- Determinism of both makes equality bisimilarity. -/
theorem lost_bis (hp1 : 1 ≤ p) (hp : p ≤ 16) (hf : Few p es) (hg : Few q es') (hq : 1 ≤ q) (hq2 : q ≤ 16) {L : List Nat} (hL : ∀ i l k, E es i l k → l ∈ L) (hL' : ∀ i l k, E es' i l k → l ∈ L) (hd : Det es) (hd' : Det es')
    (h : Lost (dW es es' (2 ^ q)) [1] (fun n => n % 2 ^ q == 0) L) (h' : Lost (dW es' es (2 ^ p)) [1] (fun n => n % 2 ^ p == 0) L) {R : List Nat} (hR : Gfp true es es' p q R) : rel R 0 0 := by
  refine hR.great (fun i j => Rch es i ∧ Rch es' j ∧ ∃ v x y, (∀ l ∈ v, l ∈ L) ∧ Goes (dW es es' (2 ^ q)) [1] v x ∧ x / 2 ^ q = i ∧ x % 2 ^ q = 2 ^ j ∧ Goes (dW es' es (2 ^ p)) [1] v y ∧ y / 2 ^ p = j ∧ y % 2 ^ p = 2 ^ i) ?_ 0 0 ⟨.zero, .zero, [], 1, 1, (fun l hl => by cases hl), .nil (by simp), (node_one hq).1, (node_one hq).2, .nil (by simp), (node_one hp1).1, (node_one hp1).2⟩
  rintro i j ⟨hi, hj, v, x, y, hv, hx, h1, h2, hy, h3, h4⟩
  have key : ∀ l k k', E es i l k → E es' j l k' → ∃ v x y, (∀ l ∈ v, l ∈ L) ∧ Goes (dW es es' (2 ^ q)) [1] v x ∧ x / 2 ^ q = k ∧ x % 2 ^ q = 2 ^ k' ∧ Goes (dW es' es (2 ^ p)) [1] v y ∧ y / 2 ^ p = k' ∧ y % 2 ^ p = 2 ^ k := by
    intro l k k' hk hk'
    obtain ⟨hl, m', e', g'⟩ := lost_step hp hf hg hL hd' h hv hx h1 h2 hj hk
    obtain ⟨_, m, e, g⟩ := lost_step hq2 hg hf hL' hd h' hv hy h3 h4 hi hk'
    obtain rfl := hd' j l k' m' hj hk' e'
    obtain rfl := hd i l k m hi hk e
    obtain ⟨d1, d2⟩ := node_div (k := k) (E_lt hg e').2
    obtain ⟨d3, d4⟩ := node_div (k := k') (E_lt hf e).2
    refine ⟨v ++ [l], _, _, fun m hm => ?_, g', d1, d2, g, d3, d4⟩
    rcases List.mem_append.1 hm with h | h
    · exact hv m h
    · rw [List.mem_singleton.1 h]; exact hl
  refine ⟨pow_lt_of h4, pow_lt_of h2, fun l k hk => ?_, fun _ l k' hk' => ?_⟩
  · obtain ⟨_, k', e', _⟩ := lost_step hp hf hg hL hd' h hv hx h1 h2 hj hk
    exact ⟨k', e', hi.step hk, hj.step e', key l k k' hk e'⟩
  · obtain ⟨_, k, e, _⟩ := lost_step hq2 hg hf hL' hd h' hv hy h3 h4 hi hk'
    exact ⟨k, e, hi.step e, hj.step hk', key l k k' e hk'⟩
end
end Go.Proofs.YtmlembcpamchjaaDoor

namespace Go.Proofs.YtmlembcpamchjaaDoor
open Go Go.RowKit
set_option maxHeartbeats 2000000

/-- The goal: the set is empty. -/
theorem out_goal {w : World} {g8 n Z : Nat} (h8 : Blk w g8 3 #[.int .i64 (Z : Nat)]) (hZ : 0 < Z) (hn : n ≤ 16777216) :
    Calls Tryd.prog 104 #[.int .i64 (n : Nat), .pointer (some ⟨g8, 0, none⟩)] w fun e w' => e = .returned (.bool (n % Z == 0)) ∧ Ext w w' := by
  have c8 := h8.cell
  have hz : ((Z : Int) == 0) = false := by simp; omega
  go_enter Tryd.func104, Tryd.ntmps104
  go_wp2
  go_ret
  exact ⟨ret_bool (by rw [Bool.eq_iff_iff, beq_iff_eq, beq_iff_eq]; omega), Ext.refl _⟩
theorem Frm.grown2 {T : Nat → Prop} {w W W' : World} {row : Option Nat} (h : Frm T w W) (hg : W.grownBy W' row) (hr : ∀ k, row = some k → T k ∨ w.heap.size ≤ k) : Frm T w W' :=
  ⟨hg.os.trans h.os, hg.tape.trans h.tape, hg.output.trans h.output, Nat.le_trans h.size hg.size, fun k hk hn => (hg.block k (Nat.lt_of_lt_of_le hk h.size) (fun e => by
    rcases hr k e.symm with h1 | h1
    · exact hn h1
    · omega)).trans (h.block k hk hn)⟩
/-- What the closures have captured. -/
structure Caps (w : World) (g6 g7 g8 bm bn Z : Nat) (es es' : List Edg) : Prop where
  h6 : Blk w g6 81 #[.pointer (some ⟨bm, 0, none⟩)]
  h7 : Blk w g7 81 #[.pointer (some ⟨bn, 0, none⟩)]
  h8 : Blk w g8 3 #[.int .i64 (Z : Nat)]
  hm : MovB w bm es
  hn : MovB w bn es'
theorem Caps.ext {w w' : World} {g6 g7 g8 bm bn Z : Nat} {es es' : List Edg} (h : Caps w g6 g7 g8 bm bn Z es es') (hx : Ext w w') : Caps w' g6 g7 g8 bm bn Z es es' := ⟨h.h6.ext hx, h.h7.ext hx, h.h8.ext hx, h.hm.ext hx, h.hn.ext hx⟩
theorem map_take {α β : Type} {f : α → β} {l : List α} {k : Nat} {x : α} (h : l[k]? = some x) : (l.take (k + 1)).map f = (l.take k).map f ++ [f x] := by
  rw [List.take_add_one, h]; simp
set_option maxRecDepth 100000 in
theorem out_next {w : World} {g6 g7 g8 bm bn p q n l base m c Z : Nat} {A : Option Addr} {xs : List Nat} {es es' : List Edg} (hC : Caps w g6 g7 g8 bm bn Z es es') (hZe : Z = 2 ^ q) (hT : Tab w) (hf : Few p es) (hg : Few q es') (hp : p ≤ 16) (hq : q ≤ 16) (hn : n < p * Z) (hl : l < 6)
    (hb8 : g8 < base) (hb : base ≤ w.heap.size) (hm : m ≤ 1099511627776) (hown : w.ownsRow base 3 1 (.slice A m c) m (nats xs)) :
    Calls Tryd.prog 101 #[.int .i64 (n : Nat), .int .i64 (l : Nat), .slice A m c, .pointer (some ⟨g7, 0, none⟩), .pointer (some ⟨g8, 0, none⟩), .pointer (some ⟨g6, 0, none⟩)] w fun e w' => ∃ A' c', e = .returned (.slice A' (xs ++ dW es es' Z n l).length c') ∧ w'.ownsRow base 3 1 (.slice A' (xs ++ dW es es' Z n l).length c') (xs ++ dW es es' Z n l).length (nats (xs ++ dW es es' Z n l)) ∧ Frm (fun k => (Value.slice A m c).ownBlock = some k) w w' := by
  have hZ0 : 0 < Z := by rw [hZe]; exact Nat.two_pow_pos q
  have hZ1 : Z ≤ 65536 := by rw [hZe, show (65536 : Nat) = 2 ^ 16 from rfl]; exact Nat.pow_le_pow_right (by omega) hq
  have hset : n % Z < 65536 := Nat.lt_of_lt_of_le (Nat.mod_lt _ hZ0) hZ1
  have hq16 : n / Z < 16 := Nat.lt_of_lt_of_le (Nat.div_lt_of_lt_mul (by rw [Nat.mul_comm]; exact hn)) hp
  have hn2 : n ≤ 1048576 := by
    have := Nat.mul_le_mul hp hZ1
    omega
  have hmx := hide (show m = xs.length by have := hown.1; rw [nats_length] at this; omega)
  have hst := hide (fun W (hW : Ext w W) => impl_step ((hC.hn.ext hW).at_) (hT.ext hW) (show n % Z < 2 ^ 16 from hset) hl hg hq)
  have hs2 := succ_sm hf hp (n / Z : Nat) l
  have hcm := hC.hm.at_ (n / Z) l hq16 hl
  have hdW := hide (show dW es es' Z n l = (letters (succ es (n / Z : Nat) l) 32).map fun k => k * Z + stepB es' (n % Z) l from rfl)
  generalize dW es es' Z n l = res at *
  have hll := letters_length (succ es (n / Z : Nat) l) 32
  have hlt32 := hide (fun k (hk : k ∈ letters (succ es (n / Z : Nat) l) 32) => (mem_letters.1 hk).1)
  have hsl : stepB es' (n % Z) l < Z := by rw [hZe]; exact stepB_lt hg _ l
  have hmem := hide (fun W (hW : Ext w W) => impl_members (succ es (n / Z : Nat) l) hs2 W (hT.ext hW))
  generalize stepB es' (n % Z) l = y at *
  generalize letters (succ es (n / Z : Nat) l) 32 = ms at *
  generalize succ es (n / Z : Nat) l = sc at *
  have c6 : ∀ W, Ext w W → ∀ k, W.cell? ⟨g6, k, none⟩ = _ := fun W hW => (hC.h6.ext hW).cell
  have c7 : ∀ W, Ext w W → ∀ k, W.cell? ⟨g7, k, none⟩ = _ := fun W hW => (hC.h7.ext hW).cell
  have c8 : ∀ W, Ext w W → ∀ k, W.cell? ⟨g8, k, none⟩ = _ := fun W hW => (hC.h8.ext hW).cell
  have cM : ∀ W, Ext w W → W.cell? ⟨bm, n / Z * 6 + l, none⟩ = some (.int .i64 (sc : Nat)) := fun W hW => hW.cell_some hcm
  have h8 := hC.h8
  clear hC hcm hZe
  have hz : ((Z : Int) == 0) = false := by simp; omega
  have hdl := Nat.div_le_self n Z
  have hz2 : ¬ Z = 0 := by omega
  have hdc : Int.tdiv (n : Int) (Z : Int) = ((n / Z : Nat) : Int) := rfl
  have hnm : Int.tmod (n : Int) (Z : Int) = ((n % Z : Nat) : Int) := rfl
  generalize n / Z = dq at *
  generalize n % Z = rm at *
  have hnd : IntKind.i64.wrap (dq : Int) = (dq : Int) := IntWalk.i64_in _ (by omega)
  have hq16' : (dq : Int) < 16 := by omega
  have hl6' : (l : Int) < 6 := by omega
  have hww := Ext.refl w
  go_enter Tryd.func101, Tryd.ntmps101
  go_wp2
  refine wp_region_tailU (fun X => Ext w X) [5] (OrdU.of [0, 1, 2, 3, 4, 5, 6]) (by kernel_rfl) (by kernel_rfl) (by kernel_rfl) (by kernel_rfl) (by kernel_rfl) (fun _ _ _ _ _ h => h) (by first | assumption | exact (Ext.refl _).drew | (refine Ext.drew ?_; assumption)) ?_
  repeat (first | (refine useq_skip rfl rfl (by assumption) ?_; simp only [Act.put, List.setIfInBounds_toArray, List.set_cons_zero, List.set_cons_succ]) | (refine useq_pure (v := ?_) rfl rfl rfl rfl (fun X => ?_) ?_; rotate_left; (focus (go_simp <;> with_reducible rfl)); simp only [Act.put, List.setIfInBounds_toArray, List.set_cons_zero, List.set_cons_succ]) | (refine useq_read (v := ?_) rfl rfl rfl rfl (fun X hX => ?_) ?_; rotate_left; (focus (go_simp <;> with_reducible rfl)); simp only [Act.put, List.setIfInBounds_toArray, List.set_cons_zero, List.set_cons_succ]))
  (refine useq_step rfl rfl rfl (fun K hK => ?_); go_simp)
  refine (hst.out _ (Ext.refl w).drew).mono ?_
  rintro e w2 ⟨rfl, hx2⟩
  have hw2 := (Ext.refl w).drew.trans hx2
  refine hK.out _ _ hw2 ?_
  (try simp only [Act.put, List.setIfInBounds_toArray, List.set_cons_zero, List.set_cons_succ])
  repeat (first | (refine useq_skip rfl rfl (by assumption) ?_; simp only [Act.put, List.setIfInBounds_toArray, List.set_cons_zero, List.set_cons_succ]) | (refine useq_pure (v := ?_) rfl rfl rfl rfl (fun X => ?_) ?_; rotate_left; (focus (go_simp <;> with_reducible rfl)); simp only [Act.put, List.setIfInBounds_toArray, List.set_cons_zero, List.set_cons_succ]) | (refine useq_read (v := ?_) rfl rfl rfl rfl (fun X hX => ?_) ?_; rotate_left; (focus (go_simp <;> with_reducible rfl)); simp only [Act.put, List.setIfInBounds_toArray, List.set_cons_zero, List.set_cons_succ]))
  refine useq_nil ?_
  go_wp2_with fail
  have hS2 := hw2
  refine wp_region_tailU (fun X => Ext w X) [] (OrdU.of [0, 1, 2, 3, 4, 11, 5, 6, 7, 8, 9, 10]) (by kernel_rfl) (by kernel_rfl) (by kernel_rfl) (by kernel_rfl) (by kernel_rfl) (fun _ _ _ _ _ h => h) (by first | assumption | exact (Ext.refl _).drew | (refine Ext.drew ?_; assumption)) ?_
  repeat (first | (refine useq_skip rfl rfl (by assumption) ?_; simp only [Act.put, List.setIfInBounds_toArray, List.set_cons_zero, List.set_cons_succ]) | (refine useq_pure (v := ?_) rfl rfl rfl rfl (fun X => ?_) ?_; rotate_left; (focus (go_simp <;> with_reducible rfl)); simp only [Act.put, List.setIfInBounds_toArray, List.set_cons_zero, List.set_cons_succ]) | (refine useq_read (v := ?_) rfl rfl rfl rfl (fun X hX => ?_) ?_; rotate_left; (focus (go_simp <;> with_reducible rfl)); simp only [Act.put, List.setIfInBounds_toArray, List.set_cons_zero, List.set_cons_succ]))
  (refine useq_step rfl rfl rfl (fun K hK => ?_); go_simp)
  refine hK.out _ _ hw2.drew ?_
  (try simp only [Act.put, List.setIfInBounds_toArray, List.set_cons_zero, List.set_cons_succ])
  repeat (first | (refine useq_skip rfl rfl (by assumption) ?_; simp only [Act.put, List.setIfInBounds_toArray, List.set_cons_zero, List.set_cons_succ]) | (refine useq_pure (v := ?_) rfl rfl rfl rfl (fun X => ?_) ?_; rotate_left; (focus (go_simp <;> with_reducible rfl)); simp only [Act.put, List.setIfInBounds_toArray, List.set_cons_zero, List.set_cons_succ]) | (refine useq_read (v := ?_) rfl rfl rfl rfl (fun X hX => ?_) ?_; rotate_left; (focus (go_simp <;> with_reducible rfl)); simp only [Act.put, List.setIfInBounds_toArray, List.set_cons_zero, List.set_cons_succ]))
  (refine useq_step rfl rfl rfl (fun K hK => ?_); go_simp)
  refine (hmem.out _ hw2.drew).mono ?_
  rintro e w3 ⟨A3, c3, rfl, hown3, hx3⟩
  have hw3 := hw2.drew.trans hx3
  refine hK.out _ _ hw3 ?_
  (try simp only [Act.put, List.setIfInBounds_toArray, List.set_cons_zero, List.set_cons_succ])
  repeat (first | (refine useq_skip rfl rfl (by assumption) ?_; simp only [Act.put, List.setIfInBounds_toArray, List.set_cons_zero, List.set_cons_succ]) | (refine useq_pure (v := ?_) rfl rfl rfl rfl (fun X => ?_) ?_; rotate_left; (focus (go_simp <;> with_reducible rfl)); simp only [Act.put, List.setIfInBounds_toArray, List.set_cons_zero, List.set_cons_succ]) | (refine useq_read (v := ?_) rfl rfl rfl rfl (fun X hX => ?_) ?_; rotate_left; (focus (go_simp <;> with_reducible rfl)); simp only [Act.put, List.setIfInBounds_toArray, List.set_cons_zero, List.set_cons_succ]))
  refine useq_nil ?_
  obtain ⟨k3, hk3⟩ : ∃ k3, Hid (k3 = ms.length) := ⟨_, rfl⟩
  rw [← hk3.out] at hown3 ⊢
  obtain ⟨wb, hwb⟩ : ∃ wb : World, wb.heap.size = base := ⟨{ w with heap := w.heap.extract 0 base }, by simp; omega⟩
  subst hwb
  have hTl := hide (fun b (hb : (Value.slice A m c).ownBlock = some b) => hown.lt b hb)
  have hown3' := hide (show ∀ W, Frm (fun b => (Value.slice A m c).ownBlock = some b) w3 W → W.ownsRow w2.drew.heap.size 3 1 (.slice A3 k3 c3) k3 (nats ms) from fun W hW => own_frm hown3 hW (fun b hv hS => by
    have h1 := (hown3.lt b hv).1
    have h2 := (hTl.out b hS).2
    have h3 := hw2.drew.size
    omega))
  have h8' := hide (show ∀ W, Frm (fun b => (Value.slice A m c).ownBlock = some b) w3 W → Blk W g8 3 #[.int .i64 (Z : Nat)] from fun W hW => (h8.ext hw3).frm hW (fun hS => by
    have h1 := (hTl.out g8 hS).1
    omega))
  have hown0 := own_ext hown hw3
  have hb3 := hw3.size
  have hres := hide hdW.out
  clear hdW hown h8 hst hmem c6 c7 c8 cM hx2 hx3 hS2
  have hk32 : k3 ≤ 32 := by have := hk3.out; omega
  go_wp2_with fail
  go_loopw [2, 12, 30] (fun v _ i wr => ∃ k : Nat, k ≤ k3 ∧ i = .int .i64 k ∧ wr.ownsRow wb.heap.size 3 1 v (m + k) (nats (xs ++ (ms.take k).map fun k => k * Z + y)) ∧ Frm (fun b => (Value.slice A m c).ownBlock = some b) w3 wr ∧ Hid (∀ b, v.ownBlock = some b → (Value.slice A m c).ownBlock = some b ∨ w3.heap.size ≤ b)) (fun _ _ i _ => k3 - (intOf i).toNat)
  case atStart => exact ⟨0, Nat.zero_le _, rfl, by simpa using hown0, Frm.refl _ _, (show Hid _ from fun b hb => Or.inl hb)⟩
  case round =>
    clear hown0
    obtain ⟨k, hk, rfl, hown, hfr, hat⟩ := hrel
    have hsz := hfr.size
    by_cases hlt : k < k3
    · obtain ⟨g, o, n, rfl, hx, hc⟩ := (IntsAt.own (hown3'.out _ hfr)).at_ hlt
      have hn32 := hlt32.out n (List.mem_of_getElem? hx.out)
      have c8 := (h8'.out _ hfr).cell
      have hmul : n * Z ≤ 32 * 65536 := Nat.mul_le_mul (by omega) hZ1
      have hmi : (n : Int) * (Z : Int) = ((n * Z : Nat) : Int) := by simp
      have htk := hide (map_take (f := fun k => k * Z + y) hx.out)
      have hkc : (k : Int) < (k3 : Int) := by omega
      generalize n * Z = nz at *
      go_wp2_with (at_builtin; refine wpList_push3 wb _ rfl _ _ _ rfl 3 _ 1 8 Tryd.underlying38 info_int rfl (by decide) u2 (m + k) (nats (xs ++ (ms.take k).map fun k => k * Z + y)) _ _ rfl rfl (by omega) hown rfl (by simp [Value.oneCell']) (by unfold maxLen; omega) (by omega) ?_; intro g5 cap5 w5 hown5 hg5 hat5 hlt5)
      have hfr5 := hfr.grown2 hg5 hat.out
      go_roundw
      case rel =>
        refine ⟨k + 1, by omega, by go_num, ?_, hfr5, (show Hid _ from fun b hb => ?_)⟩
        · rw [htk.out, ← List.append_assoc, nats_append]
          exact hown5
        · have hbg : g5 = b := by simpa [Value.ownBlock] using hb
          subst hbg
          rcases hat5 with h | h
          · exact hat.out _ h
          · exact Or.inr (by omega)
      case measure => simp [intOf]; omega
    · obtain rfl : k = k3 := by omega
      have htk : ms.take k = ms := List.take_of_length_le (by have := hk3.out; omega)
      rw [htk] at hown
      obtain ⟨A5, c5, rfl⟩ := own_form hown
      have hfin := hw3.toFrm.trans hfr
      have hlen := hide (show (xs ++ res).length = m + k by rw [hres.out]; simp; have := hk3.out; have := hmx.out; omega)
      go_wp2_with fail
      go_ret
      rw [← hres.out] at hown
      exact ⟨A5, c5, by rw [hlen.out]; rfl, by rw [hlen.out]; exact hown, hfin⟩
end Go.Proofs.YtmlembcpamchjaaDoor

namespace Go.Proofs.YtmlembcpamchjaaDoor
open Go Go.RowKit

theorem ltE_trans {a b c : Edg} (h : ltE a b = true) (h' : ltE b c = true) : ltE a c = true := by
  unfold ltE at *
  (repeat' split at h) <;> (repeat' split at h') <;> (repeat' split) <;> simp only [decide_eq_true_eq] at * <;> omega
theorem ltE_iff {a b : Edg} : ltE a b = true ↔ a.fr < b.fr ∨ a.fr = b.fr ∧ (a.le < b.le ∨ a.le = b.le ∧ a.to < b.to) := by
  unfold ltE
  (repeat' split) <;> simp only [decide_eq_true_eq] <;> omega
/-- Each edge is behind the one ahead of it. -/
def Rising (es : List Edg) : Prop := ∀ (a b : Nat) (x y : Edg), es[a]? = some x → es[b]? = some y → a < b → ltE x y = true
theorem rising_of {es : List Edg} (h : ∀ k x y, es[k]? = some x → es[k + 1]? = some y → ltE x y = true) : Rising es := by
  intro a b x y hx hy hab
  induction b generalizing y with
  | zero => omega
  | succ b ih =>
    have hb := (List.getElem?_eq_some_iff.1 hy).1
    obtain ⟨z, hz⟩ : ∃ z, es[b]? = some z := ⟨_, List.getElem?_eq_getElem (by omega)⟩
    have h1 := h b z y hz hy
    rcases Nat.lt_or_ge a b with h2 | h2
    · exact ltE_trans (ih z hz h2) h1
    · obtain rfl : a = b := by omega
      rw [hx] at hz
      obtain rfl := Option.some.inj hz
      exact h1
theorem valid_iff {s : Sys} : sysValid s = true ↔ (0 ≤ s.al ∧ s.al ≤ 63) ∧ (1 ≤ s.st ∧ s.st ≤ 16) ∧ (∀ e ∈ s.edges, edgB s.al.toNat s.st e = true) ∧ Rising s.edges := by
  simp only [sysValid, Bool.and_eq_true, decide_eq_true_eq, List.all_eq_true, List.mem_range]
  constructor
  · rintro ⟨h1, h2, h3⟩
    refine ⟨h1, h2, fun e he => ?_, rising_of fun k x y hx hy => ?_⟩
    · obtain ⟨k, hk⟩ := List.getElem?_of_mem he
      have := h3 k (List.getElem?_eq_some_iff.1 hk).1
      rw [edgeOK, hk] at this
      simp only [Bool.and_eq_true] at this
      exact this.1
    · have := h3 (k + 1) (List.getElem?_eq_some_iff.1 hy).1
      unfold edgeOK at this
      rw [hy] at this
      simp only [Nat.add_sub_cancel, hx, Bool.and_eq_true, Bool.or_eq_true, decide_eq_true_eq] at this
      rcases this.2 with h | h
      · omega
      · exact h
  · rintro ⟨h1, h2, h3, h4⟩
    refine ⟨h1, h2, fun k hk => ?_⟩
    have hx : s.edges[k]? = some s.edges[k] := List.getElem?_eq_getElem hk
    unfold edgeOK
    rw [hx]
    simp only [Bool.and_eq_true, Bool.or_eq_true, decide_eq_true_eq]
    refine ⟨h3 _ (List.getElem_mem hk), ?_⟩
    cases k with
    | zero => exact Or.inl rfl
    | succ k =>
      have hy : s.edges[k]? = some s.edges[k] := List.getElem?_eq_getElem (by omega)
      simp only [Nat.add_sub_cancel, hy]
      exact Or.inr (h4 k (k + 1) _ _ hy hx (by omega))

/-- How many numbers of a set are below another. -/
def rk (R n : Nat) : Nat := (letters R n).length
theorem rk_succ (R n : Nat) : rk R (n + 1) = rk R n + if R.testBit n then 1 else 0 := by
  unfold rk
  rw [letters_succ, List.length_append]
  cases R.testBit n <;> simp
theorem rk_le (R n : Nat) : rk R n ≤ n := letters_length R n
theorem rk_mono {R a b : Nat} (h : a ≤ b) : rk R a ≤ rk R b := by
  induction b with
  | zero => rw [show a = 0 by omega]; exact Nat.le_refl _
  | succ b ih =>
    rcases Nat.lt_or_ge a (b + 1) with h1 | h1
    · rw [rk_succ]
      have := ih (by omega)
      omega
    · rw [show a = b + 1 by omega]; exact Nat.le_refl _
theorem rk_lt {R a b : Nat} (h : a < b) (ha : R.testBit a = true) : rk R a < rk R b := by
  have h1 := rk_mono (R := R) (show a + 1 ≤ b by omega)
  rw [rk_succ, ha] at h1
  simp at h1
  omega
theorem rk_inj {R a b : Nat} (ha : R.testBit a = true) (hb : R.testBit b = true) (h : rk R a = rk R b) : a = b := by
  rcases Nat.lt_trichotomy a b with h1 | h1 | h1
  · have := rk_lt h1 ha; omega
  · exact h1
  · have := rk_lt h1 hb; omega
/-- An edge between some states, which are numbered anew. -/
def subI (R : Nat) (e : Edg) : Bool := hasB R e.fr && hasB R e.to
def subJ (R : Nat) (e : Edg) : Edg := ⟨rk R e.fr.toNat, e.le, rk R e.to.toNat⟩
def subE (R : Nat) (es : List Edg) : List Edg := (es.filter (subI R)).map (subJ R)
theorem subE_snoc (R : Nat) (es : List Edg) (e : Edg) : subE R (es ++ [e]) = if subI R e then subE R es ++ [subJ R e] else subE R es := by
  unfold subE
  rw [List.filter_append, List.map_append]
  cases h : subI R e <;> simp [h]
/-- A system with only some of its states. -/
def subS (s : Sys) (R : Nat) : Sys := ⟨s.al, rk R 32, subE R s.edges⟩
/-- A set is that of the states that traces lead to. -/
def RchSet (es : List Edg) (p R : Nat) : Prop := R < 2 ^ p ∧ ∀ i, R.testBit i = true ↔ Rch es i
section
variable {es : List Edg} {p R : Nat}
theorem subE_E {a l b : Nat} : E (subE R es) a l b ↔ ∃ i k, R.testBit i = true ∧ R.testBit k = true ∧ E es i l k ∧ rk R i = a ∧ rk R k = b := by
  unfold E subE
  constructor
  · rintro ⟨e, he, h1, h2, h3⟩
    obtain ⟨x, hx, rfl⟩ := List.mem_map.1 he
    rw [List.mem_filter] at hx
    obtain ⟨hx, hi⟩ := hx
    simp only [subI, hasB, Bool.and_eq_true, decide_eq_true_eq] at hi
    simp only [subJ] at h1 h2 h3
    exact ⟨x.fr.toNat, x.to.toNat, hi.1.2, hi.2.2, ⟨x, hx, by omega, h2, by omega⟩, by omega, by omega⟩
  · rintro ⟨i, k, hi, hk, ⟨e, he, h1, h2, h3⟩, h4, h5⟩
    refine ⟨subJ R e, List.mem_map.2 ⟨e, List.mem_filter.2 ⟨he, ?_⟩, rfl⟩, ?_, h2, ?_⟩
    · simp only [subI, hasB, Bool.and_eq_true, decide_eq_true_eq]
      rw [h1, h3]
      exact ⟨⟨by omega, hi⟩, ⟨by omega, hk⟩⟩
    · simp only [subJ]; rw [h1, show ((i : Nat) : Int).toNat = i from rfl, h4]
    · simp only [subJ]; rw [h3, show ((k : Nat) : Int).toNat = k from rfl, h5]
/-- Without its unreachable states a system is bisimilar to itself. -/
theorem trim_bis (hp2 : p ≤ 32) (hR : RchSet es p R) {G : List Nat} (hG : Gfp true es (subE R es) p (rk R 32) G) : rel G 0 0 := by
  have lt : ∀ i, R.testBit i = true → i < p := fun i h => by
    rcases Nat.lt_or_ge i p with h1 | h1
    · exact h1
    · have := Nat.testBit_lt_two_pow (Nat.lt_of_lt_of_le hR.1 (Nat.pow_le_pow_right (by omega) h1))
      rw [this] at h; cases h
  have h0 : R.testBit 0 = true := (hR.2 0).2 .zero
  refine hG.great (fun i a => R.testBit i = true ∧ a = rk R i) ?_ 0 0 ⟨h0, rfl⟩
  rintro i a ⟨hi, rfl⟩
  refine ⟨lt i hi, rk_lt (by have := lt i hi; omega) hi, fun l k hk => ?_, fun _ l b hb => ?_⟩
  · have hk' : R.testBit k = true := (hR.2 k).2 (((hR.2 i).1 hi).step hk)
    exact ⟨rk R k, subE_E.2 ⟨i, k, hi, hk', hk, rfl, rfl⟩, hk', rfl⟩
  · obtain ⟨i', k, hi', hk, he, h1, h2⟩ := subE_E.1 hb
    obtain rfl := rk_inj hi' hi h1
    exact ⟨k, he, hk, h2.symm⟩
theorem subE_rising (hr : Rising es) : Rising (subE R es) := by
  have hp : es.Pairwise (fun x y => ltE x y = true) := by
    rw [List.pairwise_iff_getElem]
    intro i j hi hj hij
    exact hr i j _ _ (List.getElem?_eq_getElem hi) (List.getElem?_eq_getElem hj) hij
  have h2 : (subE R es).Pairwise (fun x y => ltE x y = true) := by
    unfold subE
    rw [List.pairwise_map]
    have h3 := hp.filter (subI R)
    have h4 : (es.filter (subI R)).Pairwise (fun x y => subI R x = true ∧ subI R y = true ∧ ltE x y = true) := by
      rw [List.pairwise_iff_getElem] at h3 ⊢
      intro i j hi hj hij
      exact ⟨(List.mem_filter.1 (List.getElem_mem hi)).2, (List.mem_filter.1 (List.getElem_mem hj)).2, h3 i j hi hj hij⟩
    refine h4.imp ?_
    rintro x y ⟨hx, hy, h⟩
    simp only [subI, hasB, Bool.and_eq_true, decide_eq_true_eq] at hx hy
    rw [ltE_iff] at h ⊢
    simp only [subJ]
    have k1 : x.fr < y.fr → rk R x.fr.toNat < rk R y.fr.toNat := fun h => rk_lt (by omega) hx.1.2
    have k2 : x.to < y.to → rk R x.to.toNat < rk R y.to.toNat := fun h => rk_lt (by omega) hx.2.2
    have k3 : x.fr = y.fr → rk R x.fr.toNat = rk R y.fr.toNat := fun h => by rw [h]
    rcases h with h | ⟨h1, h | ⟨h2, h⟩⟩
    · have := k1 h
      omega
    · have := k3 h1
      omega
    · have := k3 h1
      have := k2 h
      omega
  intro a b x y hx hy hab
  obtain ⟨ha, rfl⟩ := List.getElem?_eq_some_iff.1 hx
  obtain ⟨hb, rfl⟩ := List.getElem?_eq_some_iff.1 hy
  exact List.pairwise_iff_getElem.1 h2 a b ha hb hab
end
theorem sub_valid {s : Sys} {p R : Nat} (h : sysValid s = true) (hp : s.st = p) (hR : RchSet s.edges p R) : sysValid (subS s R) = true := by
  obtain ⟨h1, h2, h3, h4⟩ := valid_iff.1 h
  have hrp : rk R 32 ≤ 16 := by
    have : ∀ d, rk R (16 + d) ≤ 16 := by
      intro d
      induction d with
      | zero => exact rk_le R 16
      | succ d ih =>
        rw [show 16 + (d + 1) = 16 + d + 1 by omega, rk_succ]
        have hb : R.testBit (16 + d) = false := Nat.testBit_lt_two_pow (Nat.lt_of_lt_of_le hR.1 (Nat.pow_le_pow_right (by omega) (by omega)))
        rw [hb]
        simpa using ih
    exact this 16
  have hr1 : 0 < rk R 32 := by
    have := rk_lt (R := R) (show 0 < 32 by omega) ((hR.2 0).2 .zero)
    omega
  have hlt : ∀ i, R.testBit i = true → rk R i < rk R 32 := fun i hi => by
    refine rk_lt ?_ hi
    rcases Nat.lt_or_ge i 32 with h | h
    · exact h
    · have : R.testBit i = false := Nat.testBit_lt_two_pow (Nat.lt_of_lt_of_le hR.1 (Nat.pow_le_pow_right (by omega) (by omega)))
      rw [this] at hi; cases hi
  refine valid_iff.2 ⟨h1, ⟨by simp only [subS]; omega, by simp only [subS]; omega⟩, fun e he => ?_, subE_rising h4⟩
  obtain ⟨x, hx, rfl⟩ := List.mem_map.1 he
  obtain ⟨hx, hi⟩ := List.mem_filter.1 hx
  have := h3 x hx
  simp only [subI, edgB, subS, subJ, hasB, Bool.and_eq_true, decide_eq_true_eq] at hi this ⊢
  have a1 := hlt _ hi.1.2
  have a2 := hlt _ hi.2.2
  exact ⟨⟨decide_eq_true (by omega), decide_eq_true (by omega)⟩, ⟨decide_eq_true (by omega), decide_eq_true (by omega)⟩, decide_eq_true this.2.2.1, decide_eq_true this.2.2.2.1, this.2.2.2.2⟩
theorem simB_rel2 {both : Bool} {s t : Sys} (h : sameB s t = true) : simB both s t = true ↔ rel (gfp both s t) 0 0 := by
  unfold simB
  rw [h, Bool.true_and]
  exact ⟨fun x => rel_getD x, fun x => x.2⟩
theorem gfp_at {both : Bool} {s t : Sys} {p q : Nat} (hp : s.st = p) (hq : t.st = q) : Gfp both s.edges t.edges p q (gfp both s t) := by
  have := gfp_spec both s t
  rw [hp, hq] at this
  exact this
/-- Trimming does not matter for simulation. -/
theorem trim_sim {s t : Sys} {p q R T : Nat} (h : sameB s t = true) (hp : s.st = p) (hq : t.st = q) (hR : RchSet s.edges p R) (hT : RchSet t.edges q T) : simB false (subS s R) (subS t T) = simB false s t := by
  obtain ⟨v1, v2, v3⟩ := same_valid h
  have w1 := sub_valid v1 hp hR
  have w2 := sub_valid v2 hq hT
  have h' : sameB (subS s R) (subS t T) = true := by
    simp only [sameB, w1, w2, Bool.true_and, beq_iff_eq]
    exact v3
  obtain ⟨p', hp', p1, p2, hf⟩ := valid_few v1
  obtain ⟨q', hq', q1, q2, hg⟩ := valid_few v2
  obtain rfl : p' = p := by omega
  obtain rfl : q' = q := by omega
  have A := gfp_at (both := true) hp' (show (subS s R).st = (rk R 32 : Nat) from rfl)
  have B := gfp_at (both := true) hq' (show (subS t T).st = (rk T 32 : Nat) from rfl)
  have A' := gfp_at (both := true) (show (subS s R).st = (rk R 32 : Nat) from rfl) hp'
  have B' := gfp_at (both := true) (show (subS t T).st = (rk T 32 : Nat) from rfl) hq'
  have a0 := trim_bis (by omega) hR A
  have b0 := trim_bis (by omega) hT B
  have a0' := A.symm A' a0
  have b0' := B.symm B' b0
  have fA := gfp_at (both := false) hp' (show (subS s R).st = (rk R 32 : Nat) from rfl)
  have fB := gfp_at (both := false) hq' (show (subS t T).st = (rk T 32 : Nat) from rfl)
  have fA' := gfp_at (both := false) (show (subS s R).st = (rk R 32 : Nat) from rfl) hp'
  have fB' := gfp_at (both := false) (show (subS t T).st = (rk T 32 : Nat) from rfl) hq'
  have a1 := A.weak fA a0
  have b1 := B.weak fB b0
  have a2 := A'.weak fA' a0'
  have b2 := B'.weak fB' b0'
  have M := gfp_at (both := false) hp' hq'
  have M' := gfp_at (both := false) (show (subS s R).st = (rk R 32 : Nat) from rfl) (show (subS t T).st = (rk T 32 : Nat) from rfl)
  have X := gfp_at (both := false) (show (subS s R).st = (rk R 32 : Nat) from rfl) hq'
  have Y := gfp_at (both := false) hp' (show (subS t T).st = (rk T 32 : Nat) from rfl)
  rw [Bool.eq_iff_iff, simB_rel2 h, simB_rel2 h']
  constructor
  · intro r
    exact Y.trans fB' M (fA.trans M' Y a1 r) b2
  · intro r
    exact X.trans fB M' (fA'.trans M X a2 r) b1
end Go.Proofs.YtmlembcpamchjaaDoor

namespace Go.Proofs.YtmlembcpamchjaaDoor
open Go Go.RowKit
set_option maxHeartbeats 4000000

theorem letters_rise (a : Nat) : Rise (letters a 6) := by
  refine ⟨fun l hl => (mem_letters.1 hl).1, fun i j x y hx hy hij => ?_⟩
  have h1 : (letters a 6).Pairwise (· < ·) := List.Pairwise.filter _ List.pairwise_lt_range
  obtain ⟨hi, rfl⟩ := List.getElem?_eq_some_iff.1 hx
  obtain ⟨hj, rfl⟩ := List.getElem?_eq_some_iff.1 hy
  exact List.pairwise_iff_getElem.1 h1 i j hi hj hij
/-- Some trace of one system is none of another. -/
noncomputable def outB (s t : Sys) : Bool := sameB s t && @decide (¬ Lost (dW s.edges t.edges (2 ^ t.st.toNat)) [1] (fun n => n % 2 ^ t.st.toNat == 0) (letters s.al.toNat 6)) (Classical.propDecidable _)
theorem outB_true {s t : Sys} {Z : Nat} {L v : List Nat} (h : sameB s t = true) (hZ : Z = 2 ^ t.st.toNat) (hL : L = letters s.al.toNat 6) (hF : Found (dW s.edges t.edges Z) [1] (fun n => n % Z == 0) L v) : outB s t = true := by
  subst hZ hL
  unfold outB
  rw [h, Bool.true_and]
  refine @decide_eq_true _ (Classical.propDecidable _) fun hl => ?_
  obtain ⟨h1, ⟨x, hx, hg⟩, _⟩ := hF
  have := hl v h1 x hx
  rw [hg] at this
  cases this
theorem outB_false {s t : Sys} {Z : Nat} {L : List Nat} (h : sameB s t = true) (hZ : Z = 2 ^ t.st.toNat) (hL : L = letters s.al.toNat 6) (hF : Lost (dW s.edges t.edges Z) [1] (fun n => n % Z == 0) L) : outB s t = false := by
  subst hZ hL
  unfold outB
  rw [h, Bool.true_and]
  exact @decide_eq_false _ (Classical.propDecidable _) fun hn => hn hF
theorem Blk.ne {w : World} {a b : Nat} {t u : TypeId} {cs ds : Array Value} (h : Blk w a t cs) (h' : Blk w b u ds) (ht : t ≠ u) : a ≠ b := by
  rintro rfl
  unfold Blk at h h'
  rw [h] at h'
  injection h' with h'
  injection h' with _ h2
  exact ht h2
theorem MovB.set {w : World} {b g : Nat} {es : List Edg} {cs : Array Value} {v : Value} (h : MovB w b es) (hg : Blk w g 81 cs) : MovB (w.setCell ⟨g, 0, none⟩ v) b es := by
  obtain ⟨ds, hb, hc⟩ := h
  exact ⟨ds, hb.frm (Frm.setCell w g 0 v) (hb.ne hg (by decide)), hc⟩
theorem ptr_set {w : World} {g b : Nat} {v : Value} (h : Blk w g 81 #[v]) : Blk (w.setCell ⟨g, 0, none⟩ (.pointer (some ⟨b, 0, none⟩))) g 81 #[.pointer (some ⟨b, 0, none⟩)] := by
  simpa using h.set_ 0 (.pointer (some ⟨b, 0, none⟩))
theorem one_at {w : World} {g x : Nat} (h : Blk w g 3 #[.int .i64 (x : Nat)]) : IntsAt w (some ⟨g, 0, none⟩) 1 [x] := by
  refine ⟨rfl, by omega, fun _ => ⟨g, 0, _, rfl, h, fun j y hj => ?_⟩⟩
  cases j with
  | zero =>
    obtain rfl := Option.some.inj hj
    rw [h.cell]; rfl
  | succ j => simp at hj
/-- What FirstTraceOutside answers. -/
def RetOut (w : World) (s t : Sys) (e : Ending) (w' : World) : Prop := ∃ v, e = .returned (.tuple #[.string v, .bool (outB s t)]) ∧ Ext w w'
set_option maxRecDepth 100000 in
theorem impl_FirstTraceOutside {lo hi lo' hi' : Nat} {A : Option Addr} {n c : Nat} {B : Option Addr} {m d : Nat} {s t : Sys} {w : World} (h : SysAt w lo hi A n s) (h' : SysAt w lo' hi' B m t) (hT : Tab w) :
    Calls Tryd.prog 79 #[.agg #[.int .i64 s.al, .int .i64 s.st, .slice A n c], .agg #[.int .i64 t.al, .int .i64 t.st, .slice B m d]] w (RetOut w s t) := by
  have HS := hide (fun W (hW : Ext w W) => h.ext hW)
  have HT := hide (fun W (hW : Ext w W) => h'.ext hW)
  have HTab := hide (fun W (hW : Ext w W) => hT.ext hW)
  clear h h' hT
  cases h1 : sameB s t
  · have H1 := hide h1
    have ho := hide (show outB s t = false by unfold outB; rw [h1]; rfl)
    clear h1
    go_enter Tryd.func79, Tryd.ntmps79
    go_wp2_with (go_at_call 48; refine (impl_sameAlphabets (HS.out _ (((Ext.refl _).alloc _).alloc _)) (HT.out _ (((Ext.refl _).alloc _).alloc _))).mono ?_; rw [H1.out]; rintro e w1 ⟨rfl, hx⟩)
    go_ret2
    exact ⟨ByteArray.empty, by rw [ho.out]; rfl, (((Ext.refl _).alloc _).alloc _).trans hx⟩
  · obtain ⟨v1, v2, -⟩ := same_valid h1
    obtain ⟨p, hp, hp1, hp2, hf⟩ := valid_few v1
    obtain ⟨q, hq, hq1, hq2, hg⟩ := valid_few v2
    obtain ⟨al, hal, hal2⟩ : ∃ al : Nat, s.al = al ∧ al < 64 := ⟨s.al.toNat, by have := (valid_iff.1 v1).1; omega, by have := (valid_iff.1 v1).1; omega⟩
    have H1 := hide h1
    have Hf := hide hf
    have Hg := hide hg
    have Hp := hide hp
    have Hq := hide hq
    have Hal := hide hal
    clear h1 v1 v2 hf hg hp hq hal
    go_enter Tryd.func79, Tryd.ntmps79
    go_wp2_with fail
    refine (impl_sameAlphabets (HS.out _ (((Ext.refl _).alloc _).alloc _)) (HT.out _ (((Ext.refl _).alloc _).alloc _))).mono ?_
    rw [H1.out]
    rintro e w1 ⟨rfl, hx⟩
    obtain ⟨b1, b2⟩ := ext_blk2 hx
    have hw1 := (((Ext.refl w).alloc _).alloc _).trans hx
    have c1 := fun W (hW : Ext w1 W) => (b1.ext hW).cell
    have c2 := fun W (hW : Ext w1 W) => (b2.ext hW).cell
    have hww := Ext.refl w1
    have hmA := hide (fun W (hW : Ext w1 W) => impl_movesOf (c := c) (HS.out _ (hw1.trans hW)) (fun e he => by have := Hf.out e he; omega))
    have hmB := hide (fun W (hW : Ext w1 W) => impl_movesOf (c := d) (HT.out _ (hw1.trans hW)) (fun e he => by have := Hg.out e he; omega))
    go_upto_region 3 with fail
    go_cut [6, 7] (fun v6 v7 wx => ∃ g6 g7 bm bn : Nat, v6 = .pointer (some ⟨g6, 0, none⟩) ∧ v7 = .pointer (some ⟨g7, 0, none⟩) ∧ Ext w1 wx ∧ Blk wx g6 81 #[.pointer (some ⟨bm, 0, none⟩)] ∧ Blk wx g7 81 #[.pointer (some ⟨bn, 0, none⟩)] ∧ MovB wx bm s.edges ∧ MovB wx bn t.edges)
    case first =>
      refine wp_region_tailU (fun X => Ext w1 X) [3, 6, 7] (OrdU.app [0, 2] (OrdU.three 1 (OrdU.three 3 (OrdU.two 4 (OrdU.of [5, 6, 7]) 5 (OrdU.of [4, 6, 7])) 4 (OrdU.two 3 (OrdU.of [5, 6, 7]) 5 (OrdU.of [3, 6, 7])) 5 (OrdU.two 3 (OrdU.of [4, 6, 7]) 4 (OrdU.of [3, 6, 7]))) 4 (OrdU.two 1 (OrdU.two 3 (OrdU.of [5, 6, 7]) 5 (OrdU.of [3, 6, 7])) 5 (OrdU.of [1, 3, 6, 7])) 5 (OrdU.two 1 (OrdU.two 3 (OrdU.of [4, 6, 7]) 4 (OrdU.of [3, 6, 7])) 4 (OrdU.of [1, 3, 6, 7])))) (by kernel_rfl) (by kernel_rfl) (by kernel_rfl) (by kernel_rfl) (by kernel_rfl) (fun _ _ _ _ _ h => h) (by first | assumption | exact (Ext.refl _).drew | (refine Ext.drew ?_; assumption)) ?_
      repeat (first | (refine useq_skip rfl rfl (by assumption) ?_; simp only [Act.put, List.setIfInBounds_toArray, List.set_cons_zero, List.set_cons_succ]) | (refine useq_pure (v := ?_) rfl rfl rfl rfl (fun X => ?_) ?_; rotate_left; (focus (go_simp <;> with_reducible rfl)); simp only [Act.put, List.setIfInBounds_toArray, List.set_cons_zero, List.set_cons_succ]) | (refine useq_read (v := ?_) rfl rfl rfl rfl (fun X hX => ?_) ?_; rotate_left; (focus (go_simp <;> with_reducible rfl)); simp only [Act.put, List.setIfInBounds_toArray, List.set_cons_zero, List.set_cons_succ]))
      have hx0 : Ext w1 w1.drew := hww.drew
      generalize w1.drew = wd at *
      refine useq_three rfl rfl rfl rfl rfl rfl (fun K hK => ?_) (fun K hK => ?_) (fun K hK => ?_)
      · go_simp
        refine (hmA.out _ hx0).mono ?_
        rintro e w10 ⟨bm, rfl, _, hMm, hx1⟩
        replace hx0 := hx0.trans hx1
        clear hx1
        refine hK.out _ _ hx0 ?_
        (try simp only [Act.put, List.setIfInBounds_toArray, List.set_cons_zero, List.set_cons_succ])
        refine useq_three rfl rfl rfl rfl rfl rfl (fun K hK => ?_) (fun K hK => ?_) (fun K hK => ?_)
        · go_simp
          refine (hmB.out _ hx0).mono ?_
          rintro e w11 ⟨bn, rfl, _, hMn, hx1⟩
          replace hx0 := hx0.trans hx1
          replace hMm := hMm.ext hx1
          clear hx1
          refine hK.out _ _ hx0 ?_
          (try simp only [Act.put, List.setIfInBounds_toArray, List.set_cons_zero, List.set_cons_succ])
          refine useq_both rfl rfl rfl rfl (fun K hK => ?_) (fun K hK => ?_)
          · go_simp
            have hl6 := hx0.size
            have hx1 := (Ext.refl w11).alloc (.cells #[.pointer none] 81)
            replace hx0 := hx0.trans hx1
            replace hMm := hMm.ext hx1
            replace hMn := hMn.ext hx1
            clear hx1
            have h6 := Blk.new w11 81 #[.pointer none]
            refine hK.out _ _ hx0 ?_
            generalize w11.alloc (.cells #[.pointer none] 81) = w12 at *
            generalize w11.heap.size = g6 at *
            (try simp only [Act.put, List.setIfInBounds_toArray, List.set_cons_zero, List.set_cons_succ])
            (refine useq_step rfl rfl rfl (fun K hK => ?_); go_simp)
            have hl7 := hx0.size
            have hne := Nat.ne_of_lt h6.lt
            have hx1 := (Ext.refl w12).alloc (.cells #[.pointer none] 81)
            replace hx0 := hx0.trans hx1
            replace hMm := hMm.ext hx1
            replace hMn := hMn.ext hx1
            replace h6 := h6.ext hx1
            clear hx1
            have h7 := Blk.new w12 81 #[.pointer none]
            refine hK.out _ _ hx0 ?_
            generalize w12.alloc (.cells #[.pointer none] 81) = w13 at *
            generalize w12.heap.size = g7 at *
            (try simp only [Act.put, List.setIfInBounds_toArray, List.set_cons_zero, List.set_cons_succ])
            have cG := h6.cell
            have fG := h6.frozen
            refine useq_step rfl rfl rfl (fun K hK => ?_)
            go_simp
            clear cG fG
            replace hMm := hMm.set (v := .pointer (some ⟨bm, 0, none⟩)) h6
            replace hMn := hMn.set (v := .pointer (some ⟨bm, 0, none⟩)) h6
            replace h7 := h7.frm (Frm.setCell w13 g6 0 (.pointer (some ⟨bm, 0, none⟩))) (by omega)
            replace h6 := ptr_set (b := bm) h6
            replace hx0 := hx0.setCell (p := ⟨g6, 0, none⟩) hl6 (.pointer (some ⟨bm, 0, none⟩))
            refine hK.out _ _ hx0 ?_
            generalize w13.setCell ⟨g6, 0, none⟩ (.pointer (some ⟨bm, 0, none⟩)) = w14 at *
            (try simp only [Act.put, List.setIfInBounds_toArray, List.set_cons_zero, List.set_cons_succ])
            have cG := h7.cell
            have fG := h7.frozen
            refine useq_step rfl rfl rfl (fun K hK => ?_)
            go_simp
            clear cG fG
            replace hMm := hMm.set (v := .pointer (some ⟨bn, 0, none⟩)) h7
            replace hMn := hMn.set (v := .pointer (some ⟨bn, 0, none⟩)) h7
            replace h6 := h6.frm (Frm.setCell w14 g7 0 (.pointer (some ⟨bn, 0, none⟩))) (by omega)
            replace h7 := ptr_set (b := bn) h7
            replace hx0 := hx0.setCell (p := ⟨g7, 0, none⟩) hl7 (.pointer (some ⟨bn, 0, none⟩))
            refine hK.out _ _ hx0 ?_
            generalize w14.setCell ⟨g7, 0, none⟩ (.pointer (some ⟨bn, 0, none⟩)) = w15 at *
            (try simp only [Act.put, List.setIfInBounds_toArray, List.set_cons_zero, List.set_cons_succ])
            refine useq_nil ?_
            go_wp2_with fail
            go_meet
            exact ⟨g6, g7, bm, bn, rfl, rfl, hx0, h6, h7, hMm, hMn⟩
          · go_simp
            have hl7 := hx0.size
            have hx1 := (Ext.refl w11).alloc (.cells #[.pointer none] 81)
            replace hx0 := hx0.trans hx1
            replace hMm := hMm.ext hx1
            replace hMn := hMn.ext hx1
            clear hx1
            have h7 := Blk.new w11 81 #[.pointer none]
            refine hK.out _ _ hx0 ?_
            generalize w11.alloc (.cells #[.pointer none] 81) = w12 at *
            generalize w11.heap.size = g7 at *
            (try simp only [Act.put, List.setIfInBounds_toArray, List.set_cons_zero, List.set_cons_succ])
            (refine useq_step rfl rfl rfl (fun K hK => ?_); go_simp)
            have hl6 := hx0.size
            have hne := Nat.ne_of_lt h7.lt
            have hx1 := (Ext.refl w12).alloc (.cells #[.pointer none] 81)
            replace hx0 := hx0.trans hx1
            replace hMm := hMm.ext hx1
            replace hMn := hMn.ext hx1
            replace h7 := h7.ext hx1
            clear hx1
            have h6 := Blk.new w12 81 #[.pointer none]
            refine hK.out _ _ hx0 ?_
            generalize w12.alloc (.cells #[.pointer none] 81) = w13 at *
            generalize w12.heap.size = g6 at *
            (try simp only [Act.put, List.setIfInBounds_toArray, List.set_cons_zero, List.set_cons_succ])
            have cG := h6.cell
            have fG := h6.frozen
            refine useq_step rfl rfl rfl (fun K hK => ?_)
            go_simp
            clear cG fG
            replace hMm := hMm.set (v := .pointer (some ⟨bm, 0, none⟩)) h6
            replace hMn := hMn.set (v := .pointer (some ⟨bm, 0, none⟩)) h6
            replace h7 := h7.frm (Frm.setCell w13 g6 0 (.pointer (some ⟨bm, 0, none⟩))) (by omega)
            replace h6 := ptr_set (b := bm) h6
            replace hx0 := hx0.setCell (p := ⟨g6, 0, none⟩) hl6 (.pointer (some ⟨bm, 0, none⟩))
            refine hK.out _ _ hx0 ?_
            generalize w13.setCell ⟨g6, 0, none⟩ (.pointer (some ⟨bm, 0, none⟩)) = w14 at *
            (try simp only [Act.put, List.setIfInBounds_toArray, List.set_cons_zero, List.set_cons_succ])
            have cG := h7.cell
            have fG := h7.frozen
            refine useq_step rfl rfl rfl (fun K hK => ?_)
            go_simp
            clear cG fG
            replace hMm := hMm.set (v := .pointer (some ⟨bn, 0, none⟩)) h7
            replace hMn := hMn.set (v := .pointer (some ⟨bn, 0, none⟩)) h7
            replace h6 := h6.frm (Frm.setCell w14 g7 0 (.pointer (some ⟨bn, 0, none⟩))) (by omega)
            replace h7 := ptr_set (b := bn) h7
            replace hx0 := hx0.setCell (p := ⟨g7, 0, none⟩) hl7 (.pointer (some ⟨bn, 0, none⟩))
            refine hK.out _ _ hx0 ?_
            generalize w14.setCell ⟨g7, 0, none⟩ (.pointer (some ⟨bn, 0, none⟩)) = w15 at *
            (try simp only [Act.put, List.setIfInBounds_toArray, List.set_cons_zero, List.set_cons_succ])
            refine useq_nil ?_
            go_wp2_with fail
            go_meet
            exact ⟨g6, g7, bm, bn, rfl, rfl, hx0, h6, h7, hMm, hMn⟩
        · go_simp
          have hl6 := hx0.size
          have hx1 := (Ext.refl w10).alloc (.cells #[.pointer none] 81)
          replace hx0 := hx0.trans hx1
          replace hMm := hMm.ext hx1
          clear hx1
          have h6 := Blk.new w10 81 #[.pointer none]
          refine hK.out _ _ hx0 ?_
          generalize w10.alloc (.cells #[.pointer none] 81) = w11 at *
          generalize w10.heap.size = g6 at *
          (try simp only [Act.put, List.setIfInBounds_toArray, List.set_cons_zero, List.set_cons_succ])
          refine useq_both rfl rfl rfl rfl (fun K hK => ?_) (fun K hK => ?_)
          · go_simp
            refine (hmB.out _ hx0).mono ?_
            rintro e w12 ⟨bn, rfl, _, hMn, hx1⟩
            replace hx0 := hx0.trans hx1
            replace hMm := hMm.ext hx1
            replace h6 := h6.ext hx1
            clear hx1
            refine hK.out _ _ hx0 ?_
            (try simp only [Act.put, List.setIfInBounds_toArray, List.set_cons_zero, List.set_cons_succ])
            (refine useq_step rfl rfl rfl (fun K hK => ?_); go_simp)
            have hl7 := hx0.size
            have hne := Nat.ne_of_lt h6.lt
            have hx1 := (Ext.refl w12).alloc (.cells #[.pointer none] 81)
            replace hx0 := hx0.trans hx1
            replace hMm := hMm.ext hx1
            replace hMn := hMn.ext hx1
            replace h6 := h6.ext hx1
            clear hx1
            have h7 := Blk.new w12 81 #[.pointer none]
            refine hK.out _ _ hx0 ?_
            generalize w12.alloc (.cells #[.pointer none] 81) = w13 at *
            generalize w12.heap.size = g7 at *
            (try simp only [Act.put, List.setIfInBounds_toArray, List.set_cons_zero, List.set_cons_succ])
            have cG := h6.cell
            have fG := h6.frozen
            refine useq_step rfl rfl rfl (fun K hK => ?_)
            go_simp
            clear cG fG
            replace hMm := hMm.set (v := .pointer (some ⟨bm, 0, none⟩)) h6
            replace hMn := hMn.set (v := .pointer (some ⟨bm, 0, none⟩)) h6
            replace h7 := h7.frm (Frm.setCell w13 g6 0 (.pointer (some ⟨bm, 0, none⟩))) (by omega)
            replace h6 := ptr_set (b := bm) h6
            replace hx0 := hx0.setCell (p := ⟨g6, 0, none⟩) hl6 (.pointer (some ⟨bm, 0, none⟩))
            refine hK.out _ _ hx0 ?_
            generalize w13.setCell ⟨g6, 0, none⟩ (.pointer (some ⟨bm, 0, none⟩)) = w14 at *
            (try simp only [Act.put, List.setIfInBounds_toArray, List.set_cons_zero, List.set_cons_succ])
            have cG := h7.cell
            have fG := h7.frozen
            refine useq_step rfl rfl rfl (fun K hK => ?_)
            go_simp
            clear cG fG
            replace hMm := hMm.set (v := .pointer (some ⟨bn, 0, none⟩)) h7
            replace hMn := hMn.set (v := .pointer (some ⟨bn, 0, none⟩)) h7
            replace h6 := h6.frm (Frm.setCell w14 g7 0 (.pointer (some ⟨bn, 0, none⟩))) (by omega)
            replace h7 := ptr_set (b := bn) h7
            replace hx0 := hx0.setCell (p := ⟨g7, 0, none⟩) hl7 (.pointer (some ⟨bn, 0, none⟩))
            refine hK.out _ _ hx0 ?_
            generalize w14.setCell ⟨g7, 0, none⟩ (.pointer (some ⟨bn, 0, none⟩)) = w15 at *
            (try simp only [Act.put, List.setIfInBounds_toArray, List.set_cons_zero, List.set_cons_succ])
            refine useq_nil ?_
            go_wp2_with fail
            go_meet
            exact ⟨g6, g7, bm, bn, rfl, rfl, hx0, h6, h7, hMm, hMn⟩
          · go_simp
            have hl7 := hx0.size
            have hne := Nat.ne_of_lt h6.lt
            have hx1 := (Ext.refl w11).alloc (.cells #[.pointer none] 81)
            replace hx0 := hx0.trans hx1
            replace hMm := hMm.ext hx1
            replace h6 := h6.ext hx1
            clear hx1
            have h7 := Blk.new w11 81 #[.pointer none]
            refine hK.out _ _ hx0 ?_
            generalize w11.alloc (.cells #[.pointer none] 81) = w12 at *
            generalize w11.heap.size = g7 at *
            (try simp only [Act.put, List.setIfInBounds_toArray, List.set_cons_zero, List.set_cons_succ])
            (refine useq_step rfl rfl rfl (fun K hK => ?_); go_simp)
            refine (hmB.out _ hx0).mono ?_
            rintro e w13 ⟨bn, rfl, _, hMn, hx1⟩
            replace hx0 := hx0.trans hx1
            replace hMm := hMm.ext hx1
            replace h6 := h6.ext hx1
            replace h7 := h7.ext hx1
            clear hx1
            refine hK.out _ _ hx0 ?_
            (try simp only [Act.put, List.setIfInBounds_toArray, List.set_cons_zero, List.set_cons_succ])
            have cG := h6.cell
            have fG := h6.frozen
            refine useq_step rfl rfl rfl (fun K hK => ?_)
            go_simp
            clear cG fG
            replace hMm := hMm.set (v := .pointer (some ⟨bm, 0, none⟩)) h6
            replace hMn := hMn.set (v := .pointer (some ⟨bm, 0, none⟩)) h6
            replace h7 := h7.frm (Frm.setCell w13 g6 0 (.pointer (some ⟨bm, 0, none⟩))) (by omega)
            replace h6 := ptr_set (b := bm) h6
            replace hx0 := hx0.setCell (p := ⟨g6, 0, none⟩) hl6 (.pointer (some ⟨bm, 0, none⟩))
            refine hK.out _ _ hx0 ?_
            generalize w13.setCell ⟨g6, 0, none⟩ (.pointer (some ⟨bm, 0, none⟩)) = w14 at *
            (try simp only [Act.put, List.setIfInBounds_toArray, List.set_cons_zero, List.set_cons_succ])
            have cG := h7.cell
            have fG := h7.frozen
            refine useq_step rfl rfl rfl (fun K hK => ?_)
            go_simp
            clear cG fG
            replace hMm := hMm.set (v := .pointer (some ⟨bn, 0, none⟩)) h7
            replace hMn := hMn.set (v := .pointer (some ⟨bn, 0, none⟩)) h7
            replace h6 := h6.frm (Frm.setCell w14 g7 0 (.pointer (some ⟨bn, 0, none⟩))) (by omega)
            replace h7 := ptr_set (b := bn) h7
            replace hx0 := hx0.setCell (p := ⟨g7, 0, none⟩) hl7 (.pointer (some ⟨bn, 0, none⟩))
            refine hK.out _ _ hx0 ?_
            generalize w14.setCell ⟨g7, 0, none⟩ (.pointer (some ⟨bn, 0, none⟩)) = w15 at *
            (try simp only [Act.put, List.setIfInBounds_toArray, List.set_cons_zero, List.set_cons_succ])
            refine useq_nil ?_
            go_wp2_with fail
            go_meet
            exact ⟨g6, g7, bm, bn, rfl, rfl, hx0, h6, h7, hMm, hMn⟩
        · go_simp
          have hl7 := hx0.size
          have hx1 := (Ext.refl w10).alloc (.cells #[.pointer none] 81)
          replace hx0 := hx0.trans hx1
          replace hMm := hMm.ext hx1
          clear hx1
          have h7 := Blk.new w10 81 #[.pointer none]
          refine hK.out _ _ hx0 ?_
          generalize w10.alloc (.cells #[.pointer none] 81) = w11 at *
          generalize w10.heap.size = g7 at *
          (try simp only [Act.put, List.setIfInBounds_toArray, List.set_cons_zero, List.set_cons_succ])
          refine useq_both rfl rfl rfl rfl (fun K hK => ?_) (fun K hK => ?_)
          · go_simp
            refine (hmB.out _ hx0).mono ?_
            rintro e w12 ⟨bn, rfl, _, hMn, hx1⟩
            replace hx0 := hx0.trans hx1
            replace hMm := hMm.ext hx1
            replace h7 := h7.ext hx1
            clear hx1
            refine hK.out _ _ hx0 ?_
            (try simp only [Act.put, List.setIfInBounds_toArray, List.set_cons_zero, List.set_cons_succ])
            (refine useq_step rfl rfl rfl (fun K hK => ?_); go_simp)
            have hl6 := hx0.size
            have hne := Nat.ne_of_lt h7.lt
            have hx1 := (Ext.refl w12).alloc (.cells #[.pointer none] 81)
            replace hx0 := hx0.trans hx1
            replace hMm := hMm.ext hx1
            replace hMn := hMn.ext hx1
            replace h7 := h7.ext hx1
            clear hx1
            have h6 := Blk.new w12 81 #[.pointer none]
            refine hK.out _ _ hx0 ?_
            generalize w12.alloc (.cells #[.pointer none] 81) = w13 at *
            generalize w12.heap.size = g6 at *
            (try simp only [Act.put, List.setIfInBounds_toArray, List.set_cons_zero, List.set_cons_succ])
            have cG := h6.cell
            have fG := h6.frozen
            refine useq_step rfl rfl rfl (fun K hK => ?_)
            go_simp
            clear cG fG
            replace hMm := hMm.set (v := .pointer (some ⟨bm, 0, none⟩)) h6
            replace hMn := hMn.set (v := .pointer (some ⟨bm, 0, none⟩)) h6
            replace h7 := h7.frm (Frm.setCell w13 g6 0 (.pointer (some ⟨bm, 0, none⟩))) (by omega)
            replace h6 := ptr_set (b := bm) h6
            replace hx0 := hx0.setCell (p := ⟨g6, 0, none⟩) hl6 (.pointer (some ⟨bm, 0, none⟩))
            refine hK.out _ _ hx0 ?_
            generalize w13.setCell ⟨g6, 0, none⟩ (.pointer (some ⟨bm, 0, none⟩)) = w14 at *
            (try simp only [Act.put, List.setIfInBounds_toArray, List.set_cons_zero, List.set_cons_succ])
            have cG := h7.cell
            have fG := h7.frozen
            refine useq_step rfl rfl rfl (fun K hK => ?_)
            go_simp
            clear cG fG
            replace hMm := hMm.set (v := .pointer (some ⟨bn, 0, none⟩)) h7
            replace hMn := hMn.set (v := .pointer (some ⟨bn, 0, none⟩)) h7
            replace h6 := h6.frm (Frm.setCell w14 g7 0 (.pointer (some ⟨bn, 0, none⟩))) (by omega)
            replace h7 := ptr_set (b := bn) h7
            replace hx0 := hx0.setCell (p := ⟨g7, 0, none⟩) hl7 (.pointer (some ⟨bn, 0, none⟩))
            refine hK.out _ _ hx0 ?_
            generalize w14.setCell ⟨g7, 0, none⟩ (.pointer (some ⟨bn, 0, none⟩)) = w15 at *
            (try simp only [Act.put, List.setIfInBounds_toArray, List.set_cons_zero, List.set_cons_succ])
            refine useq_nil ?_
            go_wp2_with fail
            go_meet
            exact ⟨g6, g7, bm, bn, rfl, rfl, hx0, h6, h7, hMm, hMn⟩
          · go_simp
            have hl6 := hx0.size
            have hne := Nat.ne_of_lt h7.lt
            have hx1 := (Ext.refl w11).alloc (.cells #[.pointer none] 81)
            replace hx0 := hx0.trans hx1
            replace hMm := hMm.ext hx1
            replace h7 := h7.ext hx1
            clear hx1
            have h6 := Blk.new w11 81 #[.pointer none]
            refine hK.out _ _ hx0 ?_
            generalize w11.alloc (.cells #[.pointer none] 81) = w12 at *
            generalize w11.heap.size = g6 at *
            (try simp only [Act.put, List.setIfInBounds_toArray, List.set_cons_zero, List.set_cons_succ])
            (refine useq_step rfl rfl rfl (fun K hK => ?_); go_simp)
            refine (hmB.out _ hx0).mono ?_
            rintro e w13 ⟨bn, rfl, _, hMn, hx1⟩
            replace hx0 := hx0.trans hx1
            replace hMm := hMm.ext hx1
            replace h6 := h6.ext hx1
            replace h7 := h7.ext hx1
            clear hx1
            refine hK.out _ _ hx0 ?_
            (try simp only [Act.put, List.setIfInBounds_toArray, List.set_cons_zero, List.set_cons_succ])
            have cG := h6.cell
            have fG := h6.frozen
            refine useq_step rfl rfl rfl (fun K hK => ?_)
            go_simp
            clear cG fG
            replace hMm := hMm.set (v := .pointer (some ⟨bm, 0, none⟩)) h6
            replace hMn := hMn.set (v := .pointer (some ⟨bm, 0, none⟩)) h6
            replace h7 := h7.frm (Frm.setCell w13 g6 0 (.pointer (some ⟨bm, 0, none⟩))) (by omega)
            replace h6 := ptr_set (b := bm) h6
            replace hx0 := hx0.setCell (p := ⟨g6, 0, none⟩) hl6 (.pointer (some ⟨bm, 0, none⟩))
            refine hK.out _ _ hx0 ?_
            generalize w13.setCell ⟨g6, 0, none⟩ (.pointer (some ⟨bm, 0, none⟩)) = w14 at *
            (try simp only [Act.put, List.setIfInBounds_toArray, List.set_cons_zero, List.set_cons_succ])
            have cG := h7.cell
            have fG := h7.frozen
            refine useq_step rfl rfl rfl (fun K hK => ?_)
            go_simp
            clear cG fG
            replace hMm := hMm.set (v := .pointer (some ⟨bn, 0, none⟩)) h7
            replace hMn := hMn.set (v := .pointer (some ⟨bn, 0, none⟩)) h7
            replace h6 := h6.frm (Frm.setCell w14 g7 0 (.pointer (some ⟨bn, 0, none⟩))) (by omega)
            replace h7 := ptr_set (b := bn) h7
            replace hx0 := hx0.setCell (p := ⟨g7, 0, none⟩) hl7 (.pointer (some ⟨bn, 0, none⟩))
            refine hK.out _ _ hx0 ?_
            generalize w14.setCell ⟨g7, 0, none⟩ (.pointer (some ⟨bn, 0, none⟩)) = w15 at *
            (try simp only [Act.put, List.setIfInBounds_toArray, List.set_cons_zero, List.set_cons_succ])
            refine useq_nil ?_
            go_wp2_with fail
            go_meet
            exact ⟨g6, g7, bm, bn, rfl, rfl, hx0, h6, h7, hMm, hMn⟩
      · go_simp
        have hl6 := hx0.size
        have hx1 := (Ext.refl wd).alloc (.cells #[.pointer none] 81)
        replace hx0 := hx0.trans hx1
        clear hx1
        have h6 := Blk.new wd 81 #[.pointer none]
        refine hK.out _ _ hx0 ?_
        generalize wd.alloc (.cells #[.pointer none] 81) = w10 at *
        generalize wd.heap.size = g6 at *
        (try simp only [Act.put, List.setIfInBounds_toArray, List.set_cons_zero, List.set_cons_succ])
        refine useq_both rfl rfl rfl rfl (fun K hK => ?_) (fun K hK => ?_)
        · go_simp
          refine (hmA.out _ hx0).mono ?_
          rintro e w11 ⟨bm, rfl, _, hMm, hx1⟩
          replace hx0 := hx0.trans hx1
          replace h6 := h6.ext hx1
          clear hx1
          refine hK.out _ _ hx0 ?_
          (try simp only [Act.put, List.setIfInBounds_toArray, List.set_cons_zero, List.set_cons_succ])
          refine useq_both rfl rfl rfl rfl (fun K hK => ?_) (fun K hK => ?_)
          · go_simp
            refine (hmB.out _ hx0).mono ?_
            rintro e w12 ⟨bn, rfl, _, hMn, hx1⟩
            replace hx0 := hx0.trans hx1
            replace hMm := hMm.ext hx1
            replace h6 := h6.ext hx1
            clear hx1
            refine hK.out _ _ hx0 ?_
            (try simp only [Act.put, List.setIfInBounds_toArray, List.set_cons_zero, List.set_cons_succ])
            (refine useq_step rfl rfl rfl (fun K hK => ?_); go_simp)
            have hl7 := hx0.size
            have hne := Nat.ne_of_lt h6.lt
            have hx1 := (Ext.refl w12).alloc (.cells #[.pointer none] 81)
            replace hx0 := hx0.trans hx1
            replace hMm := hMm.ext hx1
            replace hMn := hMn.ext hx1
            replace h6 := h6.ext hx1
            clear hx1
            have h7 := Blk.new w12 81 #[.pointer none]
            refine hK.out _ _ hx0 ?_
            generalize w12.alloc (.cells #[.pointer none] 81) = w13 at *
            generalize w12.heap.size = g7 at *
            (try simp only [Act.put, List.setIfInBounds_toArray, List.set_cons_zero, List.set_cons_succ])
            have cG := h6.cell
            have fG := h6.frozen
            refine useq_step rfl rfl rfl (fun K hK => ?_)
            go_simp
            clear cG fG
            replace hMm := hMm.set (v := .pointer (some ⟨bm, 0, none⟩)) h6
            replace hMn := hMn.set (v := .pointer (some ⟨bm, 0, none⟩)) h6
            replace h7 := h7.frm (Frm.setCell w13 g6 0 (.pointer (some ⟨bm, 0, none⟩))) (by omega)
            replace h6 := ptr_set (b := bm) h6
            replace hx0 := hx0.setCell (p := ⟨g6, 0, none⟩) hl6 (.pointer (some ⟨bm, 0, none⟩))
            refine hK.out _ _ hx0 ?_
            generalize w13.setCell ⟨g6, 0, none⟩ (.pointer (some ⟨bm, 0, none⟩)) = w14 at *
            (try simp only [Act.put, List.setIfInBounds_toArray, List.set_cons_zero, List.set_cons_succ])
            have cG := h7.cell
            have fG := h7.frozen
            refine useq_step rfl rfl rfl (fun K hK => ?_)
            go_simp
            clear cG fG
            replace hMm := hMm.set (v := .pointer (some ⟨bn, 0, none⟩)) h7
            replace hMn := hMn.set (v := .pointer (some ⟨bn, 0, none⟩)) h7
            replace h6 := h6.frm (Frm.setCell w14 g7 0 (.pointer (some ⟨bn, 0, none⟩))) (by omega)
            replace h7 := ptr_set (b := bn) h7
            replace hx0 := hx0.setCell (p := ⟨g7, 0, none⟩) hl7 (.pointer (some ⟨bn, 0, none⟩))
            refine hK.out _ _ hx0 ?_
            generalize w14.setCell ⟨g7, 0, none⟩ (.pointer (some ⟨bn, 0, none⟩)) = w15 at *
            (try simp only [Act.put, List.setIfInBounds_toArray, List.set_cons_zero, List.set_cons_succ])
            refine useq_nil ?_
            go_wp2_with fail
            go_meet
            exact ⟨g6, g7, bm, bn, rfl, rfl, hx0, h6, h7, hMm, hMn⟩
          · go_simp
            have hl7 := hx0.size
            have hne := Nat.ne_of_lt h6.lt
            have hx1 := (Ext.refl w11).alloc (.cells #[.pointer none] 81)
            replace hx0 := hx0.trans hx1
            replace hMm := hMm.ext hx1
            replace h6 := h6.ext hx1
            clear hx1
            have h7 := Blk.new w11 81 #[.pointer none]
            refine hK.out _ _ hx0 ?_
            generalize w11.alloc (.cells #[.pointer none] 81) = w12 at *
            generalize w11.heap.size = g7 at *
            (try simp only [Act.put, List.setIfInBounds_toArray, List.set_cons_zero, List.set_cons_succ])
            (refine useq_step rfl rfl rfl (fun K hK => ?_); go_simp)
            refine (hmB.out _ hx0).mono ?_
            rintro e w13 ⟨bn, rfl, _, hMn, hx1⟩
            replace hx0 := hx0.trans hx1
            replace hMm := hMm.ext hx1
            replace h6 := h6.ext hx1
            replace h7 := h7.ext hx1
            clear hx1
            refine hK.out _ _ hx0 ?_
            (try simp only [Act.put, List.setIfInBounds_toArray, List.set_cons_zero, List.set_cons_succ])
            have cG := h6.cell
            have fG := h6.frozen
            refine useq_step rfl rfl rfl (fun K hK => ?_)
            go_simp
            clear cG fG
            replace hMm := hMm.set (v := .pointer (some ⟨bm, 0, none⟩)) h6
            replace hMn := hMn.set (v := .pointer (some ⟨bm, 0, none⟩)) h6
            replace h7 := h7.frm (Frm.setCell w13 g6 0 (.pointer (some ⟨bm, 0, none⟩))) (by omega)
            replace h6 := ptr_set (b := bm) h6
            replace hx0 := hx0.setCell (p := ⟨g6, 0, none⟩) hl6 (.pointer (some ⟨bm, 0, none⟩))
            refine hK.out _ _ hx0 ?_
            generalize w13.setCell ⟨g6, 0, none⟩ (.pointer (some ⟨bm, 0, none⟩)) = w14 at *
            (try simp only [Act.put, List.setIfInBounds_toArray, List.set_cons_zero, List.set_cons_succ])
            have cG := h7.cell
            have fG := h7.frozen
            refine useq_step rfl rfl rfl (fun K hK => ?_)
            go_simp
            clear cG fG
            replace hMm := hMm.set (v := .pointer (some ⟨bn, 0, none⟩)) h7
            replace hMn := hMn.set (v := .pointer (some ⟨bn, 0, none⟩)) h7
            replace h6 := h6.frm (Frm.setCell w14 g7 0 (.pointer (some ⟨bn, 0, none⟩))) (by omega)
            replace h7 := ptr_set (b := bn) h7
            replace hx0 := hx0.setCell (p := ⟨g7, 0, none⟩) hl7 (.pointer (some ⟨bn, 0, none⟩))
            refine hK.out _ _ hx0 ?_
            generalize w14.setCell ⟨g7, 0, none⟩ (.pointer (some ⟨bn, 0, none⟩)) = w15 at *
            (try simp only [Act.put, List.setIfInBounds_toArray, List.set_cons_zero, List.set_cons_succ])
            refine useq_nil ?_
            go_wp2_with fail
            go_meet
            exact ⟨g6, g7, bm, bn, rfl, rfl, hx0, h6, h7, hMm, hMn⟩
        · go_simp
          have hl7 := hx0.size
          have hne := Nat.ne_of_lt h6.lt
          have hx1 := (Ext.refl w10).alloc (.cells #[.pointer none] 81)
          replace hx0 := hx0.trans hx1
          replace h6 := h6.ext hx1
          clear hx1
          have h7 := Blk.new w10 81 #[.pointer none]
          refine hK.out _ _ hx0 ?_
          generalize w10.alloc (.cells #[.pointer none] 81) = w11 at *
          generalize w10.heap.size = g7 at *
          (try simp only [Act.put, List.setIfInBounds_toArray, List.set_cons_zero, List.set_cons_succ])
          (refine useq_step rfl rfl rfl (fun K hK => ?_); go_simp)
          refine (hmA.out _ hx0).mono ?_
          rintro e w12 ⟨bm, rfl, _, hMm, hx1⟩
          replace hx0 := hx0.trans hx1
          replace h6 := h6.ext hx1
          replace h7 := h7.ext hx1
          clear hx1
          refine hK.out _ _ hx0 ?_
          (try simp only [Act.put, List.setIfInBounds_toArray, List.set_cons_zero, List.set_cons_succ])
          (refine useq_step rfl rfl rfl (fun K hK => ?_); go_simp)
          refine (hmB.out _ hx0).mono ?_
          rintro e w13 ⟨bn, rfl, _, hMn, hx1⟩
          replace hx0 := hx0.trans hx1
          replace hMm := hMm.ext hx1
          replace h6 := h6.ext hx1
          replace h7 := h7.ext hx1
          clear hx1
          refine hK.out _ _ hx0 ?_
          (try simp only [Act.put, List.setIfInBounds_toArray, List.set_cons_zero, List.set_cons_succ])
          have cG := h6.cell
          have fG := h6.frozen
          refine useq_step rfl rfl rfl (fun K hK => ?_)
          go_simp
          clear cG fG
          replace hMm := hMm.set (v := .pointer (some ⟨bm, 0, none⟩)) h6
          replace hMn := hMn.set (v := .pointer (some ⟨bm, 0, none⟩)) h6
          replace h7 := h7.frm (Frm.setCell w13 g6 0 (.pointer (some ⟨bm, 0, none⟩))) (by omega)
          replace h6 := ptr_set (b := bm) h6
          replace hx0 := hx0.setCell (p := ⟨g6, 0, none⟩) hl6 (.pointer (some ⟨bm, 0, none⟩))
          refine hK.out _ _ hx0 ?_
          generalize w13.setCell ⟨g6, 0, none⟩ (.pointer (some ⟨bm, 0, none⟩)) = w14 at *
          (try simp only [Act.put, List.setIfInBounds_toArray, List.set_cons_zero, List.set_cons_succ])
          have cG := h7.cell
          have fG := h7.frozen
          refine useq_step rfl rfl rfl (fun K hK => ?_)
          go_simp
          clear cG fG
          replace hMm := hMm.set (v := .pointer (some ⟨bn, 0, none⟩)) h7
          replace hMn := hMn.set (v := .pointer (some ⟨bn, 0, none⟩)) h7
          replace h6 := h6.frm (Frm.setCell w14 g7 0 (.pointer (some ⟨bn, 0, none⟩))) (by omega)
          replace h7 := ptr_set (b := bn) h7
          replace hx0 := hx0.setCell (p := ⟨g7, 0, none⟩) hl7 (.pointer (some ⟨bn, 0, none⟩))
          refine hK.out _ _ hx0 ?_
          generalize w14.setCell ⟨g7, 0, none⟩ (.pointer (some ⟨bn, 0, none⟩)) = w15 at *
          (try simp only [Act.put, List.setIfInBounds_toArray, List.set_cons_zero, List.set_cons_succ])
          refine useq_nil ?_
          go_wp2_with fail
          go_meet
          exact ⟨g6, g7, bm, bn, rfl, rfl, hx0, h6, h7, hMm, hMn⟩
      · go_simp
        have hl7 := hx0.size
        have hx1 := (Ext.refl wd).alloc (.cells #[.pointer none] 81)
        replace hx0 := hx0.trans hx1
        clear hx1
        have h7 := Blk.new wd 81 #[.pointer none]
        refine hK.out _ _ hx0 ?_
        generalize wd.alloc (.cells #[.pointer none] 81) = w10 at *
        generalize wd.heap.size = g7 at *
        (try simp only [Act.put, List.setIfInBounds_toArray, List.set_cons_zero, List.set_cons_succ])
        refine useq_both rfl rfl rfl rfl (fun K hK => ?_) (fun K hK => ?_)
        · go_simp
          refine (hmA.out _ hx0).mono ?_
          rintro e w11 ⟨bm, rfl, _, hMm, hx1⟩
          replace hx0 := hx0.trans hx1
          replace h7 := h7.ext hx1
          clear hx1
          refine hK.out _ _ hx0 ?_
          (try simp only [Act.put, List.setIfInBounds_toArray, List.set_cons_zero, List.set_cons_succ])
          refine useq_both rfl rfl rfl rfl (fun K hK => ?_) (fun K hK => ?_)
          · go_simp
            refine (hmB.out _ hx0).mono ?_
            rintro e w12 ⟨bn, rfl, _, hMn, hx1⟩
            replace hx0 := hx0.trans hx1
            replace hMm := hMm.ext hx1
            replace h7 := h7.ext hx1
            clear hx1
            refine hK.out _ _ hx0 ?_
            (try simp only [Act.put, List.setIfInBounds_toArray, List.set_cons_zero, List.set_cons_succ])
            (refine useq_step rfl rfl rfl (fun K hK => ?_); go_simp)
            have hl6 := hx0.size
            have hne := Nat.ne_of_lt h7.lt
            have hx1 := (Ext.refl w12).alloc (.cells #[.pointer none] 81)
            replace hx0 := hx0.trans hx1
            replace hMm := hMm.ext hx1
            replace hMn := hMn.ext hx1
            replace h7 := h7.ext hx1
            clear hx1
            have h6 := Blk.new w12 81 #[.pointer none]
            refine hK.out _ _ hx0 ?_
            generalize w12.alloc (.cells #[.pointer none] 81) = w13 at *
            generalize w12.heap.size = g6 at *
            (try simp only [Act.put, List.setIfInBounds_toArray, List.set_cons_zero, List.set_cons_succ])
            have cG := h6.cell
            have fG := h6.frozen
            refine useq_step rfl rfl rfl (fun K hK => ?_)
            go_simp
            clear cG fG
            replace hMm := hMm.set (v := .pointer (some ⟨bm, 0, none⟩)) h6
            replace hMn := hMn.set (v := .pointer (some ⟨bm, 0, none⟩)) h6
            replace h7 := h7.frm (Frm.setCell w13 g6 0 (.pointer (some ⟨bm, 0, none⟩))) (by omega)
            replace h6 := ptr_set (b := bm) h6
            replace hx0 := hx0.setCell (p := ⟨g6, 0, none⟩) hl6 (.pointer (some ⟨bm, 0, none⟩))
            refine hK.out _ _ hx0 ?_
            generalize w13.setCell ⟨g6, 0, none⟩ (.pointer (some ⟨bm, 0, none⟩)) = w14 at *
            (try simp only [Act.put, List.setIfInBounds_toArray, List.set_cons_zero, List.set_cons_succ])
            have cG := h7.cell
            have fG := h7.frozen
            refine useq_step rfl rfl rfl (fun K hK => ?_)
            go_simp
            clear cG fG
            replace hMm := hMm.set (v := .pointer (some ⟨bn, 0, none⟩)) h7
            replace hMn := hMn.set (v := .pointer (some ⟨bn, 0, none⟩)) h7
            replace h6 := h6.frm (Frm.setCell w14 g7 0 (.pointer (some ⟨bn, 0, none⟩))) (by omega)
            replace h7 := ptr_set (b := bn) h7
            replace hx0 := hx0.setCell (p := ⟨g7, 0, none⟩) hl7 (.pointer (some ⟨bn, 0, none⟩))
            refine hK.out _ _ hx0 ?_
            generalize w14.setCell ⟨g7, 0, none⟩ (.pointer (some ⟨bn, 0, none⟩)) = w15 at *
            (try simp only [Act.put, List.setIfInBounds_toArray, List.set_cons_zero, List.set_cons_succ])
            refine useq_nil ?_
            go_wp2_with fail
            go_meet
            exact ⟨g6, g7, bm, bn, rfl, rfl, hx0, h6, h7, hMm, hMn⟩
          · go_simp
            have hl6 := hx0.size
            have hne := Nat.ne_of_lt h7.lt
            have hx1 := (Ext.refl w11).alloc (.cells #[.pointer none] 81)
            replace hx0 := hx0.trans hx1
            replace hMm := hMm.ext hx1
            replace h7 := h7.ext hx1
            clear hx1
            have h6 := Blk.new w11 81 #[.pointer none]
            refine hK.out _ _ hx0 ?_
            generalize w11.alloc (.cells #[.pointer none] 81) = w12 at *
            generalize w11.heap.size = g6 at *
            (try simp only [Act.put, List.setIfInBounds_toArray, List.set_cons_zero, List.set_cons_succ])
            (refine useq_step rfl rfl rfl (fun K hK => ?_); go_simp)
            refine (hmB.out _ hx0).mono ?_
            rintro e w13 ⟨bn, rfl, _, hMn, hx1⟩
            replace hx0 := hx0.trans hx1
            replace hMm := hMm.ext hx1
            replace h6 := h6.ext hx1
            replace h7 := h7.ext hx1
            clear hx1
            refine hK.out _ _ hx0 ?_
            (try simp only [Act.put, List.setIfInBounds_toArray, List.set_cons_zero, List.set_cons_succ])
            have cG := h6.cell
            have fG := h6.frozen
            refine useq_step rfl rfl rfl (fun K hK => ?_)
            go_simp
            clear cG fG
            replace hMm := hMm.set (v := .pointer (some ⟨bm, 0, none⟩)) h6
            replace hMn := hMn.set (v := .pointer (some ⟨bm, 0, none⟩)) h6
            replace h7 := h7.frm (Frm.setCell w13 g6 0 (.pointer (some ⟨bm, 0, none⟩))) (by omega)
            replace h6 := ptr_set (b := bm) h6
            replace hx0 := hx0.setCell (p := ⟨g6, 0, none⟩) hl6 (.pointer (some ⟨bm, 0, none⟩))
            refine hK.out _ _ hx0 ?_
            generalize w13.setCell ⟨g6, 0, none⟩ (.pointer (some ⟨bm, 0, none⟩)) = w14 at *
            (try simp only [Act.put, List.setIfInBounds_toArray, List.set_cons_zero, List.set_cons_succ])
            have cG := h7.cell
            have fG := h7.frozen
            refine useq_step rfl rfl rfl (fun K hK => ?_)
            go_simp
            clear cG fG
            replace hMm := hMm.set (v := .pointer (some ⟨bn, 0, none⟩)) h7
            replace hMn := hMn.set (v := .pointer (some ⟨bn, 0, none⟩)) h7
            replace h6 := h6.frm (Frm.setCell w14 g7 0 (.pointer (some ⟨bn, 0, none⟩))) (by omega)
            replace h7 := ptr_set (b := bn) h7
            replace hx0 := hx0.setCell (p := ⟨g7, 0, none⟩) hl7 (.pointer (some ⟨bn, 0, none⟩))
            refine hK.out _ _ hx0 ?_
            generalize w14.setCell ⟨g7, 0, none⟩ (.pointer (some ⟨bn, 0, none⟩)) = w15 at *
            (try simp only [Act.put, List.setIfInBounds_toArray, List.set_cons_zero, List.set_cons_succ])
            refine useq_nil ?_
            go_wp2_with fail
            go_meet
            exact ⟨g6, g7, bm, bn, rfl, rfl, hx0, h6, h7, hMm, hMn⟩
        · go_simp
          have hl6 := hx0.size
          have hne := Nat.ne_of_lt h7.lt
          have hx1 := (Ext.refl w10).alloc (.cells #[.pointer none] 81)
          replace hx0 := hx0.trans hx1
          replace h7 := h7.ext hx1
          clear hx1
          have h6 := Blk.new w10 81 #[.pointer none]
          refine hK.out _ _ hx0 ?_
          generalize w10.alloc (.cells #[.pointer none] 81) = w11 at *
          generalize w10.heap.size = g6 at *
          (try simp only [Act.put, List.setIfInBounds_toArray, List.set_cons_zero, List.set_cons_succ])
          (refine useq_step rfl rfl rfl (fun K hK => ?_); go_simp)
          refine (hmA.out _ hx0).mono ?_
          rintro e w12 ⟨bm, rfl, _, hMm, hx1⟩
          replace hx0 := hx0.trans hx1
          replace h6 := h6.ext hx1
          replace h7 := h7.ext hx1
          clear hx1
          refine hK.out _ _ hx0 ?_
          (try simp only [Act.put, List.setIfInBounds_toArray, List.set_cons_zero, List.set_cons_succ])
          (refine useq_step rfl rfl rfl (fun K hK => ?_); go_simp)
          refine (hmB.out _ hx0).mono ?_
          rintro e w13 ⟨bn, rfl, _, hMn, hx1⟩
          replace hx0 := hx0.trans hx1
          replace hMm := hMm.ext hx1
          replace h6 := h6.ext hx1
          replace h7 := h7.ext hx1
          clear hx1
          refine hK.out _ _ hx0 ?_
          (try simp only [Act.put, List.setIfInBounds_toArray, List.set_cons_zero, List.set_cons_succ])
          have cG := h6.cell
          have fG := h6.frozen
          refine useq_step rfl rfl rfl (fun K hK => ?_)
          go_simp
          clear cG fG
          replace hMm := hMm.set (v := .pointer (some ⟨bm, 0, none⟩)) h6
          replace hMn := hMn.set (v := .pointer (some ⟨bm, 0, none⟩)) h6
          replace h7 := h7.frm (Frm.setCell w13 g6 0 (.pointer (some ⟨bm, 0, none⟩))) (by omega)
          replace h6 := ptr_set (b := bm) h6
          replace hx0 := hx0.setCell (p := ⟨g6, 0, none⟩) hl6 (.pointer (some ⟨bm, 0, none⟩))
          refine hK.out _ _ hx0 ?_
          generalize w13.setCell ⟨g6, 0, none⟩ (.pointer (some ⟨bm, 0, none⟩)) = w14 at *
          (try simp only [Act.put, List.setIfInBounds_toArray, List.set_cons_zero, List.set_cons_succ])
          have cG := h7.cell
          have fG := h7.frozen
          refine useq_step rfl rfl rfl (fun K hK => ?_)
          go_simp
          clear cG fG
          replace hMm := hMm.set (v := .pointer (some ⟨bn, 0, none⟩)) h7
          replace hMn := hMn.set (v := .pointer (some ⟨bn, 0, none⟩)) h7
          replace h6 := h6.frm (Frm.setCell w14 g7 0 (.pointer (some ⟨bn, 0, none⟩))) (by omega)
          replace h7 := ptr_set (b := bn) h7
          replace hx0 := hx0.setCell (p := ⟨g7, 0, none⟩) hl7 (.pointer (some ⟨bn, 0, none⟩))
          refine hK.out _ _ hx0 ?_
          generalize w14.setCell ⟨g7, 0, none⟩ (.pointer (some ⟨bn, 0, none⟩)) = w15 at *
          (try simp only [Act.put, List.setIfInBounds_toArray, List.set_cons_zero, List.set_cons_succ])
          refine useq_nil ?_
          go_wp2_with fail
          go_meet
          exact ⟨g6, g7, bm, bn, rfl, rfl, hx0, h6, h7, hMm, hMn⟩
    case rest =>
      obtain ⟨g6, g7, bm, bn, rfl, rfl, hx0, h6, h7, hMm, hMn⟩ := hcut
      clear hmA hmB c1 c2
      replace b1 := b1.ext hx0
      replace b2 := b2.ext hx0
      rw [Hp.out, Hal.out] at b1
      rw [Hq.out] at b2
      have k1 := b1.cell
      have k2 := b2.cell
      go_upto_region 6 with fail
      obtain ⟨Z, hZ⟩ : ∃ Z : Nat, Hid (Z = 2 ^ q) := ⟨_, rfl⟩
      rw [show wrap64 ((2 : Int) ^ q) = (Z : Int) by rw [hZ.out]; exact wrap_pow (by omega)]
      have hxc := (Ext.refl wc).alloc (.cells #[.int .i64 (Z : Nat)] 3)
      have hC : Caps (wc.alloc (.cells #[.int .i64 (Z : Nat)] 3)) g6 g7 wc.heap.size bm bn Z s.edges t.edges := ⟨h6.ext hxc, h7.ext hxc, Blk.new _ _ _, hMm.ext hxc, hMn.ext hxc⟩
      replace hx0 := hx0.trans hxc
      replace b1 := b1.ext hxc
      clear k1 k2 b2 h6 h7 hMm hMn hxc
      generalize wc.alloc (.cells #[.int .i64 (Z : Nat)] 3) = w4 at *
      generalize wc.heap.size = g8 at *
      have hw4 := hw1.trans hx0
      have hZ2 : 2 ≤ Z := by
        rw [hZ.out]
        have := Nat.pow_le_pow_right (n := 2) (by omega) hq1
        omega
      have hZ1 : Z ≤ 65536 := by rw [hZ.out, show (65536 : Nat) = 2 ^ 16 from rfl]; exact Nat.pow_le_pow_right (by omega) hq2
      obtain ⟨N, hN⟩ : ∃ N : Nat, Hid (N = p * Z) := ⟨_, rfl⟩
      have hN1 : N ≤ 16 * 65536 := by rw [hN.out]; exact Nat.mul_le_mul hp2 hZ1
      have hN2 : 2 ≤ N := by
        rw [hN.out]
        have := Nat.mul_le_mul hp1 hZ2
        omega
      have hZt := hide (show Z = 2 ^ t.st.toNat by rw [hZ.out, Hq.out]; rfl)
      have hLt := hide (show letters al 6 = letters s.al.toNat 6 by rw [Hal.out]; rfl)
      have key := hide (fun W (hW : Ext w4 W) A1 c1 AL q' cL (hA : IntsAt W A1 1 [1]) (hL : IntsAt W AL q' (letters al 6)) => firstPath_any (w := W) (N := N) (kn := 101) (kg := 104) (m := 1) (c := c1) (cL := cL) (capn := #[.pointer (some ⟨g7, 0, none⟩), .pointer (some ⟨g8, 0, none⟩), .pointer (some ⟨g6, 0, none⟩)]) (capg := #[.pointer (some ⟨g8, 0, none⟩)]) (goal := fun n => n % Z == 0) (d := dW s.edges t.edges Z) (start := [1]) (D := 32) hA (fun n hn => by rw [List.mem_singleton.1 hn]; omega) (by omega) hL (letters_rise al) (by omega) (by omega) (fun _ _ => rfl) (fun _ _ => rfl)
        (fun W' hW' n hn => out_goal ((hC.ext (hW.trans hW')).h8) (by omega) (by omega))
        (fun n l hn hl => ⟨by unfold dW; rw [List.length_map]; exact letters_length _ 32, fun x hx => by
          rw [hZ.out] at hx
          have h1 := (E_lt Hf.out ((dW_mem hp2 Hf.out Hg.out).1 hx).1).2
          rw [hN.out, hZ.out]
          exact (Nat.div_lt_iff_lt_mul (Nat.two_pow_pos q)).1 h1⟩)
        (fun W' hW' n l hn hl base A m c xs hb0 hb hm hown => out_next (hC.ext (hW.trans hW')) hZ.out (HTab.out _ (hw4.trans (hW.trans hW'))) Hf.out Hg.out hp2 hq2 (by rw [← hN.out]; exact hn) ((letters_rise al).1 l hl) (by have h1 := hC.h8.lt; have h2 := hW.size; omega) hb hm hown))
      have K1 : ∀ W, Ext w4 W → ∀ q, W.cell? ⟨w.heap.size, q, none⟩ = #[Value.int .i64 al, .int .i64 p, .slice A n c][q]? := fun W hW => (b1.ext hW).cell
      have K8 : ∀ W, Ext w4 W → ∀ q, W.cell? ⟨g8, q, none⟩ = #[Value.int .i64 (Z : Nat)][q]? := fun W hW => (hC.h8.ext hW).cell
      have hmul : (p : Int) * (Z : Int) = (N : Int) := by rw [hN.out]; simp
      have hwN : IntKind.i64.wrap (N : Int) = (N : Int) := IntWalk.i64_in _ (by omega)
      have hww4 := Ext.refl w4
      clear hC b1 hx0 hww
      refine wp_region_tailU (fun X => Ext w4 X) [10] (OrdU.app [0, 1, 2, 3, 5, 6, 8, 9] (OrdU.two 4 (OrdU.of [7, 10, 11, 12, 13, 14]) 7 (OrdU.of [4, 10, 11, 12, 13, 14]))) (by kernel_rfl) (by kernel_rfl) (by kernel_rfl) (by kernel_rfl) (by kernel_rfl) (fun _ _ _ _ _ h => h) (by first | assumption | exact (Ext.refl _).drew | (refine Ext.drew ?_; assumption)) ?_
      repeat (first | (refine useq_skip rfl rfl (by assumption) ?_; simp only [Act.put, List.setIfInBounds_toArray, List.set_cons_zero, List.set_cons_succ]) | (refine useq_pure (v := ?_) rfl rfl rfl rfl (fun X => ?_) ?_; rotate_left; (focus (go_simp <;> with_reducible rfl)); simp only [Act.put, List.setIfInBounds_toArray, List.set_cons_zero, List.set_cons_succ]) | (refine useq_read (v := ?_) rfl rfl rfl rfl (fun X hX => ?_) ?_; rotate_left; (focus (go_simp <;> with_reducible rfl)); simp only [Act.put, List.setIfInBounds_toArray, List.set_cons_zero, List.set_cons_succ]))
      have hx4 : Ext w4 w4.drew := hww4.drew
      generalize w4.drew = wd at *
      refine useq_both rfl rfl rfl rfl (fun K hK => ?_) (fun K hK => ?_)
      · go_simp
        have hb := Blk.new wd 3 #[.int .i64 1]
        have hx5 := (Ext.refl wd).alloc (.cells #[.int .i64 1] 3)
        replace hx4 := hx4.trans hx5
        refine hK.out _ _ hx4 ?_
        generalize wd.alloc (.cells #[.int .i64 1] 3) = w5 at *
        generalize wd.heap.size = g1 at *
        (try simp only [Act.put, List.setIfInBounds_toArray, List.set_cons_zero, List.set_cons_succ])
        (refine useq_step rfl rfl rfl (fun K hK => ?_); go_simp)
        refine (impl_lettersOf al (by unfold Sm; omega) _).mono ?_
        rintro e w6 ⟨A6, c6, rfl, hown6, hx6⟩
        replace hx4 := hx4.trans hx6
        have hI := one_at (hb.ext hx6)
        refine hK.out _ _ hx4 ?_
        (try simp only [Act.put, List.setIfInBounds_toArray, List.set_cons_zero, List.set_cons_succ])
        repeat (first | (refine useq_skip rfl rfl (by assumption) ?_; simp only [Act.put, List.setIfInBounds_toArray, List.set_cons_zero, List.set_cons_succ]) | (refine useq_pure (v := ?_) rfl rfl rfl rfl (fun X => ?_) ?_; rotate_left; (focus (go_simp <;> with_reducible rfl)); simp only [Act.put, List.setIfInBounds_toArray, List.set_cons_zero, List.set_cons_succ]) | (refine useq_read (v := ?_) rfl rfl rfl rfl (fun X hX => ?_) ?_; rotate_left; (focus (go_simp <;> with_reducible rfl)); simp only [Act.put, List.setIfInBounds_toArray, List.set_cons_zero, List.set_cons_succ]))
        (refine useq_step rfl rfl rfl (fun K hK => ?_); go_simp)
        refine (key.out _ hx4 _ _ _ _ _ hI (IntsAt.own hown6)).mono ?_
        rintro e w7 ⟨hx7, hcase⟩
        replace hx4 := hx4.trans hx7
        rcases hcase with ⟨v, rfl, hF⟩ | ⟨rfl, hF⟩
        · have ho := hide (outB_true H1.out hZt.out hLt.out hF)
          refine hK.out _ _ hx4 ?_
          (try simp only [Act.put, List.setIfInBounds_toArray, List.set_cons_zero, List.set_cons_succ])
          repeat (first | (refine useq_skip rfl rfl (by assumption) ?_; simp only [Act.put, List.setIfInBounds_toArray, List.set_cons_zero, List.set_cons_succ]) | (refine useq_pure (v := ?_) rfl rfl rfl rfl (fun X => ?_) ?_; rotate_left; (focus (go_simp <;> with_reducible rfl)); simp only [Act.put, List.setIfInBounds_toArray, List.set_cons_zero, List.set_cons_succ]) | (refine useq_read (v := ?_) rfl rfl rfl rfl (fun X hX => ?_) ?_; rotate_left; (focus (go_simp <;> with_reducible rfl)); simp only [Act.put, List.setIfInBounds_toArray, List.set_cons_zero, List.set_cons_succ]))
          refine useq_nil ?_
          go_wp2_with fail
          go_ret2
          exact ⟨_, by rw [ho.out]; rfl, hw4.trans hx4⟩
        · have ho := hide (outB_false H1.out hZt.out hLt.out hF)
          refine hK.out _ _ hx4 ?_
          (try simp only [Act.put, List.setIfInBounds_toArray, List.set_cons_zero, List.set_cons_succ])
          repeat (first | (refine useq_skip rfl rfl (by assumption) ?_; simp only [Act.put, List.setIfInBounds_toArray, List.set_cons_zero, List.set_cons_succ]) | (refine useq_pure (v := ?_) rfl rfl rfl rfl (fun X => ?_) ?_; rotate_left; (focus (go_simp <;> with_reducible rfl)); simp only [Act.put, List.setIfInBounds_toArray, List.set_cons_zero, List.set_cons_succ]) | (refine useq_read (v := ?_) rfl rfl rfl rfl (fun X hX => ?_) ?_; rotate_left; (focus (go_simp <;> with_reducible rfl)); simp only [Act.put, List.setIfInBounds_toArray, List.set_cons_zero, List.set_cons_succ]))
          refine useq_nil ?_
          go_wp2_with fail
          go_ret2
          exact ⟨_, by rw [ho.out]; rfl, hw4.trans hx4⟩
      · go_simp
        refine (impl_lettersOf al (by unfold Sm; omega) _).mono ?_
        rintro e w5 ⟨A6, c6, rfl, hown6, hx6⟩
        replace hx4 := hx4.trans hx6
        refine hK.out _ _ hx4 ?_
        (try simp only [Act.put, List.setIfInBounds_toArray, List.set_cons_zero, List.set_cons_succ])
        (refine useq_step rfl rfl rfl (fun K hK => ?_); go_simp)
        have hb := Blk.new w5 3 #[.int .i64 1]
        have hx5 := (Ext.refl w5).alloc (.cells #[.int .i64 1] 3)
        replace hx4 := hx4.trans hx5
        replace hown6 := own_ext hown6 hx5
        refine hK.out _ _ hx4 ?_
        generalize w5.alloc (.cells #[.int .i64 1] 3) = w6 at *
        generalize w5.heap.size = g1 at *
        have hI := one_at hb
        (try simp only [Act.put, List.setIfInBounds_toArray, List.set_cons_zero, List.set_cons_succ])
        repeat (first | (refine useq_skip rfl rfl (by assumption) ?_; simp only [Act.put, List.setIfInBounds_toArray, List.set_cons_zero, List.set_cons_succ]) | (refine useq_pure (v := ?_) rfl rfl rfl rfl (fun X => ?_) ?_; rotate_left; (focus (go_simp <;> with_reducible rfl)); simp only [Act.put, List.setIfInBounds_toArray, List.set_cons_zero, List.set_cons_succ]) | (refine useq_read (v := ?_) rfl rfl rfl rfl (fun X hX => ?_) ?_; rotate_left; (focus (go_simp <;> with_reducible rfl)); simp only [Act.put, List.setIfInBounds_toArray, List.set_cons_zero, List.set_cons_succ]))
        (refine useq_step rfl rfl rfl (fun K hK => ?_); go_simp)
        refine (key.out _ hx4 _ _ _ _ _ hI (IntsAt.own hown6)).mono ?_
        rintro e w7 ⟨hx7, hcase⟩
        replace hx4 := hx4.trans hx7
        rcases hcase with ⟨v, rfl, hF⟩ | ⟨rfl, hF⟩
        · have ho := hide (outB_true H1.out hZt.out hLt.out hF)
          refine hK.out _ _ hx4 ?_
          (try simp only [Act.put, List.setIfInBounds_toArray, List.set_cons_zero, List.set_cons_succ])
          repeat (first | (refine useq_skip rfl rfl (by assumption) ?_; simp only [Act.put, List.setIfInBounds_toArray, List.set_cons_zero, List.set_cons_succ]) | (refine useq_pure (v := ?_) rfl rfl rfl rfl (fun X => ?_) ?_; rotate_left; (focus (go_simp <;> with_reducible rfl)); simp only [Act.put, List.setIfInBounds_toArray, List.set_cons_zero, List.set_cons_succ]) | (refine useq_read (v := ?_) rfl rfl rfl rfl (fun X hX => ?_) ?_; rotate_left; (focus (go_simp <;> with_reducible rfl)); simp only [Act.put, List.setIfInBounds_toArray, List.set_cons_zero, List.set_cons_succ]))
          refine useq_nil ?_
          go_wp2_with fail
          go_ret2
          exact ⟨_, by rw [ho.out]; rfl, hw4.trans hx4⟩
        · have ho := hide (outB_false H1.out hZt.out hLt.out hF)
          refine hK.out _ _ hx4 ?_
          (try simp only [Act.put, List.setIfInBounds_toArray, List.set_cons_zero, List.set_cons_succ])
          repeat (first | (refine useq_skip rfl rfl (by assumption) ?_; simp only [Act.put, List.setIfInBounds_toArray, List.set_cons_zero, List.set_cons_succ]) | (refine useq_pure (v := ?_) rfl rfl rfl rfl (fun X => ?_) ?_; rotate_left; (focus (go_simp <;> with_reducible rfl)); simp only [Act.put, List.setIfInBounds_toArray, List.set_cons_zero, List.set_cons_succ]) | (refine useq_read (v := ?_) rfl rfl rfl rfl (fun X hX => ?_) ?_; rotate_left; (focus (go_simp <;> with_reducible rfl)); simp only [Act.put, List.setIfInBounds_toArray, List.set_cons_zero, List.set_cons_succ]))
          refine useq_nil ?_
          go_wp2_with fail
          go_ret2
          exact ⟨_, by rw [ho.out]; rfl, hw4.trans hx4⟩
end Go.Proofs.YtmlembcpamchjaaDoor

namespace Go.Proofs.YtmlembcpamchjaaDoor
open Go Go.RowKit
set_option maxHeartbeats 2000000

/-- All traces of one system are traces of another. -/
noncomputable def withinB (s t : Sys) : Bool := sameB s t && !outB s t
theorem impl_TracesWithin {lo hi lo' hi' : Nat} {A : Option Addr} {n c : Nat} {B : Option Addr} {m d : Nat} {s t : Sys} {w : World} (h : SysAt w lo hi A n s) (h' : SysAt w lo' hi' B m t) (hT : Tab w) :
    Calls Tryd.prog 54 #[.agg #[.int .i64 s.al, .int .i64 s.st, .slice A n c], .agg #[.int .i64 t.al, .int .i64 t.st, .slice B m d]] w fun e w' => e = .returned (.bool (withinB s t)) ∧ Ext w w' := by
  have HS := hide (fun W (hW : Ext w W) => h.ext hW)
  have HT := hide (fun W (hW : Ext w W) => h'.ext hW)
  have HTab := hide (fun W (hW : Ext w W) => hT.ext hW)
  clear h h' hT
  obtain ⟨o, ho⟩ : ∃ o, Hid (outB s t = o) := ⟨_, rfl⟩
  cases h1 : sameB s t
  all_goals
    have H1 := hide h1
    clear h1
    go_enter Tryd.func54, Tryd.ntmps54
    go_wp2_with fail
    refine (impl_FirstTraceOutside (HS.out _ (((Ext.refl _).alloc _).alloc _)) (HT.out _ (((Ext.refl _).alloc _).alloc _)) (HTab.out _ (((Ext.refl _).alloc _).alloc _))).mono ?_
    rintro e w1 ⟨v, rfl, hx⟩
    rw [ho.out]
    obtain ⟨b1, b2⟩ := ext_blk2 hx
    have c1 := b1.cell
    have c2 := b2.cell
    have hw1 := (((Ext.refl w).alloc _).alloc _).trans hx
    go_wp2_with fail
    refine (impl_sameAlphabets (HS.out _ hw1) (HT.out _ hw1)).mono ?_
    rw [H1.out]
    rintro e w2 ⟨rfl, hx2⟩
    go_wp2_with fail
    go_ret
    exact ⟨ret_bool (by unfold withinB; rw [H1.out, ho.out]; rfl), hw1.trans hx2⟩
theorem impl_SameTraces {lo hi lo' hi' : Nat} {A : Option Addr} {n c : Nat} {B : Option Addr} {m d : Nat} {s t : Sys} {w : World} (h : SysAt w lo hi A n s) (h' : SysAt w lo' hi' B m t) (hT : Tab w) :
    Calls Tryd.prog 23 #[.agg #[.int .i64 s.al, .int .i64 s.st, .slice A n c], .agg #[.int .i64 t.al, .int .i64 t.st, .slice B m d]] w fun e w' => e = .returned (.bool (withinB s t && withinB t s)) ∧ Ext w w' := by
  have HS := hide (fun W (hW : Ext w W) => h.ext hW)
  have HT := hide (fun W (hW : Ext w W) => h'.ext hW)
  have HTab := hide (fun W (hW : Ext w W) => hT.ext hW)
  clear h h' hT
  cases h1 : withinB s t
  · have H1 := hide h1
    clear h1
    go_enter Tryd.func23, Tryd.ntmps23
    go_wp2_with fail
    refine (impl_TracesWithin (HS.out _ (((Ext.refl _).alloc _).alloc _)) (HT.out _ (((Ext.refl _).alloc _).alloc _)) (HTab.out _ (((Ext.refl _).alloc _).alloc _))).mono ?_
    rw [H1.out]
    rintro e w1 ⟨rfl, hx⟩
    have hw1 := (((Ext.refl w).alloc _).alloc _).trans hx
    go_wp2_with fail
    go_ret
    exact ⟨rfl, hw1⟩
  · have H1 := hide h1
    clear h1
    obtain ⟨o, ho⟩ : ∃ o, Hid (withinB t s = o) := ⟨_, rfl⟩
    rw [ho.out]
    go_enter Tryd.func23, Tryd.ntmps23
    go_wp2_with fail
    refine (impl_TracesWithin (HS.out _ (((Ext.refl _).alloc _).alloc _)) (HT.out _ (((Ext.refl _).alloc _).alloc _)) (HTab.out _ (((Ext.refl _).alloc _).alloc _))).mono ?_
    rw [H1.out]
    rintro e w1 ⟨rfl, hx⟩
    obtain ⟨b1, b2⟩ := ext_blk2 hx
    have c1 := b1.cell
    have c2 := b2.cell
    have hw1 := (((Ext.refl w).alloc _).alloc _).trans hx
    go_wp2_with fail
    refine (impl_TracesWithin (HT.out _ hw1) (HS.out _ hw1) (HTab.out _ hw1)).mono ?_
    rw [ho.out]
    rintro e w2 ⟨rfl, hx2⟩
    go_wp2_with fail
    go_ret
    exact ⟨ret_bool (by simp), hw1.trans hx2⟩
/-- Simulation keeps traces. -/
theorem sim_within {both : Bool} {s t : Sys} (h : simB both s t = true) : withinB s t = true := by
  have hs : sameB s t = true := by unfold simB at h; cases hh : sameB s t <;> simp_all
  obtain ⟨v1, v2, _⟩ := same_valid hs
  obtain ⟨p, hp, hp1, hp2, hf⟩ := valid_few v1
  obtain ⟨q, hq, hq1, hq2, hg⟩ := valid_few v2
  have hl := sim_lost hp2 hf hg hq1 (gfp_at hp hq) ((simB_rel2 hs).1 h) (letters s.al.toNat 6)
  unfold withinB
  rw [hs, outB_false hs (by rw [hq]; rfl) rfl hl]
  rfl
/-- Edges go by letters. -/
theorem valid_L {s : Sys} (h : sysValid s = true) {i l k : Nat} (he : E s.edges i l k) : l ∈ letters s.al.toNat 6 := by
  obtain ⟨_, _, h3, _⟩ := valid_iff.1 h
  obtain ⟨e, he, _, h2, _⟩ := he
  have := h3 e he
  simp only [edgB, hasB, Bool.and_eq_true, decide_eq_true_eq] at this
  rw [h2] at this
  exact mem_letters.2 ⟨by omega, this.2.2.2.2⟩
theorem out_lost {s t : Sys} {q : Nat} (h : withinB s t = true) (hq : t.st = q) : Lost (dW s.edges t.edges (2 ^ q)) [1] (fun n => n % 2 ^ q == 0) (letters s.al.toNat 6) := by
  unfold withinB at h
  rw [Bool.and_eq_true] at h
  have h2 := h.2
  unfold outB at h2
  rw [h.1, Bool.true_and, Bool.not_eq_true', hq] at h2
  have := @of_decide_eq_false _ (Classical.propDecidable _) h2
  exact Classical.not_not.1 this
theorem det_sim {s t : Sys} (hd : Det t.edges) : simB false s t = withinB s t := by
  cases hs : sameB s t
  · unfold simB withinB
    rw [hs]; rfl
  · rw [Bool.eq_iff_iff]
    refine ⟨sim_within, fun h => ?_⟩
    obtain ⟨v1, v2, _⟩ := same_valid hs
    obtain ⟨p, hp, hp1, hp2, hf⟩ := valid_few v1
    obtain ⟨q, hq, hq1, hq2, hg⟩ := valid_few v2
    exact (simB_rel2 hs).2 (lost_sim hp1 hp2 hf hg hq1 (fun i l k he => valid_L v1 he) hd (out_lost h hq) (gfp_at hp hq))
theorem same_symm {s t : Sys} (h : sameB s t = true) : sameB t s = true := by
  obtain ⟨h1, h2, h3⟩ := same_valid h
  simp only [sameB, Bool.and_eq_true, beq_iff_eq]
  exact ⟨h2, h1, h3.symm⟩
theorem bis_symm {s t : Sys} (h : simB true s t = true) : simB true t s = true := by
  have hs : sameB s t = true := by unfold simB at h; cases hh : sameB s t <;> simp_all
  obtain ⟨v1, v2, _⟩ := same_valid hs
  obtain ⟨p, hp, hp1, hp2, hf⟩ := valid_few v1
  obtain ⟨q, hq, hq1, hq2, hg⟩ := valid_few v2
  exact (simB_rel2 (same_symm hs)).2 ((gfp_at hp hq).symm (gfp_at hq hp) ((simB_rel2 hs).1 h))
theorem bis_symm_eq (s t : Sys) : simB true t s = simB true s t := by
  rw [Bool.eq_iff_iff]
  exact ⟨bis_symm, bis_symm⟩
theorem bis_weak {s t : Sys} (h : simB true s t = true) : simB false s t = true := by
  have hs : sameB s t = true := by unfold simB at h; cases hh : sameB s t <;> simp_all
  obtain ⟨v1, v2, _⟩ := same_valid hs
  obtain ⟨p, hp, hp1, hp2, hf⟩ := valid_few v1
  obtain ⟨q, hq, hq1, hq2, hg⟩ := valid_few v2
  exact (simB_rel2 hs).2 ((gfp_at hp hq).weak (gfp_at hp hq) ((simB_rel2 hs).1 h))
theorem sim_self {both : Bool} {s : Sys} (h : sysValid s = true) : simB both s s = true := by
  have hs : sameB s s = true := by simp [sameB, h]
  obtain ⟨p, hp, hp1, hp2, hf⟩ := valid_few h
  exact (simB_rel2 hs).2 (gfp_self hf (gfp_at hp hp) (by omega))
theorem det_bis {s t : Sys} (hd : Det s.edges) (hd' : Det t.edges) : simB true s t = (withinB s t && withinB t s) := by
  cases hs : sameB s t
  · unfold simB withinB
    rw [hs]; rfl
  · rw [Bool.eq_iff_iff, Bool.and_eq_true]
    refine ⟨fun h => ⟨sim_within h, sim_within (bis_symm h)⟩, fun h => ?_⟩
    obtain ⟨v1, v2, v3⟩ := same_valid hs
    obtain ⟨p, hp, hp1, hp2, hf⟩ := valid_few v1
    obtain ⟨q, hq, hq1, hq2, hg⟩ := valid_few v2
    have hl := out_lost h.2 hp
    rw [← v3] at hl
    exact (simB_rel2 hs).2 (lost_bis hp1 hp2 hf hg hq1 hq2 (fun i l k he => valid_L v1 he) (fun i l k he => by rw [v3]; exact valid_L v2 he) hd hd' (out_lost h.1 hq) hl (gfp_at hp hq))
end Go.Proofs.YtmlembcpamchjaaDoor

namespace Go.Proofs.YtmlembcpamchjaaDoor
open Go Go.RowKit

theorem rising_pw {es : List Edg} : Rising es ↔ es.Pairwise (fun x y => ltE x y = true) := by
  rw [List.pairwise_iff_getElem]
  constructor
  · intro h i j hi hj hij
    exact h i j _ _ (List.getElem?_eq_getElem hi) (List.getElem?_eq_getElem hj) hij
  · intro h a b x y hx hy hab
    obtain ⟨ha, rfl⟩ := List.getElem?_eq_some_iff.1 hx
    obtain ⟨hb, rfl⟩ := List.getElem?_eq_some_iff.1 hy
    exact h a b ha hb hab
theorem ltE_irr {a : Edg} : ¬ ltE a a = true := by
  rw [ltE_iff]
  omega
theorem ltE_asymm {a b : Edg} (h : ltE a b = true) : ¬ ltE b a = true := fun h' => ltE_irr (ltE_trans h h')
/-- Lists that rise are told by their members. -/
theorem rising_ext {l m : List Edg} (hl : l.Pairwise (fun x y => ltE x y = true)) (hm : m.Pairwise (fun x y => ltE x y = true)) (h : ∀ x, x ∈ l ↔ x ∈ m) : l = m := by
  induction l generalizing m with
  | nil =>
    cases m with
    | nil => rfl
    | cons b m => exact absurd ((h b).2 (by simp)) (by simp)
  | cons a l ih =>
    cases m with
    | nil => exact absurd ((h a).1 (by simp)) (by simp)
    | cons b m =>
      rw [List.pairwise_cons] at hl hm
      have e : a = b := by
        rcases List.mem_cons.1 ((h a).1 (by simp)) with h1 | h1
        · exact h1
        · rcases List.mem_cons.1 ((h b).2 (by simp)) with h2 | h2
          · exact h2.symm
          · exact absurd (hl.1 b h2) (ltE_asymm (hm.1 a h1))
      subst e
      rw [ih hl.2 hm.2 (fun x => ?_)]
      constructor
      · intro hx
        rcases List.mem_cons.1 ((h x).1 (by simp [hx])) with h1 | h1
        · subst h1; exact absurd (hl.1 x hx) ltE_irr
        · exact h1
      · intro hx
        rcases List.mem_cons.1 ((h x).2 (by simp [hx])) with h1 | h1
        · subst h1; exact absurd (hm.1 x hx) ltE_irr
        · exact h1
/-- An edge between classes. -/
def quJ (R : List Nat) (e : Edg) : Edg := ⟨(cl R e.fr.toNat : Nat), e.le, (cl R e.to.toNat : Nat)⟩
/-- There is an edge from a class to a class. -/
def quB (R : List Nat) (es : List Edg) (c l d : Nat) : Bool := es.any fun e => decide (cl R e.fr.toNat = c ∧ e.le = (l : Int) ∧ cl R e.to.toNat = d)
def quD (R : List Nat) (es : List Edg) (N c l : Nat) : List Edg := ((List.range N).filter fun d => quB R es c l d).map fun d => ⟨(c : Nat), (l : Nat), (d : Nat)⟩
def quC (R : List Nat) (es : List Edg) (N : Nat) (L : List Nat) (c : Nat) : List Edg := L.flatMap fun l => quD R es N c l
/-- The edges between the classes, in order. -/
def quE (R : List Nat) (es : List Edg) (N : Nat) (L : List Nat) : List Edg := (List.range N).flatMap fun c => quC R es N L c
section
variable {R : List Nat} {es : List Edg} {N : Nat} {L : List Nat}
theorem quD_mem {c l : Nat} {x : Edg} : x ∈ quD R es N c l ↔ ∃ d, d < N ∧ quB R es c l d = true ∧ x = ⟨(c : Nat), (l : Nat), (d : Nat)⟩ := by
  unfold quD
  rw [List.mem_map]
  constructor
  · rintro ⟨d, hd, rfl⟩
    rw [List.mem_filter, List.mem_range] at hd
    exact ⟨d, hd.1, hd.2, rfl⟩
  · rintro ⟨d, h1, h2, rfl⟩
    exact ⟨d, by rw [List.mem_filter, List.mem_range]; exact ⟨h1, h2⟩, rfl⟩
theorem quE_mem {x : Edg} : x ∈ quE R es N L ↔ ∃ c l d, c < N ∧ l ∈ L ∧ d < N ∧ quB R es c l d = true ∧ x = ⟨(c : Nat), (l : Nat), (d : Nat)⟩ := by
  unfold quE quC
  simp only [List.mem_flatMap, List.mem_range, quD_mem]
  constructor
  · rintro ⟨c, hc, l, hl, d, hd, hb, rfl⟩
    exact ⟨c, l, d, hc, hl, hd, hb, rfl⟩
  · rintro ⟨c, l, d, hc, hl, hd, hb, rfl⟩
    exact ⟨c, hc, l, hl, d, hd, hb, rfl⟩
theorem quE_rising (hL : L.Pairwise (· < ·)) : (quE R es N L).Pairwise (fun x y => ltE x y = true) := by
  unfold quE
  rw [List.pairwise_flatMap]
  refine ⟨fun c _ => ?_, ?_⟩
  · unfold quC
    rw [List.pairwise_flatMap]
    refine ⟨fun l _ => ?_, hL.imp ?_⟩
    · unfold quD
      rw [List.pairwise_map]
      refine (List.Pairwise.filter _ List.pairwise_lt_range).imp ?_
      intro a b hab
      rw [ltE_iff]
      exact Or.inr ⟨rfl, Or.inr ⟨rfl, by show (a : Int) < (b : Int); omega⟩⟩
    · intro a b hab x hx y hy
      obtain ⟨d, _, _, rfl⟩ := quD_mem.1 hx
      obtain ⟨d', _, _, rfl⟩ := quD_mem.1 hy
      rw [ltE_iff]
      exact Or.inr ⟨rfl, Or.inl (by show (a : Int) < (b : Int); omega)⟩
  · refine List.pairwise_lt_range.imp ?_
    intro a b hab x hx y hy
    unfold quC at hx hy
    obtain ⟨l, _, hx⟩ := List.mem_flatMap.1 hx
    obtain ⟨l', _, hy⟩ := List.mem_flatMap.1 hy
    obtain ⟨d, _, _, rfl⟩ := quD_mem.1 hx
    obtain ⟨d', _, _, rfl⟩ := quD_mem.1 hy
    rw [ltE_iff]
    exact Or.inl (by show (a : Int) < (b : Int); omega)
end
theorem letters_pw (a k : Nat) : (letters a k).Pairwise (· < ·) := List.Pairwise.filter _ List.pairwise_lt_range
section
variable {p : Nat} {R : List Nat} (h : Eqv p R) (hp : p ≤ 32)
include h hp
theorem Eqv.cl_num {i : Nat} (hi : i < p) : cl R i < (clsOf R p).2 := by
  obtain ⟨_, a2, a3⟩ := h.least hp hi
  rw [h.cl_least hp hi]
  exact num_step a3 (by omega)
theorem Eqv.cl_onto : ∀ k, k ≤ p → ∀ c, c < (clsOf R k).2 → ∃ i, i < k ∧ cl R i = c := by
  intro k
  induction k with
  | zero => intro _ c hc; exact absurd hc (by simp [clsOf])
  | succ k ih =>
    intro hk c hc
    rw [(h.cl_order hp (show k < p by omega)).2] at hc
    split at hc
    · rename_i e
      rcases Nat.lt_or_ge c (clsOf R k).2 with h1 | h1
      · obtain ⟨i, hi, hc⟩ := ih (by omega) c h1
        exact ⟨i, by omega, hc⟩
      · exact ⟨k, by omega, by omega⟩
    · obtain ⟨i, hi, hc⟩ := ih (by omega) c hc
      exact ⟨i, by omega, hc⟩
end
/-- The quotient of a system. -/
noncomputable def quoS (s : Sys) : Sys := ⟨s.al, ((clsOf (gfp true s s) s.st.toNat).2 : Nat), quE (gfp true s s) s.edges (clsOf (gfp true s s) s.st.toNat).2 (letters s.al.toNat 6)⟩
/-- What is known of a quotient. -/
structure Quo (s : Sys) (p : Nat) (R : List Nat) (N : Nat) (q : Sys) : Prop where
  hp1 : 1 ≤ p
  hp2 : p ≤ 16
  few : Few p s.edges
  gfp : Gfp true s.edges s.edges p p R
  eqv : Eqv p R
  num : N = (clsOf R p).2
  al : q.al = s.al
  st : q.st = N
  ris : q.edges.Pairwise (fun x y => ltE x y = true)
  mem : ∀ x, x ∈ q.edges ↔ ∃ e ∈ s.edges, x = quJ R e
  one : 1 ≤ N
  le : N ≤ p
theorem quo_spec {s : Sys} {p : Nat} (hv : sysValid s = true) (hp : s.st = p) : Quo s p (gfp true s s) (clsOf (gfp true s s) p).2 (quoS s) := by
  obtain ⟨p', hp', h1, h2, hf⟩ := valid_few hv
  obtain rfl : p' = p := by omega
  have hG := gfp_at (both := true) hp' hp'
  have hE := hG.eqv hf
  have hsp : s.st.toNat = p' := by rw [hp']; rfl
  refine ⟨h1, h2, hf, hG, hE, rfl, rfl, by unfold quoS; rw [hsp], ?_, fun x => ?_, ?_, clsOf_le _ _⟩
  · unfold quoS
    exact quE_rising (letters_pw _ _)
  · unfold quoS
    rw [quE_mem, hsp]
    constructor
    · rintro ⟨c, l, d, _, _, _, hb, rfl⟩
      unfold quB at hb
      obtain ⟨e, he, hd⟩ := List.any_eq_true.1 hb
      rw [decide_eq_true_eq] at hd
      obtain ⟨rfl, hl, rfl⟩ := hd
      exact ⟨e, he, by unfold quJ; rw [hl]⟩
    · rintro ⟨e, he, rfl⟩
      have hb := hf e he
      have hl := valid_L hv (i := e.fr.toNat) (l := e.le.toNat) (k := e.to.toNat) ⟨e, he, by omega, by omega, by omega⟩
      refine ⟨cl (gfp true s s) e.fr.toNat, e.le.toNat, cl (gfp true s s) e.to.toNat, hE.cl_num (by omega) (by omega), hl, hE.cl_num (by omega) (by omega), ?_, ?_⟩
      · unfold quB
        exact List.any_eq_true.2 ⟨e, he, decide_eq_true ⟨rfl, by omega, rfl⟩⟩
      · unfold quJ
        rw [show ((e.le.toNat : Nat) : Int) = e.le by omega]
  · have := hE.cl_num (i := 0) (by omega) (by omega)
    omega
section
variable {s : Sys} {p N : Nat} {R : List Nat} {q : Sys} (h : Quo s p R N q)
include h
theorem Quo.E {c l d : Nat} : E q.edges c l d ↔ ∃ i k, E s.edges i l k ∧ cl R i = c ∧ cl R k = d := by
  unfold Go.Proofs.YtmlembcpamchjaaDoor.E
  constructor
  · rintro ⟨x, hx, h1, h2, h3⟩
    obtain ⟨e, he, rfl⟩ := (h.mem x).1 hx
    have hb := h.few e he
    simp only [quJ] at h1 h2 h3
    exact ⟨e.fr.toNat, e.to.toNat, ⟨e, he, by omega, h2, by omega⟩, by omega, by omega⟩
  · rintro ⟨i, k, ⟨e, he, h1, h2, h3⟩, h4, h5⟩
    refine ⟨quJ R e, (h.mem _).2 ⟨e, he, rfl⟩, ?_, h2, ?_⟩
    · simp only [quJ]; rw [h1, show ((i : Nat) : Int).toNat = i from rfl, h4]
    · simp only [quJ]; rw [h3, show ((k : Nat) : Int).toNat = k from rfl, h5]
theorem Quo.few' : Few N q.edges := by
  intro x hx
  obtain ⟨e, he, rfl⟩ := (h.mem x).1 hx
  have hb := h.few e he
  have h1 := h.eqv.cl_num (by have := h.hp2; omega) (i := e.fr.toNat) (by omega)
  have h2 := h.eqv.cl_num (by have := h.hp2; omega) (i := e.to.toNat) (by omega)
  have h3 := h.num
  simp only [quJ]
  omega
/-- Each state is bisimilar to its class. -/
theorem Quo.bis {G : List Nat} (hG : Gfp true s.edges q.edges p N G) {i : Nat} (hi : i < p) : rel G i (cl R i) := by
  have hp := h.hp2
  refine hG.great (fun i c => i < p ∧ c = cl R i) ?_ i _ ⟨hi, rfl⟩
  rintro i c ⟨hi, rfl⟩
  refine ⟨hi, by rw [h.num]; exact h.eqv.cl_num (by omega) hi, fun l k hk => ?_, fun _ l d hd => ?_⟩
  · exact ⟨cl R k, h.E.2 ⟨i, k, hk, rfl, rfl⟩, (E_lt h.few hk).2, rfl⟩
  · obtain ⟨j, k, hjk, h1, h2⟩ := h.E.1 hd
    have hr := (h.eqv.cl_iff (by omega) (E_lt h.few hjk).1 hi).1 h1
    obtain ⟨k', hk', hr'⟩ := (h.gfp.post _ _ hr).1 _ _ hjk
    refine ⟨k', hk', (E_lt h.few hk').2, ?_⟩
    rw [← h2]
    exact ((h.eqv.cl_iff (by omega) (E_lt h.few hjk).2 (E_lt h.few hk').2).2 hr')
theorem Quo.valid (hv : sysValid s = true) : sysValid q = true := by
  obtain ⟨h1, h2, h3, h4⟩ := valid_iff.1 hv
  have hN := h.one
  have hN2 := h.le
  have hp := h.hp2
  refine valid_iff.2 ⟨by rw [h.al]; exact h1, by rw [h.st]; omega, fun x hx => ?_, rising_pw.2 h.ris⟩
  have hb := h.few' x hx
  obtain ⟨e, he, rfl⟩ := (h.mem x).1 hx
  have h5 := h3 e he
  rw [h.al, h.st]
  simp only [edgB, hasB, Bool.and_eq_true, decide_eq_true_eq] at h5
  unfold edgB hasB
  simp only [Bool.and_eq_true]
  exact ⟨⟨decide_eq_true (by omega), decide_eq_true (by omega)⟩, ⟨decide_eq_true (by omega), decide_eq_true (by omega)⟩, decide_eq_true (by omega), decide_eq_true (by omega), h5.2.2.2.2⟩
/-- Classes of a quotient are its states. -/
theorem Quo.self {G : List Nat} (hG : Gfp true q.edges q.edges N N G) {a b : Nat} : rel G a b ↔ a = b ∧ a < N := by
  have hp := h.hp2
  constructor
  · intro hr
    obtain ⟨ha, hb⟩ := rel_lt hG.toInv hr
    obtain ⟨i, hi, rfl⟩ := h.eqv.cl_onto (by omega) p (Nat.le_refl _) a (by rw [← h.num]; exact ha)
    obtain ⟨j, hj, rfl⟩ := h.eqv.cl_onto (by omega) p (Nat.le_refl _) b (by rw [← h.num]; exact hb)
    obtain ⟨X, hX⟩ := gfp_exists true s.edges q.edges p N
    obtain ⟨Y, hY⟩ := gfp_exists true q.edges s.edges N p
    have h1 := hX.trans hG hX (h.bis hX hi) hr
    have h2 := hX.symm hY (h.bis hX hj)
    have h3 := hX.trans hY h.gfp h1 h2
    exact ⟨(h.eqv.cl_iff (by omega) hi hj).2 h3, ha⟩
  · rintro ⟨rfl, ha⟩
    exact gfp_self h.few' hG ha
end
theorem cls_id {N : Nat} {G : List Nat} (hN : N ≤ 32) (h : ∀ a b, rel G a b ↔ a = b ∧ a < N) : ∀ k, k ≤ N → (clsOf G k).2 = k ∧ ∀ i, i < k → cl G i = i := by
  have hl : ∀ k, k < N → lst (G.getD k 0) = k := fun k hk => by
    obtain ⟨t, _, h2, h3, _⟩ := lst_spec (x := G.getD k 0) (k := k) (by omega) ((h k k).2 ⟨rfl, hk⟩).2
    exact ((h k _).1 (rel_getD h2)).1.symm
  intro k
  induction k with
  | zero => intro _; exact ⟨rfl, fun i hi => by omega⟩
  | succ k ih =>
    intro hk
    obtain ⟨e1, e2⟩ := ih (by omega)
    have e3 := hl k (by omega)
    rw [clsOf_yes e3]
    refine ⟨by rw [e1], fun i hi => ?_⟩
    rcases Nat.lt_or_ge i k with h1 | h1
    · exact e2 i h1
    · obtain rfl : i = k := by omega
      rw [cl_yes e3, e1]
/-- A quotient is its own quotient. -/
theorem quo_quo {s : Sys} (hv : sysValid s = true) : quoS (quoS s) = quoS s := by
  obtain ⟨p, hp, _⟩ := valid_few hv
  have h := quo_spec hv hp
  have hv' := h.valid hv
  have h' := quo_spec hv' h.st
  have hp2 := h.hp2
  have hle := h.le
  have hid := cls_id (by omega) (fun a b => h.self h'.gfp (a := a) (b := b)) _ (Nat.le_refl _)
  have e1 : (quoS (quoS s)).al = (quoS s).al := h'.al
  have e2 : (quoS (quoS s)).st = (quoS s).st := by rw [h'.st, h.st, hid.1]
  have e3 : (quoS (quoS s)).edges = (quoS s).edges := by
    refine rising_ext h'.ris h.ris fun x => ?_
    rw [h'.mem]
    have key : ∀ e ∈ (quoS s).edges, quJ (gfp true (quoS s) (quoS s)) e = e := fun e he => by
      have hb := h.few' e he
      unfold quJ
      rw [hid.2 _ (by omega), hid.2 _ (by omega), show ((e.fr.toNat : Nat) : Int) = e.fr by omega, show ((e.to.toNat : Nat) : Int) = e.to by omega]
    constructor
    · rintro ⟨e, he, rfl⟩
      rw [key e he]; exact he
    · intro hx
      exact ⟨x, hx, (key x hx).symm⟩
  generalize quoS (quoS s) = a at *
  generalize quoS s = b at *
  obtain ⟨a1, a2, a3⟩ := a
  obtain ⟨b1, b2, b3⟩ := b
  simp only at e1 e2 e3
  rw [e1, e2, e3]
theorem quo_same {s : Sys} (hv : sysValid s = true) : sameB s (quoS s) = true := by
  obtain ⟨p, hp, _⟩ := valid_few hv
  have h := quo_spec hv hp
  simp only [sameB, hv, h.valid hv, Bool.true_and, beq_iff_eq]
  exact h.al.symm
/-- A system is bisimilar to its quotient. -/
theorem quo_bis {s : Sys} (hv : sysValid s = true) : simB true s (quoS s) = true := by
  obtain ⟨p, hp, hp1, hp2, hf⟩ := valid_few hv
  have h := quo_spec hv hp
  have := h.bis (gfp_at hp h.st) (i := 0) (by omega)
  rw [h.eqv.cl_zero (by omega) (by omega)] at this
  exact (simB_rel2 (quo_same hv)).2 this
/-- Determinism is kept. -/
theorem quo_det {s : Sys} (hv : sysValid s = true) (hd : Det s.edges) : Det (quoS s).edges := by
  obtain ⟨p, hp, hp1, hp2, hf⟩ := valid_few hv
  have h := quo_spec hv hp
  have hr : ∀ c, Rch (quoS s).edges c → ∃ i, Rch s.edges i ∧ i < p ∧ cl (gfp true s s) i = c := by
    intro c hc
    induction hc with
    | zero => exact ⟨0, .zero, by omega, h.eqv.cl_zero (by omega) (by omega)⟩
    | @step c l d _ hk ih =>
      obtain ⟨i, hi, hip, rfl⟩ := ih
      obtain ⟨j, k, hjk, h1, h2⟩ := h.E.1 hk
      have hrel := (h.eqv.cl_iff (by omega) (E_lt h.few hjk).1 hip).1 h1
      obtain ⟨k', hk', hr'⟩ := (h.gfp.post _ _ hrel).1 _ _ hjk
      refine ⟨k', hi.step hk', (E_lt h.few hk').2, ?_⟩
      rw [← h2]
      exact ((h.eqv.cl_iff (by omega) (E_lt h.few hjk).2 (E_lt h.few hk').2).2 hr').symm
  intro c l d d' hc hk hk'
  obtain ⟨i, hi, hip, rfl⟩ := hr c hc
  have key : ∀ d, E (quoS s).edges (cl (gfp true s s) i) l d → ∃ k, E s.edges i l k ∧ cl (gfp true s s) k = d := by
    intro d hd
    obtain ⟨j, k, hjk, h1, h2⟩ := h.E.1 hd
    have hrel := (h.eqv.cl_iff (by omega) (E_lt h.few hjk).1 hip).1 h1
    obtain ⟨k', hk', hr'⟩ := (h.gfp.post _ _ hrel).1 _ _ hjk
    refine ⟨k', hk', ?_⟩
    rw [← h2]
    exact ((h.eqv.cl_iff (by omega) (E_lt h.few hjk).2 (E_lt h.few hk').2).2 hr').symm
  obtain ⟨k, hk1, rfl⟩ := key d hk
  obtain ⟨k', hk2, rfl⟩ := key d' hk'
  rw [hd i l k k' hi hk1 hk2]
end Go.Proofs.YtmlembcpamchjaaDoor

namespace Go.Proofs.YtmlembcpamchjaaDoor
open Go Go.RowKit Go.Lib

theorem ltE_tri (a b : Edg) : ltE a b = true ∨ a = b ∨ ltE b a = true := by
  rw [ltE_iff, ltE_iff]
  obtain ⟨a1, a2, a3⟩ := a
  obtain ⟨b1, b2, b3⟩ := b
  simp only [Edg.mk.injEq]
  omega
/-- A sorted list. -/
def Srt (es : List Edg) : Prop := ∀ (i j : Nat) (x y : Edg), es[i]? = some x → es[j]? = some y → i < j → ¬ ltE y x = true
theorem cpt_step {es : List Edg} (hs : Srt es) : ∀ m, m ≤ es.length → (compactUpTo es.toArray m).Pairwise (fun x y => ltE x y = true) ∧ (∀ x, x ∈ compactUpTo es.toArray m ↔ x ∈ es.take m) ∧ ∀ p, 0 < m → es[m - 1]? = some p → ∀ x ∈ compactUpTo es.toArray m, x = p ∨ ltE x p = true := by
  intro m
  induction m with
  | zero => intro _; exact ⟨by simp [compactUpTo], fun x => by simp [compactUpTo], fun p h => by omega⟩
  | succ m ih =>
    intro hm
    obtain ⟨h1, h2, h3⟩ := ih (by omega)
    have he : es[m]? = some es[m] := List.getElem?_eq_getElem (by omega)
    generalize es[m] = e at he
    have hd : es.toArray[m]! = e := by
      have := cell_get (d := es.toArray) (k := m) (by simp; omega)
      rw [he] at this
      exact (Option.some.inj this).symm
    have htk : es.take (m + 1) = es.take m ++ [e] := by rw [List.take_add_one, he]; rfl
    rw [compactUpTo_succ, hd, htk]
    cases hk : keeps es.toArray m
    · have hm0 : 0 < m := by
        rcases Nat.eq_zero_or_pos m with h | h
        · subst h; rw [keeps_lt_one _ 0 (by omega)] at hk; cases hk
        · exact h
      have hp : es[m - 1]? = some es[m - 1] := List.getElem?_eq_getElem (by omega)
      have hd' : es.toArray[m - 1]! = es[m - 1] := by
        have := cell_get (d := es.toArray) (k := m - 1) (by simp; omega)
        rw [hp] at this
        exact (Option.some.inj this).symm
      have hep : e = es[m - 1] := by
        unfold keeps at hk
        rw [decide_eq_false_iff_not, hd, hd'] at hk
        rcases Classical.em (e = es[m - 1]) with h | h
        · exact h
        · exact absurd (Or.inr h) hk
      simp only [Bool.false_eq_true, if_false, List.append_nil]
      refine ⟨h1, fun x => ?_, fun p _ hp' x hx => ?_⟩
      · rw [h2 x, List.mem_append, List.mem_singleton]
        constructor
        · exact Or.inl
        · rintro (h | h)
          · exact h
          · rw [h, hep]
            exact List.mem_of_getElem? (show (es.take m)[m - 1]? = some es[m - 1] by rw [List.getElem?_take_of_lt (by omega)]; exact hp)
      · rw [Nat.add_sub_cancel, he] at hp'
        obtain rfl := Option.some.inj hp'
        rw [hep]
        exact h3 _ hm0 hp x hx
    · simp only [if_true]
      have hlast : ∀ x ∈ compactUpTo es.toArray m, ltE x e = true := by
        intro x hx
        rcases Nat.eq_zero_or_pos m with h | h
        · subst h; simp [compactUpTo] at hx
        · have hp : es[m - 1]? = some es[m - 1] := List.getElem?_eq_getElem (by omega)
          have hd' : es.toArray[m - 1]! = es[m - 1] := by
            have := cell_get (d := es.toArray) (k := m - 1) (by simp; omega)
            rw [hp] at this
            exact (Option.some.inj this).symm
          have hne : e ≠ es[m - 1] := by
            unfold keeps at hk
            rw [decide_eq_true_eq, hd, hd'] at hk
            rcases hk with hk | hk
            · omega
            · exact hk
          have hlt : ltE es[m - 1] e = true := by
            rcases ltE_tri es[m - 1] e with h' | h' | h'
            · exact h'
            · exact absurd h'.symm hne
            · exact absurd h' (hs (m - 1) m _ _ hp he (by omega))
          rcases h3 _ h hp x hx with h' | h'
          · rw [h']; exact hlt
          · exact ltE_trans h' hlt
      refine ⟨?_, fun x => ?_, fun p _ hp' x hx => ?_⟩
      · rw [List.pairwise_append]
        exact ⟨h1, by simp, fun x hx y hy => by rw [List.mem_singleton.1 hy]; exact hlast x hx⟩
      · rw [List.mem_append, List.mem_append, h2 x]
      · rw [Nat.add_sub_cancel, he] at hp'
        obtain rfl := Option.some.inj hp'
        rcases List.mem_append.1 hx with h | h
        · exact Or.inr (hlast x h)
        · exact Or.inl (List.mem_singleton.1 h)
theorem cpt_spec {es : List Edg} (hs : Srt es) : (compactUpTo es.toArray es.length).Pairwise (fun x y => ltE x y = true) ∧ ∀ x, x ∈ compactUpTo es.toArray es.length ↔ x ∈ es := by
  obtain ⟨h1, h2, _⟩ := cpt_step hs es.length (Nat.le_refl _)
  rw [List.take_length] at h2
  exact ⟨h1, h2⟩
end Go.Proofs.YtmlembcpamchjaaDoor

namespace Go.Proofs.YtmlembcpamchjaaDoor
open Go Go.RowKit Go.Lib Go.Shelf
set_option maxHeartbeats 4000000

def sortEdge_ren : Go.Shelf.Ren := ⟨fun | 6 => 35 | 15 => 61 | 14 => 60 | 28 => 88 | 29 => 89 | 20 => 80 | 21 => 81 | 22 => 82 | 23 => 83 | 24 => 84 | 25 => 85 | 26 => 86 | 27 => 87 | 46 => 105 | 47 => 106 | 48 => 107 | 49 => 108 | 50 => 109 | 57 => 117 | n => n, fun | 22 => 26 | 24 => 52 | 25 => 56 | 3 => 3 | 39 => 71 | 0 => 0 | 53 => 96 | 55 => 98 | 4 => 4 | 46 => 89 | 45 => 88 | 50 => 93 | 5 => 5 | 9 => 9 | 66 => 109 | 70 => 113 | 76 => 128 | 77 => 129 | n => n, fun | n => n⟩
set_option maxRecDepth 100000 in
theorem sortEdge : Go.Proofs.SlLaysF0.n6 Tryd.prog sortEdge_ren where
  mixed := by kernel_rfl
  f6 := ⟨ "slices.SortFunc[[]loop.example/assumeguarantee/impl.Edge,loop.example/assumeguarantee/impl.Edge]", by decide, Tryd.func35.trans (congrArg some (by kernel_rfl))⟩
  f14 := ⟨ "slices.pdqsortCmpFunc[loop.example/assumeguarantee/impl.Edge]", by decide, Tryd.func60.trans (congrArg some (by kernel_rfl))⟩
  f15 := Tryd.func61.trans (congrArg some (by kernel_rfl))
  f20 := ⟨ "slices.insertionSortCmpFunc[loop.example/assumeguarantee/impl.Edge]", by decide, Tryd.func80.trans (congrArg some (by kernel_rfl))⟩
  f21 := ⟨ "slices.heapSortCmpFunc[loop.example/assumeguarantee/impl.Edge]", by decide, Tryd.func81.trans (congrArg some (by kernel_rfl))⟩
  f22 := ⟨ "slices.breakPatternsCmpFunc[loop.example/assumeguarantee/impl.Edge]", by decide, Tryd.func82.trans (congrArg some (by kernel_rfl))⟩
  f23 := ⟨ "slices.choosePivotCmpFunc[loop.example/assumeguarantee/impl.Edge]", by decide, Tryd.func83.trans (congrArg some (by kernel_rfl))⟩
  f24 := ⟨ "slices.reverseRangeCmpFunc[loop.example/assumeguarantee/impl.Edge]", by decide, Tryd.func84.trans (congrArg some (by kernel_rfl))⟩
  f25 := ⟨ "slices.partialInsertionSortCmpFunc[loop.example/assumeguarantee/impl.Edge]", by decide, Tryd.func85.trans (congrArg some (by kernel_rfl))⟩
  f26 := ⟨ "slices.partitionEqualCmpFunc[loop.example/assumeguarantee/impl.Edge]", by decide, Tryd.func86.trans (congrArg some (by kernel_rfl))⟩
  f27 := ⟨ "slices.partitionCmpFunc[loop.example/assumeguarantee/impl.Edge]", by decide, Tryd.func87.trans (congrArg some (by kernel_rfl))⟩
  f28 := Tryd.func88.trans (congrArg some (by kernel_rfl))
  f29 := Tryd.func89.trans (congrArg some (by kernel_rfl))
  f46 := ⟨ "slices.siftDownCmpFunc[loop.example/assumeguarantee/impl.Edge]", by decide, Tryd.func105.trans (congrArg some (by kernel_rfl))⟩
  f47 := Tryd.func106.trans (congrArg some (by kernel_rfl))
  f48 := Tryd.func107.trans (congrArg some (by kernel_rfl))
  f49 := ⟨ "slices.medianAdjacentCmpFunc[loop.example/assumeguarantee/impl.Edge]", by decide, Tryd.func108.trans (congrArg some (by kernel_rfl))⟩
  f50 := ⟨ "slices.medianCmpFunc[loop.example/assumeguarantee/impl.Edge]", by decide, Tryd.func109.trans (congrArg some (by kernel_rfl))⟩
  f57 := ⟨ "slices.order2CmpFunc[loop.example/assumeguarantee/impl.Edge]", by decide, Tryd.func117.trans (congrArg some (by kernel_rfl))⟩
  t0 := Tryd.underlying0
  a0 := Tryd.isAgg0
  z0 := Tryd.sizeOf0
  v0 := Tryd.zeroValue0
  t3 := Tryd.underlying3
  a3 := Tryd.isAgg3
  z3 := Tryd.sizeOf3
  v3 := Tryd.zeroValue3
  t4 := Tryd.underlying4
  a4 := Tryd.isAgg4
  z4 := Tryd.sizeOf4
  v4 := Tryd.zeroValue4
  t5 := Tryd.underlying5
  a5 := Tryd.isAgg5
  z5 := Tryd.sizeOf5
  v5 := Tryd.zeroValue5
  t9 := Tryd.underlying9
  a9 := Tryd.isAgg9
  z9 := Tryd.sizeOf9
  v9 := Tryd.zeroValue9
  t22 := Tryd.underlying26
  a22 := Tryd.isAgg26
  z22 := Tryd.sizeOf26
  v22 := Tryd.zeroValue26
  t25 := Tryd.underlying56
  a25 := Tryd.isAgg56
  z25 := Tryd.sizeOf56
  v25 := Tryd.zeroValue56
  t39 := Tryd.underlying71
  a39 := Tryd.isAgg71
  z39 := Tryd.sizeOf71
  v39 := Tryd.zeroValue71
  t45 := Tryd.underlying88
  a45 := Tryd.isAgg88
  z45 := Tryd.sizeOf88
  v45 := Tryd.zeroValue88
  t46 := Tryd.underlying89
  a46 := Tryd.isAgg89
  z46 := Tryd.sizeOf89
  v46 := Tryd.zeroValue89
  t50 := Tryd.underlying93
  a50 := Tryd.isAgg93
  z50 := Tryd.sizeOf93
  v50 := Tryd.zeroValue93
  t53 := Tryd.underlying96
  a53 := Tryd.isAgg96
  z53 := Tryd.sizeOf96
  v53 := Tryd.zeroValue96
  t55 := Tryd.underlying98
  a55 := Tryd.isAgg98
  z55 := Tryd.sizeOf98
  v55 := Tryd.zeroValue98
  t66 := Tryd.underlying109
  a66 := Tryd.isAgg109
  z66 := Tryd.sizeOf109
  v66 := Tryd.zeroValue109
  t70 := Tryd.underlying113
  a70 := Tryd.isAgg113
  z70 := Tryd.sizeOf113
  v70 := Tryd.zeroValue113
  t76 := Tryd.underlying128
  a76 := Tryd.isAgg128
  z76 := Tryd.sizeOf128
  v76 := Tryd.zeroValue128
  t77 := Tryd.underlying129
  a77 := Tryd.isAgg129
  z77 := Tryd.sizeOf129
  v77 := Tryd.zeroValue129

theorem lt_cmpE (x y : Edg) : ltOf cmpE x y = ltE x y := by
  unfold ltOf
  have := cmpE_lt x y
  cases h : ltE x y
  · exact decide_eq_false (fun hc => by rw [this.1 hc] at h; cases h)
  · exact decide_eq_true (this.2 h)
theorem swoE : Sort.SWO (ltOf cmpE) where
  irrefl x := by
    rw [lt_cmpE]
    cases h : ltE x x
    · rfl
    · exact absurd h ltE_irr
  trans x y z h1 h2 := by
    rw [lt_cmpE] at *
    exact ltE_trans h1 h2
  ntrans x y z h1 h2 := by
    rw [lt_cmpE] at *
    cases h : ltE x z
    · rfl
    · rcases ltE_tri x y with h3 | h3 | h3
      · rw [h3] at h1; cases h1
      · subst h3; rw [h] at h2; cases h2
      · have := ltE_trans h3 h
        rw [this] at h2; cases h2
/-- What the sort leaves. -/
def RetSort (w : World) (base g n cap : Nat) (es : List Edg) (e : Ending) (w' : World) : Prop :=
  e = .returned (.tuple #[]) ∧ ∃ es', Hid (es'.length = es.length ∧ Srt es' ∧ ∀ x, x ∈ es' ↔ x ∈ es) ∧ w'.ownsRow base 52 3 (.slice (some ⟨g, 0, none⟩) n cap) n (edgeCells es') ∧ Frm (fun k => k = g) w w'
theorem sort_any {w : World} {base g n cap : Nat} {es : List Edg} (h : w.ownsRow base 52 3 (.slice (some ⟨g, 0, none⟩) n cap) n (edgeCells es)) (hn4 : n ≤ 1048576) :
    Calls Tryd.prog 35 #[.slice (some ⟨g, 0, none⟩) n cap, .func (.func 36) #[] #[]] w (RetSort w base g n cap es) := by
  have hl : es.length = n := by have := h.1; rw [edgeCells_length] at this; omega
  have eg : ∀ args w, (callFunc 36 args).run Tryd.prog w = .ok (.enter 36 args) w := enters_of Tryd.func36 (by kernel_rfl) rfl
  have hblk := (h.lt g rfl).2
  have hcmp : CmpLays Tryd.prog 36 #[] encE 3 cmpE g 0 es.toArray.size w := fun _ _ _ _ x y => compareEdges_g
  have hcon := AnyQ.slices_SortFunc sortEdge 3 Tryd.isAgg52 Tryd.sizeOf52 encE (fun _ => rfl) (fun x v hv => by simp [encE] at hv; rcases hv with rfl | rfl | rfl <;> rfl) cmpE swoE 36 #[] g 0 cap es.toArray w eg hcmp (holds_edge h) hblk (by simp; omega)
  change Calls Tryd.prog 35 _ _ _ at hcon
  rw [show es.toArray.size = n by simpa using hl] at hcon
  refine hcon.mono ?_
  rintro e w' ⟨rfl, d', m, os, hp, hs, rfl⟩
  have hsz : d'.size = n := by rw [hp.1]; simpa using hl
  obtain ⟨o1, o2⟩ := own_sorted (m := m) (es' := d'.toList) (os := os) h (by simp; omega)
  rw [Array.toArray_toList] at o1 o2
  refine ⟨rfl, d'.toList, (show Hid _ from ⟨by simp; omega, fun i j x y hx hy hij => ?_, fun x => ?_⟩), o1, o2⟩
  · have hj : j < n := by rw [← hsz]; simpa using (List.getElem?_eq_some_iff.1 hy).1
    have h1 := hs i j (Nat.zero_le _) hij hj
    have hx2 := cell_get (d := d') (k := i) (by omega)
    have hy2 := cell_get (d := d') (k := j) (by omega)
    rw [hx] at hx2
    rw [hy] at hy2
    rw [← Option.some.inj hx2, ← Option.some.inj hy2, lt_cmpE] at h1
    rw [h1]; decide
  · have h2 := hp.2.2.mem_iff (a := x)
    have e1 : (d'.extract 0 n).toList = d'.toList := by rw [← hsz]; simp
    have e2 : (es.toArray.extract 0 n).toList = es := by rw [← hl]; simp
    rw [e1, e2] at h2
    exact h2
end Go.Proofs.YtmlembcpamchjaaDoor
