/- Plain: traces of one system that are none of another; simulation keeps traces, and determinism makes it inclusion. No program in sight. | Plain: a valid system's edges rise; a system without its unreachable states is bisimilar to it. No program in sight. | Plain: composition keeps bisimilarity. No program in sight. | Plain: sorted lists of edges. No program in sight. | Plain: what the composition of two systems comes to. No program in sight. | impl.newParts, walked: systems that run together, and their moves. | (impl.parts).next, walked: the nodes to which a letter leads come behind what is handed in. | The laying of slices.SortFunc at edges (printed by wip/gen_lay.py for the numbers of ONE seat). -/
import Derived.Test.YtcmgkekaeafgaaaDoorG09
import Derived.Test.YtcmgkekaeafgaaaDoorG07
import Derived.Test.YtcmgkekaeafgaaaDoorG06
import Derived.Test.YtcmgkekaeafgaaaDoorG05
import Derived.Test.YtcmgkekaeafgaaaDoorG02
import Derived.Deep.DeepCutAuto
import Derived.Shelf.SlSortCmp.NoneTotal
namespace Go.Proofs.YtcmgkekaeafgaaaDoor
open Go Go.RowKit

/-- A node is a state and a set of states; what follows it by a letter. -/
def dW (es es' : List Edg) (Z n l : Nat) : List Nat := (letters (succ es (n / Z : Nat) l) 32).map fun q => q * Z + stepB es' (n % Z) l
section
variable {es es' : List Edg} {p q : Nat}
theorem dW_mem (hp : p ≤ 16) (hf : Few p es) (hg : Few q es') {n l x : Nat} : x ∈ dW es es' (2 ^ q) n l ↔ E es (n / 2 ^ q) l (x / 2 ^ q) ∧ x % 2 ^ q = stepB es' (n % 2 ^ q) l := by
  have hZ := Nat.two_pow_pos q
  have hy := stepB_lt hg (n % 2 ^ q) l
  unfold dW
  rw [List.mem_map]
  constructor
  · rintro ⟨k, hk, rfl⟩
    have h1 : (k * 2 ^ q + stepB es' (n % 2 ^ q) l) / 2 ^ q = k := by
      rw [Nat.mul_comm, Nat.mul_add_div hZ, Nat.div_eq_of_lt hy, Nat.add_zero]
    have h2 : (k * 2 ^ q + stepB es' (n % 2 ^ q) l) % 2 ^ q = stepB es' (n % 2 ^ q) l := by
      rw [Nat.mul_comm, Nat.mul_add_mod, Nat.mod_eq_of_lt hy]
    rw [h1, h2]
    exact ⟨(E_iff hf _ _ _).2 (mem_letters.1 hk).2, rfl⟩
  · rintro ⟨h1, h2⟩
    have h3 := (E_iff hf _ _ _).1 h1
    refine ⟨x / 2 ^ q, mem_letters.2 ⟨?_, h3⟩, ?_⟩
    · obtain ⟨e, he, _, _, h5⟩ := h1
      have := hf e he
      omega
    · rw [← h2, Nat.mul_comm]
      exact Nat.div_add_mod x (2 ^ q)
/-- What a word leads to in a system that is simulated: the set holds a state that simulates. -/
theorem sim_goes (hp : p ≤ 16) (hf : Few p es) (hg : Few q es') (hq : 1 ≤ q) {both : Bool} {R : List Nat} (hR : Gfp both es es' p q R) (h0 : rel R 0 0) {v : List Nat} {x : Nat} (hx : Goes (dW es es' (2 ^ q)) [1] v x) : ∃ j, rel R (x / 2 ^ q) j ∧ (x % 2 ^ q).testBit j = true := by
  have hZ : 2 ≤ 2 ^ q := by
    have := Nat.pow_le_pow_right (n := 2) (by omega) hq
    omega
  induction hx with
  | nil h =>
    obtain rfl := List.mem_singleton.1 h
    exact ⟨0, by rw [Nat.div_eq_of_lt (by omega)]; exact h0, by rw [Nat.mod_eq_of_lt (by omega)]; rfl⟩
  | @snoc w l n x _ h ih =>
    obtain ⟨j, hj, hb⟩ := ih
    obtain ⟨h1, h2⟩ := (dW_mem hp hf hg).1 h
    obtain ⟨k', h3, h4⟩ := (hR.post _ _ hj).1 _ _ h1
    refine ⟨k', h4, ?_⟩
    rw [h2, stepB_bit]
    obtain ⟨e, he, e1, e2, e3⟩ := h3
    exact ⟨e, he, ⟨e2, by rw [show e.fr.toNat = j by omega]; exact hb⟩, by omega⟩
theorem sim_lost (hp : p ≤ 16) (hf : Few p es) (hg : Few q es') (hq : 1 ≤ q) {both : Bool} {R : List Nat} (hR : Gfp both es es' p q R) (h0 : rel R 0 0) (L : List Nat) : Lost (dW es es' (2 ^ q)) [1] (fun n => n % 2 ^ q == 0) L := by
  intro v _ x hx
  obtain ⟨j, _, hj⟩ := sim_goes hp hf hg hq hR h0 hx
  cases h : (x % 2 ^ q == 0)
  · exact h
  · rw [beq_iff_eq] at h
    rw [h, Nat.zero_testBit] at hj
    cases hj
/-- The states that traces lead to. -/
inductive Rch (es : List Edg) : Nat → Prop where
  | zero : Rch es 0
  | step {i l k : Nat} (h : Rch es i) (hk : E es i l k) : Rch es k
/-- Each trace leads to one state. -/
def Det (es : List Edg) : Prop := ∀ i l k k', Rch es i → E es i l k → E es i l k' → k = k'
theorem Det.one (hg : Few q es') (hd : Det es') {j l k : Nat} (hj : Rch es' j) (hk : (stepB es' (2 ^ j) l).testBit k = true) : stepB es' (2 ^ j) l = 2 ^ k := by
  rw [stepB_one hg] at hk ⊢
  apply Nat.eq_of_testBit_eq
  intro i
  rw [Bool.eq_iff_iff, Nat.testBit_two_pow, decide_eq_true_eq]
  constructor
  · intro h
    exact hd j l k i hj ((E_iff hg j l k).2 hk) ((E_iff hg j l i).2 h)
  · rintro rfl
    exact hk
theorem pow_lt_of {j q x : Nat} (h : x % 2 ^ q = 2 ^ j) : j < q := by
  have h1 := Nat.mod_lt x (Nat.two_pow_pos q)
  rw [h] at h1
  exact (Nat.pow_lt_pow_iff_right (by omega)).1 h1
/-- One letter more, where no word leads out. -/
theorem lost_step (hp : p ≤ 16) (hf : Few p es) (hg : Few q es') {L : List Nat} (hL : ∀ i l k, E es i l k → l ∈ L) (hd : Det es') (h : Lost (dW es es' (2 ^ q)) [1] (fun n => n % 2 ^ q == 0) L)
    {v : List Nat} {x i j l k : Nat} (hv : ∀ l ∈ v, l ∈ L) (hx : Goes (dW es es' (2 ^ q)) [1] v x) (h1 : x / 2 ^ q = i) (h2 : x % 2 ^ q = 2 ^ j) (hj : Rch es' j) (hk : E es i l k) :
    l ∈ L ∧ ∃ k', E es' j l k' ∧ Goes (dW es es' (2 ^ q)) [1] (v ++ [l]) (k * 2 ^ q + 2 ^ k') := by
  have hl := hL _ _ _ hk
  have hZ := Nat.two_pow_pos q
  have hy := stepB_lt hg (2 ^ j) l
  have hm : k * 2 ^ q + stepB es' (2 ^ j) l ∈ dW es es' (2 ^ q) x l := by
    rw [dW_mem hp hf hg, h1, h2, Nat.mul_comm, Nat.mul_add_div hZ, Nat.div_eq_of_lt hy, Nat.add_zero, Nat.mul_add_mod, Nat.mod_eq_of_lt hy]
    exact ⟨hk, rfl⟩
  have hg2 := hx.snoc hm
  have hne := h (v ++ [l]) (fun m hm => by
    rcases List.mem_append.1 hm with h | h
    · exact hv m h
    · rw [List.mem_singleton.1 h]; exact hl) _ hg2
  simp only [beq_eq_false_iff_ne, ne_eq] at hne
  rw [Nat.mul_comm, Nat.mul_add_mod, Nat.mod_eq_of_lt hy] at hne
  obtain ⟨k', hk'⟩ := ne_zero_bit.1 hne
  rw [hd.one hg hj hk'] at hg2
  refine ⟨hl, k', ?_, hg2⟩
  rw [stepB_one hg] at hk'
  exact (E_iff hg j l k').2 hk'
theorem node_div {k q k' : Nat} (h : k' < q) : (k * 2 ^ q + 2 ^ k') / 2 ^ q = k ∧ (k * 2 ^ q + 2 ^ k') % 2 ^ q = 2 ^ k' := by
  have hZ := Nat.two_pow_pos q
  have hy : 2 ^ k' < 2 ^ q := (Nat.pow_lt_pow_iff_right (by omega)).2 h
  rw [Nat.mul_comm, Nat.mul_add_div hZ, Nat.div_eq_of_lt hy, Nat.add_zero, Nat.mul_add_mod, Nat.mod_eq_of_lt hy]
  exact ⟨rfl, rfl⟩
theorem E_lt (hf : Few p es) {i l k : Nat} (h : E es i l k) : i < p ∧ k < p := by
  obtain ⟨e, he, h1, h2, h3⟩ := h
  have := hf e he
  omega
theorem node_one (hq : 1 ≤ q) : 1 / 2 ^ q = 0 ∧ 1 % 2 ^ q = 2 ^ 0 := by
  have hZ : 2 ≤ 2 ^ q := by
    have := Nat.pow_le_pow_right (n := 2) (by omega) hq
    omega
  exact ⟨Nat.div_eq_of_lt (by omega), Nat.mod_eq_of_lt (by omega)⟩
/-- Determinism makes inclusion simulation. -/
theorem lost_sim (hp1 : 1 ≤ p) (hp : p ≤ 16) (hf : Few p es) (hg : Few q es') (hq : 1 ≤ q) {L : List Nat} (hL : ∀ i l k, E es i l k → l ∈ L) (hd : Det es') (h : Lost (dW es es' (2 ^ q)) [1] (fun n => n % 2 ^ q == 0) L)
    {R : List Nat} (hR : Gfp false es es' p q R) : rel R 0 0 := by
  refine hR.great (fun i j => i < p ∧ Rch es' j ∧ ∃ v x, (∀ l ∈ v, l ∈ L) ∧ Goes (dW es es' (2 ^ q)) [1] v x ∧ x / 2 ^ q = i ∧ x % 2 ^ q = 2 ^ j) ?_ 0 0 ⟨by omega, .zero, [], 1, (fun l hl => by cases hl), .nil (by simp), (node_one hq).1, (node_one hq).2⟩
  rintro i j ⟨hi, hj, v, x, hv, hx, h1, h2⟩
  refine ⟨hi, pow_lt_of h2, fun l k hk => ?_, fun hb => by cases hb⟩
  obtain ⟨hl, k', e', g'⟩ := lost_step hp hf hg hL hd h hv hx h1 h2 hj hk
  obtain ⟨d1, d2⟩ := node_div (k := k) (E_lt hg e').2
  refine ⟨k', e', (E_lt hf hk).2, hj.step e', v ++ [l], _, fun m hm => ?_, g', d1, d2⟩
  rcases List.mem_append.1 hm with h | h
  · exact hv m h
  · rw [List.mem_singleton.1 h]; exact hl
/-- Determinism of both makes equality bisimilarity. -/
theorem lost_bis (hp1 : 1 ≤ p) (hp : p ≤ 16) (hf : Few p es) (hg : Few q es') (hq : 1 ≤ q) (hq2 : q ≤ 16) {L : List Nat} (hL : ∀ i l k, E es i l k → l ∈ L) (hL' : ∀ i l k, E es' i l k → l ∈ L) (hd : Det es) (hd' : Det es')
    (h : Lost (dW es es' (2 ^ q)) [1] (fun n => n % 2 ^ q == 0) L) (h' : Lost (dW es' es (2 ^ p)) [1] (fun n => n % 2 ^ p == 0) L) {R : List Nat} (hR : Gfp true es es' p q R) : rel R 0 0 := by
  refine hR.great (fun i j => Rch es i ∧ Rch es' j ∧ ∃ v x y, (∀ l ∈ v, l ∈ L) ∧ Goes (dW es es' (2 ^ q)) [1] v x ∧ x / 2 ^ q = i ∧ x % 2 ^ q = 2 ^ j ∧ Goes (dW es' es (2 ^ p)) [1] v y ∧ y / 2 ^ p = j ∧ y % 2 ^ p = 2 ^ i) ?_ 0 0 ⟨.zero, .zero, [], 1, 1, (fun l hl => by cases hl), .nil (by simp), (node_one hq).1, (node_one hq).2, .nil (by simp), (node_one hp1).1, (node_one hp1).2⟩
  rintro i j ⟨hi, hj, v, x, y, hv, hx, h1, h2, hy, h3, h4⟩
  have key : ∀ l k k', E es i l k → E es' j l k' → ∃ v x y, (∀ l ∈ v, l ∈ L) ∧ Goes (dW es es' (2 ^ q)) [1] v x ∧ x / 2 ^ q = k ∧ x % 2 ^ q = 2 ^ k' ∧ Goes (dW es' es (2 ^ p)) [1] v y ∧ y / 2 ^ p = k' ∧ y % 2 ^ p = 2 ^ k := by
    intro l k k' hk hk'
    obtain ⟨hl, m', e', g'⟩ := lost_step hp hf hg hL hd' h hv hx h1 h2 hj hk
    obtain ⟨_, m, e, g⟩ := lost_step hq2 hg hf hL' hd h' hv hy h3 h4 hi hk'
    obtain rfl := hd' j l k' m' hj hk' e'
    obtain rfl := hd i l k m hi hk e
    obtain ⟨d1, d2⟩ := node_div (k := k) (E_lt hg e').2
    obtain ⟨d3, d4⟩ := node_div (k := k') (E_lt hf e).2
    refine ⟨v ++ [l], _, _, fun m hm => ?_, g', d1, d2, g, d3, d4⟩
    rcases List.mem_append.1 hm with h | h
    · exact hv m h
    · rw [List.mem_singleton.1 h]; exact hl
  refine ⟨pow_lt_of h4, pow_lt_of h2, fun l k hk => ?_, fun _ l k' hk' => ?_⟩
  · obtain ⟨_, k', e', _⟩ := lost_step hp hf hg hL hd' h hv hx h1 h2 hj hk
    exact ⟨k', e', hi.step hk, hj.step e', key l k k' hk e'⟩
  · obtain ⟨_, k, e, _⟩ := lost_step hq2 hg hf hL' hd h' hv hy h3 h4 hi hk'
    exact ⟨k, e, hi.step e, hj.step hk', key l k k' e hk'⟩
end
end Go.Proofs.YtcmgkekaeafgaaaDoor

namespace Go.Proofs.YtcmgkekaeafgaaaDoor
open Go Go.RowKit

theorem ltE_trans {a b c : Edg} (h : ltE a b = true) (h' : ltE b c = true) : ltE a c = true := by
  unfold ltE at *
  (repeat' split at h) <;> (repeat' split at h') <;> (repeat' split) <;> simp only [decide_eq_true_eq] at * <;> omega
theorem ltE_iff {a b : Edg} : ltE a b = true ↔ a.fr < b.fr ∨ a.fr = b.fr ∧ (a.le < b.le ∨ a.le = b.le ∧ a.to < b.to) := by
  unfold ltE
  (repeat' split) <;> simp only [decide_eq_true_eq] <;> omega
/-- Each edge is behind the one ahead of it. -/
def Rising (es : List Edg) : Prop := ∀ (a b : Nat) (x y : Edg), es[a]? = some x → es[b]? = some y → a < b → ltE x y = true
theorem rising_of {es : List Edg} (h : ∀ k x y, es[k]? = some x → es[k + 1]? = some y → ltE x y = true) : Rising es := by
  intro a b x y hx hy hab
  induction b generalizing y with
  | zero => omega
  | succ b ih =>
    have hb := (List.getElem?_eq_some_iff.1 hy).1
    obtain ⟨z, hz⟩ : ∃ z, es[b]? = some z := ⟨_, List.getElem?_eq_getElem (by omega)⟩
    have h1 := h b z y hz hy
    rcases Nat.lt_or_ge a b with h2 | h2
    · exact ltE_trans (ih z hz h2) h1
    · obtain rfl : a = b := by omega
      rw [hx] at hz
      obtain rfl := Option.some.inj hz
      exact h1
theorem valid_iff {s : Sys} : sysValid s = true ↔ (0 ≤ s.al ∧ s.al ≤ 63) ∧ (1 ≤ s.st ∧ s.st ≤ 16) ∧ (∀ e ∈ s.edges, edgB s.al.toNat s.st e = true) ∧ Rising s.edges := by
  simp only [sysValid, Bool.and_eq_true, decide_eq_true_eq, List.all_eq_true, List.mem_range]
  constructor
  · rintro ⟨h1, h2, h3⟩
    refine ⟨h1, h2, fun e he => ?_, rising_of fun k x y hx hy => ?_⟩
    · obtain ⟨k, hk⟩ := List.getElem?_of_mem he
      have := h3 k (List.getElem?_eq_some_iff.1 hk).1
      rw [edgeOK, hk] at this
      simp only [Bool.and_eq_true] at this
      exact this.1
    · have := h3 (k + 1) (List.getElem?_eq_some_iff.1 hy).1
      unfold edgeOK at this
      rw [hy] at this
      simp only [Nat.add_sub_cancel, hx, Bool.and_eq_true, Bool.or_eq_true, decide_eq_true_eq] at this
      rcases this.2 with h | h
      · omega
      · exact h
  · rintro ⟨h1, h2, h3, h4⟩
    refine ⟨h1, h2, fun k hk => ?_⟩
    have hx : s.edges[k]? = some s.edges[k] := List.getElem?_eq_getElem hk
    unfold edgeOK
    rw [hx]
    simp only [Bool.and_eq_true, Bool.or_eq_true, decide_eq_true_eq]
    refine ⟨h3 _ (List.getElem_mem hk), ?_⟩
    cases k with
    | zero => exact Or.inl rfl
    | succ k =>
      have hy : s.edges[k]? = some s.edges[k] := List.getElem?_eq_getElem (by omega)
      simp only [Nat.add_sub_cancel, hy]
      exact Or.inr (h4 k (k + 1) _ _ hy hx (by omega))

/-- How many numbers of a set are below another. -/
def rk (R n : Nat) : Nat := (letters R n).length
theorem rk_succ (R n : Nat) : rk R (n + 1) = rk R n + if R.testBit n then 1 else 0 := by
  unfold rk
  rw [letters_succ, List.length_append]
  cases R.testBit n <;> simp
theorem rk_le (R n : Nat) : rk R n ≤ n := letters_length R n
theorem rk_mono {R a b : Nat} (h : a ≤ b) : rk R a ≤ rk R b := by
  induction b with
  | zero => rw [show a = 0 by omega]; exact Nat.le_refl _
  | succ b ih =>
    rcases Nat.lt_or_ge a (b + 1) with h1 | h1
    · rw [rk_succ]
      have := ih (by omega)
      omega
    · rw [show a = b + 1 by omega]; exact Nat.le_refl _
theorem rk_lt {R a b : Nat} (h : a < b) (ha : R.testBit a = true) : rk R a < rk R b := by
  have h1 := rk_mono (R := R) (show a + 1 ≤ b by omega)
  rw [rk_succ, ha] at h1
  simp at h1
  omega
theorem rk_inj {R a b : Nat} (ha : R.testBit a = true) (hb : R.testBit b = true) (h : rk R a = rk R b) : a = b := by
  rcases Nat.lt_trichotomy a b with h1 | h1 | h1
  · have := rk_lt h1 ha; omega
  · exact h1
  · have := rk_lt h1 hb; omega
/-- An edge between some states, which are numbered anew. -/
def subI (R : Nat) (e : Edg) : Bool := hasB R e.fr && hasB R e.to
def subJ (R : Nat) (e : Edg) : Edg := ⟨rk R e.fr.toNat, e.le, rk R e.to.toNat⟩
def subE (R : Nat) (es : List Edg) : List Edg := (es.filter (subI R)).map (subJ R)
theorem subE_snoc (R : Nat) (es : List Edg) (e : Edg) : subE R (es ++ [e]) = if subI R e then subE R es ++ [subJ R e] else subE R es := by
  unfold subE
  rw [List.filter_append, List.map_append]
  cases h : subI R e <;> simp [h]
/-- A system with only some of its states. -/
def subS (s : Sys) (R : Nat) : Sys := ⟨s.al, rk R 32, subE R s.edges⟩
/-- A set is that of the states that traces lead to. -/
def RchSet (es : List Edg) (p R : Nat) : Prop := R < 2 ^ p ∧ ∀ i, R.testBit i = true ↔ Rch es i
section
variable {es : List Edg} {p R : Nat}
theorem subE_E {a l b : Nat} : E (subE R es) a l b ↔ ∃ i k, R.testBit i = true ∧ R.testBit k = true ∧ E es i l k ∧ rk R i = a ∧ rk R k = b := by
  unfold E subE
  constructor
  · rintro ⟨e, he, h1, h2, h3⟩
    obtain ⟨x, hx, rfl⟩ := List.mem_map.1 he
    rw [List.mem_filter] at hx
    obtain ⟨hx, hi⟩ := hx
    simp only [subI, hasB, Bool.and_eq_true, decide_eq_true_eq] at hi
    simp only [subJ] at h1 h2 h3
    exact ⟨x.fr.toNat, x.to.toNat, hi.1.2, hi.2.2, ⟨x, hx, by omega, h2, by omega⟩, by omega, by omega⟩
  · rintro ⟨i, k, hi, hk, ⟨e, he, h1, h2, h3⟩, h4, h5⟩
    refine ⟨subJ R e, List.mem_map.2 ⟨e, List.mem_filter.2 ⟨he, ?_⟩, rfl⟩, ?_, h2, ?_⟩
    · simp only [subI, hasB, Bool.and_eq_true, decide_eq_true_eq]
      rw [h1, h3]
      exact ⟨⟨by omega, hi⟩, ⟨by omega, hk⟩⟩
    · simp only [subJ]; rw [h1, show ((i : Nat) : Int).toNat = i from rfl, h4]
    · simp only [subJ]; rw [h3, show ((k : Nat) : Int).toNat = k from rfl, h5]
/-- Without its unreachable states a system is bisimilar to itself. -/
theorem trim_bis (hp2 : p ≤ 32) (hR : RchSet es p R) {G : List Nat} (hG : Gfp true es (subE R es) p (rk R 32) G) : rel G 0 0 := by
  have lt : ∀ i, R.testBit i = true → i < p := fun i h => by
    rcases Nat.lt_or_ge i p with h1 | h1
    · exact h1
    · have := Nat.testBit_lt_two_pow (Nat.lt_of_lt_of_le hR.1 (Nat.pow_le_pow_right (by omega) h1))
      rw [this] at h; cases h
  have h0 : R.testBit 0 = true := (hR.2 0).2 .zero
  refine hG.great (fun i a => R.testBit i = true ∧ a = rk R i) ?_ 0 0 ⟨h0, rfl⟩
  rintro i a ⟨hi, rfl⟩
  refine ⟨lt i hi, rk_lt (by have := lt i hi; omega) hi, fun l k hk => ?_, fun _ l b hb => ?_⟩
  · have hk' : R.testBit k = true := (hR.2 k).2 (((hR.2 i).1 hi).step hk)
    exact ⟨rk R k, subE_E.2 ⟨i, k, hi, hk', hk, rfl, rfl⟩, hk', rfl⟩
  · obtain ⟨i', k, hi', hk, he, h1, h2⟩ := subE_E.1 hb
    obtain rfl := rk_inj hi' hi h1
    exact ⟨k, he, hk, h2.symm⟩
theorem subE_rising (hr : Rising es) : Rising (subE R es) := by
  have hp : es.Pairwise (fun x y => ltE x y = true) := by
    rw [List.pairwise_iff_getElem]
    intro i j hi hj hij
    exact hr i j _ _ (List.getElem?_eq_getElem hi) (List.getElem?_eq_getElem hj) hij
  have h2 : (subE R es).Pairwise (fun x y => ltE x y = true) := by
    unfold subE
    rw [List.pairwise_map]
    have h3 := hp.filter (subI R)
    have h4 : (es.filter (subI R)).Pairwise (fun x y => subI R x = true ∧ subI R y = true ∧ ltE x y = true) := by
      rw [List.pairwise_iff_getElem] at h3 ⊢
      intro i j hi hj hij
      exact ⟨(List.mem_filter.1 (List.getElem_mem hi)).2, (List.mem_filter.1 (List.getElem_mem hj)).2, h3 i j hi hj hij⟩
    refine h4.imp ?_
    rintro x y ⟨hx, hy, h⟩
    simp only [subI, hasB, Bool.and_eq_true, decide_eq_true_eq] at hx hy
    rw [ltE_iff] at h ⊢
    simp only [subJ]
    have k1 : x.fr < y.fr → rk R x.fr.toNat < rk R y.fr.toNat := fun h => rk_lt (by omega) hx.1.2
    have k2 : x.to < y.to → rk R x.to.toNat < rk R y.to.toNat := fun h => rk_lt (by omega) hx.2.2
    have k3 : x.fr = y.fr → rk R x.fr.toNat = rk R y.fr.toNat := fun h => by rw [h]
    rcases h with h | ⟨h1, h | ⟨h2, h⟩⟩
    · have := k1 h
      omega
    · have := k3 h1
      omega
    · have := k3 h1
      have := k2 h
      omega
  intro a b x y hx hy hab
  obtain ⟨ha, rfl⟩ := List.getElem?_eq_some_iff.1 hx
  obtain ⟨hb, rfl⟩ := List.getElem?_eq_some_iff.1 hy
  exact List.pairwise_iff_getElem.1 h2 a b ha hb hab
end
theorem sub_valid {s : Sys} {p R : Nat} (h : sysValid s = true) (hp : s.st = p) (hR : RchSet s.edges p R) : sysValid (subS s R) = true := by
  obtain ⟨h1, h2, h3, h4⟩ := valid_iff.1 h
  have hrp : rk R 32 ≤ 16 := by
    have : ∀ d, rk R (16 + d) ≤ 16 := by
      intro d
      induction d with
      | zero => exact rk_le R 16
      | succ d ih =>
        rw [show 16 + (d + 1) = 16 + d + 1 by omega, rk_succ]
        have hb : R.testBit (16 + d) = false := Nat.testBit_lt_two_pow (Nat.lt_of_lt_of_le hR.1 (Nat.pow_le_pow_right (by omega) (by omega)))
        rw [hb]
        simpa using ih
    exact this 16
  have hr1 : 0 < rk R 32 := by
    have := rk_lt (R := R) (show 0 < 32 by omega) ((hR.2 0).2 .zero)
    omega
  have hlt : ∀ i, R.testBit i = true → rk R i < rk R 32 := fun i hi => by
    refine rk_lt ?_ hi
    rcases Nat.lt_or_ge i 32 with h | h
    · exact h
    · have : R.testBit i = false := Nat.testBit_lt_two_pow (Nat.lt_of_lt_of_le hR.1 (Nat.pow_le_pow_right (by omega) (by omega)))
      rw [this] at hi; cases hi
  refine valid_iff.2 ⟨h1, ⟨by simp only [subS]; omega, by simp only [subS]; omega⟩, fun e he => ?_, subE_rising h4⟩
  obtain ⟨x, hx, rfl⟩ := List.mem_map.1 he
  obtain ⟨hx, hi⟩ := List.mem_filter.1 hx
  have := h3 x hx
  simp only [subI, edgB, subS, subJ, hasB, Bool.and_eq_true, decide_eq_true_eq] at hi this ⊢
  have a1 := hlt _ hi.1.2
  have a2 := hlt _ hi.2.2
  exact ⟨⟨decide_eq_true (by omega), decide_eq_true (by omega)⟩, ⟨decide_eq_true (by omega), decide_eq_true (by omega)⟩, decide_eq_true this.2.2.1, decide_eq_true this.2.2.2.1, this.2.2.2.2⟩
theorem simB_rel2 {both : Bool} {s t : Sys} (h : sameB s t = true) : simB both s t = true ↔ rel (gfp both s t) 0 0 := by
  unfold simB
  rw [h, Bool.true_and]
  exact ⟨fun x => rel_getD x, fun x => x.2⟩
theorem gfp_at {both : Bool} {s t : Sys} {p q : Nat} (hp : s.st = p) (hq : t.st = q) : Gfp both s.edges t.edges p q (gfp both s t) := by
  have := gfp_spec both s t
  rw [hp, hq] at this
  exact this
/-- Trimming does not matter for simulation. -/
theorem trim_sim {s t : Sys} {p q R T : Nat} (h : sameB s t = true) (hp : s.st = p) (hq : t.st = q) (hR : RchSet s.edges p R) (hT : RchSet t.edges q T) : simB false (subS s R) (subS t T) = simB false s t := by
  obtain ⟨v1, v2, v3⟩ := same_valid h
  have w1 := sub_valid v1 hp hR
  have w2 := sub_valid v2 hq hT
  have h' : sameB (subS s R) (subS t T) = true := by
    simp only [sameB, w1, w2, Bool.true_and, beq_iff_eq]
    exact v3
  obtain ⟨p', hp', p1, p2, hf⟩ := valid_few v1
  obtain ⟨q', hq', q1, q2, hg⟩ := valid_few v2
  obtain rfl : p' = p := by omega
  obtain rfl : q' = q := by omega
  have A := gfp_at (both := true) hp' (show (subS s R).st = (rk R 32 : Nat) from rfl)
  have B := gfp_at (both := true) hq' (show (subS t T).st = (rk T 32 : Nat) from rfl)
  have A' := gfp_at (both := true) (show (subS s R).st = (rk R 32 : Nat) from rfl) hp'
  have B' := gfp_at (both := true) (show (subS t T).st = (rk T 32 : Nat) from rfl) hq'
  have a0 := trim_bis (by omega) hR A
  have b0 := trim_bis (by omega) hT B
  have a0' := A.symm A' a0
  have b0' := B.symm B' b0
  have fA := gfp_at (both := false) hp' (show (subS s R).st = (rk R 32 : Nat) from rfl)
  have fB := gfp_at (both := false) hq' (show (subS t T).st = (rk T 32 : Nat) from rfl)
  have fA' := gfp_at (both := false) (show (subS s R).st = (rk R 32 : Nat) from rfl) hp'
  have fB' := gfp_at (both := false) (show (subS t T).st = (rk T 32 : Nat) from rfl) hq'
  have a1 := A.weak fA a0
  have b1 := B.weak fB b0
  have a2 := A'.weak fA' a0'
  have b2 := B'.weak fB' b0'
  have M := gfp_at (both := false) hp' hq'
  have M' := gfp_at (both := false) (show (subS s R).st = (rk R 32 : Nat) from rfl) (show (subS t T).st = (rk T 32 : Nat) from rfl)
  have X := gfp_at (both := false) (show (subS s R).st = (rk R 32 : Nat) from rfl) hq'
  have Y := gfp_at (both := false) hp' (show (subS t T).st = (rk T 32 : Nat) from rfl)
  rw [Bool.eq_iff_iff, simB_rel2 h, simB_rel2 h']
  constructor
  · intro r
    exact Y.trans fB' M (fA.trans M' Y a1 r) b2
  · intro r
    exact X.trans fB M' (fA'.trans M X a2 r) b1
end Go.Proofs.YtcmgkekaeafgaaaDoor

namespace Go.Proofs.YtcmgkekaeafgaaaDoor
open Go Go.RowKit

/-- Two systems move together from a pair to a pair; a pair is a number, in which the second counts least. -/
def Jst (s u : Sys) (q m l n : Nat) : Prop :=
  (if s.al.toNat.testBit l then E s.edges (m / q) l (n / q) else n / q = m / q) ∧ (if u.al.toNat.testBit l then E u.edges (m % q) l (n % q) else n % q = m % q)
/-- x is what two systems make together. -/
structure CompOf (s u : Sys) (q : Nat) (x : Sys) : Prop where
  valid : sysValid x = true
  al : x.al = (s.al.toNat ||| u.al.toNat : Nat)
  pairs : ∃ P : List Nat, x.st = P.length ∧ P[0]? = some 0 ∧ (∀ a l b, E x.edges a l b ↔ (s.al.toNat ||| u.al.toNat).testBit l = true ∧ ∃ m n, P[a]? = some m ∧ P[b]? = some n ∧ Jst s u q m l n) ∧
    ∀ m ∈ P, ∀ l n, (s.al.toNat ||| u.al.toNat).testBit l = true → Jst s u q m l n → n ∈ P
theorem simB_sameC {both : Bool} {s t : Sys} (h : simB both s t = true) : sameB s t = true := by
  unfold simB at h
  cases hh : sameB s t <;> simp_all
theorem comp_bis {s t u x y : Sys} {q : Nat} (h : simB true s t = true) (hq : 1 ≤ q) (hx : CompOf s u q x) (hy : CompOf t u q y) : simB true x y = true := by
  have hst := simB_sameC h
  obtain ⟨v1, v2, hal⟩ := same_valid hst
  obtain ⟨ps, hps, _⟩ := valid_few v1
  obtain ⟨pt, hpt, _⟩ := valid_few v2
  have hG := gfp_at (both := true) hps hpt
  have h0 := (simB_rel2 hst).1 h
  obtain ⟨P, hP1, hP2, hP3, hP4⟩ := hx.pairs
  obtain ⟨Q, hQ1, hQ2, hQ3, hQ4⟩ := hy.pairs
  have hxy : sameB x y = true := by
    simp only [sameB, hx.valid, hy.valid, Bool.true_and, beq_iff_eq]
    rw [hx.al, hy.al, hal]
  have hZ := gfp_at (both := true) hP1 hQ1
  refine (simB_rel2 hxy).2 (hZ.great (fun a b => ∃ m m', P[a]? = some m ∧ Q[b]? = some m' ∧ rel (gfp true s t) (m / q) (m' / q) ∧ m % q = m' % q) ?_ 0 0 ⟨0, 0, hP2, hQ2, by simpa using h0, rfl⟩)
  rintro a b ⟨m, m', ha, hb, hr, hm⟩
  have hOk := hG.post _ _ hr
  refine ⟨(List.getElem?_eq_some_iff.1 ha).1, (List.getElem?_eq_some_iff.1 hb).1, fun l c hc => ?_, fun _ l d hd => ?_⟩
  · obtain ⟨hl, m1, n, h1, h2, hJ⟩ := (hP3 a l c).1 hc
    rw [ha] at h1
    obtain rfl := Option.some.inj h1
    obtain ⟨k', hk1, hk2⟩ : ∃ k', (if t.al.toNat.testBit l then E t.edges (m' / q) l k' else k' = m' / q) ∧ rel (gfp true s t) (n / q) k' := by
      have hJ1 := hJ.1
      rw [hal] at hJ1
      cases hb2 : t.al.toNat.testBit l
      · rw [hb2] at hJ1
        exact ⟨m' / q, by simp, by simp at hJ1; rw [hJ1]; exact hr⟩
      · rw [hb2] at hJ1
        obtain ⟨k', e1, e2⟩ := hOk.1 l _ (by simpa using hJ1)
        exact ⟨k', by simpa using e1, e2⟩
    have hnq := Nat.mod_lt n hq
    have d1 : (k' * q + n % q) / q = k' := by rw [Nat.add_comm, Nat.add_mul_div_right _ _ hq, Nat.div_eq_of_lt hnq, Nat.zero_add]
    have d2 : (k' * q + n % q) % q = n % q := by rw [Nat.add_comm, Nat.add_mul_mod_self_right, Nat.mod_eq_of_lt hnq]
    have hJ' : Jst t u q m' l (k' * q + n % q) := ⟨by rw [d1]; exact hk1, by rw [d2, ← hm]; exact hJ.2⟩
    have hl' : (t.al.toNat ||| u.al.toNat).testBit l = true := by rw [← hal]; exact hl
    obtain ⟨d, hd⟩ := List.getElem?_of_mem (hQ4 m' (List.mem_of_getElem? hb) l _ hl' hJ')
    exact ⟨d, (hQ3 b l d).2 ⟨hl', m', _, hb, hd, hJ'⟩, n, _, h2, hd, by rw [d1]; exact hk2, d2.symm⟩
  · obtain ⟨hl, m1, n, h1, h2, hJ⟩ := (hQ3 b l d).1 hd
    rw [hb] at h1
    obtain rfl := Option.some.inj h1
    obtain ⟨k', hk1, hk2⟩ : ∃ k', (if s.al.toNat.testBit l then E s.edges (m / q) l k' else k' = m / q) ∧ rel (gfp true s t) k' (n / q) := by
      have hJ1 := hJ.1
      rw [← hal] at hJ1
      cases hb2 : s.al.toNat.testBit l
      · rw [hb2] at hJ1
        exact ⟨m / q, by simp, by simp at hJ1; rw [hJ1]; exact hr⟩
      · rw [hb2] at hJ1
        obtain ⟨k', e1, e2⟩ := hOk.2 rfl l _ (by simpa using hJ1)
        exact ⟨k', by simpa using e1, e2⟩
    have hnq := Nat.mod_lt n hq
    have d1 : (k' * q + n % q) / q = k' := by rw [Nat.add_comm, Nat.add_mul_div_right _ _ hq, Nat.div_eq_of_lt hnq, Nat.zero_add]
    have d2 : (k' * q + n % q) % q = n % q := by rw [Nat.add_comm, Nat.add_mul_mod_self_right, Nat.mod_eq_of_lt hnq]
    have hJ' : Jst s u q m l (k' * q + n % q) := ⟨by rw [d1]; exact hk1, by rw [d2, hm]; exact hJ.2⟩
    have hl' : (s.al.toNat ||| u.al.toNat).testBit l = true := by rw [hal]; exact hl
    obtain ⟨c, hc⟩ := List.getElem?_of_mem (hP4 m (List.mem_of_getElem? ha) l _ hl' hJ')
    exact ⟨c, (hP3 a l c).2 ⟨hl', m, _, ha, hc, hJ'⟩, _, n, hc, h2, by rw [d1]; exact hk2, d2⟩
end Go.Proofs.YtcmgkekaeafgaaaDoor

namespace Go.Proofs.YtcmgkekaeafgaaaDoor
open Go Go.RowKit

theorem ltE_irr {a : Edg} : ¬ ltE a a = true := by
  rw [ltE_iff]
  omega
theorem ltE_tri (a b : Edg) : ltE a b = true ∨ a = b ∨ ltE b a = true := by
  rw [ltE_iff, ltE_iff]
  obtain ⟨a1, a2, a3⟩ := a
  obtain ⟨b1, b2, b3⟩ := b
  simp only [Edg.mk.injEq]
  omega
/-- A sorted list. -/
def Srt (es : List Edg) : Prop := ∀ (i j : Nat) (x y : Edg), es[i]? = some x → es[j]? = some y → i < j → ¬ ltE y x = true
end Go.Proofs.YtcmgkekaeafgaaaDoor

namespace Go.Proofs.YtcmgkekaeafgaaaDoor
open Go Go.RowKit

def nxt (s u : Sys) (m l : Nat) : List Nat := (nx [s, u] m l).1
theorem sml_valid {s : Sys} (h : sysValid s = true) : Sml s := by
  obtain ⟨p, hp, h1, h2, hf⟩ := valid_few h
  obtain ⟨⟨a1, a2⟩, _⟩ := valid_iff.1 h
  refine ⟨by omega, by omega, ?_, a1, a2⟩
  rw [hp, Int.toNat_natCast]
  exact hf
theorem cho_E {s : Sys} (h : Sml s) {i l k : Nat} : k ∈ cho s i l ↔ if s.al.toNat.testBit l then E s.edges i l k else k = i := by
  unfold cho
  split
  · rw [letters_mem]
    constructor
    · rintro ⟨_, hb⟩
      obtain ⟨e, he, ⟨h1, h2⟩, h3⟩ := (succ_bit s.edges i l k).1 hb
      obtain ⟨_, _, ⟨t0, _⟩⟩ := h.2.2.1 e he
      exact ⟨e, he, h1, h2, by omega⟩
    · rintro ⟨e, he, h1, h2, h3⟩
      obtain ⟨_, _, ⟨t0, t1⟩⟩ := h.2.2.1 e he
      have := h.2.1
      exact ⟨by omega, (succ_bit s.edges i l k).2 ⟨e, he, ⟨h1, h2⟩, by omega⟩⟩
  · exact List.mem_singleton
theorem nxt_eq (s u : Sys) (m l : Nat) : nxt s u m l = (cho s (m / u.st.toNat % s.st.toNat) l).flatMap fun i => (cho u (m % u.st.toNat) l).map fun k => i * u.st.toNat + k := by
  unfold nxt
  have : ∀ L : List Nat, (L.flatMap fun q => [0].map fun x => q * 1 + x) = L := fun L => by
    induction L with
    | nil => rfl
    | cons a r ih => rw [List.flatMap_cons, ih]; simp
  simp only [nx, Nat.one_mul]
  rw [this]
theorem mem_nxt {s u : Sys} (hs : Sml s) (hu : Sml u) {m l n : Nat} (hm : m < s.st.toNat * u.st.toNat) : n ∈ nxt s u m l ↔ Jst s u u.st.toNat m l n := by
  have hq : 0 < u.st.toNat := by have := hu.1; omega
  have hdv : m / u.st.toNat < s.st.toNat := by
    rw [Nat.div_lt_iff_lt_mul hq]
    exact hm
  rw [nxt_eq, Nat.mod_eq_of_lt hdv]
  unfold Jst
  rw [← cho_E hs, ← cho_E hu]
  constructor
  · intro h
    obtain ⟨i, hi, h⟩ := List.mem_flatMap.1 h
    obtain ⟨k, hk, rfl⟩ := List.mem_map.1 h
    have hk' := cho_lt hu (Nat.mod_lt m hq) k hk
    have d1 : (i * u.st.toNat + k) / u.st.toNat = i := by rw [Nat.add_comm, Nat.add_mul_div_right _ _ hq, Nat.div_eq_of_lt hk', Nat.zero_add]
    have d2 : (i * u.st.toNat + k) % u.st.toNat = k := by rw [Nat.add_comm, Nat.add_mul_mod_self_right, Nat.mod_eq_of_lt hk']
    rw [d1, d2]
    exact ⟨hi, hk⟩
  · rintro ⟨h1, h2⟩
    refine List.mem_flatMap.2 ⟨_, h1, List.mem_map.2 ⟨_, h2, ?_⟩⟩
    rw [Nat.mul_comm]
    exact Nat.div_add_mod n _
theorem nxt_lt {s u : Sys} (hs : Sml s) (hu : Sml u) {m l n : Nat} (h : n ∈ nxt s u m l) : n < s.st.toNat * u.st.toNat := by
  have := (nx_facts (ss := [s, u]) (fun x hx => by simp at hx; rcases hx with rfl | rfl <;> assumption) m l).2.2.1 n h
  simp only [nx, Nat.one_mul] at this
  rw [Nat.mul_comm]
  exact this
theorem nxt_nodup {s u : Sys} (hs : Sml s) (hu : Sml u) (m l : Nat) : (nxt s u m l).Nodup :=
  (nx_facts (ss := [s, u]) (fun x hx => by simp at hx; rcases hx with rfl | rfl <;> assumption) m l).2.2.2.1
theorem nxt_len {s u : Sys} (hs : Sml s) (hu : Sml u) (m l : Nat) : (nxt s u m l).length ≤ 256 := by
  have := nx_len (ss := [s, u]) (fun x hx => by simp at hx; rcases hx with rfl | rfl <;> assumption) m l
  simpa [nxt] using this
/-- The edges over one letter of one pair; over some letters; of some pairs. -/
def eA (s u : Sys) (P : List Nat) (a l m : Nat) : List Edg := (nxt s u m l).map fun n => ⟨(a : Nat), (l : Nat), (P.idxOf n : Nat)⟩
def eL (s u : Sys) (P : List Nat) (L : List Nat) (a m : Nat) : List Edg := L.flatMap fun l => eA s u P a l m
def eP (s u : Sys) (P : List Nat) (L : List Nat) (k : Nat) : List Edg := (List.range k).flatMap fun a => eL s u P L a (P.getD a 0)
theorem mem_eP {s u : Sys} {P L : List Nat} {k : Nat} {e : Edg} : e ∈ eP s u P L k ↔ ∃ a l n, a < k ∧ l ∈ L ∧ n ∈ nxt s u (P.getD a 0) l ∧ e = ⟨(a : Nat), (l : Nat), (P.idxOf n : Nat)⟩ := by
  simp only [eP, eL, eA, List.mem_flatMap, List.mem_map, List.mem_range]
  constructor
  · rintro ⟨a, ha, l, hl, n, hn, rfl⟩
    exact ⟨a, l, n, ha, hl, hn, rfl⟩
  · rintro ⟨a, l, n, ha, hl, hn, rfl⟩
    exact ⟨a, ha, l, hl, n, hn, rfl⟩
theorem idx_get {P : List Nat} {n : Nat} (h : n ∈ P) : P[P.idxOf n]? = some n := by
  have hl := List.idxOf_lt_length_of_mem h
  rw [List.getElem?_eq_getElem hl, List.getElem_idxOf hl]
theorem idx_inj {P : List Nat} {m n : Nat} (hm : m ∈ P) (hn : n ∈ P) (h : P.idxOf m = P.idxOf n) : m = n := by
  have h1 := idx_get hm
  rw [h, idx_get hn] at h1
  exact (Option.some.inj h1).symm
theorem flat_pair {α β : Type} {l : List α} {f : α → List β} {R : β → β → Prop} (h : l.Pairwise fun a b => ∀ x ∈ f a, ∀ y ∈ f b, R x y) (hf : ∀ a ∈ l, (f a).Pairwise R) : (l.flatMap f).Pairwise R := by
  induction l with
  | nil => simp
  | cons a r ih =>
    rw [List.flatMap_cons, List.pairwise_append]
    rw [List.pairwise_cons] at h
    refine ⟨hf a List.mem_cons_self, ih h.2 fun b hb => hf b (List.mem_cons_of_mem _ hb), fun x hx y hy => ?_⟩
    obtain ⟨b, hb, hy⟩ := List.mem_flatMap.1 hy
    exact h.1 b hb x hx y hy
theorem eP_nodup {s u : Sys} {P L : List Nat} {k : Nat} (hs : Sml s) (hu : Sml u) (hL : L.Nodup) (hc : ∀ a, a < k → ∀ l ∈ L, ∀ n ∈ nxt s u (P.getD a 0) l, n ∈ P) : (eP s u P L k).Nodup := by
  unfold eP
  refine flat_pair ?_ fun a ha => ?_
  · refine List.Pairwise.imp_of_mem ?_ (List.nodup_range (n := k))
    intro a b ha hb hab x hx y hy hxy
    simp only [eL, eA, List.mem_flatMap, List.mem_map] at hx hy
    obtain ⟨l, _, n, _, rfl⟩ := hx
    obtain ⟨l', _, n', _, rfl⟩ := hy
    simp only [Edg.mk.injEq] at hxy
    exact hab (by omega)
  · have ha := List.mem_range.1 ha
    unfold eL
    refine flat_pair ?_ fun l hl => ?_
    · refine List.Pairwise.imp_of_mem ?_ hL
      intro l l' _ _ hll x hx y hy hxy
      simp only [eA, List.mem_map] at hx hy
      obtain ⟨n, _, rfl⟩ := hx
      obtain ⟨n', _, rfl⟩ := hy
      simp only [Edg.mk.injEq] at hxy
      exact hll (by omega)
    · unfold eA
      rw [List.pairwise_map]
      refine List.Pairwise.imp_of_mem ?_ (nxt_nodup hs hu _ _)
      intro n n' hn hn' hne hxy
      simp only [Edg.mk.injEq] at hxy
      exact hne (idx_inj (hc a ha l hl n hn) (hc a ha l hl n' hn') (by omega))
/-- Sorted pairs, and their edges sorted: that is the composition. -/
theorem comp_spec {s u : Sys} {P L : List Nat} {es : List Edg} (hs : Sml s) (hu : Sml u) (hL : L = letters (s.al.toNat ||| u.al.toNat) 6) (hP0 : P[0]? = some 0) (hP16 : P.length ≤ 16) (hPn : P.Nodup) (hPq : ∀ m ∈ P, m < s.st.toNat * u.st.toNat)
    (hc : ∀ m ∈ P, ∀ l ∈ L, ∀ n ∈ nxt s u m l, n ∈ P) (hes : Srt es) (hp : es.Perm (eP s u P L P.length)) : CompOf s u u.st.toNat ⟨(s.al.toNat ||| u.al.toNat : Nat), (P.length : Nat), es⟩ := by
  have hor : s.al.toNat ||| u.al.toNat < 2 ^ 6 := Nat.or_lt_two_pow (by have := hs.2.2.2; omega) (by have := hu.2.2.2; omega)
  have hb6 : ∀ l, (s.al.toNat ||| u.al.toNat).testBit l = true → l < 6 := fun l h => by
    rcases Nat.lt_or_ge l 6 with h1 | h1
    · exact h1
    · rw [Nat.testBit_lt_two_pow (Nat.lt_of_lt_of_le hor (Nat.pow_le_pow_right (by omega) h1))] at h
      cases h
  have hmL : ∀ l, l ∈ L ↔ (s.al.toNat ||| u.al.toNat).testBit l = true := fun l => by
    rw [hL, letters_mem]
    exact ⟨fun h => h.2, fun h => ⟨hb6 l h, h⟩⟩
  have hgD : ∀ a m, P[a]? = some m → P.getD a 0 = m := fun a m h => by rw [List.getD_eq_getElem?_getD, h]; rfl
  have hlen1 : 0 < P.length := (List.getElem?_eq_some_iff.1 hP0).1
  have hc' : ∀ a, a < P.length → ∀ l ∈ L, ∀ n ∈ nxt s u (P.getD a 0) l, n ∈ P := fun a ha => hc _ (by
    rw [hgD a P[a] (List.getElem?_eq_getElem ha)]
    exact List.getElem_mem ha)
  have hmem : ∀ e, e ∈ es ↔ ∃ a l n, a < P.length ∧ l ∈ L ∧ n ∈ nxt s u (P.getD a 0) l ∧ e = ⟨(a : Nat), (l : Nat), (P.idxOf n : Nat)⟩ := fun e => by rw [hp.mem_iff, mem_eP]
  have hnd : es.Nodup := hp.symm.nodup_iff.1 (eP_nodup hs hu (by rw [hL]; exact letters_nodup _ _) hc')
  refine ⟨?_, rfl, P, rfl, hP0, fun a l b => ?_, fun m hm l n hl hJ => hc m hm l ((hmL l).2 hl) n ((mem_nxt hs hu (hPq m hm)).2 hJ)⟩
  · refine valid_iff.2 ⟨⟨by simp, by simp only; omega⟩, ⟨by simp only; omega, by simp only; omega⟩, fun e he => ?_, fun i j x y hx hy hij => ?_⟩
    · obtain ⟨a, l, n, ha, hl, hn, rfl⟩ := (hmem e).1 he
      have hi := List.idxOf_lt_length_of_mem (hc' a ha l hl n hn)
      have hl6 := hb6 l ((hmL l).1 hl)
      have hlb := (hmL l).1 hl
      simp [edgB, hasB, Int.toNat_natCast, hlb]
      omega
    · rcases ltE_tri x y with h | h | h
      · exact h
      · subst h
        obtain ⟨hi, h1⟩ := List.getElem?_eq_some_iff.1 hx
        obtain ⟨hj, h2⟩ := List.getElem?_eq_some_iff.1 hy
        exact absurd (h1.trans h2.symm) (List.pairwise_iff_getElem.1 hnd i j hi hj hij)
      · exact absurd h (hes i j x y hx hy hij)
  · constructor
    · rintro ⟨e, he, h1, h2, h3⟩
      obtain ⟨a', l', n, ha, hl, hn, rfl⟩ := (hmem e).1 he
      simp only at h1 h2 h3
      obtain rfl : a' = a := by omega
      obtain rfl : l' = l := by omega
      have hgm := List.getElem?_eq_getElem ha
      rw [hgD _ _ hgm] at hn
      have hnP := hc _ (List.getElem_mem ha) l' hl n hn
      exact ⟨(hmL _).1 hl, _, n, hgm, by rw [show b = P.idxOf n by omega]; exact idx_get hnP, (mem_nxt hs hu (hPq _ (List.getElem_mem ha))).1 hn⟩
    · rintro ⟨hl, m, n, ha, hb, hJ⟩
      have hn := (mem_nxt hs hu (hPq m (List.mem_of_getElem? ha))).2 hJ
      refine ⟨⟨(a : Nat), (l : Nat), (P.idxOf n : Nat)⟩, (hmem _).2 ⟨a, l, n, (List.getElem?_eq_some_iff.1 ha).1, (hmL l).2 hl, by rw [hgD a m ha]; exact hn, rfl⟩, rfl, rfl, ?_⟩
      have h1 := idx_get (List.mem_of_getElem? hb)
      obtain ⟨hb1, hb2⟩ := List.getElem?_eq_some_iff.1 hb
      obtain ⟨hi1, hi2⟩ := List.getElem?_eq_some_iff.1 h1
      have : P.idxOf n = b := by
        rcases Nat.lt_trichotomy (P.idxOf n) b with h | h | h
        · exact absurd (hi2.trans hb2.symm) (List.pairwise_iff_getElem.1 hPn _ _ hi1 hb1 h)
        · exact h
        · exact absurd (hb2.trans hi2.symm) (List.pairwise_iff_getElem.1 hPn _ _ hb1 hi1 h)
      simp only
      omega
end Go.Proofs.YtcmgkekaeafgaaaDoor

namespace Go.Proofs.YtcmgkekaeafgaaaDoor
open Go Go.RowKit
set_option maxHeartbeats 2000000

theorem info_pmov : (Tryd.prog.info? 74).map (fun i => (i.zero, i.size, i.bytes)) = some (some (.pointer none), 1, 8) := by kernel_rfl
def ptrs (bs : List Nat) : List Value := bs.map fun b => .pointer (some ⟨b, 0, none⟩)
/-- The blocks bs hold the moves of the systems. -/
def MovL (w : World) (bs : List Nat) (ss : List Sys) : Prop := bs.length = ss.length ∧ ∀ (i b : Nat) (s : Sys), bs[i]? = some b → ss[i]? = some s → MovB w b s.edges
theorem MovL.ext {w w' : World} {bs : List Nat} {ss : List Sys} (h : MovL w bs ss) (hx : Ext w w') : MovL w' bs ss := ⟨h.1, fun i b s hb hs => (h.2 i b s hb hs).ext hx⟩
theorem MovB.frm {S : Nat → Prop} {w w' : World} {b : Nat} {es : List Edg} (h : MovB w b es) (hx : Frm S w w') (hS : ¬ S b) : MovB w' b es := by
  obtain ⟨cs, hb, hc⟩ := h
  exact ⟨cs, hb.frm hx hS, hc⟩
theorem MovL.snoc {w w' : World} {bs : List Nat} {ss : List Sys} {b : Nat} {s : Sys} (h : MovL w bs ss) (hx : Ext w w') (hb : MovB w' b s.edges) : MovL w' (bs ++ [b]) (ss ++ [s]) := by
  have hl := h.1
  refine ⟨by simp [hl], fun i b' s' hb' hs' => ?_⟩
  rcases Nat.lt_trichotomy i bs.length with hi | hi | hi
  · rw [List.getElem?_append_left hi] at hb'
    rw [List.getElem?_append_left (by omega)] at hs'
    exact (h.2 i b' s' hb' hs').ext hx
  · rw [List.getElem?_append_right (by omega), hi, Nat.sub_self] at hb'
    rw [List.getElem?_append_right (by omega), hi, hl, Nat.sub_self] at hs'
    simp at hb' hs'
    subst hb'; subst hs'
    exact hb
  · rw [List.getElem?_eq_none (by simp; omega)] at hb'
    cases hb'
theorem MovL.frm {S : Nat → Prop} {w w' : World} {bs : List Nat} {ss : List Sys} (h : MovL w bs ss) (hx : Frm S w w') (hS : ∀ (b : Nat) (cs : Array Value), Blk w b 105 cs → ¬ S b) : MovL w' bs ss :=
  ⟨h.1, fun i b s hb hs => by
    obtain ⟨cs, hB, hc⟩ := h.2 i b s hb hs
    exact ⟨cs, hB.frm hx (hS b cs hB), hc⟩⟩
/-- Systems that run together, as newParts makes them. -/
structure PtAt (w : World) (lo hi : Nat) (A : Option Addr) (k lo' hi' : Nat) (M : Option Addr) (ss : List Sys) : Prop where
  sys : SLAt w lo hi A k ss
  mov : ∃ bs, Reads w lo' hi' 1 M k (ptrs bs) ∧ MovL w bs ss
theorem PtAt.ext {w w' : World} {lo hi k lo' hi' : Nat} {A M : Option Addr} {ss : List Sys} (h : PtAt w lo hi A k lo' hi' M ss) (hx : Ext w w') : PtAt w' lo hi A k lo' hi' M ss := by
  obtain ⟨bs, hr, hb⟩ := h.mov
  exact ⟨h.sys.ext hx, bs, hr.ext hx, hb.ext hx⟩
/-- Parts that grow. -/
structure Grp (w0 W : World) (G : Nat) (a v : Value) (bs : List Nat) (ss : List Sys) : Prop where
  blk : Blk W G 57 #[a, v]
  own : W.ownsRow w0.heap.size 74 1 v bs.length (ptrs bs)
  mov : MovL W bs ss
  ext : Ext w0 W
  hG : w0.heap.size ≤ G
theorem Grp.ext_ {w0 W W' : World} {G : Nat} {a v : Value} {bs : List Nat} {ss : List Sys} (h : Grp w0 W G a v bs ss) (hb : Ext W W') : Grp w0 W' G a v bs ss := ⟨h.blk.ext hb, own_ext h.own hb, h.mov.ext hb, h.ext.trans hb, h.hG⟩
theorem own_farP {w : World} {base : Nat} {e t : TypeId} {size n G : Nat} {v : Value} {xs : List Value} {cs : Array Value} (h : w.ownsRow base e size v n xs) (hB : Blk w G t cs) (hne : e ≠ t) {b : Nat} (hv : v.ownBlock = some b) : b ≠ G := by
  rintro rfl
  rcases h.2 with ⟨rfl, _⟩ | ⟨g, cap, cur, rfl, _, hh, _⟩
  · simp [Value.ownBlock] at hv
  · have hg : g = b := by simpa [Value.ownBlock] using hv
    subst hg
    unfold Blk at hB
    rw [hh] at hB
    injection hB with hB
    injection hB with _ ht
    exact absurd ht hne
theorem Grp.push {w0 W W' : World} {G : Nat} {a v : Value} {bs : List Nat} {ss : List Sys} {b g cap : Nat} {s : Sys} (h : Grp w0 W G a v bs ss) (hb : MovB W b s.edges)
    (hown : W'.ownsRow w0.heap.size 74 1 (.slice (some ⟨g, 0, none⟩) (bs.length + 1) cap) (bs.length + 1) (ptrs bs ++ [.pointer (some ⟨b, 0, none⟩)]))
    (hg : W.grownBy W' v.ownBlock) (hat : v.ownBlock = some g ∨ g = W.heap.size + 1) :
    Hid (W'.cell? ⟨G, 1, none⟩ = some v) ∧ W'.frozen? ⟨G, 1, none⟩ = false ∧ Grp w0 (W'.setCell ⟨G, 1, none⟩ (.slice (some ⟨g, 0, none⟩) (bs.length + 1) cap)) G a (.slice (some ⟨g, 0, none⟩) (bs.length + 1) cap) (bs ++ [b]) (ss ++ [s]) := by
  have hB : Blk W' G 57 #[a, v] := (hg.block G h.blk.lt (fun e => own_farP h.own h.blk (by decide) e.symm rfl)).trans h.blk
  have hgG : g ≠ G := by
    rcases hat with h1 | h1
    · exact own_farP h.own h.blk (by decide) h1
    · have := h.blk.lt; omega
  have hx : Ext w0 W' := h.ext.grown hg (fun k hk => (h.own.lt k hk).1)
  have hset := Frm.setCell W' G 1 (.slice (some ⟨g, 0, none⟩) (bs.length + 1) cap)
  have hfr : Frm (fun k => v.ownBlock = some k) W W' := Frm.of_grown hg
  have hm1 : MovL W' (bs ++ [b]) (ss ++ [s]) := (h.mov.snoc (Ext.refl W) hb).frm hfr (fun c cs hc hS => own_farP h.own hc (by decide) hS rfl)
  refine ⟨hB.cell 1, hB.frozen 1, ⟨by simpa using hB.set_ 1 _, ?_, hm1.frm hset (fun c cs hc hS => ?_), hx.setCell (p := ⟨G, 1, none⟩) h.hG _, h.hG⟩⟩
  · rw [List.length_append, List.length_singleton, show ptrs (bs ++ [b]) = ptrs bs ++ [.pointer (some ⟨b, 0, none⟩)] by simp [ptrs]]
    exact own_frm hown hset (fun c hv hS => by
      have : g = c := by simpa [Value.ownBlock] using hv
      omega)
  · subst hS
    unfold Blk at hc hB
    rw [hc] at hB
    injection hB with hB
    injection hB with _ ht
    exact absurd ht (by decide)
set_option maxRecDepth 100000 in
theorem impl_newParts {lo hi : Nat} {A : Option Addr} {n c : Nat} {ss : List Sys} {w : World} (h : SLAt w lo hi A n ss) (hf : ∀ s ∈ ss, Few 16 s.edges) (hn4 : n ≤ 1000) :
    Calls Tryd.prog 34 #[.slice A n c] w fun e w' => ∃ M d, e = .returned (.agg #[.slice A n c, .slice M n d]) ∧ PtAt w' lo hi A n w.heap.size w'.heap.size M ss ∧ Ext w w' := by
  have HS := hide (fun W (hW : Ext w W) => h.ext hW)
  have hL := hide h.1
  have Hf := hide hf
  have hlen := h.len
  clear hf
  go_enter Tryd.func34, Tryd.ntmps34
  obtain ⟨bz, bG⟩ := ext_blk2 (Ext.refl ((w.alloc (.cells #[.slice none 0 0, .slice none 0 0] 57)).alloc (.cells #[.slice A n c, .slice none 0 0] 57)))
  have hw2 : Ext w ((w.alloc (.cells #[.slice none 0 0, .slice none 0 0] 57)).alloc (.cells #[.slice A n c, .slice none 0 0] 57)) := ((Ext.refl w).alloc _).alloc _
  go_upto_region 2 with fail
  have hsz1 : w.heap.size ≤ (w.alloc (.cells #[.slice none 0 0, .slice none 0 0] 57)).heap.size := by simp
  have hsz2 : (w.alloc (.cells #[.slice none 0 0, .slice none 0 0] 57)).heap.size = w.heap.size + 1 := by simp
  have hgr : Grp (w.alloc (.cells #[.slice none 0 0, .slice none 0 0] 57)) ((w.alloc (.cells #[.slice none 0 0, .slice none 0 0] 57)).alloc (.cells #[.slice A n c, .slice none 0 0] 57)) (w.heap.size + 1) (.slice A n c) (.slice none 0 0) [] [] :=
    ⟨bG, World.ownsRow_nil _ _ _ _, ⟨rfl, fun i b s hb => by simp at hb⟩, (Ext.refl _).alloc _, by rw [hsz2]; exact Nat.le_refl _⟩
  clear bG
  generalize (w.alloc (.cells #[.slice none 0 0, .slice none 0 0] 57)).alloc (.cells #[.slice A n c, .slice none 0 0] 57) = w2 at *
  generalize w.alloc (.cells #[.slice none 0 0, .slice none 0 0] 57) = w1 at *
  go_wp2_with fail
  go_loopw [10] (fun i wr => ∃ (k : Nat) (v : Value) (bs : List Nat), k ≤ n ∧ i = .int .i64 k ∧ Grp w1 wr (w.heap.size + 1) (.slice A n c) v bs (ss.take k) ∧ Hid (bs.length = k) ∧ Blk wr w.heap.size 57 #[.slice none 0 0, .slice none 0 0] ∧ Ext w wr) (fun i _ => n - (intOf i).toNat)
  case atStart => exact ⟨0, _, [], Nat.zero_le _, rfl, by simpa using hgr, hide rfl, bz, hw2⟩
  case round =>
    clear hgr bz hw2 w2
    obtain ⟨k, v, bs, hk, rfl, hgr, hbl, bz, hw⟩ := hrel
    by_cases hlt : k < n
    · obtain ⟨g, o, s, B, m, c', rfl, _, _, hs, c0, c1, c2, hsx⟩ := (HS.out wr hw).sys hlt
      have hfs := hide (Hf.out s (List.mem_of_getElem? hs.out))
      have Htk := hide (show ss.take (k + 1) = ss.take k ++ [s] by rw [List.take_add_one, hs.out]; rfl)
      have hx3 := (Ext.refl wr).alloc (.cells #[.int .i64 s.al, .int .i64 s.st, .slice B m c'] 25)
      have hbx := Blk.new wr 25 #[.int .i64 s.al, .int .i64 s.st, .slice B m c']
      have hgr3 := hgr.ext_ hx3
      have hw3 := hw.trans hx3
      have bz3 := bz.ext hx3
      have hsx3 := hsx.ext hx3
      clear hgr
      go_upto_region 5 with fail
      clear c0 c1 c2
      generalize wr.alloc (.cells #[.int .i64 s.al, .int .i64 s.st, .slice B m c'] 25) = w3 at *
      have c5 : ∀ W, Ext w3 W → ∀ q, W.cell? ⟨wr.heap.size, q, none⟩ = #[Value.int .i64 s.al, .int .i64 s.st, .slice B m c'][q]? := fun W hW => (hbx.ext hW).cell
      have cG : ∀ W, Ext w3 W → ∀ q, W.cell? ⟨w.heap.size + 1, q, none⟩ = #[Value.slice (some ⟨g, o, none⟩) n c, v][q]? := fun W hW => (hgr3.blk.ext hW).cell
      have hww := Ext.refl w3
      refine wp_region_tailU (fun X => Ext w3 X) [5, 7] (OrdU.of [0, 1, 2, 3, 4, 5, 6, 7]) (by kernel_rfl) (by kernel_rfl) (by kernel_rfl) (by kernel_rfl) (by kernel_rfl) (fun _ _ _ _ _ h => h) (by first | assumption | exact (Ext.refl _).drew | (refine Ext.drew ?_; assumption)) ?_
      repeat (first | (refine useq_skip rfl rfl (by assumption) ?_; simp only [Act.put, List.setIfInBounds_toArray, List.set_cons_zero, List.set_cons_succ]) | (refine useq_pure (v := ?_) rfl rfl rfl rfl (fun X => ?_) ?_; rotate_left; (focus (go_simp <;> with_reducible rfl)); simp only [Act.put, List.setIfInBounds_toArray, List.set_cons_zero, List.set_cons_succ]) | (refine useq_read (v := ?_) rfl rfl rfl rfl (fun X hX => ?_) ?_; rotate_left; (focus (go_simp <;> with_reducible rfl)); simp only [Act.put, List.setIfInBounds_toArray, List.set_cons_zero, List.set_cons_succ]))
      (refine useq_step rfl rfl rfl (fun K hK => ?_); go_simp)
      refine (impl_movesOf (hsx3.ext hww.drew) hfs.out).mono ?_
      rintro e w4 ⟨b, rfl, hb1, hmv, hx4⟩
      have hww4 := hww.drew.trans hx4
      refine hK.out _ _ hww4 ?_
      (try simp only [Act.put, List.setIfInBounds_toArray, List.set_cons_zero, List.set_cons_succ])
      repeat (first | (refine useq_skip rfl rfl (by assumption) ?_; simp only [Act.put, List.setIfInBounds_toArray, List.set_cons_zero, List.set_cons_succ]) | (refine useq_pure (v := ?_) rfl rfl rfl rfl (fun X => ?_) ?_; rotate_left; (focus (go_simp <;> with_reducible rfl)); simp only [Act.put, List.setIfInBounds_toArray, List.set_cons_zero, List.set_cons_succ]) | (refine useq_read (v := ?_) rfl rfl rfl rfl (fun X hX => ?_) ?_; rotate_left; (focus (go_simp <;> with_reducible rfl)); simp only [Act.put, List.setIfInBounds_toArray, List.set_cons_zero, List.set_cons_succ]))
      (refine useq_step rfl rfl rfl (fun K hK => ?_); go_simp)
      refine hK.out _ _ (hww4.alloc _) ?_
      (try simp only [Act.put, List.setIfInBounds_toArray, List.set_cons_zero, List.set_cons_succ])
      (refine useq_last rfl rfl rfl rfl (fun K hK => ?_))
      refine wp_push w1 w4 _ _ _ rfl 74 _ 1 8 Tryd.underlying55 info_pmov rfl (by decide) v bs.length (ptrs bs) _ _ rfl rfl (hgr3.ext.trans hww4).size (own_ext hgr3.own hww4) rfl (by simp [Value.oneCell']) (by unfold maxLen; have := hbl.out; omega) (by have := hbl.out; omega) ?_
      intro g5 cap5 w5 hown5 hg5 hat5 hlt5
      refine hK.out _ _ ?_
      (try simp only [Act.put, List.setIfInBounds_toArray, List.set_cons_zero, List.set_cons_succ])
      repeat (first | (refine useq_skip rfl rfl (by assumption) ?_; simp only [Act.put, List.setIfInBounds_toArray, List.set_cons_zero, List.set_cons_succ]) | (refine useq_pure (v := ?_) rfl rfl rfl rfl (fun X => ?_) ?_; rotate_left; (focus (go_simp <;> with_reducible rfl)); simp only [Act.put, List.setIfInBounds_toArray, List.set_cons_zero, List.set_cons_succ]) | (refine useq_read (v := ?_) rfl rfl rfl rfl (fun X hX => ?_) ?_; rotate_left; (focus (go_simp <;> with_reducible rfl)); simp only [Act.put, List.setIfInBounds_toArray, List.set_cons_zero, List.set_cons_succ]))
      obtain ⟨p1, p2, p3⟩ := (hgr3.ext_ hww4).push (s := s) hmv (W' := w5) hown5 hg5 hat5
      have p1' := p1.out
      have bz5 : Blk w5 w.heap.size 57 #[.slice none 0 0, .slice none 0 0] := (hg5.block _ (bz3.ext hww4).lt (fun e => own_farP (own_ext hgr3.own hww4) (bz3.ext hww4) (by decide) e.symm rfl)).trans (bz3.ext hww4)
      have hw5 : Ext w w5 := (hw3.trans hww4).grown hg5 (fun q hq => by have := (own_ext hgr3.own hww4).lt q hq; omega)
      have bz6 := bz5.far (p := ⟨w.heap.size + 1, 1, none⟩) (by simp) (.slice (some ⟨g5, 0, none⟩) (bs.length + 1) cap5)
      have hw6 := hw5.setCell (p := ⟨w.heap.size + 1, 1, none⟩) (by simp) (.slice (some ⟨g5, 0, none⟩) (bs.length + 1) cap5)
      (refine useq_last rfl rfl rfl rfl (fun K hK => ?_))
      go_simp
      refine hK.out _ _ ?_
      refine useq_nil ?_
      go_wp2_with fail
      go_roundw
      case rel => exact ⟨k + 1, _, bs ++ [b], by omega, by go_num, by rw [Htk.out]; exact p3, hide (by rw [List.length_append, hbl.out]; rfl), bz6, hw6⟩
      case measure => simp [intOf]; omega
    · obtain rfl : n = k := by omega
      obtain ⟨M, d, rfl⟩ : ∃ M d, v = .slice M n d := by
        have ho := hgr.own
        rw [hbl.out] at ho
        exact own_form ho
      have cG := hgr.blk.cell
      have cZ := bz.cell
      have fZ := bz.frozen
      have hfl : Frm (fun k => k = w.heap.size) wr ((wr.setCell ⟨w.heap.size, 0, none⟩ (.slice A n c)).setCell ⟨w.heap.size, 1, none⟩ (.slice M n d)) := (Frm.setCell wr _ 0 _).trans (Frm.setCell _ _ 1 _)
      have hbf : Blk ((wr.setCell ⟨w.heap.size, 0, none⟩ (.slice A n c)).setCell ⟨w.heap.size, 1, none⟩ (.slice M n d)) w.heap.size 57 #[.slice A n c, .slice M n d] := by simpa using (bz.set_ 0 (.slice A n c)).set_ 1 (.slice M n d)
      have hxf := hw.frm hfl (fun k hk e => by omega)
      have hfin := hide (show ∃ M' d', Ending.returned (.agg #[.slice A n c, .slice M n d]) = .returned (.agg #[.slice A n c, .slice M' n d']) ∧ PtAt ((wr.setCell ⟨w.heap.size, 0, none⟩ (.slice A n c)).setCell ⟨w.heap.size, 1, none⟩ (.slice M n d)) lo hi A n w.heap.size ((wr.setCell ⟨w.heap.size, 0, none⟩ (.slice A n c)).setCell ⟨w.heap.size, 1, none⟩ (.slice M n d)).heap.size M' ss ∧ Ext w ((wr.setCell ⟨w.heap.size, 0, none⟩ (.slice A n c)).setCell ⟨w.heap.size, 1, none⟩ (.slice M n d)) from by
        refine ⟨M, d, rfl, ⟨HS.out _ hxf, bs, ?_, ?_⟩, hxf⟩
        · have ho := own_keep hgr.own hfl (fun b h1 e => by omega)
          rw [hbl.out] at ho
          exact (Reads.of_own ho).more (by omega) (Nat.le_refl _)
        · have hm := hgr.mov
          rw [List.take_of_length_le (by have := hL.out; omega)] at hm
          exact hm.frm hfl (fun b cs hc hS => by
            subst hS
            unfold Blk at hc bz
            rw [hc] at bz
            injection bz with bz
            injection bz with _ ht
            exact absurd ht (by decide)))
      go_wp2_with fail
      generalize (wr.setCell ⟨w.heap.size, 0, none⟩ (.slice A n c)).setCell ⟨w.heap.size, 1, none⟩ (.slice M n d) = wf at *
      have cf := hbf.cell
      exact bodyPost_ret (v := .agg #[.slice A n c, .slice M n d]) (by simp [results, Tryd.results34, go_sem, cf]) rfl hfin.out
end Go.Proofs.YtcmgkekaeafgaaaDoor

namespace Go.Proofs.YtcmgkekaeafgaaaDoor
open Go Go.RowKit
set_option maxHeartbeats 2000000

theorem nats_oneC (l : List Nat) : ∀ u ∈ nats l, u.oneCell' = true := by
  intro u hu
  obtain ⟨x, _, rfl⟩ := List.mem_map.1 hu
  rfl
/-- What next hands back. -/
def RetNx (w : World) (base : Nat) (v : Value) (xs : List Value) (R : List Nat) (e : Ending) (w' : World) : Prop :=
  ∃ v', e = .returned v' ∧ w'.ownsRow base 3 1 v' (xs.length + R.length) (xs ++ nats R) ∧ Frm (fun b => v.ownBlock = some b) w w' ∧ (v'.ownBlock = v.ownBlock ∨ ∃ b, v'.ownBlock = some b ∧ w.heap.size ≤ b)
theorem flat_snoc {l : List Nat} {a q : Nat} (f : Nat → List Nat) (h : l[a]? = some q) : (l.take (a + 1)).flatMap f = (l.take a).flatMap f ++ f q := by
  rw [List.take_add_one, h]
  simp
theorem drop_cons {ss : List Sys} {j : Nat} {s : Sys} (h : ss[j]? = some s) : ss.drop j = s :: ss.drop (j + 1) := by
  obtain ⟨hj, rfl⟩ := List.getElem?_eq_some_iff.1 h
  exact List.drop_eq_getElem_cons hj
set_option maxRecDepth 100000 in
theorem impl_next {lo hi k c lo' hi' d base n m l : Nat} {A M : Option Addr} {ss : List Sys} {v : Value} {xs : List Value} {w : World} (h : PtAt w lo hi A k lo' hi' M ss) (hs : ∀ s ∈ ss, Sml s) (hk4 : k ≤ 4) (hm : m ≤ 4611686018427387904) (hl : l < 6) (hT : Tab w)
    (hown : w.ownsRow base 3 1 v n xs) (hb : base ≤ w.heap.size) (hn : n ≤ 1099511627776) :
    Calls Tryd.prog 36 #[.agg #[.slice A k c, .slice M k d], .int .i64 m, .int .i64 l, v] w (RetNx w base v xs (nx ss m l).1) := by
  have HP := hide (fun W (hW : Ext w W) => h.ext hW)
  have HT := hide (fun W (hW : Ext w W) => hT.ext hW)
  have HO := hide (fun W (hW : Ext w W) => own_ext hown hW)
  have Hs := hide hs
  have hks := hide h.sys.1
  have hfx := hide (fun j => nx_facts (ss := ss.drop j) (fun s hx => hs s (List.mem_of_mem_drop hx)) m l)
  have hfl := hide (fun j => nx_len (ss := ss.drop j) (fun s hx => hs s (List.mem_of_mem_drop hx)) m l)
  have h16 := hide (show ∀ j, 16 ^ (ss.drop j).length ≤ 65536 from fun j => by
    have : (ss.drop j).length ≤ 4 := by rw [List.length_drop, ← h.sys.1]; omega
    exact Nat.le_trans (Nat.pow_le_pow_right (by omega) this) (by decide))
  have hxl := hown.1
  clear h hs hT hown
  go_enter Tryd.func36, Tryd.ntmps36
  have bp : Blk (w.alloc (.cells #[.slice A k c, .slice M k d] 57)) w.heap.size 57 #[.slice A k c, .slice M k d] := Blk.new w _ _
  have hx1 := (Ext.refl w).alloc (.cells #[.slice A k c, .slice M k d] 57)
  have h1 := World.ownsRow_lit (base := w.heap.size) (e := 3) (size := 1) (w.alloc (.cells #[.slice A k c, .slice M k d] 57)) #[.int .i64 0] 1 hx1.size (by decide) rfl
  rw [show (w.alloc (.cells #[.slice A k c, .slice M k d] 57)).heap.size = w.heap.size + 1 by simp] at h1
  have hx2 := hx1.alloc (.cells #[.int .i64 0] 3)
  have bp2 := bp.ext ((Ext.refl _).alloc (.cells #[.int .i64 0] 3))
  have cp := bp2.cell
  go_upto_region 2 with fail
  generalize (w.alloc (.cells #[.slice A k c, .slice M k d] 57)).alloc (.cells #[.int .i64 0] 3) = w2 at *
  go_wp2_with fail
  go_loopw [1, 9, 10, 11] (fun nd rv wt i wr => ∃ (j nd' W : Nat) (R : List Nat), j ≤ k ∧ i = .int .i64 ((j : Int) - 1) ∧ nd = .int .i64 (nd' : Nat) ∧ wt = .int .i64 (W : Nat) ∧ Hid (nx (ss.drop j) m l = (R, W, nd')) ∧ wr.ownsRow w.heap.size 3 1 rv R.length (nats R) ∧ Ext w2 wr) (fun _ _ _ i _ => (intOf i + 1).toNat)
  case atStart => exact ⟨k, m, 1, [0], Nat.le_refl _, by go_num, rfl, rfl, hide (by rw [List.drop_of_length_le (by rw [← hks.out]; exact Nat.le_refl _)]; rfl), h1, Ext.refl _⟩
  case round =>
    clear h1 cp
    obtain ⟨j, nd, W, R, hj, rfl, rfl, rfl, hnx, hR, hxr⟩ := hrel
    have hcp := bp2.ext hxr
    have cp := hcp.cell
    by_cases hlt : 1 ≤ j
    · obtain ⟨i, rfl⟩ : ∃ i, j = i + 1 := ⟨j - 1, by omega⟩
      obtain ⟨g, o, s, B, q, c', rfl, _, _, hs, c0, c1, c2, -⟩ := (HP.out wr (hx2.trans hxr)).sys.sys (k := i) (by omega)
      have hsm := hide (Hs.out s (List.mem_of_getElem? hs.out))
      obtain ⟨p, hp⟩ : ∃ p : Nat, Hid (s.st = p) := ⟨s.st.toNat, hide (by have := hsm.out.1; omega)⟩
      have hp1 : 1 ≤ p ∧ p ≤ 16 := by have := hsm.out.1; have := hsm.out.2.1; have := hp.out; omega
      obtain ⟨al, hal⟩ : ∃ al : Nat, Hid (s.al = al) := ⟨s.al.toNat, hide (by have := hsm.out.2.2.2; omega)⟩
      have hsa : Sm al := by have := hsm.out.2.2.2; have := hal.out; unfold Sm; omega
      rw [hal.out] at c0
      rw [hp.out] at c1
      have hi0 : (((i + 1 : Nat) : Int) - 1) = (i : Int) := by omega
      rw [hi0]
      have hF := hfx.out (i + 1)
      have hFl := hfl.out (i + 1)
      have h65 := h16.out (i + 1)
      rw [hnx.out] at hF hFl
      obtain ⟨hW1, hW2, hRW, hRn, hnd⟩ := hF
      have HRW := hide hRW
      clear hRW hRn
      dsimp only at hW1 hW2 hnd hFl
      obtain ⟨T, hT1⟩ : ∃ T, Hid (cho s (nd % p) l = T) := ⟨_, hide rfl⟩
      have hTl : T.length ≤ 16 := by
        have := cho_len hsm.out (i := nd % p) (l := l) (by have := hp.out; have := Nat.mod_lt nd (show 0 < p by omega); omega)
        rw [hT1.out] at this
        have := hp.out
        omega
      have hTlt := hide (show ∀ q ∈ T, q < 16 from fun q hq => by
        have := cho_lt hsm.out (i := nd % p) (l := l) (by have := hp.out; have := Nat.mod_lt nd (show 0 < p by omega); omega) q (by rw [hT1.out]; exact hq)
        have := hp.out
        omega)
      have hmod : ((nd : Int)).tmod (p : Int) = ((nd % p : Nat) : Int) := rfl
      have hdiv : ((nd : Int)).tdiv (p : Int) = ((nd / p : Nat) : Int) := rfl
      have hik : (i : Int) < (k : Int) := by omega
      have hxs := (Ext.refl wr).alloc (.cells #[.int .i64 al, .int .i64 p, .slice B q c'] 25)
      have bs := Blk.new wr 25 #[.int .i64 al, .int .i64 p, .slice B q c']
      have hnd9 : (nd : Int) ≤ 4611686018427387904 := by omega
      have hpp : ((p : Int) == 0) = false := by simp; omega
      go_upto_region 6 with fail
      clear c0 c1 c2 cp
      have cp := (hcp.ext hxs).cell
      have hcp3 := hcp.ext hxs
      have hR3 := own_ext hR hxs
      have hxr3 := hxr.trans hxs
      generalize wr.alloc (.cells #[.int .i64 al, .int .i64 p, .slice B q c'] 25) = w3 at *
      generalize wr.heap.size = G3 at *
      have c3 := bs.cell
      go_upto_region 7 with fail
      obtain ⟨z, hz'⟩ : ∃ z : Nat, Hid (nd % p = z) := ⟨_, hide rfl⟩
      have hz : ((nd : Int) % (p : Int)) = (z : Int) := by rw [← hz'.out]; exact (Int.natCast_emod nd p).symm
      have hzp : z < 16 := by have := Nat.mod_lt nd (show 0 < p by omega); have := hz'.out; omega
      rw [hz]
      rw [hz'.out] at hT1
      have hxz := (Ext.refl w3).alloc (.cells #[.int .i64 (z : Int)] 3)
      have h4 := World.ownsRow_lit (base := w.heap.size) (e := 3) (size := 1) w3 #[.int .i64 (z : Int)] 1 (Nat.le_trans (Nat.le_trans hx2.size hxr3.size) (Nat.le_refl _)) (by decide) rfl
      have hcp4 := hcp3.ext hxz
      have bs4 := bs.ext hxz
      have hR4 := own_ext hR3 hxz
      have hxr4 := hxr3.trans hxz
      clear c3 cp bs hcp3 hR3 hxr3 hR hxr hcp hxs
      generalize w3.alloc (.cells #[.int .i64 (z : Int)] 3) = w4 at *
      generalize w3.heap.size = G4 at *
      have c4 := bs4.cell
      have hHb : hasB al (l : Nat) = al.testBit l := by simp [hasB]
      go_upto_if 41 with (go_at_call 22; refine (impl_has al l hsa _).mono ?_; rw [hHb]; rintro e w4 ⟨rfl, rfl⟩)
      go_cut [13] (fun tv wx => ∃ (A' : Option Addr) (c2 : Nat), tv = .slice A' T.length c2 ∧ Reads wx 0 wx.heap.size 1 A' T.length (nats T) ∧ Ext w4 wx)
      case first =>
        cases hbt : al.testBit l
        · have hTz : T = [z] := by
            rw [← hT1.out, cho, hal.out, Int.toNat_natCast, hbt]; rfl
          subst hTz
          go_wp2_with fail
          go_meet
          exact ⟨_, _, rfl, (Reads.of_own h4).more (Nat.zero_le _) (Nat.le_refl _), Ext.refl _⟩
        · have hTz : T = letters (succ s.edges (z : Nat) (l : Nat)) 32 := by
            rw [← hT1.out, cho, hal.out, Int.toNat_natCast, hbt]; rfl
          go_upto_region 8 with fail
          clear c4
          obtain ⟨mbs, hmr, hmv⟩ := (HP.out _ (hx2.trans hxr4)).mov
          obtain ⟨adM, u, rfl, _, _, hu, hcM⟩ := hmr.one (k := i) (by omega)
          obtain ⟨b, hbi, rfl⟩ : ∃ b, mbs[i]? = some b ∧ u = .pointer (some ⟨b, 0, none⟩) := by
            have := hu.out
            simp only [ptrs, List.getElem?_map, Option.map_eq_some_iff] at this
            obtain ⟨b, h1, h2⟩ := this
            exact ⟨b, h1, h2.symm⟩
          have hmb := (hmv.2 i b s hbi hs.out).at_
          have s16 : Few 16 s.edges := fun e he => by
            have := hsm.out.2.2.1 e he
            have := hp.out
            omega
          have s1 := succ_sm s16 (Nat.le_refl _) (z : Nat) (l : Nat)
          have cP : ∀ W, Ext w4 W → ∀ q, W.cell? ⟨w.heap.size, q, none⟩ = #[Value.slice (some ⟨g, o, none⟩) k c, .slice (some adM) k d][q]? := fun W hW => (hcp4.ext hW).cell
          have cS : ∀ W, Ext w4 W → ∀ q', W.cell? ⟨G3, q', none⟩ = #[Value.int .i64 al, .int .i64 p, .slice B q c'][q']? := fun W hW => (bs4.ext hW).cell
          have cM : ∀ W, Ext w4 W → W.cell? (adM.add i) = some (.pointer (some ⟨b, 0, none⟩)) := fun W hW => hW.cell_some hcM
          have cV : ∀ W, Ext w4 W → W.cell? ⟨b, z * 6 + l, none⟩ = some (.int .i64 (succ s.edges (z : Nat) (l : Nat) : Nat)) := fun W hW => hW.cell_some (hmb z l hzp hl)
          have hz16 : (z : Int) < 16 := by omega
          have hl6 : (l : Int) < 6 := by omega
          have hp0 : ¬ (p = 0) := by omega
          have hTT := hide hTz
          generalize succ s.edges (z : Nat) (l : Nat) = sc at *
          have hww := Ext.refl w4
          clear hcM hmb hTz
          refine wp_region_tailU (fun X => Ext w4 X) [14] (OrdU.of [0, 1, 2, 3, 4, 5, 6, 7, 8, 9, 10, 11, 12, 13, 14, 15]) (by kernel_rfl) (by kernel_rfl) (by kernel_rfl) (by kernel_rfl) (by kernel_rfl) (fun _ _ _ _ _ h => h) (by first | assumption | exact (Ext.refl _).drew | (refine Ext.drew ?_; assumption)) ?_
          repeat (first | (refine useq_skip rfl rfl (by assumption) ?_; simp only [Act.put, List.setIfInBounds_toArray, List.set_cons_zero, List.set_cons_succ]) | (refine useq_pure (v := ?_) rfl rfl rfl rfl (fun X => ?_) ?_; rotate_left; (focus (go_simp <;> with_reducible rfl)); simp only [Act.put, List.setIfInBounds_toArray, List.set_cons_zero, List.set_cons_succ]) | (refine useq_read (v := ?_) rfl rfl rfl rfl (fun X hX => ?_) ?_; rotate_left; (focus (go_simp <;> with_reducible rfl)); simp only [Act.put, List.setIfInBounds_toArray, List.set_cons_zero, List.set_cons_succ]))
          (refine useq_step rfl rfl rfl (fun K hK => ?_); go_simp)
          refine hK.out _ _ hww.drew ?_
          (try simp only [Act.put, List.setIfInBounds_toArray, List.set_cons_zero, List.set_cons_succ])
          repeat (first | (refine useq_skip rfl rfl (by assumption) ?_; simp only [Act.put, List.setIfInBounds_toArray, List.set_cons_zero, List.set_cons_succ]) | (refine useq_pure (v := ?_) rfl rfl rfl rfl (fun X => ?_) ?_; rotate_left; (focus (go_simp <;> with_reducible rfl)); simp only [Act.put, List.setIfInBounds_toArray, List.set_cons_zero, List.set_cons_succ]) | (refine useq_read (v := ?_) rfl rfl rfl rfl (fun X hX => ?_) ?_; rotate_left; (focus (go_simp <;> with_reducible rfl)); simp only [Act.put, List.setIfInBounds_toArray, List.set_cons_zero, List.set_cons_succ]))
          (refine useq_step rfl rfl rfl (fun K hK => ?_); go_simp)
          refine (impl_members sc s1 _ (HT.out _ (hx2.trans (hxr4.trans hww.drew)))).mono ?_
          rintro e w5 ⟨A5, c5, rfl, hown5, hx5⟩
          have hww5 := hww.drew.trans hx5
          rw [← hTT.out] at hown5 ⊢
          refine hK.out _ _ hww5 ?_
          (try simp only [Act.put, List.setIfInBounds_toArray, List.set_cons_zero, List.set_cons_succ])
          repeat (first | (refine useq_skip rfl rfl (by assumption) ?_; simp only [Act.put, List.setIfInBounds_toArray, List.set_cons_zero, List.set_cons_succ]) | (refine useq_pure (v := ?_) rfl rfl rfl rfl (fun X => ?_) ?_; rotate_left; (focus (go_simp <;> with_reducible rfl)); simp only [Act.put, List.setIfInBounds_toArray, List.set_cons_zero, List.set_cons_succ]) | (refine useq_read (v := ?_) rfl rfl rfl rfl (fun X hX => ?_) ?_; rotate_left; (focus (go_simp <;> with_reducible rfl)); simp only [Act.put, List.setIfInBounds_toArray, List.set_cons_zero, List.set_cons_succ]))
          refine useq_nil ?_
          go_wp2_with fail
          go_meet
          exact ⟨_, _, rfl, (Reads.of_own hown5).more (Nat.zero_le _) (Nat.le_refl _), hww5⟩
      case rest =>
        obtain ⟨A', c2, rfl, hT5, hx45⟩ := hcut
        have hR5 := own_ext hR4 hx45
        have bs5 := bs4.ext hx45
        have hxr5 := hxr4.trans hx45
        have hcp5 := hcp4.ext hx45
        clear h4 hR4 bs4 hxr4 hcp4 hx45 c4
        have hTn := hT5.len
        have HR5 := hide hR5
        obtain ⟨AR, cR, rfl⟩ := own_form hR5
        have hRr := Reads.of_own hR5
        have hRlen : R.length ≤ 65536 := by omega
        clear hR5
        go_wp2_with fail
        go_loopw [14, 59] (fun mv ia wx => ∃ a : Nat, a ≤ T.length ∧ ia = .int .i64 (a : Nat) ∧ wx.ownsRow wc.heap.size 3 1 mv ((T.take a).flatMap fun q => R.map fun x => q * W + x).length (nats ((T.take a).flatMap fun q => R.map fun x => q * W + x)) ∧ Ext wc wx) (fun _ ia _ => T.length - (intOf ia).toNat)
        case atStart => exact ⟨0, Nat.zero_le _, rfl, World.ownsRow_nil _ _ _ _, Ext.refl _⟩
        case round =>
          obtain ⟨a, ha, rfl, hmo, hxw⟩ := hrel
          by_cases hat : a < T.length
          · obtain ⟨adT, qv, rfl, _, _, hqv, hqc⟩ := (hT5.ext hxw).one (k := a) hat
            obtain ⟨q1, hq1, rfl⟩ : ∃ q1, Hid (T[a]? = some q1) ∧ qv = .int .i64 (q1 : Nat) := by
              have := hqv.out
              simp only [nats, List.getElem?_map, Option.map_eq_some_iff] at this
              obtain ⟨x, h1, h2⟩ := this
              exact ⟨x, hide h1, h2.symm⟩
            have hq16 := hTlt.out q1 (List.mem_of_getElem? hq1.out)
            have hsn := hide (flat_snoc (fun q => R.map fun x => q * W + x) hq1.out)
            have hpl : ((T.take a).flatMap fun q => R.map fun x => q * W + x).length ≤ 16 * 65536 := by
              have : ∀ L : List Nat, (L.flatMap fun q => R.map fun x => q * W + x).length = L.length * R.length := by
                intro L
                induction L with
                | nil => simp
                | cons x r ih => rw [List.flatMap_cons, List.length_append, ih, List.length_map, List.length_cons, Nat.add_mul, Nat.one_mul, Nat.add_comm]
              rw [this, List.length_take]
              exact Nat.mul_le_mul (by omega) hRlen
            generalize (T.take a).flatMap (fun q => R.map fun x => q * W + x) = P at *
            go_upto_region 13 with fail
            clear hqc
            go_wp2_with fail
            go_loopw [14, 65] (fun mv ib wy => ∃ b : Nat, b ≤ R.length ∧ ib = .int .i64 (b : Nat) ∧ wy.ownsRow wc.heap.size 3 1 mv (P ++ (R.take b).map fun x => q1 * W + x).length (nats (P ++ (R.take b).map fun x => q1 * W + x)) ∧ Ext wc wy) (fun _ ib _ => R.length - (intOf ib).toNat)
            case atStart => exact ⟨0, Nat.zero_le _, rfl, by simpa using hmo, hxw⟩
            case round =>
              obtain ⟨b, hb', rfl, hmo3, hxy⟩ := hrel
              by_cases hbt : b < R.length
              · obtain ⟨adR, rv, rfl, _, _, hrv, hrc⟩ := (hRr.ext hxy).one (k := b) hbt
                obtain ⟨r1, hr1, rfl⟩ : ∃ r1, Hid (R[b]? = some r1) ∧ rv = .int .i64 (r1 : Nat) := by
                  have := hrv.out
                  simp only [nats, List.getElem?_map, Option.map_eq_some_iff] at this
                  obtain ⟨x, h1, h2⟩ := this
                  exact ⟨x, hide h1, h2.symm⟩
                have hr16 := HRW.out r1 (List.mem_of_getElem? hr1.out)
                have hmul : q1 * W ≤ 16 * 65536 := Nat.mul_le_mul (by omega) (by omega)
                have hPl : (P ++ (R.take b).map fun x => q1 * W + x).length ≤ 17 * 65536 := by
                  rw [List.length_append, List.length_map, List.length_take]
                  omega
                obtain ⟨qw, hqw⟩ : ∃ qw : Nat, Hid (q1 * W = qw) := ⟨_, hide rfl⟩
                have hqwi : (q1 : Int) * (W : Int) = (qw : Int) := by rw [← hqw.out]; exact (Int.natCast_mul q1 W).symm
                have hsn3 := hide (show (P ++ (R.take (b + 1)).map fun x => q1 * W + x) = (P ++ (R.take b).map fun x => q1 * W + x) ++ [qw + r1] by
                  rw [List.take_add_one, hr1.out, ← hqw.out]
                  simp)
                rw [hqw.out] at hmul
                generalize P ++ (R.take b).map (fun x => q1 * W + x) = P3 at *
                go_wp2_with (at_builtin; refine wpList_push wc wr rfl _ _ _ rfl 3 _ 1 8 Tryd.underlying48 info_int rfl (by decide) u14 _ _ _ _ rfl rfl hxy hmo3 rfl (cells_int _) (by unfold maxLen; omega) (by omega) ?_; intro v' w1 hext1 hown1 hg1 hat1)
                go_roundw
                case rel => exact ⟨b + 1, by omega, by go_num, by rw [hsn3.out, List.length_append]; simpa [nats] using hown1, hext1⟩
                case measure => simp [intOf]; omega
              · obtain rfl : b = R.length := by omega
                rw [List.take_length] at hmo3
                go_wp2_with fail
                go_roundw
                case rel => exact ⟨a + 1, by omega, by go_num, by rw [hsn.out]; exact hmo3, hxy⟩
                case measure => simp [intOf]; omega
          · obtain rfl : a = T.length := by omega
            rw [List.take_length] at hmo
            have c5 := (bs5.ext hxw).cell
            have hdv : ((nd : Int) / (p : Int)) = ((nd / p : Nat) : Int) := (Int.natCast_ediv nd p).symm
            have hwp : W * p ≤ 65536 * 16 := Nat.mul_le_mul (by omega) (by omega)
            obtain ⟨wp, hwp'⟩ : ∃ wp : Nat, Hid (W * p = wp) := ⟨_, hide rfl⟩
            have hwpi : (W : Int) * (p : Int) = (wp : Int) := by rw [← hwp'.out]; exact (Int.natCast_mul W p).symm
            rw [hwp'.out] at hwp
            have hnx2 := hide (show nx (ss.drop i) m l = (T.flatMap (fun q => R.map fun x => q * W + x), wp, nd / p) by
              rw [drop_cons hs.out, nx, hnx.out, ← hwp'.out, ← hT1.out]
              have e : s.st.toNat = p := by have := hp.out; omega
              rw [e, hz'.out])
            have hp0 : ¬ (p = 0) := by omega
            have hxx := hxr5.trans hxw
            have hwc : w.heap.size ≤ wc.heap.size := Nat.le_trans hx2.size hxr5.size
            have hmo' := own_less hmo hwc
            obtain ⟨ndp, hndp⟩ : ∃ y : Nat, Hid (nd / p = y) := ⟨_, hide rfl⟩
            rw [hndp.out] at hdv hnx2
            have hnle : ndp ≤ nd := by rw [← hndp.out]; exact Nat.div_le_self _ _
            go_wp2_with fail
            go_roundw
            case rel => exact ⟨i, ndp, wp, _, by omega, by go_num, by go_num, by go_num, hnx2, hmo', hxx⟩
            case measure => simp [intOf]
    · obtain rfl : j = 0 := by omega
      have hnx0 := hide (show (nx ss m l).1 = R by
        have := hnx.out
        rw [List.drop_zero] at this
        rw [this])
      have hlR := hfl.out 0
      have h65 := h16.out 0
      rw [List.drop_zero, hnx0.out] at hlR
      rw [List.drop_zero] at h65
      have hO := HO.out wr (hx2.trans hxr)
      have hww := hx2.trans hxr
      have hxn : xs.length = n := by omega
      obtain ⟨AR, cR, rfl⟩ := own_form hR
      have hRr := Reads.of_own hR
      have hneg : ¬ (0 ≤ (((0 : Nat) : Int) - 1)) := by omega
      go_wp2_with (at_builtin; refine wpList_onto wr rfl _ _ 48 rfl base 3 _ 1 8 Tryd.underlying48 info_int rfl (by decide) v n xs rfl hO _ _ AR R.length cR (nats R) rfl hRr (nats_oneC R) (by unfold maxLen; omega) (by omega) (Nat.le_trans hb hww.size) ?_; intro v' w5 hown5 hg5 hat5)
      go_ret
      refine ⟨v', rfl, by rw [hxn, hnx0.out]; exact hown5, hww.toFrm.trans ((Frm.of_grown hg5).mono fun b _ h => h), ?_⟩
      rcases hat5 with h | h
      · exact .inl h
      · exact .inr ⟨_, h, hww.size⟩
end Go.Proofs.YtcmgkekaeafgaaaDoor

namespace Go.Proofs.YtcmgkekaeafgaaaDoor
open Go Go.RowKit Go.Lib Go.Shelf
set_option maxHeartbeats 4000000

def sortEdge_ren : Go.Shelf.Ren := ⟨fun | 6 => 38 | 15 => 67 | 14 => 68 | 28 => 98 | 29 => 99 | 20 => 100 | 21 => 101 | 22 => 102 | 23 => 103 | 24 => 104 | 25 => 105 | 26 => 106 | 27 => 107 | 46 => 128 | 47 => 124 | 48 => 125 | 49 => 129 | 50 => 130 | 57 => 134 | n => n, fun | 22 => 23 | 24 => 65 | 25 => 67 | 3 => 3 | 39 => 77 | 0 => 0 | 53 => 121 | 55 => 123 | 4 => 4 | 46 => 115 | 45 => 114 | 50 => 62 | 5 => 5 | 9 => 9 | 66 => 138 | 70 => 142 | 76 => 153 | 77 => 154 | n => n, fun | n => n⟩
set_option maxRecDepth 100000 in
theorem sortEdge : Go.Proofs.SlLaysF0.n6 Tryd.prog sortEdge_ren where
  mixed := by kernel_rfl
  f6 := ⟨ "slices.SortFunc[[]loop.example/assumeguarantee/impl.Edge,loop.example/assumeguarantee/impl.Edge]", by decide, Tryd.func38.trans (congrArg some (by kernel_rfl))⟩
  f14 := ⟨ "slices.pdqsortCmpFunc[loop.example/assumeguarantee/impl.Edge]", by decide, Tryd.func68.trans (congrArg some (by kernel_rfl))⟩
  f15 := Tryd.func67.trans (congrArg some (by kernel_rfl))
  f20 := ⟨ "slices.insertionSortCmpFunc[loop.example/assumeguarantee/impl.Edge]", by decide, Tryd.func100.trans (congrArg some (by kernel_rfl))⟩
  f21 := ⟨ "slices.heapSortCmpFunc[loop.example/assumeguarantee/impl.Edge]", by decide, Tryd.func101.trans (congrArg some (by kernel_rfl))⟩
  f22 := ⟨ "slices.breakPatternsCmpFunc[loop.example/assumeguarantee/impl.Edge]", by decide, Tryd.func102.trans (congrArg some (by kernel_rfl))⟩
  f23 := ⟨ "slices.choosePivotCmpFunc[loop.example/assumeguarantee/impl.Edge]", by decide, Tryd.func103.trans (congrArg some (by kernel_rfl))⟩
  f24 := ⟨ "slices.reverseRangeCmpFunc[loop.example/assumeguarantee/impl.Edge]", by decide, Tryd.func104.trans (congrArg some (by kernel_rfl))⟩
  f25 := ⟨ "slices.partialInsertionSortCmpFunc[loop.example/assumeguarantee/impl.Edge]", by decide, Tryd.func105.trans (congrArg some (by kernel_rfl))⟩
  f26 := ⟨ "slices.partitionEqualCmpFunc[loop.example/assumeguarantee/impl.Edge]", by decide, Tryd.func106.trans (congrArg some (by kernel_rfl))⟩
  f27 := ⟨ "slices.partitionCmpFunc[loop.example/assumeguarantee/impl.Edge]", by decide, Tryd.func107.trans (congrArg some (by kernel_rfl))⟩
  f28 := Tryd.func98.trans (congrArg some (by kernel_rfl))
  f29 := Tryd.func99.trans (congrArg some (by kernel_rfl))
  f46 := ⟨ "slices.siftDownCmpFunc[loop.example/assumeguarantee/impl.Edge]", by decide, Tryd.func128.trans (congrArg some (by kernel_rfl))⟩
  f47 := Tryd.func124.trans (congrArg some (by kernel_rfl))
  f48 := Tryd.func125.trans (congrArg some (by kernel_rfl))
  f49 := ⟨ "slices.medianAdjacentCmpFunc[loop.example/assumeguarantee/impl.Edge]", by decide, Tryd.func129.trans (congrArg some (by kernel_rfl))⟩
  f50 := ⟨ "slices.medianCmpFunc[loop.example/assumeguarantee/impl.Edge]", by decide, Tryd.func130.trans (congrArg some (by kernel_rfl))⟩
  f57 := ⟨ "slices.order2CmpFunc[loop.example/assumeguarantee/impl.Edge]", by decide, Tryd.func134.trans (congrArg some (by kernel_rfl))⟩
  t0 := Tryd.underlying0
  a0 := Tryd.isAgg0
  z0 := Tryd.sizeOf0
  v0 := Tryd.zeroValue0
  t3 := Tryd.underlying3
  a3 := Tryd.isAgg3
  z3 := Tryd.sizeOf3
  v3 := Tryd.zeroValue3
  t4 := Tryd.underlying4
  a4 := Tryd.isAgg4
  z4 := Tryd.sizeOf4
  v4 := Tryd.zeroValue4
  t5 := Tryd.underlying5
  a5 := Tryd.isAgg5
  z5 := Tryd.sizeOf5
  v5 := Tryd.zeroValue5
  t9 := Tryd.underlying9
  a9 := Tryd.isAgg9
  z9 := Tryd.sizeOf9
  v9 := Tryd.zeroValue9
  t22 := Tryd.underlying23
  a22 := Tryd.isAgg23
  z22 := Tryd.sizeOf23
  v22 := Tryd.zeroValue23
  t25 := Tryd.underlying67
  a25 := Tryd.isAgg67
  z25 := Tryd.sizeOf67
  v25 := Tryd.zeroValue67
  t39 := Tryd.underlying77
  a39 := Tryd.isAgg77
  z39 := Tryd.sizeOf77
  v39 := Tryd.zeroValue77
  t45 := Tryd.underlying114
  a45 := Tryd.isAgg114
  z45 := Tryd.sizeOf114
  v45 := Tryd.zeroValue114
  t46 := Tryd.underlying115
  a46 := Tryd.isAgg115
  z46 := Tryd.sizeOf115
  v46 := Tryd.zeroValue115
  t50 := Tryd.underlying62
  a50 := Tryd.isAgg62
  z50 := Tryd.sizeOf62
  v50 := Tryd.zeroValue62
  t53 := Tryd.underlying121
  a53 := Tryd.isAgg121
  z53 := Tryd.sizeOf121
  v53 := Tryd.zeroValue121
  t55 := Tryd.underlying123
  a55 := Tryd.isAgg123
  z55 := Tryd.sizeOf123
  v55 := Tryd.zeroValue123
  t66 := Tryd.underlying138
  a66 := Tryd.isAgg138
  z66 := Tryd.sizeOf138
  v66 := Tryd.zeroValue138
  t70 := Tryd.underlying142
  a70 := Tryd.isAgg142
  z70 := Tryd.sizeOf142
  v70 := Tryd.zeroValue142
  t76 := Tryd.underlying153
  a76 := Tryd.isAgg153
  z76 := Tryd.sizeOf153
  v76 := Tryd.zeroValue153
  t77 := Tryd.underlying154
  a77 := Tryd.isAgg154
  z77 := Tryd.sizeOf154
  v77 := Tryd.zeroValue154
end Go.Proofs.YtcmgkekaeafgaaaDoor
