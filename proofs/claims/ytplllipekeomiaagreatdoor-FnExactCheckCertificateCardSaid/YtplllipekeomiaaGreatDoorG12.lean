/- Plain: products of systems and automata as numbers; the nodes to which a letter leads. No program in sight. | Plain: traces of one system that are none of another; simulation keeps traces, and determinism makes it inclusion. No program in sight. | Plain: a valid system's edges rise; a system without its unreachable states is bisimilar to it. No program in sight. | Plain: slices of automata; the memory of a product. | spec.l1Place and spec.l3Go, walked. | impl.newParts, walked: systems that run together, and their moves. | spec.l4Sizes, spec.l4Decode, spec.l4Encode, walked. | spec.l4Decode, spec.l4In, spec.l4Ok, spec.l4Found (two kinds), walked. -/
import Derived.Test.YtplllipekeomiaaGreatDoorG10
import Derived.Test.YtplllipekeomiaaGreatDoorG03
import Derived.Test.YtplllipekeomiaaGreatDoorG11
import Derived.Test.YtplllipekeomiaaGreatDoorG09
import Derived.Test.YtplllipekeomiaaGreatDoorG02
import Derived.Test.YtplllipekeomiaaGreatDoorG01
import Derived.Deep.DeepCutAuto
import Derived.Test.YtplllipekeomiaaGreatDoorG05
import Derived.Deep.CutBlock
namespace Go.Proofs.YtplllipekeomiaaGreatDoor
open Go Go.RowKit

/-- How many letters of an alphabet come before a letter. -/
def place (a l : Nat) : Nat := (letters a l).length
/-- The state to which a letter leads an automaton. -/
def aGo (a : Aut) (q l : Nat) : Nat := if a.al.toNat.testBit l then ((a.next.getD q []).getD (place a.al.toNat l) 0).toNat else q
/-- A member of a product: how many states, and the states to which a letter leads. -/
abbrev Mem := Nat × (Nat → Nat → List Nat)
def sMem (s : Sys) : Mem := (s.st.toNat, cho s)
def aMem (a : Aut) : Mem := (a.next.length, fun q l => [aGo a q l])
def prodS : List Nat → Nat
  | [] => 1
  | m :: r => m * prodS r
def prodN (ms : List Mem) : Nat := prodS (ms.map Prod.fst)
theorem prodN_cons (m : Mem) (r : List Mem) : prodN (m :: r) = m.1 * prodN r := rfl
theorem prodS_append (a b : List Nat) : prodS (a ++ b) = prodS a * prodS b := by
  induction a with
  | nil => simp [prodS]
  | cons x r ih => rw [List.cons_append, prodS, prodS, ih, Nat.mul_assoc]
theorem prodN_append (a b : List Mem) : prodN (a ++ b) = prodN a * prodN b := by
  unfold prodN
  rw [List.map_append, prodS_append]
theorem prodS_pos {l : List Nat} (h : ∀ x ∈ l, 1 ≤ x) : 1 ≤ prodS l := by
  induction l with
  | nil => simp [prodS]
  | cons x r ih => exact Nat.mul_pos (h x (by simp)) (ih fun y hy => h y (by simp [hy]))
/-- The states that make a node. -/
def dec : List Nat → Nat → List Nat
  | [], _ => []
  | s :: r, x => (x / prodS r % s) :: dec r x
theorem dec_length (l : List Nat) (x : Nat) : (dec l x).length = l.length := by
  induction l with
  | nil => rfl
  | cons s r ih => simp [dec, ih]
theorem dec_drop (l : List Nat) (x k : Nat) : (dec l x).drop k = dec (l.drop k) x := by
  induction l generalizing k with
  | nil => simp [dec]
  | cons s r ih =>
    cases k with
    | zero => rfl
    | succ k => simp [dec, ih]
theorem dec_get {l : List Nat} {x k s : Nat} (h : l[k]? = some s) : (dec l x)[k]? = some (x / prodS (l.drop (k + 1)) % s) := by
  induction l generalizing k with
  | nil => simp at h
  | cons t r ih =>
    cases k with
    | zero => simp at h; subst h; simp [dec]
    | succ k => simp at h; simpa [dec] using ih h
/-- The node that states make. -/
def encF (acc : Nat) : List Nat → List Nat → Nat
  | s :: r, x :: xs => encF (acc * s + x) r xs
  | _, _ => acc
/-- The nodes to which a letter leads. -/
def pnx : List Mem → Nat → Nat → List Nat
  | [], _, _ => [0]
  | m :: r, x, l => (m.2 (x / prodN r % m.1) l).flatMap fun q => (pnx r x l).map fun y => q * prodN r + y
/-- A member's choices are states. -/
def MemOk (m : Mem) : Prop := 1 ≤ m.1 ∧ ∀ q l, q < m.1 → l < 6 → ∀ x ∈ m.2 q l, x < m.1
theorem prodN_pos {ms : List Mem} (h : ∀ m ∈ ms, MemOk m) : 1 ≤ prodN ms := prodS_pos fun x hx => by
  obtain ⟨m, hm, rfl⟩ := List.mem_map.1 hx
  exact (h m hm).1
theorem pnx_lt {ms : List Mem} (h : ∀ m ∈ ms, MemOk m) {x l : Nat} (hl : l < 6) : ∀ y ∈ pnx ms x l, y < prodN ms := by
  induction ms with
  | nil => intro y hy; simp [pnx] at hy; subst hy; simp [prodN, prodS]
  | cons m r ih =>
    intro y hy
    rw [pnx] at hy
    obtain ⟨q, hq, hy⟩ := List.mem_flatMap.1 hy
    obtain ⟨z, hz, rfl⟩ := List.mem_map.1 hy
    have h1 := (h m (by simp)).2 _ l (Nat.mod_lt _ (h m (by simp)).1) hl q hq
    have h2 := ih (fun m hm => h m (by simp [hm])) z hz
    rw [prodN_cons]
    calc q * prodN r + z < q * prodN r + prodN r := by omega
      _ = (q + 1) * prodN r := by rw [Nat.add_mul, Nat.one_mul]
      _ ≤ m.1 * prodN r := Nat.mul_le_mul_right _ h1
/-- A product of two parts. -/
theorem pnx_append (a b : List Mem) (x l : Nat) : pnx (a ++ b) x l = (pnx a (x / prodN b) l).flatMap fun q => (pnx b x l).map fun y => q * prodN b + y := by
  induction a with
  | nil => simp [pnx]
  | cons m r ih =>
    rw [List.cons_append, pnx, pnx, ih, prodN_append, List.flatMap_assoc]
    rw [Nat.div_div_eq_div_mul, Nat.mul_comm (prodN b) (prodN r)]
    congr 1
    funext q
    rw [List.map_flatMap, List.flatMap_map]
    congr 1
    funext z
    rw [List.map_map]
    congr 1
    funext y
    simp only [Function.comp]
    rw [Nat.add_mul, Nat.mul_assoc, Nat.add_assoc]
/-- What systems make together. -/
theorem nx_pnx (ss : List Sys) (m l : Nat) : nx ss m l = (pnx (ss.map sMem) m l, prodN (ss.map sMem), m / prodN (ss.map sMem)) := by
  induction ss with
  | nil => simp [nx, pnx, prodN, prodS]
  | cons s r ih =>
    rw [nx, ih, List.map_cons, pnx, prodN_cons]
    simp only [sMem]
    rw [Nat.div_div_eq_div_mul, Nat.mul_comm (prodN _) s.st.toNat]
theorem pnx_two (a p : Aut) (x l : Nat) : pnx [aMem a, aMem p] x l = [aGo a (x / p.next.length % a.next.length) l * p.next.length + aGo p (x % p.next.length) l] := by
  simp [pnx, aMem, prodN, prodS]
theorem pnx_one (p : Aut) (x l : Nat) : pnx [aMem p] x l = [aGo p (x % p.next.length) l] := by
  simp [pnx, aMem, prodN, prodS]
/-- Systems under an assumption. -/
theorem pnx_under (ss : List Sys) (a p : Aut) (x l : Nat) :
    pnx (ss.map sMem ++ [aMem a, aMem p]) x l = (nx ss (x / p.next.length / a.next.length) l).1.map fun y => y * a.next.length * p.next.length + (aGo a (x / p.next.length % a.next.length) l * p.next.length + aGo p (x % p.next.length) l) := by
  have hp : prodN [aMem a, aMem p] = a.next.length * p.next.length := by simp [prodN, prodS, aMem]
  rw [pnx_append, pnx_two, nx_pnx, hp, Nat.div_div_eq_div_mul, Nat.mul_comm p.next.length a.next.length]
  simp only [List.map_cons, List.map_nil, ← List.map_eq_flatMap, Nat.mul_assoc]
/-- The assumption that says nothing. -/
def free : Aut := ⟨0, [[]], [true]⟩
theorem pnx_free (ss : List Sys) (p : Aut) (x l : Nat) : pnx (ss.map sMem ++ [aMem free, aMem p]) x l = pnx (ss.map sMem ++ [aMem p]) x l := by
  have h0 : ∀ q l, aGo free q l = q := fun q l => by simp [aGo, free]
  rw [pnx_append, pnx_append, pnx_two, pnx_one, h0]
  have h1 : prodN [aMem free, aMem p] = p.next.length := by simp [prodN, prodS, aMem, free]
  have h2 : prodN [aMem p] = p.next.length := by simp [prodN, prodS, aMem]
  rw [h1, h2]
  have h3 : free.next.length = 1 := rfl
  rw [h3, Nat.mod_one, Nat.zero_mul, Nat.zero_add]
theorem prodN_free (ss : List Sys) (p : Aut) : prodN (ss.map sMem ++ [aMem free, aMem p]) = prodN (ss.map sMem ++ [aMem p]) := by
  rw [prodN_append, prodN_append]
  have h1 : prodN [aMem free, aMem p] = p.next.length := by simp [prodN, prodS, aMem, free]
  have h2 : prodN [aMem p] = p.next.length := by simp [prodN, prodS, aMem]
  rw [h1, h2]

/-- The nodes when the members are taken one after the other. -/
def fwd (cs : List (Nat × List Nat)) : List Nat := cs.foldl (fun out c => out.flatMap fun o => c.2.map fun x => o * c.1 + x) [0]
theorem fwd_snoc (cs : List (Nat × List Nat)) (c : Nat × List Nat) : fwd (cs ++ [c]) = (fwd cs).flatMap fun o => c.2.map fun x => o * c.1 + x := by simp [fwd]
/-- The choices of all members. -/
def chs : List Mem → Nat → Nat → List (Nat × List Nat)
  | [], _, _ => []
  | m :: r, x, l => (m.1, m.2 (x / prodN r % m.1) l) :: chs r x l
theorem chs_length (ms : List Mem) (x l : Nat) : (chs ms x l).length = ms.length := by
  induction ms with
  | nil => rfl
  | cons m r ih => simp [chs, ih]
theorem chs_get {ms : List Mem} {x l k : Nat} {m : Mem} (h : ms[k]? = some m) : (chs ms x l)[k]? = some (m.1, m.2 (x / prodN (ms.drop (k + 1)) % m.1) l) := by
  induction ms generalizing k with
  | nil => simp at h
  | cons t r ih =>
    cases k with
    | zero => simp at h; subst h; simp [chs]
    | succ k => simp at h; simpa [chs] using ih h
theorem foldl_pnx (ms : List Mem) (x l : Nat) (out : List Nat) : (chs ms x l).foldl (fun out c => out.flatMap fun o => c.2.map fun x => o * c.1 + x) out = out.flatMap fun o => (pnx ms x l).map fun y => o * prodN ms + y := by
  induction ms generalizing out with
  | nil => simp [chs, pnx, prodN, prodS]
  | cons m r ih =>
    rw [chs, List.foldl_cons, ih, pnx, List.flatMap_assoc]
    congr 1
    funext o
    rw [List.flatMap_map, List.map_flatMap]
    congr 1
    funext q
    rw [List.map_map]
    congr 1
    funext y
    simp only [Function.comp, prodN_cons]
    rw [Nat.add_mul, Nat.mul_assoc, Nat.add_assoc]
theorem fwd_pnx (ms : List Mem) (x l : Nat) : fwd (chs ms x l) = pnx ms x l := by
  have := foldl_pnx ms x l [0]
  simpa [fwd] using this
/-- How many nodes there can be. -/
theorem flat_len {α β : Type} {l : List α} {f : α → List β} {k : Nat} (h : ∀ x ∈ l, (f x).length ≤ k) : (l.flatMap f).length ≤ l.length * k := by
  induction l with
  | nil => simp
  | cons x r ih =>
    have h1 := ih fun y hy => h y (by simp [hy])
    have h2 := h x (by simp)
    rw [List.flatMap_cons, List.length_append, List.length_cons, Nat.add_mul, Nat.one_mul]
    omega
theorem fwd_len {cs : List (Nat × List Nat)} (h : ∀ c ∈ cs, c.2.length ≤ c.1) : (fwd cs).length ≤ prodS (cs.map Prod.fst) := by
  have key : ∀ n, n ≤ cs.length → (fwd (cs.take n)).length ≤ prodS ((cs.take n).map Prod.fst) := by
    intro n
    induction n with
    | zero => intro _; simp [fwd, prodS]
    | succ n ih =>
      intro hn
      have hc : cs[n]? = some cs[n] := List.getElem?_eq_getElem (by omega)
      rw [List.take_add_one, hc]
      simp only [Option.toList_some]
      rw [fwd_snoc, List.map_append, prodS_append]
      refine Nat.le_trans (flat_len (k := (cs[n]).2.length) fun x _ => by simp) ?_
      refine Nat.mul_le_mul (ih (by omega)) ?_
      simpa [prodS] using h cs[n] (List.getElem_mem _)
  have := key cs.length (Nat.le_refl _)
  rwa [List.take_length] at this
theorem fwd_lt {cs : List (Nat × List Nat)} (h : ∀ c ∈ cs, ∀ x ∈ c.2, x < c.1) : ∀ y ∈ fwd cs, y < prodS (cs.map Prod.fst) := by
  have key : ∀ n, n ≤ cs.length → ∀ y ∈ fwd (cs.take n), y < prodS ((cs.take n).map Prod.fst) := by
    intro n
    induction n with
    | zero => intro _ y hy; simp [fwd] at hy; subst hy; simp [prodS]
    | succ n ih =>
      intro hn y hy
      have hc : cs[n]? = some cs[n] := List.getElem?_eq_getElem (by omega)
      rw [List.take_add_one, hc] at hy ⊢
      simp only [Option.toList_some] at hy ⊢
      rw [fwd_snoc] at hy
      rw [List.map_append, prodS_append]
      obtain ⟨o, ho, hy⟩ := List.mem_flatMap.1 hy
      obtain ⟨x, hx, rfl⟩ := List.mem_map.1 hy
      have h1 := ih (by omega) o ho
      have h2 := h cs[n] (List.getElem_mem _) x hx
      simp only [List.map_cons, List.map_nil, prodS, Nat.mul_one]
      calc o * (cs[n]).1 + x < o * (cs[n]).1 + (cs[n]).1 := by omega
        _ = (o + 1) * (cs[n]).1 := by rw [Nat.add_mul, Nat.one_mul]
        _ ≤ _ := Nat.mul_le_mul_right _ h1
  have := key cs.length (Nat.le_refl _)
  rwa [List.take_length] at this
/-- Valid members. -/
theorem sMem_ok {s : Sys} (h : Sml s) : MemOk (sMem s) := ⟨by have := h.1; simp only [sMem]; omega, fun q l hq hl x hx => cho_lt h hq x hx⟩
theorem autValid_row {a : Aut} (h : autValid a = true) : (0 ≤ a.al ∧ a.al ≤ 63) ∧ (1 ≤ a.next.length ∧ a.next.length ≤ 12) ∧ a.acc.length = a.next.length ∧ ∀ (q : Nat) (row : List Int), a.next[q]? = some row → row.length = (letters a.al.toNat 6).length ∧ ∀ x ∈ row, 0 ≤ x ∧ x < a.next.length := by
  simp only [autValid, Bool.and_eq_true, decide_eq_true_eq, List.all_eq_true] at h
  obtain ⟨h1, h2, h3, h4⟩ := h
  refine ⟨h1, h2, h3, fun q row hr => ?_⟩
  have := h4 row (List.mem_of_getElem? hr)
  simp only [rowB, Bool.and_eq_true, decide_eq_true_eq, List.all_eq_true] at this
  exact this
theorem place_lt {a l : Nat} (hl : l < 6) (hb : a.testBit l = true) : place a l < (letters a 6).length := by
  have key : ∀ n, l + 1 ≤ n → place a l < (letters a n).length := by
    intro n
    induction n with
    | zero => intro h; omega
    | succ n ih =>
      intro h
      rw [letters_succ, List.length_append]
      by_cases e : n = l
      · subst e
        simp [place, hb]
      · have := ih (by omega)
        omega
  exact key 6 (by omega)
theorem aGo_lt {a : Aut} (h : autValid a = true) {q l : Nat} (hq : q < a.next.length) (hl : l < 6) : aGo a q l < a.next.length := by
  obtain ⟨_, _, _, hr⟩ := autValid_row h
  unfold aGo
  split
  · rename_i hb
    have hrow : a.next[q]? = some a.next[q] := List.getElem?_eq_getElem hq
    obtain ⟨h1, h2⟩ := hr q _ hrow
    have hp := place_lt hl hb
    rw [← h1] at hp
    have hx := h2 _ (List.getElem_mem hp)
    simp only [List.getD_eq_getElem?_getD, hrow, Option.getD_some, List.getElem?_eq_getElem hp]
    omega
  · exact hq
theorem aMem_ok {a : Aut} (h : autValid a = true) : MemOk (aMem a) := ⟨(autValid_row h).2.1.1, fun q l hq hl x hx => by
  simp only [aMem, List.mem_singleton] at hx ⊢
  subst hx
  exact aGo_lt h hq hl⟩
theorem free_valid : autValid free = true := by decide
end Go.Proofs.YtplllipekeomiaaGreatDoor

namespace Go.Proofs.YtplllipekeomiaaGreatDoor
open Go Go.RowKit

/-- A node is a state and a set of states; what follows it by a letter. -/
def dW (es es' : List Edg) (Z n l : Nat) : List Nat := (letters (succ es (n / Z : Nat) l) 32).map fun q => q * Z + stepB es' (n % Z) l
section
variable {es es' : List Edg} {p q : Nat}
theorem dW_mem (hp : p ≤ 16) (hf : Few p es) (hg : Few q es') {n l x : Nat} : x ∈ dW es es' (2 ^ q) n l ↔ E es (n / 2 ^ q) l (x / 2 ^ q) ∧ x % 2 ^ q = stepB es' (n % 2 ^ q) l := by
  have hZ := Nat.two_pow_pos q
  have hy := stepB_lt hg (n % 2 ^ q) l
  unfold dW
  rw [List.mem_map]
  constructor
  · rintro ⟨k, hk, rfl⟩
    have h1 : (k * 2 ^ q + stepB es' (n % 2 ^ q) l) / 2 ^ q = k := by
      rw [Nat.mul_comm, Nat.mul_add_div hZ, Nat.div_eq_of_lt hy, Nat.add_zero]
    have h2 : (k * 2 ^ q + stepB es' (n % 2 ^ q) l) % 2 ^ q = stepB es' (n % 2 ^ q) l := by
      rw [Nat.mul_comm, Nat.mul_add_mod, Nat.mod_eq_of_lt hy]
    rw [h1, h2]
    exact ⟨(E_iff hf _ _ _).2 (mem_letters.1 hk).2, rfl⟩
  · rintro ⟨h1, h2⟩
    have h3 := (E_iff hf _ _ _).1 h1
    refine ⟨x / 2 ^ q, mem_letters.2 ⟨?_, h3⟩, ?_⟩
    · obtain ⟨e, he, _, _, h5⟩ := h1
      have := hf e he
      omega
    · rw [← h2, Nat.mul_comm]
      exact Nat.div_add_mod x (2 ^ q)
/-- What a word leads to in a system that is simulated: the set holds a state that simulates. -/
theorem sim_goes (hp : p ≤ 16) (hf : Few p es) (hg : Few q es') (hq : 1 ≤ q) {both : Bool} {R : List Nat} (hR : Gfp both es es' p q R) (h0 : rel R 0 0) {v : List Nat} {x : Nat} (hx : Goes (dW es es' (2 ^ q)) [1] v x) : ∃ j, rel R (x / 2 ^ q) j ∧ (x % 2 ^ q).testBit j = true := by
  have hZ : 2 ≤ 2 ^ q := by
    have := Nat.pow_le_pow_right (n := 2) (by omega) hq
    omega
  induction hx with
  | nil h =>
    obtain rfl := List.mem_singleton.1 h
    exact ⟨0, by rw [Nat.div_eq_of_lt (by omega)]; exact h0, by rw [Nat.mod_eq_of_lt (by omega)]; rfl⟩
  | @snoc w l n x _ h ih =>
    obtain ⟨j, hj, hb⟩ := ih
    obtain ⟨h1, h2⟩ := (dW_mem hp hf hg).1 h
    obtain ⟨k', h3, h4⟩ := (hR.post _ _ hj).1 _ _ h1
    refine ⟨k', h4, ?_⟩
    rw [h2, stepB_bit]
    obtain ⟨e, he, e1, e2, e3⟩ := h3
    exact ⟨e, he, ⟨e2, by rw [show e.fr.toNat = j by omega]; exact hb⟩, by omega⟩
theorem sim_lost (hp : p ≤ 16) (hf : Few p es) (hg : Few q es') (hq : 1 ≤ q) {both : Bool} {R : List Nat} (hR : Gfp both es es' p q R) (h0 : rel R 0 0) (L : List Nat) : Lost (dW es es' (2 ^ q)) [1] (fun n => n % 2 ^ q == 0) L := by
  intro v _ x hx
  obtain ⟨j, _, hj⟩ := sim_goes hp hf hg hq hR h0 hx
  cases h : (x % 2 ^ q == 0)
  · exact h
  · rw [beq_iff_eq] at h
    rw [h, Nat.zero_testBit] at hj
    cases hj
/-- The states that traces lead to. -/
inductive Rch (es : List Edg) : Nat → Prop where
  | zero : Rch es 0
  | step {i l k : Nat} (h : Rch es i) (hk : E es i l k) : Rch es k
/-- Each trace leads to one state. -/
def Det (es : List Edg) : Prop := ∀ i l k k', Rch es i → E es i l k → E es i l k' → k = k'
theorem Det.one (hg : Few q es') (hd : Det es') {j l k : Nat} (hj : Rch es' j) (hk : (stepB es' (2 ^ j) l).testBit k = true) : stepB es' (2 ^ j) l = 2 ^ k := by
  rw [stepB_one hg] at hk ⊢
  apply Nat.eq_of_testBit_eq
  intro i
  rw [Bool.eq_iff_iff, Nat.testBit_two_pow, decide_eq_true_eq]
  constructor
  · intro h
    exact hd j l k i hj ((E_iff hg j l k).2 hk) ((E_iff hg j l i).2 h)
  · rintro rfl
    exact hk
theorem pow_lt_of {j q x : Nat} (h : x % 2 ^ q = 2 ^ j) : j < q := by
  have h1 := Nat.mod_lt x (Nat.two_pow_pos q)
  rw [h] at h1
  exact (Nat.pow_lt_pow_iff_right (by omega)).1 h1
/-- One letter more, where no word leads out. -/
theorem lost_step (hp : p ≤ 16) (hf : Few p es) (hg : Few q es') {L : List Nat} (hL : ∀ i l k, E es i l k → l ∈ L) (hd : Det es') (h : Lost (dW es es' (2 ^ q)) [1] (fun n => n % 2 ^ q == 0) L)
    {v : List Nat} {x i j l k : Nat} (hv : ∀ l ∈ v, l ∈ L) (hx : Goes (dW es es' (2 ^ q)) [1] v x) (h1 : x / 2 ^ q = i) (h2 : x % 2 ^ q = 2 ^ j) (hj : Rch es' j) (hk : E es i l k) :
    l ∈ L ∧ ∃ k', E es' j l k' ∧ Goes (dW es es' (2 ^ q)) [1] (v ++ [l]) (k * 2 ^ q + 2 ^ k') := by
  have hl := hL _ _ _ hk
  have hZ := Nat.two_pow_pos q
  have hy := stepB_lt hg (2 ^ j) l
  have hm : k * 2 ^ q + stepB es' (2 ^ j) l ∈ dW es es' (2 ^ q) x l := by
    rw [dW_mem hp hf hg, h1, h2, Nat.mul_comm, Nat.mul_add_div hZ, Nat.div_eq_of_lt hy, Nat.add_zero, Nat.mul_add_mod, Nat.mod_eq_of_lt hy]
    exact ⟨hk, rfl⟩
  have hg2 := hx.snoc hm
  have hne := h (v ++ [l]) (fun m hm => by
    rcases List.mem_append.1 hm with h | h
    · exact hv m h
    · rw [List.mem_singleton.1 h]; exact hl) _ hg2
  simp only [beq_eq_false_iff_ne, ne_eq] at hne
  rw [Nat.mul_comm, Nat.mul_add_mod, Nat.mod_eq_of_lt hy] at hne
  obtain ⟨k', hk'⟩ := ne_zero_bit.1 hne
  rw [hd.one hg hj hk'] at hg2
  refine ⟨hl, k', ?_, hg2⟩
  rw [stepB_one hg] at hk'
  exact (E_iff hg j l k').2 hk'
theorem node_div {k q k' : Nat} (h : k' < q) : (k * 2 ^ q + 2 ^ k') / 2 ^ q = k ∧ (k * 2 ^ q + 2 ^ k') % 2 ^ q = 2 ^ k' := by
  have hZ := Nat.two_pow_pos q
  have hy : 2 ^ k' < 2 ^ q := (Nat.pow_lt_pow_iff_right (by omega)).2 h
  rw [Nat.mul_comm, Nat.mul_add_div hZ, Nat.div_eq_of_lt hy, Nat.add_zero, Nat.mul_add_mod, Nat.mod_eq_of_lt hy]
  exact ⟨rfl, rfl⟩
theorem E_lt (hf : Few p es) {i l k : Nat} (h : E es i l k) : i < p ∧ k < p := by
  obtain ⟨e, he, h1, h2, h3⟩ := h
  have := hf e he
  omega
theorem node_one (hq : 1 ≤ q) : 1 / 2 ^ q = 0 ∧ 1 % 2 ^ q = 2 ^ 0 := by
  have hZ : 2 ≤ 2 ^ q := by
    have := Nat.pow_le_pow_right (n := 2) (by omega) hq
    omega
  exact ⟨Nat.div_eq_of_lt (by omega), Nat.mod_eq_of_lt (by omega)⟩
/-- Determinism makes inclusion simulation. -/
theorem lost_sim (hp1 : 1 ≤ p) (hp : p ≤ 16) (hf : Few p es) (hg : Few q es') (hq : 1 ≤ q) {L : List Nat} (hL : ∀ i l k, E es i l k → l ∈ L) (hd : Det es') (h : Lost (dW es es' (2 ^ q)) [1] (fun n => n % 2 ^ q == 0) L)
    {R : List Nat} (hR : Gfp false es es' p q R) : rel R 0 0 := by
  refine hR.great (fun i j => i < p ∧ Rch es' j ∧ ∃ v x, (∀ l ∈ v, l ∈ L) ∧ Goes (dW es es' (2 ^ q)) [1] v x ∧ x / 2 ^ q = i ∧ x % 2 ^ q = 2 ^ j) ?_ 0 0 ⟨by omega, .zero, [], 1, (fun l hl => by cases hl), .nil (by simp), (node_one hq).1, (node_one hq).2⟩
  rintro i j ⟨hi, hj, v, x, hv, hx, h1, h2⟩
  refine ⟨hi, pow_lt_of h2, fun l k hk => ?_, fun hb => by cases hb⟩
  obtain ⟨hl, k', e', g'⟩ := lost_step hp hf hg hL hd h hv hx h1 h2 hj hk
  obtain ⟨d1, d2⟩ := node_div (k := k) (E_lt hg e').2
  refine ⟨k', e', (E_lt hf hk).2, hj.step e', v ++ [l], _, fun m hm => ?_, g', d1, d2⟩
  rcases List.mem_append.1 hm with h | h
  · exact hv m h
  · rw [List.mem_singleton.1 h]; exact hl
/-- Determinism of both makes equality bisimilarity. -/
theorem lost_bis (hp1 : 1 ≤ p) (hp : p ≤ 16) (hf : Few p es) (hg : Few q es') (hq : 1 ≤ q) (hq2 : q ≤ 16) {L : List Nat} (hL : ∀ i l k, E es i l k → l ∈ L) (hL' : ∀ i l k, E es' i l k → l ∈ L) (hd : Det es) (hd' : Det es')
    (h : Lost (dW es es' (2 ^ q)) [1] (fun n => n % 2 ^ q == 0) L) (h' : Lost (dW es' es (2 ^ p)) [1] (fun n => n % 2 ^ p == 0) L) {R : List Nat} (hR : Gfp true es es' p q R) : rel R 0 0 := by
  refine hR.great (fun i j => Rch es i ∧ Rch es' j ∧ ∃ v x y, (∀ l ∈ v, l ∈ L) ∧ Goes (dW es es' (2 ^ q)) [1] v x ∧ x / 2 ^ q = i ∧ x % 2 ^ q = 2 ^ j ∧ Goes (dW es' es (2 ^ p)) [1] v y ∧ y / 2 ^ p = j ∧ y % 2 ^ p = 2 ^ i) ?_ 0 0 ⟨.zero, .zero, [], 1, 1, (fun l hl => by cases hl), .nil (by simp), (node_one hq).1, (node_one hq).2, .nil (by simp), (node_one hp1).1, (node_one hp1).2⟩
  rintro i j ⟨hi, hj, v, x, y, hv, hx, h1, h2, hy, h3, h4⟩
  have key : ∀ l k k', E es i l k → E es' j l k' → ∃ v x y, (∀ l ∈ v, l ∈ L) ∧ Goes (dW es es' (2 ^ q)) [1] v x ∧ x / 2 ^ q = k ∧ x % 2 ^ q = 2 ^ k' ∧ Goes (dW es' es (2 ^ p)) [1] v y ∧ y / 2 ^ p = k' ∧ y % 2 ^ p = 2 ^ k := by
    intro l k k' hk hk'
    obtain ⟨hl, m', e', g'⟩ := lost_step hp hf hg hL hd' h hv hx h1 h2 hj hk
    obtain ⟨_, m, e, g⟩ := lost_step hq2 hg hf hL' hd h' hv hy h3 h4 hi hk'
    obtain rfl := hd' j l k' m' hj hk' e'
    obtain rfl := hd i l k m hi hk e
    obtain ⟨d1, d2⟩ := node_div (k := k) (E_lt hg e').2
    obtain ⟨d3, d4⟩ := node_div (k := k') (E_lt hf e).2
    refine ⟨v ++ [l], _, _, fun m hm => ?_, g', d1, d2, g, d3, d4⟩
    rcases List.mem_append.1 hm with h | h
    · exact hv m h
    · rw [List.mem_singleton.1 h]; exact hl
  refine ⟨pow_lt_of h4, pow_lt_of h2, fun l k hk => ?_, fun _ l k' hk' => ?_⟩
  · obtain ⟨_, k', e', _⟩ := lost_step hp hf hg hL hd' h hv hx h1 h2 hj hk
    exact ⟨k', e', hi.step hk, hj.step e', key l k k' hk e'⟩
  · obtain ⟨_, k, e, _⟩ := lost_step hq2 hg hf hL' hd h' hv hy h3 h4 hi hk'
    exact ⟨k, e, hi.step e, hj.step hk', key l k k' e hk'⟩
end
end Go.Proofs.YtplllipekeomiaaGreatDoor

namespace Go.Proofs.YtplllipekeomiaaGreatDoor
open Go Go.RowKit

theorem ltE_trans {a b c : Edg} (h : ltE a b = true) (h' : ltE b c = true) : ltE a c = true := by
  unfold ltE at *
  (repeat' split at h) <;> (repeat' split at h') <;> (repeat' split) <;> simp only [decide_eq_true_eq] at * <;> omega
theorem ltE_iff {a b : Edg} : ltE a b = true ↔ a.fr < b.fr ∨ a.fr = b.fr ∧ (a.le < b.le ∨ a.le = b.le ∧ a.to < b.to) := by
  unfold ltE
  (repeat' split) <;> simp only [decide_eq_true_eq] <;> omega
/-- Each edge is behind the one ahead of it. -/
def Rising (es : List Edg) : Prop := ∀ (a b : Nat) (x y : Edg), es[a]? = some x → es[b]? = some y → a < b → ltE x y = true
theorem rising_of {es : List Edg} (h : ∀ k x y, es[k]? = some x → es[k + 1]? = some y → ltE x y = true) : Rising es := by
  intro a b x y hx hy hab
  induction b generalizing y with
  | zero => omega
  | succ b ih =>
    have hb := (List.getElem?_eq_some_iff.1 hy).1
    obtain ⟨z, hz⟩ : ∃ z, es[b]? = some z := ⟨_, List.getElem?_eq_getElem (by omega)⟩
    have h1 := h b z y hz hy
    rcases Nat.lt_or_ge a b with h2 | h2
    · exact ltE_trans (ih z hz h2) h1
    · obtain rfl : a = b := by omega
      rw [hx] at hz
      obtain rfl := Option.some.inj hz
      exact h1
theorem valid_iff {s : Sys} : sysValid s = true ↔ (0 ≤ s.al ∧ s.al ≤ 63) ∧ (1 ≤ s.st ∧ s.st ≤ 16) ∧ (∀ e ∈ s.edges, edgB s.al.toNat s.st e = true) ∧ Rising s.edges := by
  simp only [sysValid, Bool.and_eq_true, decide_eq_true_eq, List.all_eq_true, List.mem_range]
  constructor
  · rintro ⟨h1, h2, h3⟩
    refine ⟨h1, h2, fun e he => ?_, rising_of fun k x y hx hy => ?_⟩
    · obtain ⟨k, hk⟩ := List.getElem?_of_mem he
      have := h3 k (List.getElem?_eq_some_iff.1 hk).1
      rw [edgeOK, hk] at this
      simp only [Bool.and_eq_true] at this
      exact this.1
    · have := h3 (k + 1) (List.getElem?_eq_some_iff.1 hy).1
      unfold edgeOK at this
      rw [hy] at this
      simp only [Nat.add_sub_cancel, hx, Bool.and_eq_true, Bool.or_eq_true, decide_eq_true_eq] at this
      rcases this.2 with h | h
      · omega
      · exact h
  · rintro ⟨h1, h2, h3, h4⟩
    refine ⟨h1, h2, fun k hk => ?_⟩
    have hx : s.edges[k]? = some s.edges[k] := List.getElem?_eq_getElem hk
    unfold edgeOK
    rw [hx]
    simp only [Bool.and_eq_true, Bool.or_eq_true, decide_eq_true_eq]
    refine ⟨h3 _ (List.getElem_mem hk), ?_⟩
    cases k with
    | zero => exact Or.inl rfl
    | succ k =>
      have hy : s.edges[k]? = some s.edges[k] := List.getElem?_eq_getElem (by omega)
      simp only [Nat.add_sub_cancel, hy]
      exact Or.inr (h4 k (k + 1) _ _ hy hx (by omega))

/-- How many numbers of a set are below another. -/
def rk (R n : Nat) : Nat := (letters R n).length
theorem rk_succ (R n : Nat) : rk R (n + 1) = rk R n + if R.testBit n then 1 else 0 := by
  unfold rk
  rw [letters_succ, List.length_append]
  cases R.testBit n <;> simp
theorem rk_le (R n : Nat) : rk R n ≤ n := letters_length R n
theorem rk_mono {R a b : Nat} (h : a ≤ b) : rk R a ≤ rk R b := by
  induction b with
  | zero => rw [show a = 0 by omega]; exact Nat.le_refl _
  | succ b ih =>
    rcases Nat.lt_or_ge a (b + 1) with h1 | h1
    · rw [rk_succ]
      have := ih (by omega)
      omega
    · rw [show a = b + 1 by omega]; exact Nat.le_refl _
theorem rk_lt {R a b : Nat} (h : a < b) (ha : R.testBit a = true) : rk R a < rk R b := by
  have h1 := rk_mono (R := R) (show a + 1 ≤ b by omega)
  rw [rk_succ, ha] at h1
  simp at h1
  omega
theorem rk_inj {R a b : Nat} (ha : R.testBit a = true) (hb : R.testBit b = true) (h : rk R a = rk R b) : a = b := by
  rcases Nat.lt_trichotomy a b with h1 | h1 | h1
  · have := rk_lt h1 ha; omega
  · exact h1
  · have := rk_lt h1 hb; omega
/-- An edge between some states, which are numbered anew. -/
def subI (R : Nat) (e : Edg) : Bool := hasB R e.fr && hasB R e.to
def subJ (R : Nat) (e : Edg) : Edg := ⟨rk R e.fr.toNat, e.le, rk R e.to.toNat⟩
def subE (R : Nat) (es : List Edg) : List Edg := (es.filter (subI R)).map (subJ R)
theorem subE_snoc (R : Nat) (es : List Edg) (e : Edg) : subE R (es ++ [e]) = if subI R e then subE R es ++ [subJ R e] else subE R es := by
  unfold subE
  rw [List.filter_append, List.map_append]
  cases h : subI R e <;> simp [h]
/-- A system with only some of its states. -/
def subS (s : Sys) (R : Nat) : Sys := ⟨s.al, rk R 32, subE R s.edges⟩
/-- A set is that of the states that traces lead to. -/
def RchSet (es : List Edg) (p R : Nat) : Prop := R < 2 ^ p ∧ ∀ i, R.testBit i = true ↔ Rch es i
section
variable {es : List Edg} {p R : Nat}
theorem subE_E {a l b : Nat} : E (subE R es) a l b ↔ ∃ i k, R.testBit i = true ∧ R.testBit k = true ∧ E es i l k ∧ rk R i = a ∧ rk R k = b := by
  unfold E subE
  constructor
  · rintro ⟨e, he, h1, h2, h3⟩
    obtain ⟨x, hx, rfl⟩ := List.mem_map.1 he
    rw [List.mem_filter] at hx
    obtain ⟨hx, hi⟩ := hx
    simp only [subI, hasB, Bool.and_eq_true, decide_eq_true_eq] at hi
    simp only [subJ] at h1 h2 h3
    exact ⟨x.fr.toNat, x.to.toNat, hi.1.2, hi.2.2, ⟨x, hx, by omega, h2, by omega⟩, by omega, by omega⟩
  · rintro ⟨i, k, hi, hk, ⟨e, he, h1, h2, h3⟩, h4, h5⟩
    refine ⟨subJ R e, List.mem_map.2 ⟨e, List.mem_filter.2 ⟨he, ?_⟩, rfl⟩, ?_, h2, ?_⟩
    · simp only [subI, hasB, Bool.and_eq_true, decide_eq_true_eq]
      rw [h1, h3]
      exact ⟨⟨by omega, hi⟩, ⟨by omega, hk⟩⟩
    · simp only [subJ]; rw [h1, show ((i : Nat) : Int).toNat = i from rfl, h4]
    · simp only [subJ]; rw [h3, show ((k : Nat) : Int).toNat = k from rfl, h5]
/-- Without its unreachable states a system is bisimilar to itself. -/
theorem trim_bis (hp2 : p ≤ 32) (hR : RchSet es p R) {G : List Nat} (hG : Gfp true es (subE R es) p (rk R 32) G) : rel G 0 0 := by
  have lt : ∀ i, R.testBit i = true → i < p := fun i h => by
    rcases Nat.lt_or_ge i p with h1 | h1
    · exact h1
    · have := Nat.testBit_lt_two_pow (Nat.lt_of_lt_of_le hR.1 (Nat.pow_le_pow_right (by omega) h1))
      rw [this] at h; cases h
  have h0 : R.testBit 0 = true := (hR.2 0).2 .zero
  refine hG.great (fun i a => R.testBit i = true ∧ a = rk R i) ?_ 0 0 ⟨h0, rfl⟩
  rintro i a ⟨hi, rfl⟩
  refine ⟨lt i hi, rk_lt (by have := lt i hi; omega) hi, fun l k hk => ?_, fun _ l b hb => ?_⟩
  · have hk' : R.testBit k = true := (hR.2 k).2 (((hR.2 i).1 hi).step hk)
    exact ⟨rk R k, subE_E.2 ⟨i, k, hi, hk', hk, rfl, rfl⟩, hk', rfl⟩
  · obtain ⟨i', k, hi', hk, he, h1, h2⟩ := subE_E.1 hb
    obtain rfl := rk_inj hi' hi h1
    exact ⟨k, he, hk, h2.symm⟩
theorem subE_rising (hr : Rising es) : Rising (subE R es) := by
  have hp : es.Pairwise (fun x y => ltE x y = true) := by
    rw [List.pairwise_iff_getElem]
    intro i j hi hj hij
    exact hr i j _ _ (List.getElem?_eq_getElem hi) (List.getElem?_eq_getElem hj) hij
  have h2 : (subE R es).Pairwise (fun x y => ltE x y = true) := by
    unfold subE
    rw [List.pairwise_map]
    have h3 := hp.filter (subI R)
    have h4 : (es.filter (subI R)).Pairwise (fun x y => subI R x = true ∧ subI R y = true ∧ ltE x y = true) := by
      rw [List.pairwise_iff_getElem] at h3 ⊢
      intro i j hi hj hij
      exact ⟨(List.mem_filter.1 (List.getElem_mem hi)).2, (List.mem_filter.1 (List.getElem_mem hj)).2, h3 i j hi hj hij⟩
    refine h4.imp ?_
    rintro x y ⟨hx, hy, h⟩
    simp only [subI, hasB, Bool.and_eq_true, decide_eq_true_eq] at hx hy
    rw [ltE_iff] at h ⊢
    simp only [subJ]
    have k1 : x.fr < y.fr → rk R x.fr.toNat < rk R y.fr.toNat := fun h => rk_lt (by omega) hx.1.2
    have k2 : x.to < y.to → rk R x.to.toNat < rk R y.to.toNat := fun h => rk_lt (by omega) hx.2.2
    have k3 : x.fr = y.fr → rk R x.fr.toNat = rk R y.fr.toNat := fun h => by rw [h]
    rcases h with h | ⟨h1, h | ⟨h2, h⟩⟩
    · have := k1 h
      omega
    · have := k3 h1
      omega
    · have := k3 h1
      have := k2 h
      omega
  intro a b x y hx hy hab
  obtain ⟨ha, rfl⟩ := List.getElem?_eq_some_iff.1 hx
  obtain ⟨hb, rfl⟩ := List.getElem?_eq_some_iff.1 hy
  exact List.pairwise_iff_getElem.1 h2 a b ha hb hab
end
theorem sub_valid {s : Sys} {p R : Nat} (h : sysValid s = true) (hp : s.st = p) (hR : RchSet s.edges p R) : sysValid (subS s R) = true := by
  obtain ⟨h1, h2, h3, h4⟩ := valid_iff.1 h
  have hrp : rk R 32 ≤ 16 := by
    have : ∀ d, rk R (16 + d) ≤ 16 := by
      intro d
      induction d with
      | zero => exact rk_le R 16
      | succ d ih =>
        rw [show 16 + (d + 1) = 16 + d + 1 by omega, rk_succ]
        have hb : R.testBit (16 + d) = false := Nat.testBit_lt_two_pow (Nat.lt_of_lt_of_le hR.1 (Nat.pow_le_pow_right (by omega) (by omega)))
        rw [hb]
        simpa using ih
    exact this 16
  have hr1 : 0 < rk R 32 := by
    have := rk_lt (R := R) (show 0 < 32 by omega) ((hR.2 0).2 .zero)
    omega
  have hlt : ∀ i, R.testBit i = true → rk R i < rk R 32 := fun i hi => by
    refine rk_lt ?_ hi
    rcases Nat.lt_or_ge i 32 with h | h
    · exact h
    · have : R.testBit i = false := Nat.testBit_lt_two_pow (Nat.lt_of_lt_of_le hR.1 (Nat.pow_le_pow_right (by omega) (by omega)))
      rw [this] at hi; cases hi
  refine valid_iff.2 ⟨h1, ⟨by simp only [subS]; omega, by simp only [subS]; omega⟩, fun e he => ?_, subE_rising h4⟩
  obtain ⟨x, hx, rfl⟩ := List.mem_map.1 he
  obtain ⟨hx, hi⟩ := List.mem_filter.1 hx
  have := h3 x hx
  simp only [subI, edgB, subS, subJ, hasB, Bool.and_eq_true, decide_eq_true_eq] at hi this ⊢
  have a1 := hlt _ hi.1.2
  have a2 := hlt _ hi.2.2
  exact ⟨⟨decide_eq_true (by omega), decide_eq_true (by omega)⟩, ⟨decide_eq_true (by omega), decide_eq_true (by omega)⟩, decide_eq_true this.2.2.1, decide_eq_true this.2.2.2.1, this.2.2.2.2⟩
theorem simB_rel2 {both : Bool} {s t : Sys} (h : sameB s t = true) : simB both s t = true ↔ rel (gfp both s t) 0 0 := by
  unfold simB
  rw [h, Bool.true_and]
  exact ⟨fun x => rel_getD x, fun x => x.2⟩
theorem gfp_at {both : Bool} {s t : Sys} {p q : Nat} (hp : s.st = p) (hq : t.st = q) : Gfp both s.edges t.edges p q (gfp both s t) := by
  have := gfp_spec both s t
  rw [hp, hq] at this
  exact this
/-- Trimming does not matter for simulation. -/
theorem trim_sim {s t : Sys} {p q R T : Nat} (h : sameB s t = true) (hp : s.st = p) (hq : t.st = q) (hR : RchSet s.edges p R) (hT : RchSet t.edges q T) : simB false (subS s R) (subS t T) = simB false s t := by
  obtain ⟨v1, v2, v3⟩ := same_valid h
  have w1 := sub_valid v1 hp hR
  have w2 := sub_valid v2 hq hT
  have h' : sameB (subS s R) (subS t T) = true := by
    simp only [sameB, w1, w2, Bool.true_and, beq_iff_eq]
    exact v3
  obtain ⟨p', hp', p1, p2, hf⟩ := valid_few v1
  obtain ⟨q', hq', q1, q2, hg⟩ := valid_few v2
  obtain rfl : p' = p := by omega
  obtain rfl : q' = q := by omega
  have A := gfp_at (both := true) hp' (show (subS s R).st = (rk R 32 : Nat) from rfl)
  have B := gfp_at (both := true) hq' (show (subS t T).st = (rk T 32 : Nat) from rfl)
  have A' := gfp_at (both := true) (show (subS s R).st = (rk R 32 : Nat) from rfl) hp'
  have B' := gfp_at (both := true) (show (subS t T).st = (rk T 32 : Nat) from rfl) hq'
  have a0 := trim_bis (by omega) hR A
  have b0 := trim_bis (by omega) hT B
  have a0' := A.symm A' a0
  have b0' := B.symm B' b0
  have fA := gfp_at (both := false) hp' (show (subS s R).st = (rk R 32 : Nat) from rfl)
  have fB := gfp_at (both := false) hq' (show (subS t T).st = (rk T 32 : Nat) from rfl)
  have fA' := gfp_at (both := false) (show (subS s R).st = (rk R 32 : Nat) from rfl) hp'
  have fB' := gfp_at (both := false) (show (subS t T).st = (rk T 32 : Nat) from rfl) hq'
  have a1 := A.weak fA a0
  have b1 := B.weak fB b0
  have a2 := A'.weak fA' a0'
  have b2 := B'.weak fB' b0'
  have M := gfp_at (both := false) hp' hq'
  have M' := gfp_at (both := false) (show (subS s R).st = (rk R 32 : Nat) from rfl) (show (subS t T).st = (rk T 32 : Nat) from rfl)
  have X := gfp_at (both := false) (show (subS s R).st = (rk R 32 : Nat) from rfl) hq'
  have Y := gfp_at (both := false) hp' (show (subS t T).st = (rk T 32 : Nat) from rfl)
  rw [Bool.eq_iff_iff, simB_rel2 h, simB_rel2 h']
  constructor
  · intro r
    exact Y.trans fB' M (fA.trans M' Y a1 r) b2
  · intro r
    exact X.trans fB M' (fA'.trans M X a2 r) b1
end Go.Proofs.YtplllipekeomiaaGreatDoor

namespace Go.Proofs.YtplllipekeomiaaGreatDoor
open Go Go.RowKit

/-- The slice (A, n) holds these automata. -/
def ALAt (w : World) (lo hi : Nat) (A : Option Addr) (n : Nat) (us : List Aut) : Prop :=
  n = us.length ∧ ∃ cells, Reads w lo hi 3 A n cells ∧ ∀ (k : Nat) (a : Aut), us[k]? = some a → ∃ (B : Option Addr) (m c : Nat) (B' : Option Addr) (m' c' : Nat), cells[k * 3]? = some (.int .i64 a.al) ∧ cells[k * 3 + 1]? = some (.slice B m c) ∧ cells[k * 3 + 2]? = some (.slice B' m' c') ∧ AutAt w lo hi B m B' m' a
section
variable {w w' : World} {lo hi n k : Nat} {A : Option Addr} {us : List Aut}
theorem ALAt.ext (h : ALAt w lo hi A n us) (hb : Ext w w') : ALAt w' lo hi A n us := by
  obtain ⟨e, cells, hr, hx⟩ := h
  refine ⟨e, cells, hr.ext hb, fun k s hs => ?_⟩
  obtain ⟨B, m, c, B', m', c', h0, h1, h2, h3⟩ := hx k s hs
  exact ⟨B, m, c, B', m', c', h0, h1, h2, h3.ext hb⟩
theorem ALAt.len (h : ALAt w lo hi A n us) : n ≤ 9223372036854775807 := by
  obtain ⟨_, cells, hr, _⟩ := h
  exact hr.len
theorem ALAt.aut (h : ALAt w lo hi A n us) (hk : k < n) : ∃ b o a B m c B' m' c', A = some ⟨b, o, none⟩ ∧ Hid (us[k]? = some a) ∧ w.cell? ⟨b, o + k * 3, none⟩ = some (.int .i64 a.al) ∧ w.cell? ⟨b, o + k * 3 + 1, none⟩ = some (.slice B m c) ∧ w.cell? ⟨b, o + k * 3 + 2, none⟩ = some (.slice B' m' c') ∧ AutAt w lo hi B m B' m' a := by
  obtain ⟨e, cells, hr, hx⟩ := h
  have h0 : us[0]? = some (us[0]'(by omega)) := List.getElem?_eq_getElem _
  obtain ⟨_, _, _, _, _, _, z0, _⟩ := hx 0 _ h0
  rw [Nat.zero_mul] at z0
  obtain ⟨b, o, rfl, hl, hb, hc⟩ := reads_zero hr (by omega) z0
  have hs : us[k]? = some (us[k]'(by omega)) := List.getElem?_eq_getElem _
  obtain ⟨B, m, c, B', m', c', h0, h1, h2, h3⟩ := hx k _ hs
  exact ⟨b, o, _, B, m, c, B', m', c', rfl, hs, hc _ _ h0, by rw [Nat.add_assoc]; exact hc _ _ h1, by rw [Nat.add_assoc]; exact hc _ _ h2, h3⟩
theorem ALAt.aut2 {b o : Nat} {a : Aut} (h : ALAt w lo hi (some ⟨b, o, none⟩) n us) (hs : us[k]? = some a) : ∃ B m c B' m' c', w.cell? ⟨b, o + k * 3, none⟩ = some (.int .i64 a.al) ∧ w.cell? ⟨b, o + k * 3 + 1, none⟩ = some (.slice B m c) ∧ w.cell? ⟨b, o + k * 3 + 2, none⟩ = some (.slice B' m' c') ∧ AutAt w lo hi B m B' m' a := by
  have hk : k < n := by rw [h.1]; exact (List.getElem?_eq_some_iff.1 hs).1
  obtain ⟨b', o', a', B, m, c, B', m', c', hA, hs', r⟩ := h.aut hk
  injection hA with hA
  injection hA with h1 h2
  subst h1; subst h2
  have := hs'.out
  rw [hs] at this
  injection this with this
  subst this
  exact ⟨B, m, c, B', m', c', r⟩
end
/-- What a product's slices hold. -/
structure NetAt (w : World) (PA : Option Addr) (pn : Nat) (AA : Option Addr) (an : Nat) (ss : List Sys) (us : List Aut) : Prop where
  sys : ∃ lo hi, SLAt w lo hi PA pn ss
  aut : ∃ lo hi, ALAt w lo hi AA an us
theorem NetAt.ext {w w' : World} {PA AA : Option Addr} {pn an : Nat} {ss : List Sys} {us : List Aut} (h : NetAt w PA pn AA an ss us) (hx : Ext w w') : NetAt w' PA pn AA an ss us := by
  obtain ⟨⟨lo, hi, h1⟩, lo', hi', h2⟩ := h
  exact ⟨⟨lo, hi, h1.ext hx⟩, lo', hi', h2.ext hx⟩
/-- The members of a product. -/
def mems (ss : List Sys) (us : List Aut) : List Mem := ss.map sMem ++ us.map aMem
/-- The numbers of their states. -/
def szs (ss : List Sys) (us : List Aut) : List Nat := ss.map (fun s => s.st.toNat) ++ us.map fun a => a.next.length
theorem mems_fst (ss : List Sys) (us : List Aut) : (mems ss us).map Prod.fst = szs ss us := by
  simp [mems, szs, sMem, aMem, Function.comp_def]
/-- Few valid members. -/
structure NetOk (ss : List Sys) (us : List Aut) : Prop where
  sys : ∀ s ∈ ss, sysValid s = true
  aut : ∀ a ∈ us, autValid a = true
  few : ss.length ≤ 3
  few' : us.length ≤ 2
theorem sml_of {s : Sys} (h : sysValid s = true) : Sml s := by
  obtain ⟨h1, h2, h3, h4⟩ := valid_iff.1 h
  obtain ⟨p, hp, _, _, hf⟩ := valid_few h
  refine ⟨h2.1, h2.2, ?_, h1.1, h1.2⟩
  rw [hp]
  exact hf
theorem NetOk.ok {ss : List Sys} {us : List Aut} (h : NetOk ss us) : ∀ m ∈ mems ss us, MemOk m := by
  intro m hm
  rcases List.mem_append.1 hm with h1 | h1
  · obtain ⟨s, hs, rfl⟩ := List.mem_map.1 h1
    exact sMem_ok (sml_of (h.sys s hs))
  · obtain ⟨a, ha, rfl⟩ := List.mem_map.1 h1
    exact aMem_ok (h.aut a ha)
theorem prodS_le {l : List Nat} {b : Nat} (h : ∀ x ∈ l, x ≤ b) : prodS l ≤ b ^ l.length := by
  induction l with
  | nil => simp [prodS]
  | cons x r ih =>
    rw [prodS, List.length_cons, Nat.pow_succ, Nat.mul_comm]
    exact Nat.mul_le_mul (ih fun y hy => h y (by simp [hy])) (h x (by simp))
theorem NetOk.le16 {ss : List Sys} {us : List Aut} (h : NetOk ss us) : ∀ x ∈ szs ss us, 1 ≤ x ∧ x ≤ 16 := by
  intro x hx
  rcases List.mem_append.1 hx with h1 | h1
  · obtain ⟨s, hs, rfl⟩ := List.mem_map.1 h1
    have hh := sml_of (h.sys s hs)
    have := hh.1; have := hh.2.1
    omega
  · obtain ⟨a, ha, rfl⟩ := List.mem_map.1 h1
    have := (autValid_row (h.aut a ha)).2.1
    omega
theorem NetOk.len {ss : List Sys} {us : List Aut} (h : NetOk ss us) : (szs ss us).length ≤ 5 := by
  have := h.few; have := h.few'
  simp [szs]; omega
/-- No more than this many nodes. -/
theorem NetOk.total {ss : List Sys} {us : List Aut} (h : NetOk ss us) (l : List Nat) (hl : l.Sublist (szs ss us)) : 1 ≤ prodS l ∧ prodS l ≤ 1048576 := by
  refine ⟨prodS_pos fun x hx => (h.le16 x (hl.subset hx)).1, ?_⟩
  have h1 := prodS_le (l := l) (b := 16) fun x hx => (h.le16 x (hl.subset hx)).2
  have h2 := hl.length_le
  have h3 := h.len
  calc prodS l ≤ 16 ^ l.length := h1
    _ ≤ 16 ^ 5 := Nat.pow_le_pow_right (by omega) (by omega)
    _ = 1048576 := by decide
end Go.Proofs.YtplllipekeomiaaGreatDoor

namespace Go.Proofs.YtplllipekeomiaaGreatDoor
open Go Go.RowKit
set_option maxHeartbeats 1000000

theorem place_succ (a k : Nat) : place a (k + 1) = place a k + if a.testBit k then 1 else 0 := by
  unfold place
  rw [letters_succ, List.length_append]
  cases a.testBit k <;> simp
theorem place_le (a k : Nat) : place a k ≤ k := letters_length a k
theorem spec_l1Place (a l : Nat) (ha : Sm a) (hl : l ≤ 6) (w : World) :
    Calls Tryz.prog 133 #[.int .i64 a, .int .i64 l] w fun e w' => e = .returned (.int .i64 (place a l : Nat)) ∧ w = w' := by
  go_enter Tryz.func133, Tryz.ntmps133
  go_wp2
  go_loop [5, 6] (fun v i => ∃ k y : Nat, k ≤ l ∧ i = .int .i64 k ∧ v = .int .i64 y ∧ y ≤ k ∧ Hid (y = place a k)) (fun _ i => l - (intOf i).toNat)
  case atStart => exact ⟨0, 0, Nat.zero_le _, rfl, rfl, Nat.le_refl _, rfl⟩
  case round =>
    obtain ⟨k, y, hk, rfl, rfl, hy, hyo⟩ := hrel
    by_cases hlt : k < l
    · cases hb : a.testBit k
      all_goals
        have Hb := hide hb
        have Hs := hide (place_succ a k)
        clear hb
        go_wp2_with (go_at_call 83; refine (spec_l1Has a k ha _ (by omega)).mono ?_; rw [Hb.out]; rintro e w' ⟨rfl, rfl⟩)
        go_round
        case rel => first | exact ⟨k + 1, y, by omega, by go_num, rfl, by omega, by unfold Hid; rw [Hs.out, Hb.out, ← hyo.out]; rfl⟩ | exact ⟨k + 1, y + 1, by omega, by go_num, by go_num, by omega, by unfold Hid; rw [Hs.out, Hb.out, ← hyo.out]; rfl⟩
        case measure => simp [intOf]; omega
    · obtain rfl : l = k := by omega
      go_wp2
      go_ret
      exact ⟨ret_int (by rw [hyo.out]), rfl⟩

theorem spec_l3Go {lo hi : Nat} {B : Option Addr} {m d : Nat} {B' : Option Addr} {m' d' : Nat} {a : Aut} {q l : Nat} {w : World} (h : AutAt w lo hi B m B' m' a) (hv : autValid a = true) (hq : q < a.next.length) (hl : l < 6) :
    Calls Tryz.prog 120 #[.agg #[.int .i64 a.al, .slice B m d, .slice B' m' d'], .int .i64 q, .int .i64 l] w fun e w' => e = .returned (.int .i64 (aGo a q l : Nat)) ∧ Ext w w' := by
  obtain ⟨⟨al0, al1⟩, _, _, hrows⟩ := autValid_row hv
  obtain ⟨al, hal⟩ : ∃ al : Nat, Hid (a.al = al) := ⟨a.al.toNat, by unfold Hid; omega⟩
  have hsm : Sm al := by have := hal.out; unfold Sm; omega
  have htn : a.al.toNat = al := by have := hal.out; omega
  have Hn := hide h.n1
  have HN := hide (fun W (hW : Ext w W) => h.1.ext hW)
  have hqm : q < m := by rw [h.n1]; exact hq
  have hG := hide (show aGo a q l = if al.testBit l then ((a.next.getD q []).getD (place al l) 0).toNat else q by unfold aGo; rw [htn])
  have hrow : a.next[q]? = some a.next[q] := List.getElem?_eq_getElem hq
  obtain ⟨hr1, hr2⟩ := hrows q _ hrow
  rw [htn] at hr1
  have Hrow := hide hrow
  have Hr2 := hide hr2
  have Hr1 := hide hr1
  have hlm := h.1.len
  clear hr1 hr2 hrow htn hrows h
  generalize a.next[q] = row at *
  cases hb : al.testBit l
  · have Hb := hide hb
    clear hb
    rw [hal.out]
    clear al0 al1
    go_enter Tryz.func120, Tryz.ntmps120
    go_wp2_with (go_at_call 83; refine (spec_l1Has al l hsm _ (by omega)).mono ?_; rw [Hb.out]; rintro e w' ⟨rfl, rfl⟩)
    go_ret
    exact ⟨ret_int (by rw [hG.out, Hb.out]; rfl), (Ext.refl _).alloc _⟩
  · have hp := hide (place_lt hl hb)
    have Hb := hide hb
    clear hb
    rw [hal.out]
    clear al0 al1
    have hpr : place al l < row.length := by rw [Hr1.out]; exact hp.out
    obtain ⟨x, hx⟩ : ∃ x, Hid (row[place al l]? = some x) := ⟨_, List.getElem?_eq_getElem hpr⟩
    obtain ⟨x0, x1⟩ := Hr2.out x (List.mem_of_getElem? hx.out)
    obtain ⟨y, rfl⟩ : ∃ y : Nat, x = y := ⟨x.toNat, by omega⟩
    have hfin := hide (show aGo a q l = y by rw [hG.out, Hb.out, if_pos rfl]; simp only [List.getD_eq_getElem?_getD, Hrow.out, Option.getD_some, hx.out]; rfl)
    go_enter Tryz.func120, Tryz.ntmps120
    go_wp2_with (go_at_call 83; refine (spec_l1Has al l hsm _ (by omega)).mono ?_; rw [Hb.out]; rintro e w' ⟨rfl, rfl⟩)
    have hw1 : Ext w (w.alloc (.cells #[.int .i64 al, .slice B m d, .slice B' m' d'] 35)) := (Ext.refl w).alloc _
    have hb1 := Blk.new w 35 #[.int .i64 al, .slice B m d, .slice B' m' d']
    generalize w.alloc (.cells #[.int .i64 al, .slice B m d, .slice B' m' d'] 35) = w1 at *
    obtain ⟨ad, Ak, ck, l', rfl, _, _, hl', hc, hrd⟩ := (HN.out w1 hw1).row hqm
    obtain rfl : row = l' := by have h1 := Hrow.out; have h2 := hl'.out; rw [h1] at h2; exact Option.some.inj h2
    have hpc : ∀ W, Ext w1 W → ∃ ad', Ak = some ad' ∧ W.cell? (ad'.add (place al l)) = some (.int .i64 (y : Nat)) := fun W hW => by
      obtain ⟨ad', z, e, _, _, hz, hcz⟩ := (hrd.ext hW).int hpr
      have h1 := hx.out; have h2 := hz.out
      rw [h1] at h2
      obtain rfl := Option.some.inj h2
      exact ⟨ad', e, hcz⟩
    obtain ⟨ad', rfl, _⟩ := hpc w1 (Ext.refl _)
    have c2 : ∀ W, Ext w1 W → W.cell? (ad'.add (place al l)) = some (.int .i64 (y : Nat)) := fun W hW => by
      obtain ⟨ad2, e, h⟩ := hpc W hW
      injection e with e
      subst e
      exact h
    have c1 : ∀ W, Ext w1 W → W.cell? (ad.add q) = some (.slice (some ad') row.length ck) := fun W hW => hW.cell_some hc
    have c0 : ∀ W, Ext w1 W → ∀ j, W.cell? ⟨w.heap.size, j, none⟩ = #[Value.int .i64 al, .slice (some ad) m d, .slice B' m' d'][j]? := fun W hW => (hb1.ext hW).cell
    clear hpc hc hrd
    have hpi : (place al l : Int) < (row.length : Int) := by omega
    have hrr := Ext.refl w1
    generalize hpp : place al l = pl at *
    have Hpp := hide hpp
    clear hpp
    go_wp2_with fail
    go_region_held3 (fun W => Ext w1 W) (first | assumption | (refine Ext.drew ?_; assumption) | (refine Ext.trans ?_ (by assumption); assumption) | (refine Ext.trans ?_ (by assumption); refine Ext.drew ?_; assumption)) ((go_at_call 133; refine (spec_l1Place al l hsm (by omega) _).mono ?_; rw [Hpp.out]; rintro e w' ⟨rfl, rfl⟩))
    go_wp2
    go_ret
    exact ⟨ret_int (by rw [hfin.out]), hw1.trans (by assumption)⟩
end Go.Proofs.YtplllipekeomiaaGreatDoor

namespace Go.Proofs.YtplllipekeomiaaGreatDoor
open Go Go.RowKit
set_option maxHeartbeats 2000000

theorem info_pmov : (Tryz.prog.info? 147).map (fun i => (i.zero, i.size, i.bytes)) = some (some (.pointer none), 1, 8) := by kernel_rfl
def ptrs (bs : List Nat) : List Value := bs.map fun b => .pointer (some ⟨b, 0, none⟩)
/-- The blocks bs hold the moves of the systems. -/
def MovL (w : World) (bs : List Nat) (ss : List Sys) : Prop := bs.length = ss.length ∧ ∀ (i b : Nat) (s : Sys), bs[i]? = some b → ss[i]? = some s → MovB w b s.edges
theorem MovL.ext {w w' : World} {bs : List Nat} {ss : List Sys} (h : MovL w bs ss) (hx : Ext w w') : MovL w' bs ss := ⟨h.1, fun i b s hb hs => (h.2 i b s hb hs).ext hx⟩
theorem MovB.frm {S : Nat → Prop} {w w' : World} {b : Nat} {es : List Edg} (h : MovB w b es) (hx : Frm S w w') (hS : ¬ S b) : MovB w' b es := by
  obtain ⟨cs, hb, hc⟩ := h
  exact ⟨cs, hb.frm hx hS, hc⟩
theorem MovL.snoc {w w' : World} {bs : List Nat} {ss : List Sys} {b : Nat} {s : Sys} (h : MovL w bs ss) (hx : Ext w w') (hb : MovB w' b s.edges) : MovL w' (bs ++ [b]) (ss ++ [s]) := by
  have hl := h.1
  refine ⟨by simp [hl], fun i b' s' hb' hs' => ?_⟩
  rcases Nat.lt_trichotomy i bs.length with hi | hi | hi
  · rw [List.getElem?_append_left hi] at hb'
    rw [List.getElem?_append_left (by omega)] at hs'
    exact (h.2 i b' s' hb' hs').ext hx
  · rw [List.getElem?_append_right (by omega), hi, Nat.sub_self] at hb'
    rw [List.getElem?_append_right (by omega), hi, hl, Nat.sub_self] at hs'
    simp at hb' hs'
    subst hb'; subst hs'
    exact hb
  · rw [List.getElem?_eq_none (by simp; omega)] at hb'
    cases hb'
theorem MovL.frm {S : Nat → Prop} {w w' : World} {bs : List Nat} {ss : List Sys} (h : MovL w bs ss) (hx : Frm S w w') (hS : ∀ (b : Nat) (cs : Array Value), Blk w b 161 cs → ¬ S b) : MovL w' bs ss :=
  ⟨h.1, fun i b s hb hs => by
    obtain ⟨cs, hB, hc⟩ := h.2 i b s hb hs
    exact ⟨cs, hB.frm hx (hS b cs hB), hc⟩⟩
/-- Systems that run together, as newParts makes them. -/
structure PtAt (w : World) (lo hi : Nat) (A : Option Addr) (k lo' hi' : Nat) (M : Option Addr) (ss : List Sys) : Prop where
  sys : SLAt w lo hi A k ss
  mov : ∃ bs, Reads w lo' hi' 1 M k (ptrs bs) ∧ MovL w bs ss
theorem PtAt.ext {w w' : World} {lo hi k lo' hi' : Nat} {A M : Option Addr} {ss : List Sys} (h : PtAt w lo hi A k lo' hi' M ss) (hx : Ext w w') : PtAt w' lo hi A k lo' hi' M ss := by
  obtain ⟨bs, hr, hb⟩ := h.mov
  exact ⟨h.sys.ext hx, bs, hr.ext hx, hb.ext hx⟩
/-- Parts that grow. -/
structure Grp (w0 W : World) (G : Nat) (a v : Value) (bs : List Nat) (ss : List Sys) : Prop where
  blk : Blk W G 136 #[a, v]
  own : W.ownsRow w0.heap.size 147 1 v bs.length (ptrs bs)
  mov : MovL W bs ss
  ext : Ext w0 W
  hG : w0.heap.size ≤ G
theorem Grp.ext_ {w0 W W' : World} {G : Nat} {a v : Value} {bs : List Nat} {ss : List Sys} (h : Grp w0 W G a v bs ss) (hb : Ext W W') : Grp w0 W' G a v bs ss := ⟨h.blk.ext hb, own_ext h.own hb, h.mov.ext hb, h.ext.trans hb, h.hG⟩
theorem own_farP {w : World} {base : Nat} {e t : TypeId} {size n G : Nat} {v : Value} {xs : List Value} {cs : Array Value} (h : w.ownsRow base e size v n xs) (hB : Blk w G t cs) (hne : e ≠ t) {b : Nat} (hv : v.ownBlock = some b) : b ≠ G := by
  rintro rfl
  rcases h.2 with ⟨rfl, _⟩ | ⟨g, cap, cur, rfl, _, hh, _⟩
  · simp [Value.ownBlock] at hv
  · have hg : g = b := by simpa [Value.ownBlock] using hv
    subst hg
    unfold Blk at hB
    rw [hh] at hB
    injection hB with hB
    injection hB with _ ht
    exact absurd ht hne
theorem Grp.push {w0 W W' : World} {G : Nat} {a v : Value} {bs : List Nat} {ss : List Sys} {b g cap : Nat} {s : Sys} (h : Grp w0 W G a v bs ss) (hb : MovB W b s.edges)
    (hown : W'.ownsRow w0.heap.size 147 1 (.slice (some ⟨g, 0, none⟩) (bs.length + 1) cap) (bs.length + 1) (ptrs bs ++ [.pointer (some ⟨b, 0, none⟩)]))
    (hg : W.grownBy W' v.ownBlock) (hat : v.ownBlock = some g ∨ g = W.heap.size + 1) :
    Hid (W'.cell? ⟨G, 1, none⟩ = some v) ∧ W'.frozen? ⟨G, 1, none⟩ = false ∧ Grp w0 (W'.setCell ⟨G, 1, none⟩ (.slice (some ⟨g, 0, none⟩) (bs.length + 1) cap)) G a (.slice (some ⟨g, 0, none⟩) (bs.length + 1) cap) (bs ++ [b]) (ss ++ [s]) := by
  have hB : Blk W' G 136 #[a, v] := (hg.block G h.blk.lt (fun e => own_farP h.own h.blk (by decide) e.symm rfl)).trans h.blk
  have hgG : g ≠ G := by
    rcases hat with h1 | h1
    · exact own_farP h.own h.blk (by decide) h1
    · have := h.blk.lt; omega
  have hx : Ext w0 W' := h.ext.grown hg (fun k hk => (h.own.lt k hk).1)
  have hset := Frm.setCell W' G 1 (.slice (some ⟨g, 0, none⟩) (bs.length + 1) cap)
  have hfr : Frm (fun k => v.ownBlock = some k) W W' := Frm.of_grown hg
  have hm1 : MovL W' (bs ++ [b]) (ss ++ [s]) := (h.mov.snoc (Ext.refl W) hb).frm hfr (fun c cs hc hS => own_farP h.own hc (by decide) hS rfl)
  refine ⟨hB.cell 1, hB.frozen 1, ⟨by simpa using hB.set_ 1 _, ?_, hm1.frm hset (fun c cs hc hS => ?_), hx.setCell (p := ⟨G, 1, none⟩) h.hG _, h.hG⟩⟩
  · rw [List.length_append, List.length_singleton, show ptrs (bs ++ [b]) = ptrs bs ++ [.pointer (some ⟨b, 0, none⟩)] by simp [ptrs]]
    exact own_frm hown hset (fun c hv hS => by
      have : g = c := by simpa [Value.ownBlock] using hv
      omega)
  · subst hS
    unfold Blk at hc hB
    rw [hc] at hB
    injection hB with hB
    injection hB with _ ht
    exact absurd ht (by decide)
set_option maxRecDepth 100000 in
theorem impl_newParts {lo hi : Nat} {A : Option Addr} {n c : Nat} {ss : List Sys} {w : World} (h : SLAt w lo hi A n ss) (hf : ∀ s ∈ ss, Few 16 s.edges) (hn4 : n ≤ 1000) :
    Calls Tryz.prog 111 #[.slice A n c] w fun e w' => ∃ M d, e = .returned (.agg #[.slice A n c, .slice M n d]) ∧ PtAt w' lo hi A n w.heap.size w'.heap.size M ss ∧ Ext w w' := by
  have HS := hide (fun W (hW : Ext w W) => h.ext hW)
  have hL := hide h.1
  have Hf := hide hf
  have hlen := h.len
  clear hf
  go_enter Tryz.func111, Tryz.ntmps111
  obtain ⟨bz, bG⟩ := ext_blk2 (Ext.refl ((w.alloc (.cells #[.slice none 0 0, .slice none 0 0] 136)).alloc (.cells #[.slice A n c, .slice none 0 0] 136)))
  have hw2 : Ext w ((w.alloc (.cells #[.slice none 0 0, .slice none 0 0] 136)).alloc (.cells #[.slice A n c, .slice none 0 0] 136)) := ((Ext.refl w).alloc _).alloc _
  go_upto_region 2 with fail
  have hsz1 : w.heap.size ≤ (w.alloc (.cells #[.slice none 0 0, .slice none 0 0] 136)).heap.size := by simp
  have hsz2 : (w.alloc (.cells #[.slice none 0 0, .slice none 0 0] 136)).heap.size = w.heap.size + 1 := by simp
  have hgr : Grp (w.alloc (.cells #[.slice none 0 0, .slice none 0 0] 136)) ((w.alloc (.cells #[.slice none 0 0, .slice none 0 0] 136)).alloc (.cells #[.slice A n c, .slice none 0 0] 136)) (w.heap.size + 1) (.slice A n c) (.slice none 0 0) [] [] :=
    ⟨bG, World.ownsRow_nil _ _ _ _, ⟨rfl, fun i b s hb => by simp at hb⟩, (Ext.refl _).alloc _, by rw [hsz2]; exact Nat.le_refl _⟩
  clear bG
  generalize (w.alloc (.cells #[.slice none 0 0, .slice none 0 0] 136)).alloc (.cells #[.slice A n c, .slice none 0 0] 136) = w2 at *
  generalize w.alloc (.cells #[.slice none 0 0, .slice none 0 0] 136) = w1 at *
  go_wp2_with fail
  go_loopw [10] (fun i wr => ∃ (k : Nat) (v : Value) (bs : List Nat), k ≤ n ∧ i = .int .i64 k ∧ Grp w1 wr (w.heap.size + 1) (.slice A n c) v bs (ss.take k) ∧ Hid (bs.length = k) ∧ Blk wr w.heap.size 136 #[.slice none 0 0, .slice none 0 0] ∧ Ext w wr) (fun i _ => n - (intOf i).toNat)
  case atStart => exact ⟨0, _, [], Nat.zero_le _, rfl, by simpa using hgr, hide rfl, bz, hw2⟩
  case round =>
    clear hgr bz hw2 w2
    obtain ⟨k, v, bs, hk, rfl, hgr, hbl, bz, hw⟩ := hrel
    by_cases hlt : k < n
    · obtain ⟨g, o, s, B, m, c', rfl, _, _, hs, c0, c1, c2, hsx⟩ := (HS.out wr hw).sys hlt
      have hfs := hide (Hf.out s (List.mem_of_getElem? hs.out))
      have Htk := hide (show ss.take (k + 1) = ss.take k ++ [s] by rw [List.take_add_one, hs.out]; rfl)
      have hx3 := (Ext.refl wr).alloc (.cells #[.int .i64 s.al, .int .i64 s.st, .slice B m c'] 54)
      have hbx := Blk.new wr 54 #[.int .i64 s.al, .int .i64 s.st, .slice B m c']
      have hgr3 := hgr.ext_ hx3
      have hw3 := hw.trans hx3
      have bz3 := bz.ext hx3
      have hsx3 := hsx.ext hx3
      clear hgr
      go_upto_region 5 with fail
      clear c0 c1 c2
      generalize wr.alloc (.cells #[.int .i64 s.al, .int .i64 s.st, .slice B m c'] 54) = w3 at *
      have c5 : ∀ W, Ext w3 W → ∀ q, W.cell? ⟨wr.heap.size, q, none⟩ = #[Value.int .i64 s.al, .int .i64 s.st, .slice B m c'][q]? := fun W hW => (hbx.ext hW).cell
      have cG : ∀ W, Ext w3 W → ∀ q, W.cell? ⟨w.heap.size + 1, q, none⟩ = #[Value.slice (some ⟨g, o, none⟩) n c, v][q]? := fun W hW => (hgr3.blk.ext hW).cell
      have hww := Ext.refl w3
      refine wp_region_tailU (fun X => Ext w3 X) [5, 7] (OrdU.of [0, 1, 2, 3, 4, 5, 6, 7]) (by kernel_rfl) (by kernel_rfl) (by kernel_rfl) (by kernel_rfl) (by kernel_rfl) (fun _ _ _ _ _ h => h) (by first | assumption | exact (Ext.refl _).drew | (refine Ext.drew ?_; assumption)) ?_
      repeat (first | (refine useq_skip rfl rfl (by assumption) ?_; simp only [Act.put, List.setIfInBounds_toArray, List.set_cons_zero, List.set_cons_succ]) | (refine useq_pure (v := ?_) rfl rfl rfl rfl (fun X => ?_) ?_; rotate_left; (focus (go_simp <;> with_reducible rfl)); simp only [Act.put, List.setIfInBounds_toArray, List.set_cons_zero, List.set_cons_succ]) | (refine useq_read (v := ?_) rfl rfl rfl rfl (fun X hX => ?_) ?_; rotate_left; (focus (go_simp <;> with_reducible rfl)); simp only [Act.put, List.setIfInBounds_toArray, List.set_cons_zero, List.set_cons_succ]))
      (refine useq_step rfl rfl rfl (fun K hK => ?_); go_simp)
      refine (impl_movesOf (hsx3.ext hww.drew) hfs.out).mono ?_
      rintro e w4 ⟨b, rfl, hb1, hmv, hx4⟩
      have hww4 := hww.drew.trans hx4
      refine hK.out _ _ hww4 ?_
      (try simp only [Act.put, List.setIfInBounds_toArray, List.set_cons_zero, List.set_cons_succ])
      repeat (first | (refine useq_skip rfl rfl (by assumption) ?_; simp only [Act.put, List.setIfInBounds_toArray, List.set_cons_zero, List.set_cons_succ]) | (refine useq_pure (v := ?_) rfl rfl rfl rfl (fun X => ?_) ?_; rotate_left; (focus (go_simp <;> with_reducible rfl)); simp only [Act.put, List.setIfInBounds_toArray, List.set_cons_zero, List.set_cons_succ]) | (refine useq_read (v := ?_) rfl rfl rfl rfl (fun X hX => ?_) ?_; rotate_left; (focus (go_simp <;> with_reducible rfl)); simp only [Act.put, List.setIfInBounds_toArray, List.set_cons_zero, List.set_cons_succ]))
      (refine useq_step rfl rfl rfl (fun K hK => ?_); go_simp)
      refine hK.out _ _ (hww4.alloc _) ?_
      (try simp only [Act.put, List.setIfInBounds_toArray, List.set_cons_zero, List.set_cons_succ])
      (refine useq_last rfl rfl rfl rfl (fun K hK => ?_))
      refine wp_push w1 w4 _ _ _ rfl 147 _ 1 8 Tryz.underlying134 info_pmov rfl (by decide) v bs.length (ptrs bs) _ _ rfl rfl (hgr3.ext.trans hww4).size (own_ext hgr3.own hww4) rfl (by simp [Value.oneCell']) (by unfold maxLen; have := hbl.out; omega) (by have := hbl.out; omega) ?_
      intro g5 cap5 w5 hown5 hg5 hat5 hlt5
      refine hK.out _ _ ?_
      (try simp only [Act.put, List.setIfInBounds_toArray, List.set_cons_zero, List.set_cons_succ])
      repeat (first | (refine useq_skip rfl rfl (by assumption) ?_; simp only [Act.put, List.setIfInBounds_toArray, List.set_cons_zero, List.set_cons_succ]) | (refine useq_pure (v := ?_) rfl rfl rfl rfl (fun X => ?_) ?_; rotate_left; (focus (go_simp <;> with_reducible rfl)); simp only [Act.put, List.setIfInBounds_toArray, List.set_cons_zero, List.set_cons_succ]) | (refine useq_read (v := ?_) rfl rfl rfl rfl (fun X hX => ?_) ?_; rotate_left; (focus (go_simp <;> with_reducible rfl)); simp only [Act.put, List.setIfInBounds_toArray, List.set_cons_zero, List.set_cons_succ]))
      obtain ⟨p1, p2, p3⟩ := (hgr3.ext_ hww4).push (s := s) hmv (W' := w5) hown5 hg5 hat5
      have p1' := p1.out
      have bz5 : Blk w5 w.heap.size 136 #[.slice none 0 0, .slice none 0 0] := (hg5.block _ (bz3.ext hww4).lt (fun e => own_farP (own_ext hgr3.own hww4) (bz3.ext hww4) (by decide) e.symm rfl)).trans (bz3.ext hww4)
      have hw5 : Ext w w5 := (hw3.trans hww4).grown hg5 (fun q hq => by have := (own_ext hgr3.own hww4).lt q hq; omega)
      have bz6 := bz5.far (p := ⟨w.heap.size + 1, 1, none⟩) (by simp) (.slice (some ⟨g5, 0, none⟩) (bs.length + 1) cap5)
      have hw6 := hw5.setCell (p := ⟨w.heap.size + 1, 1, none⟩) (by simp) (.slice (some ⟨g5, 0, none⟩) (bs.length + 1) cap5)
      (refine useq_last rfl rfl rfl rfl (fun K hK => ?_))
      go_simp
      refine hK.out _ _ ?_
      refine useq_nil ?_
      go_wp2_with fail
      go_roundw
      case rel => exact ⟨k + 1, _, bs ++ [b], by omega, by go_num, by rw [Htk.out]; exact p3, hide (by rw [List.length_append, hbl.out]; rfl), bz6, hw6⟩
      case measure => simp [intOf]; omega
    · obtain rfl : n = k := by omega
      obtain ⟨M, d, rfl⟩ : ∃ M d, v = .slice M n d := by
        have ho := hgr.own
        rw [hbl.out] at ho
        exact own_form ho
      have cG := hgr.blk.cell
      have cZ := bz.cell
      have fZ := bz.frozen
      have hfl : Frm (fun k => k = w.heap.size) wr ((wr.setCell ⟨w.heap.size, 0, none⟩ (.slice A n c)).setCell ⟨w.heap.size, 1, none⟩ (.slice M n d)) := (Frm.setCell wr _ 0 _).trans (Frm.setCell _ _ 1 _)
      have hbf : Blk ((wr.setCell ⟨w.heap.size, 0, none⟩ (.slice A n c)).setCell ⟨w.heap.size, 1, none⟩ (.slice M n d)) w.heap.size 136 #[.slice A n c, .slice M n d] := by simpa using (bz.set_ 0 (.slice A n c)).set_ 1 (.slice M n d)
      have hxf := hw.frm hfl (fun k hk e => by omega)
      have hfin := hide (show ∃ M' d', Ending.returned (.agg #[.slice A n c, .slice M n d]) = .returned (.agg #[.slice A n c, .slice M' n d']) ∧ PtAt ((wr.setCell ⟨w.heap.size, 0, none⟩ (.slice A n c)).setCell ⟨w.heap.size, 1, none⟩ (.slice M n d)) lo hi A n w.heap.size ((wr.setCell ⟨w.heap.size, 0, none⟩ (.slice A n c)).setCell ⟨w.heap.size, 1, none⟩ (.slice M n d)).heap.size M' ss ∧ Ext w ((wr.setCell ⟨w.heap.size, 0, none⟩ (.slice A n c)).setCell ⟨w.heap.size, 1, none⟩ (.slice M n d)) from by
        refine ⟨M, d, rfl, ⟨HS.out _ hxf, bs, ?_, ?_⟩, hxf⟩
        · have ho := own_keep hgr.own hfl (fun b h1 e => by omega)
          rw [hbl.out] at ho
          exact (Reads.of_own ho).more (by omega) (Nat.le_refl _)
        · have hm := hgr.mov
          rw [List.take_of_length_le (by have := hL.out; omega)] at hm
          exact hm.frm hfl (fun b cs hc hS => by
            subst hS
            unfold Blk at hc bz
            rw [hc] at bz
            injection bz with bz
            injection bz with _ ht
            exact absurd ht (by decide)))
      go_wp2_with fail
      generalize (wr.setCell ⟨w.heap.size, 0, none⟩ (.slice A n c)).setCell ⟨w.heap.size, 1, none⟩ (.slice M n d) = wf at *
      have cf := hbf.cell
      exact bodyPost_ret (v := .agg #[.slice A n c, .slice M n d]) (by simp [results, Tryz.results111, go_sem, cf]) rfl hfin.out
end Go.Proofs.YtplllipekeomiaaGreatDoor

namespace Go.Proofs.YtplllipekeomiaaGreatDoor
open Go Go.RowKit
set_option maxHeartbeats 2000000

theorem nats_snoc (l : List Nat) (x : Nat) : nats (l ++ [x]) = nats l ++ [.int .i64 (x : Nat)] := by simp [nats]
theorem spec_l4Sizes {PA AA : Option Addr} {pn pc an ac : Nat} {sv : Value} {L K G : Int} {ss : List Sys} {us : List Aut} {w : World} (h : NetAt w PA pn AA an ss us) (hok : NetOk ss us) :
    Calls Tryz.prog 102 #[.agg #[.slice PA pn pc, .slice AA an ac, sv, .int .i64 L, .int .i64 K, .int .i64 G]] w (RetNats w (szs ss us)) := by
  have HN := hide (fun W (hW : Ext w W) => h.ext hW)
  have hpn : Hid (pn = ss.length) := by obtain ⟨_, _, h1⟩ := h.sys; exact h1.1
  have han : Hid (an = us.length) := by obtain ⟨_, _, h1⟩ := h.aut; exact h1.1
  have hp3 : pn ≤ 3 := by rw [hpn.out]; exact hok.few
  have ha2 : an ≤ 2 := by rw [han.out]; exact hok.few'
  have Hok := hide hok
  clear h hok
  go_enter Tryz.func102, Tryz.ntmps102
  have hw1 : Ext w (w.alloc (.cells #[.slice PA pn pc, .slice AA an ac, sv, .int .i64 L, .int .i64 K, .int .i64 G] 110)) := (Ext.refl w).alloc _
  have hb1 := Blk.new w 110 #[.slice PA pn pc, .slice AA an ac, sv, .int .i64 L, .int .i64 K, .int .i64 G]
  go_wp2
  go_loopw [3, 4] (fun v i wr => ∃ k : Nat, k ≤ pn ∧ i = .int .i64 k ∧ wr.ownsRow w.heap.size 3 1 v k (nats ((ss.take k).map fun s => s.st.toNat)) ∧ Ext w wr ∧ Blk wr w.heap.size 110 #[.slice PA pn pc, .slice AA an ac, sv, .int .i64 L, .int .i64 K, .int .i64 G])
    (fun _ i _ => pn - (intOf i).toNat)
  case atStart => exact ⟨0, Nat.zero_le _, rfl, (by have h0 := World.ownsRow_lit (base := w.heap.size) (e := 3) (size := 1) (w.alloc (.cells #[.slice PA pn pc, .slice AA an ac, sv, .int .i64 L, .int .i64 K, .int .i64 G] 110)) #[] 0 (by simp) (by unfold maxLen; omega) rfl; simpa [nats] using h0), hw1.alloc _, hb1.ext ((Ext.refl _).alloc _)⟩
  case round =>
    obtain ⟨k, hk, rfl, hown, hext, hbx⟩ := hrel
    have c0 := hbx.cell
    by_cases hlt : k < pn
    · obtain ⟨lo, hi, hsl⟩ := (HN.out wr hext).sys
      obtain ⟨b, o, s, B, q, d, rfl, hlo, hhi, hs, e0, e1, e2, hsy⟩ := hsl.sys hlt
      have hss := sml_of (Hok.out.sys s (List.mem_of_getElem? hs.out))
      obtain ⟨p, hp⟩ : ∃ p : Nat, Hid (s.st = p) := ⟨s.st.toNat, by have := hss.1; unfold Hid; omega⟩
      rw [hp.out] at e1
      have Htk := hide (show (ss.take (k + 1)).map (fun s => s.st.toNat) = (ss.take k).map (fun s => s.st.toNat) ++ [p] by rw [List.take_add_one, hs.out]; simp [hp.out])
      clear hss hsl hsy
      go_wp2_with (at_builtin; refine wpList_push w wr rfl _ _ _ rfl 3 _ 1 8 Tryz.underlying84 info_int rfl (by decide) u3 _ _ _ _ rfl rfl hext hown rfl (cells_int _) (by unfold maxLen; omega) (by omega) ?_; intro v' w1 hext1 hown1 hg1 hat1)
      have hbx1 : Blk w1 w.heap.size 110 #[.slice (some ⟨b, o, none⟩) pn pc, .slice AA an ac, sv, .int .i64 L, .int .i64 K, .int .i64 G] := (hg1.block _ hbx.lt (fun e => own_farP hown hbx (by decide) e.symm rfl)).trans hbx
      go_roundw
      case rel => exact ⟨k + 1, by omega, by go_num, by rw [Htk.out, nats_snoc]; exact hown1, hext1, hbx1⟩
      case measure => simp [intOf]; omega
    · obtain rfl : pn = k := by omega
      have hown0 : wr.ownsRow w.heap.size 3 1 u3 pn (nats (ss.map fun s => s.st.toNat)) := by rw [List.take_of_length_le (by have := hpn.out; omega)] at hown; exact hown
      clear hown
      go_wp2
      go_loopw [3, 5] (fun v i wr => ∃ k : Nat, k ≤ an ∧ i = .int .i64 k ∧ wr.ownsRow w.heap.size 3 1 v (pn + k) (nats (ss.map (fun s => s.st.toNat) ++ (us.take k).map fun a => a.next.length)) ∧ Ext w wr ∧ Blk wr w.heap.size 110 #[.slice PA pn pc, .slice AA an ac, sv, .int .i64 L, .int .i64 K, .int .i64 G])
        (fun _ i _ => an - (intOf i).toNat)
      case atStart => exact ⟨0, Nat.zero_le _, rfl, by simpa using hown0, hext, hbx⟩
      case round =>
        clear hown0 hext hbx c0
        obtain ⟨k, hk, rfl, hown, hext, hbx⟩ := hrel
        have c0 := hbx.cell
        by_cases hlt : k < an
        · obtain ⟨lo, hi, hsl⟩ := (HN.out wr hext).aut
          obtain ⟨b, o, a, B, m, c, B', m', c', rfl, hs, e0, e1, e2, hat⟩ := hsl.aut hlt
          have hm := hide hat.n1
          have hm12 : m ≤ 12 := by have := (autValid_row (Hok.out.aut a (List.mem_of_getElem? hs.out))).2.1; rw [← hm.out] at this; omega
          have Htk := hide (show ss.map (fun s => s.st.toNat) ++ (us.take (k + 1)).map (fun a => a.next.length) = (ss.map (fun s => s.st.toNat) ++ (us.take k).map (fun a => a.next.length)) ++ [m] by rw [List.take_add_one, hs.out]; simp [hm.out])
          clear hsl hat
          go_wp2_with (at_builtin; refine wpList_push w wr rfl _ _ _ rfl 3 _ 1 8 Tryz.underlying84 info_int rfl (by decide) u3 _ _ _ _ rfl rfl hext hown rfl (cells_int _) (by unfold maxLen; omega) (by omega) ?_; intro v' w1 hext1 hown1 hg1 hat1)
          have hbx1 : Blk w1 w.heap.size 110 #[.slice PA pn pc, .slice (some ⟨b, o, none⟩) an ac, sv, .int .i64 L, .int .i64 K, .int .i64 G] := (hg1.block _ hbx.lt (fun e => own_farP hown hbx (by decide) e.symm rfl)).trans hbx
          go_roundw
          case rel => exact ⟨k + 1, by omega, by go_num, by rw [Htk.out, nats_snoc]; exact hown1, hext1, hbx1⟩
          case measure => simp [intOf]; omega
        · obtain rfl : an = k := by omega
          have hown0 : wr.ownsRow w.heap.size 3 1 u3 (pn + an) (nats (szs ss us)) := by rw [List.take_of_length_le (by have := han.out; omega)] at hown; exact hown
          have hle : pn + an = (szs ss us).length := by have := own_len hown0; simp [nats] at this; omega
          rw [hle] at hown0
          obtain ⟨A5, c5, rfl⟩ := own_form hown0
          clear hown
          go_wp2
          go_ret
          exact ⟨_, _, rfl, hown0, hext⟩

theorem spec_l4Encode {A B : Option Addr} {c d : Nat} {lo hi lo' hi' : Nat} {sz st : List Nat} {w : World} (h : Lst NatP w lo hi A sz) (h' : Lst NatP w lo' hi' B st) (hl : sz.length = st.length) (hb : ∀ k, k ≤ sz.length → encF 0 (sz.take k) (st.take k) ≤ 1048576) (hz : ∀ x ∈ sz, x ≤ 16) (hs : ∀ x ∈ st, x ≤ 16) :
    Calls Tryz.prog 107 #[.slice A sz.length c, .slice B st.length d] w fun e w' => e = .returned (.int .i64 (encF 0 sz st : Nat)) ∧ Ext w w' := by
  have HA := hide (fun W (hW : Ext w W) => h.ext NatP.ok hW)
  have HB := hide (fun W (hW : Ext w W) => h'.ext NatP.ok hW)
  have Hb := hide hb
  have Hz := hide hz
  have Hs := hide hs
  have hlen := h.len
  have hn : ∃ n : Nat, Hid (sz.length = n) ∧ Hid (st.length = n) := ⟨sz.length, rfl, hl.symm⟩
  obtain ⟨n, hn1, hn2⟩ := hn
  rw [hn1.out] at hlen
  rw [hn1.out, hn2.out]
  clear hb hz hs hl h h'
  go_enter Tryz.func107, Tryz.ntmps107
  go_wp2
  go_loopw [5, 6] (fun v i wr => ∃ k y : Nat, k ≤ n ∧ i = .int .i64 k ∧ v = .int .i64 y ∧ Hid (y = encF 0 (sz.take k) (st.take k)) ∧ y ≤ 1048576 ∧ Ext w wr) (fun _ i _ => n - (intOf i).toNat)
  case atStart => exact ⟨0, 0, Nat.zero_le _, rfl, rfl, rfl, by omega, Ext.refl _⟩
  case round =>
    obtain ⟨k, y, hk, rfl, rfl, hy, hym, hx⟩ := hrel
    by_cases hlt : k < n
    · obtain ⟨b, o, s, rfl, _, _, hs, hc⟩ := (HA.out wr hx).num (show k < sz.length by rw [hn1.out]; exact hlt)
      obtain ⟨b', o', t, rfl, _, _, ht, hc'⟩ := (HB.out wr hx).num (show k < st.length by rw [hn2.out]; exact hlt)
      have hs16 := Hz.out s (List.mem_of_getElem? hs.out)
      have ht16 := Hs.out t (List.mem_of_getElem? ht.out)
      have c1 : ∀ W, Ext wr W → W.cell? ⟨b, o + k, none⟩ = some (.int .i64 (s : Nat)) := fun W hW => hW.cell_some hc
      have c2 : ∀ W, Ext wr W → W.cell? ⟨b', o' + k, none⟩ = some (.int .i64 (t : Nat)) := fun W hW => hW.cell_some hc'
      have hst := hide (show encF 0 (sz.take (k + 1)) (st.take (k + 1)) = y * s + t by
        have key : ∀ (k acc : Nat) (sz st : List Nat), sz[k]? = some s → st[k]? = some t → encF acc (sz.take (k + 1)) (st.take (k + 1)) = encF acc (sz.take k) (st.take k) * s + t := by
          intro k
          induction k with
          | zero =>
            intro acc sz st h1 h2
            cases sz <;> cases st <;> simp at h1 h2
            subst h1; subst h2
            simp [encF]
          | succ k ih =>
            intro acc sz st h1 h2
            cases sz <;> cases st <;> simp at h1 h2
            simpa [encF] using ih _ _ _ h1 h2
        rw [key k 0 sz st hs.out ht.out, hy.out])
      have hbd := Hb.out (k + 1) (by rw [hn1.out]; omega)
      rw [hst.out] at hbd
      have hmul : y * s ≤ 1048576 := by omega
      obtain ⟨ys, hys⟩ : ∃ z : Nat, Hid (y * s = z) := ⟨_, rfl⟩
      have hysi : (y : Int) * (s : Int) = (ys : Int) := by rw [← hys.out]; exact (Int.natCast_mul y s).symm
      rw [hys.out] at hmul hbd hst
      have hrr := Ext.refl wr
      clear hc hc'
      go_wp2_with fail
      go_quiet (fail)
      go_wp2_with fail
      go_roundw
      case rel => exact ⟨k + 1, ys + t, by omega, by go_num, by go_num, by unfold Hid; rw [hst.out], hbd, hx.drewN _⟩
      case measure => simp [intOf]; omega
    · obtain rfl : n = k := by omega
      have hfin := hide (show y = encF 0 sz st by rw [hy.out, List.take_of_length_le (by rw [hn1.out]; exact Nat.le_refl _), List.take_of_length_le (by rw [hn2.out]; exact Nat.le_refl _)])
      go_wp2
      go_ret
      exact ⟨ret_int (by rw [hfin.out]), hx⟩
end Go.Proofs.YtplllipekeomiaaGreatDoor

namespace Go.Proofs.YtplllipekeomiaaGreatDoor
open Go Go.RowKit
set_option maxHeartbeats 2000000

/-- Zeros ahead of what has been decoded. -/
def decV (sz : List Nat) (x k : Nat) : List Nat := List.replicate k 0 ++ dec (sz.drop k) x
theorem decV_set {sz : List Nat} {x k s : Nat} (h : sz[k]? = some s) : (nats (decV sz x (k + 1))).set k (.int .i64 ((x / prodS (sz.drop (k + 1)) % s : Nat) : Int)) = nats (decV sz x k) := by
  have hd : sz.drop k = s :: sz.drop (k + 1) := by
    obtain ⟨hk, rfl⟩ := List.getElem?_eq_some_iff.1 h
    exact List.drop_eq_getElem_cons hk
  unfold decV nats
  rw [hd, dec, List.replicate_succ', List.append_assoc, List.map_append, List.map_append, List.set_append_right _ _ (by simp)]
  simp
theorem spec_l4Decode {A : Option Addr} {c n y0 : Nat} {lo hi : Nat} {sz : List Nat} {w : World} (h : Lst NatP w lo hi A sz) (hn : sz.length = n) (hn5 : n ≤ 1000) (hz : ∀ x ∈ sz, 1 ≤ x ∧ x ≤ 16) (hy : y0 ≤ 4611686018427387904) :
    Calls Tryz.prog 105 #[.slice A n c, .int .i64 y0] w (RetNats w (dec sz y0)) := by
  have HA := hide (fun W (hW : Ext w W) => h.ext NatP.ok hW)
  have Hz := hide hz
  have Hn := hide hn
  clear hz h hn
  go_enter Tryz.func105, Tryz.ntmps105
  go_wp2_with (at_make; refine wpList_make w w rfl _ _ 84 rfl 3 _ 1 8 Tryz.underlying84 info_int _ _ n rfl rfl (Ext.refl _) (by omega) (by unfold maxLen; omega) ?_; intro w3 hw3 hown3 hx23 hsz3)
  generalize hg : w.heap.size = g at *
  have Hg := hide hg
  clear hg hx23 hsz3
  go_loopw [1, 6] (fun v i wr => ∃ k y : Nat, k ≤ n ∧ i = .int .i64 ((k : Int) - 1) ∧ v = .int .i64 y ∧ y ≤ 4611686018427387904 ∧ Hid (y = y0 / prodS (sz.drop k)) ∧ wr.ownsRow g 3 1 (.slice (some ⟨g, 0, none⟩) n n) n (nats (decV sz y0 k)) ∧ Ext w wr) (fun _ i _ => (intOf i + 1).toNat)
  case atStart => exact ⟨n, y0, Nat.le_refl _, by go_num, rfl, hy, by unfold Hid; rw [List.drop_of_length_le (by have := Hn.out; omega)]; simp [prodS], by rw [decV, List.drop_of_length_le (by have := Hn.out; omega)]; simpa [nats, dec, Value.cells, toList_madeCells_one] using hown3, hw3⟩
  case round =>
    clear hown3 hw3
    obtain ⟨k, y, hk, rfl, rfl, hym, hyo, hown, hx⟩ := hrel
    by_cases hlt : 0 < k
    · obtain ⟨j, rfl⟩ : ∃ j, k = j + 1 := ⟨k - 1, by omega⟩
      obtain ⟨b, o, s, rfl, _, _, hs, hc⟩ := (HA.out wr hx).num (show j < sz.length by have := Hn.out; omega)
      obtain ⟨s1, s16⟩ := Hz.out s (List.mem_of_getElem? hs.out)
      obtain ⟨o0, g0⟩ := own_cell hown j (by omega)
      have f0 := hown.frozenAt j
      have hmd : (y : Int) % (s : Int) = ((y % s : Nat) : Int) := (Int.natCast_emod y s).symm
      have hdv : (y : Int) / (s : Int) = ((y / s : Nat) : Int) := (Int.natCast_ediv y s).symm
      have hst := hown.stored j (.int .i64 ((y % s : Nat) : Int))
      rw [hyo.out, decV_set hs.out, ← hyo.out] at hst
      have hdr := hide (show y / s = y0 / prodS (sz.drop j) by
        rw [hyo.out, Nat.div_div_eq_div_mul, List.drop_eq_getElem_cons (show j < sz.length by have := Hn.out; omega), prodS]
        have : sz[j]'(by have := Hn.out; omega) = s := by
          obtain ⟨h1, h2⟩ := List.getElem?_eq_some_iff.1 hs.out
          exact h2
        rw [this, Nat.mul_comm])
      have hle : y / s ≤ 4611686018427387904 := Nat.le_trans (Nat.div_le_self _ _) hym
      have hs0 : ¬ (s = 0) := by omega
      have hgw : w.heap.size ≤ g := by have := Hg.out; omega
      have hj1 : ((j + 1 : Nat) : Int) - 1 = (j : Int) := by omega
      rw [hj1]
      have hc2 := (HA.out _ (hx.setCell (p := ⟨g, j, none⟩) hgw (.int .i64 ((y % s : Nat) : Int)))).num2 hs.out
      generalize y % s = ym at *
      generalize y / s = yd at *
      go_wp2
      go_roundw
      case rel => exact ⟨j, yd, by omega, rfl, rfl, hle, hdr, hst.1, hx.setCell (p := ⟨g, j, none⟩) hgw _⟩
      case measure => simp [intOf]
    · obtain rfl : k = 0 := by omega
      have hlen := dec_length sz y0
      have hfin := hide (show wr.ownsRow w.heap.size 3 1 (.slice (some ⟨g, 0, none⟩) (dec sz y0).length n) (dec sz y0).length (nats (dec sz y0)) by
        rw [hlen, Hn.out, Hg.out]
        simpa [decV] using hown)
      have hln : (dec sz y0).length = n := by have := Hn.out; omega
      go_wp2
      go_ret
      exact ⟨some ⟨g, 0, none⟩, n, by rw [hln]; rfl, hfin.out, hx⟩

theorem spec_l4In {A : Option Addr} {c n : Nat} {lo hi x : Nat} {xs : List Nat} {w : World} (h : Lst NatP w lo hi A xs) (hn : xs.length = n) :
    Calls Tryz.prog 127 #[.slice A n c, .int .i64 x] w fun e w' => e = .returned (.bool (decide (x ∈ xs))) ∧ w = w' := by
  have Hn := hide hn
  have hlen := h.len
  rw [hn] at hlen
  clear hn
  go_enter Tryz.func127, Tryz.ntmps127
  go_wp2
  go_loop [5] (fun i => ∃ k : Nat, k ≤ n ∧ i = .int .i64 k ∧ Hid (∀ (j z : Nat), j < k → xs[j]? = some z → z ≠ x)) (fun i => n - (intOf i).toNat)
  case atStart => exact ⟨0, Nat.zero_le _, rfl, (show Hid _ from fun j z hj => by omega)⟩
  case round =>
    obtain ⟨k, hk, rfl, hno⟩ := hrel
    by_cases hlt : k < n
    · obtain ⟨b, o, z, rfl, _, _, hz, hc⟩ := h.num (show k < xs.length by rw [Hn.out]; exact hlt)
      by_cases hzx : z = x
      · subst hzx
        have hm := hide (List.mem_of_getElem? hz.out)
        go_wp2
        go_ret
        exact ⟨ret_bool (by rw [decide_eq_true hm.out]), rfl⟩
      · have hne : ((z : Int) == (x : Int)) = false := by simp; omega
        go_wp2
        go_round
        case rel => exact ⟨k + 1, by omega, by go_num, (show Hid _ from fun j y hj hy => by
          by_cases e : j = k
          · subst e
            have := hz.out
            rw [hy] at this
            injection this with this
            subst this
            exact hzx
          · exact hno.out j y (by omega) hy)⟩
        case measure => simp [intOf]; omega
    · obtain rfl : n = k := by omega
      have hm := hide (show ¬ x ∈ xs from fun hx => by
        obtain ⟨j, hj⟩ := List.getElem?_of_mem hx
        exact hno.out j x (by have := (List.getElem?_eq_some_iff.1 hj).1; rw [Hn.out] at this; exact this) hj rfl)
      go_wp2
      go_ret
      exact ⟨ret_bool (by rw [decide_eq_false hm.out]), rfl⟩

/-- Whether an automaton accepts in a state. -/
def accB (a : Aut) (q : Nat) : Bool := a.acc.getD q false
theorem spec_l4Ok {PA AA : Option Addr} {pn pc an ac : Nat} {sv : Value} {L K G : Int} {ss : List Sys} {us : List Aut} {w : World} {SA : Option Addr} {sn sc lo hi i q : Nat} {st : List Nat} {a : Aut} (h : NetAt w PA pn AA an ss us) (h' : Lst NatP w lo hi SA st) (hsn : st.length = sn) (hi : us[i]? = some a) (hq : st[pn + i]? = some q) (hqa : q < a.acc.length) :
    Calls Tryz.prog 125 #[.agg #[.slice PA pn pc, .slice AA an ac, sv, .int .i64 L, .int .i64 K, .int .i64 G], .slice SA sn sc, .int .i64 i] w fun e w' => e = .returned (.bool (accB a q)) ∧ Ext w w' := by
  have hia : i < an := by obtain ⟨_, _, h1⟩ := h.aut; rw [h1.1]; exact (List.getElem?_eq_some_iff.1 hi).1
  have hsq : pn + i < sn := by rw [← hsn]; exact (List.getElem?_eq_some_iff.1 hq).1
  obtain ⟨lo', hi', hal⟩ := h.aut
  have hlen := hal.len
  have hlen' : pn ≤ 9223372036854775807 := by obtain ⟨_, _, h1⟩ := h.sys; exact h1.len
  have hlen2 := h'.len
  rw [hsn] at hlen2
  obtain ⟨b, o, a', B, m, c, B', m', c', rfl, ha', e0, e1, e2, hat⟩ := hal.aut hia
  obtain rfl : a = a' := by have := ha'.out; rw [hi] at this; exact Option.some.inj this
  obtain ⟨bs, os, q', rfl, _, _, hq', hc⟩ := h'.num (show pn + i < st.length by rw [hsn]; exact hsq)
  obtain rfl : q = q' := by have := hq'.out; rw [hq] at this; exact Option.some.inj this
  have hm' : q < m' := by rw [hat.n2]; exact hqa
  obtain ⟨ad, x, rfl, _, _, hx, hcx⟩ := hat.2.2.bool hm'
  have hfin := hide (show accB a q = x by unfold accB; rw [List.getD_eq_getElem?_getD, hx.out]; rfl)
  have hml := hat.2.2.len
  have hw1 : Ext w (w.alloc (.cells #[.slice PA pn pc, .slice (some ⟨b, o, none⟩) an ac, sv, .int .i64 L, .int .i64 K, .int .i64 G] 110)) := (Ext.refl w).alloc _
  have hb1 := Blk.new w 110 #[.slice PA pn pc, .slice (some ⟨b, o, none⟩) an ac, sv, .int .i64 L, .int .i64 K, .int .i64 G]
  have c1 : ∀ W, Ext w W → W.cell? ⟨b, o + i * 3 + 2, none⟩ = some (.slice (some ad) m' c') := fun W hW => hW.cell_some e2
  have c2 : ∀ W, Ext w W → W.cell? ⟨bs, os + (pn + i), none⟩ = some (.int .i64 (q : Nat)) := fun W hW => hW.cell_some hc
  have c3 : ∀ W, Ext w W → W.cell? (ad.add q) = some (.bool x) := fun W hW => hW.cell_some hcx
  clear hal hat h h' e0 e1 e2 hc hcx hx hq' ha' hi hq hqa
  go_enter Tryz.func125, Tryz.ntmps125
  go_wp2_with fail
  generalize w.alloc (.cells #[.slice PA pn pc, .slice (some ⟨b, o, none⟩) an ac, sv, .int .i64 L, .int .i64 K, .int .i64 G] 110) = w1 at *
  have c0 := hb1.cell
  have c1 := c1 w1 hw1
  have c2 := c2 w1 hw1
  have c3 := c3 w1 hw1
  have hpi : (pn : Int) + (i : Int) < (sn : Int) := by omega
  have hii : (i : Int) < (an : Int) := by omega
  have hqi : (q : Int) < (m' : Int) := by omega
  go_quiet (fail)
  go_wp2_with fail
  go_ret
  exact ⟨ret_bool (by rw [hfin.out]), hw1.drewN _⟩
end Go.Proofs.YtplllipekeomiaaGreatDoor
