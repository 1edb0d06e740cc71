/- Plain: a valid system's edges rise; a system without its unreachable states is bisimilar to it. No program in sight. | Plain: slices of automata; the memory of a product. | spec.l1Place and spec.l3Go, walked. | impl.newParts, walked: systems that run together, and their moves. | spec.l4Sizes, spec.l4Decode, spec.l4Encode, walked. | spec.l4Decode, spec.l4In, spec.l4Ok, spec.l4Found (two kinds), walked. | Plain: sorted lists of edges. No program in sight. | impl.FirstTraceOutside's closures, walked. -/
import Derived.Test.YtcmgkekaeafgaaaG15
import Derived.Test.YtcmgkekaeafgaaaG02
import Derived.Test.YtcmgkekaeafgaaaG01
import Derived.Test.YtcmgkekaeafgaaaG08
import Derived.Test.YtcmgkekaeafgaaaG07
import Derived.Test.YtcmgkekaeafgaaaG04
import Derived.Deep.DeepCutAuto
import Derived.Deep.CutBlock
import Derived.Test.YtcmgkekaeafgaaaG06
namespace Go.Proofs.Ytcmgkekaeafgaaa
open Go Go.RowKit

theorem ltE_trans {a b c : Edg} (h : ltE a b = true) (h' : ltE b c = true) : ltE a c = true := by
  unfold ltE at *
  (repeat' split at h) <;> (repeat' split at h') <;> (repeat' split) <;> simp only [decide_eq_true_eq] at * <;> omega
theorem ltE_iff {a b : Edg} : ltE a b = true ↔ a.fr < b.fr ∨ a.fr = b.fr ∧ (a.le < b.le ∨ a.le = b.le ∧ a.to < b.to) := by
  unfold ltE
  (repeat' split) <;> simp only [decide_eq_true_eq] <;> omega
/-- Each edge is behind the one ahead of it. -/
def Rising (es : List Edg) : Prop := ∀ (a b : Nat) (x y : Edg), es[a]? = some x → es[b]? = some y → a < b → ltE x y = true
theorem rising_of {es : List Edg} (h : ∀ k x y, es[k]? = some x → es[k + 1]? = some y → ltE x y = true) : Rising es := by
  intro a b x y hx hy hab
  induction b generalizing y with
  | zero => omega
  | succ b ih =>
    have hb := (List.getElem?_eq_some_iff.1 hy).1
    obtain ⟨z, hz⟩ : ∃ z, es[b]? = some z := ⟨_, List.getElem?_eq_getElem (by omega)⟩
    have h1 := h b z y hz hy
    rcases Nat.lt_or_ge a b with h2 | h2
    · exact ltE_trans (ih z hz h2) h1
    · obtain rfl : a = b := by omega
      rw [hx] at hz
      obtain rfl := Option.some.inj hz
      exact h1
theorem valid_iff {s : Sys} : sysValid s = true ↔ (0 ≤ s.al ∧ s.al ≤ 63) ∧ (1 ≤ s.st ∧ s.st ≤ 16) ∧ (∀ e ∈ s.edges, edgB s.al.toNat s.st e = true) ∧ Rising s.edges := by
  simp only [sysValid, Bool.and_eq_true, decide_eq_true_eq, List.all_eq_true, List.mem_range]
  constructor
  · rintro ⟨h1, h2, h3⟩
    refine ⟨h1, h2, fun e he => ?_, rising_of fun k x y hx hy => ?_⟩
    · obtain ⟨k, hk⟩ := List.getElem?_of_mem he
      have := h3 k (List.getElem?_eq_some_iff.1 hk).1
      rw [edgeOK, hk] at this
      simp only [Bool.and_eq_true] at this
      exact this.1
    · have := h3 (k + 1) (List.getElem?_eq_some_iff.1 hy).1
      unfold edgeOK at this
      rw [hy] at this
      simp only [Nat.add_sub_cancel, hx, Bool.and_eq_true, Bool.or_eq_true, decide_eq_true_eq] at this
      rcases this.2 with h | h
      · omega
      · exact h
  · rintro ⟨h1, h2, h3, h4⟩
    refine ⟨h1, h2, fun k hk => ?_⟩
    have hx : s.edges[k]? = some s.edges[k] := List.getElem?_eq_getElem hk
    unfold edgeOK
    rw [hx]
    simp only [Bool.and_eq_true, Bool.or_eq_true, decide_eq_true_eq]
    refine ⟨h3 _ (List.getElem_mem hk), ?_⟩
    cases k with
    | zero => exact Or.inl rfl
    | succ k =>
      have hy : s.edges[k]? = some s.edges[k] := List.getElem?_eq_getElem (by omega)
      simp only [Nat.add_sub_cancel, hy]
      exact Or.inr (h4 k (k + 1) _ _ hy hx (by omega))

/-- How many numbers of a set are below another. -/
def rk (R n : Nat) : Nat := (letters R n).length
theorem rk_succ (R n : Nat) : rk R (n + 1) = rk R n + if R.testBit n then 1 else 0 := by
  unfold rk
  rw [letters_succ, List.length_append]
  cases R.testBit n <;> simp
theorem rk_le (R n : Nat) : rk R n ≤ n := letters_length R n
theorem rk_mono {R a b : Nat} (h : a ≤ b) : rk R a ≤ rk R b := by
  induction b with
  | zero => rw [show a = 0 by omega]; exact Nat.le_refl _
  | succ b ih =>
    rcases Nat.lt_or_ge a (b + 1) with h1 | h1
    · rw [rk_succ]
      have := ih (by omega)
      omega
    · rw [show a = b + 1 by omega]; exact Nat.le_refl _
theorem rk_lt {R a b : Nat} (h : a < b) (ha : R.testBit a = true) : rk R a < rk R b := by
  have h1 := rk_mono (R := R) (show a + 1 ≤ b by omega)
  rw [rk_succ, ha] at h1
  simp at h1
  omega
theorem rk_inj {R a b : Nat} (ha : R.testBit a = true) (hb : R.testBit b = true) (h : rk R a = rk R b) : a = b := by
  rcases Nat.lt_trichotomy a b with h1 | h1 | h1
  · have := rk_lt h1 ha; omega
  · exact h1
  · have := rk_lt h1 hb; omega
/-- An edge between some states, which are numbered anew. -/
def subI (R : Nat) (e : Edg) : Bool := hasB R e.fr && hasB R e.to
def subJ (R : Nat) (e : Edg) : Edg := ⟨rk R e.fr.toNat, e.le, rk R e.to.toNat⟩
def subE (R : Nat) (es : List Edg) : List Edg := (es.filter (subI R)).map (subJ R)
theorem subE_snoc (R : Nat) (es : List Edg) (e : Edg) : subE R (es ++ [e]) = if subI R e then subE R es ++ [subJ R e] else subE R es := by
  unfold subE
  rw [List.filter_append, List.map_append]
  cases h : subI R e <;> simp [h]
/-- A system with only some of its states. -/
def subS (s : Sys) (R : Nat) : Sys := ⟨s.al, rk R 32, subE R s.edges⟩
/-- A set is that of the states that traces lead to. -/
def RchSet (es : List Edg) (p R : Nat) : Prop := R < 2 ^ p ∧ ∀ i, R.testBit i = true ↔ Rch es i
section
variable {es : List Edg} {p R : Nat}
theorem subE_E {a l b : Nat} : E (subE R es) a l b ↔ ∃ i k, R.testBit i = true ∧ R.testBit k = true ∧ E es i l k ∧ rk R i = a ∧ rk R k = b := by
  unfold E subE
  constructor
  · rintro ⟨e, he, h1, h2, h3⟩
    obtain ⟨x, hx, rfl⟩ := List.mem_map.1 he
    rw [List.mem_filter] at hx
    obtain ⟨hx, hi⟩ := hx
    simp only [subI, hasB, Bool.and_eq_true, decide_eq_true_eq] at hi
    simp only [subJ] at h1 h2 h3
    exact ⟨x.fr.toNat, x.to.toNat, hi.1.2, hi.2.2, ⟨x, hx, by omega, h2, by omega⟩, by omega, by omega⟩
  · rintro ⟨i, k, hi, hk, ⟨e, he, h1, h2, h3⟩, h4, h5⟩
    refine ⟨subJ R e, List.mem_map.2 ⟨e, List.mem_filter.2 ⟨he, ?_⟩, rfl⟩, ?_, h2, ?_⟩
    · simp only [subI, hasB, Bool.and_eq_true, decide_eq_true_eq]
      rw [h1, h3]
      exact ⟨⟨by omega, hi⟩, ⟨by omega, hk⟩⟩
    · simp only [subJ]; rw [h1, show ((i : Nat) : Int).toNat = i from rfl, h4]
    · simp only [subJ]; rw [h3, show ((k : Nat) : Int).toNat = k from rfl, h5]
/-- Without its unreachable states a system is bisimilar to itself. -/
theorem trim_bis (hp2 : p ≤ 32) (hR : RchSet es p R) {G : List Nat} (hG : Gfp true es (subE R es) p (rk R 32) G) : rel G 0 0 := by
  have lt : ∀ i, R.testBit i = true → i < p := fun i h => by
    rcases Nat.lt_or_ge i p with h1 | h1
    · exact h1
    · have := Nat.testBit_lt_two_pow (Nat.lt_of_lt_of_le hR.1 (Nat.pow_le_pow_right (by omega) h1))
      rw [this] at h; cases h
  have h0 : R.testBit 0 = true := (hR.2 0).2 .zero
  refine hG.great (fun i a => R.testBit i = true ∧ a = rk R i) ?_ 0 0 ⟨h0, rfl⟩
  rintro i a ⟨hi, rfl⟩
  refine ⟨lt i hi, rk_lt (by have := lt i hi; omega) hi, fun l k hk => ?_, fun _ l b hb => ?_⟩
  · have hk' : R.testBit k = true := (hR.2 k).2 (((hR.2 i).1 hi).step hk)
    exact ⟨rk R k, subE_E.2 ⟨i, k, hi, hk', hk, rfl, rfl⟩, hk', rfl⟩
  · obtain ⟨i', k, hi', hk, he, h1, h2⟩ := subE_E.1 hb
    obtain rfl := rk_inj hi' hi h1
    exact ⟨k, he, hk, h2.symm⟩
theorem subE_rising (hr : Rising es) : Rising (subE R es) := by
  have hp : es.Pairwise (fun x y => ltE x y = true) := by
    rw [List.pairwise_iff_getElem]
    intro i j hi hj hij
    exact hr i j _ _ (List.getElem?_eq_getElem hi) (List.getElem?_eq_getElem hj) hij
  have h2 : (subE R es).Pairwise (fun x y => ltE x y = true) := by
    unfold subE
    rw [List.pairwise_map]
    have h3 := hp.filter (subI R)
    have h4 : (es.filter (subI R)).Pairwise (fun x y => subI R x = true ∧ subI R y = true ∧ ltE x y = true) := by
      rw [List.pairwise_iff_getElem] at h3 ⊢
      intro i j hi hj hij
      exact ⟨(List.mem_filter.1 (List.getElem_mem hi)).2, (List.mem_filter.1 (List.getElem_mem hj)).2, h3 i j hi hj hij⟩
    refine h4.imp ?_
    rintro x y ⟨hx, hy, h⟩
    simp only [subI, hasB, Bool.and_eq_true, decide_eq_true_eq] at hx hy
    rw [ltE_iff] at h ⊢
    simp only [subJ]
    have k1 : x.fr < y.fr → rk R x.fr.toNat < rk R y.fr.toNat := fun h => rk_lt (by omega) hx.1.2
    have k2 : x.to < y.to → rk R x.to.toNat < rk R y.to.toNat := fun h => rk_lt (by omega) hx.2.2
    have k3 : x.fr = y.fr → rk R x.fr.toNat = rk R y.fr.toNat := fun h => by rw [h]
    rcases h with h | ⟨h1, h | ⟨h2, h⟩⟩
    · have := k1 h
      omega
    · have := k3 h1
      omega
    · have := k3 h1
      have := k2 h
      omega
  intro a b x y hx hy hab
  obtain ⟨ha, rfl⟩ := List.getElem?_eq_some_iff.1 hx
  obtain ⟨hb, rfl⟩ := List.getElem?_eq_some_iff.1 hy
  exact List.pairwise_iff_getElem.1 h2 a b ha hb hab
end
theorem sub_valid {s : Sys} {p R : Nat} (h : sysValid s = true) (hp : s.st = p) (hR : RchSet s.edges p R) : sysValid (subS s R) = true := by
  obtain ⟨h1, h2, h3, h4⟩ := valid_iff.1 h
  have hrp : rk R 32 ≤ 16 := by
    have : ∀ d, rk R (16 + d) ≤ 16 := by
      intro d
      induction d with
      | zero => exact rk_le R 16
      | succ d ih =>
        rw [show 16 + (d + 1) = 16 + d + 1 by omega, rk_succ]
        have hb : R.testBit (16 + d) = false := Nat.testBit_lt_two_pow (Nat.lt_of_lt_of_le hR.1 (Nat.pow_le_pow_right (by omega) (by omega)))
        rw [hb]
        simpa using ih
    exact this 16
  have hr1 : 0 < rk R 32 := by
    have := rk_lt (R := R) (show 0 < 32 by omega) ((hR.2 0).2 .zero)
    omega
  have hlt : ∀ i, R.testBit i = true → rk R i < rk R 32 := fun i hi => by
    refine rk_lt ?_ hi
    rcases Nat.lt_or_ge i 32 with h | h
    · exact h
    · have : R.testBit i = false := Nat.testBit_lt_two_pow (Nat.lt_of_lt_of_le hR.1 (Nat.pow_le_pow_right (by omega) (by omega)))
      rw [this] at hi; cases hi
  refine valid_iff.2 ⟨h1, ⟨by simp only [subS]; omega, by simp only [subS]; omega⟩, fun e he => ?_, subE_rising h4⟩
  obtain ⟨x, hx, rfl⟩ := List.mem_map.1 he
  obtain ⟨hx, hi⟩ := List.mem_filter.1 hx
  have := h3 x hx
  simp only [subI, edgB, subS, subJ, hasB, Bool.and_eq_true, decide_eq_true_eq] at hi this ⊢
  have a1 := hlt _ hi.1.2
  have a2 := hlt _ hi.2.2
  exact ⟨⟨decide_eq_true (by omega), decide_eq_true (by omega)⟩, ⟨decide_eq_true (by omega), decide_eq_true (by omega)⟩, decide_eq_true this.2.2.1, decide_eq_true this.2.2.2.1, this.2.2.2.2⟩
theorem simB_rel2 {both : Bool} {s t : Sys} (h : sameB s t = true) : simB both s t = true ↔ rel (gfp both s t) 0 0 := by
  unfold simB
  rw [h, Bool.true_and]
  exact ⟨fun x => rel_getD x, fun x => x.2⟩
theorem gfp_at {both : Bool} {s t : Sys} {p q : Nat} (hp : s.st = p) (hq : t.st = q) : Gfp both s.edges t.edges p q (gfp both s t) := by
  have := gfp_spec both s t
  rw [hp, hq] at this
  exact this
/-- Trimming does not matter for simulation. -/
theorem trim_sim {s t : Sys} {p q R T : Nat} (h : sameB s t = true) (hp : s.st = p) (hq : t.st = q) (hR : RchSet s.edges p R) (hT : RchSet t.edges q T) : simB false (subS s R) (subS t T) = simB false s t := by
  obtain ⟨v1, v2, v3⟩ := same_valid h
  have w1 := sub_valid v1 hp hR
  have w2 := sub_valid v2 hq hT
  have h' : sameB (subS s R) (subS t T) = true := by
    simp only [sameB, w1, w2, Bool.true_and, beq_iff_eq]
    exact v3
  obtain ⟨p', hp', p1, p2, hf⟩ := valid_few v1
  obtain ⟨q', hq', q1, q2, hg⟩ := valid_few v2
  obtain rfl : p' = p := by omega
  obtain rfl : q' = q := by omega
  have A := gfp_at (both := true) hp' (show (subS s R).st = (rk R 32 : Nat) from rfl)
  have B := gfp_at (both := true) hq' (show (subS t T).st = (rk T 32 : Nat) from rfl)
  have A' := gfp_at (both := true) (show (subS s R).st = (rk R 32 : Nat) from rfl) hp'
  have B' := gfp_at (both := true) (show (subS t T).st = (rk T 32 : Nat) from rfl) hq'
  have a0 := trim_bis (by omega) hR A
  have b0 := trim_bis (by omega) hT B
  have a0' := A.symm A' a0
  have b0' := B.symm B' b0
  have fA := gfp_at (both := false) hp' (show (subS s R).st = (rk R 32 : Nat) from rfl)
  have fB := gfp_at (both := false) hq' (show (subS t T).st = (rk T 32 : Nat) from rfl)
  have fA' := gfp_at (both := false) (show (subS s R).st = (rk R 32 : Nat) from rfl) hp'
  have fB' := gfp_at (both := false) (show (subS t T).st = (rk T 32 : Nat) from rfl) hq'
  have a1 := A.weak fA a0
  have b1 := B.weak fB b0
  have a2 := A'.weak fA' a0'
  have b2 := B'.weak fB' b0'
  have M := gfp_at (both := false) hp' hq'
  have M' := gfp_at (both := false) (show (subS s R).st = (rk R 32 : Nat) from rfl) (show (subS t T).st = (rk T 32 : Nat) from rfl)
  have X := gfp_at (both := false) (show (subS s R).st = (rk R 32 : Nat) from rfl) hq'
  have Y := gfp_at (both := false) hp' (show (subS t T).st = (rk T 32 : Nat) from rfl)
  rw [Bool.eq_iff_iff, simB_rel2 h, simB_rel2 h']
  constructor
  · intro r
    exact Y.trans fB' M (fA.trans M' Y a1 r) b2
  · intro r
    exact X.trans fB M' (fA'.trans M X a2 r) b1
end Go.Proofs.Ytcmgkekaeafgaaa

namespace Go.Proofs.Ytcmgkekaeafgaaa
open Go Go.RowKit

/-- The slice (A, n) holds these automata. -/
def ALAt (w : World) (lo hi : Nat) (A : Option Addr) (n : Nat) (us : List Aut) : Prop :=
  n = us.length ∧ ∃ cells, Reads w lo hi 3 A n cells ∧ ∀ (k : Nat) (a : Aut), us[k]? = some a → ∃ (B : Option Addr) (m c : Nat) (B' : Option Addr) (m' c' : Nat), cells[k * 3]? = some (.int .i64 a.al) ∧ cells[k * 3 + 1]? = some (.slice B m c) ∧ cells[k * 3 + 2]? = some (.slice B' m' c') ∧ AutAt w lo hi B m B' m' a
section
variable {w w' : World} {lo hi n k : Nat} {A : Option Addr} {us : List Aut}
theorem ALAt.ext (h : ALAt w lo hi A n us) (hb : Ext w w') : ALAt w' lo hi A n us := by
  obtain ⟨e, cells, hr, hx⟩ := h
  refine ⟨e, cells, hr.ext hb, fun k s hs => ?_⟩
  obtain ⟨B, m, c, B', m', c', h0, h1, h2, h3⟩ := hx k s hs
  exact ⟨B, m, c, B', m', c', h0, h1, h2, h3.ext hb⟩
theorem ALAt.len (h : ALAt w lo hi A n us) : n ≤ 9223372036854775807 := by
  obtain ⟨_, cells, hr, _⟩ := h
  exact hr.len
theorem ALAt.aut (h : ALAt w lo hi A n us) (hk : k < n) : ∃ b o a B m c B' m' c', A = some ⟨b, o, none⟩ ∧ Hid (us[k]? = some a) ∧ w.cell? ⟨b, o + k * 3, none⟩ = some (.int .i64 a.al) ∧ w.cell? ⟨b, o + k * 3 + 1, none⟩ = some (.slice B m c) ∧ w.cell? ⟨b, o + k * 3 + 2, none⟩ = some (.slice B' m' c') ∧ AutAt w lo hi B m B' m' a := by
  obtain ⟨e, cells, hr, hx⟩ := h
  have h0 : us[0]? = some (us[0]'(by omega)) := List.getElem?_eq_getElem _
  obtain ⟨_, _, _, _, _, _, z0, _⟩ := hx 0 _ h0
  rw [Nat.zero_mul] at z0
  obtain ⟨b, o, rfl, hl, hb, hc⟩ := reads_zero hr (by omega) z0
  have hs : us[k]? = some (us[k]'(by omega)) := List.getElem?_eq_getElem _
  obtain ⟨B, m, c, B', m', c', h0, h1, h2, h3⟩ := hx k _ hs
  exact ⟨b, o, _, B, m, c, B', m', c', rfl, hs, hc _ _ h0, by rw [Nat.add_assoc]; exact hc _ _ h1, by rw [Nat.add_assoc]; exact hc _ _ h2, h3⟩
theorem ALAt.aut2 {b o : Nat} {a : Aut} (h : ALAt w lo hi (some ⟨b, o, none⟩) n us) (hs : us[k]? = some a) : ∃ B m c B' m' c', w.cell? ⟨b, o + k * 3, none⟩ = some (.int .i64 a.al) ∧ w.cell? ⟨b, o + k * 3 + 1, none⟩ = some (.slice B m c) ∧ w.cell? ⟨b, o + k * 3 + 2, none⟩ = some (.slice B' m' c') ∧ AutAt w lo hi B m B' m' a := by
  have hk : k < n := by rw [h.1]; exact (List.getElem?_eq_some_iff.1 hs).1
  obtain ⟨b', o', a', B, m, c, B', m', c', hA, hs', r⟩ := h.aut hk
  injection hA with hA
  injection hA with h1 h2
  subst h1; subst h2
  have := hs'.out
  rw [hs] at this
  injection this with this
  subst this
  exact ⟨B, m, c, B', m', c', r⟩
end
/-- What a product's slices hold. -/
structure NetAt (w : World) (PA : Option Addr) (pn : Nat) (AA : Option Addr) (an : Nat) (ss : List Sys) (us : List Aut) : Prop where
  sys : ∃ lo hi, SLAt w lo hi PA pn ss
  aut : ∃ lo hi, ALAt w lo hi AA an us
theorem NetAt.ext {w w' : World} {PA AA : Option Addr} {pn an : Nat} {ss : List Sys} {us : List Aut} (h : NetAt w PA pn AA an ss us) (hx : Ext w w') : NetAt w' PA pn AA an ss us := by
  obtain ⟨⟨lo, hi, h1⟩, lo', hi', h2⟩ := h
  exact ⟨⟨lo, hi, h1.ext hx⟩, lo', hi', h2.ext hx⟩
/-- The members of a product. -/
def mems (ss : List Sys) (us : List Aut) : List Mem := ss.map sMem ++ us.map aMem
/-- The numbers of their states. -/
def szs (ss : List Sys) (us : List Aut) : List Nat := ss.map (fun s => s.st.toNat) ++ us.map fun a => a.next.length
theorem mems_fst (ss : List Sys) (us : List Aut) : (mems ss us).map Prod.fst = szs ss us := by
  simp [mems, szs, sMem, aMem, Function.comp_def]
/-- Few valid members. -/
structure NetOk (ss : List Sys) (us : List Aut) : Prop where
  sys : ∀ s ∈ ss, sysValid s = true
  aut : ∀ a ∈ us, autValid a = true
  few : ss.length ≤ 3
  few' : us.length ≤ 2
theorem sml_of {s : Sys} (h : sysValid s = true) : Sml s := by
  obtain ⟨h1, h2, h3, h4⟩ := valid_iff.1 h
  obtain ⟨p, hp, _, _, hf⟩ := valid_few h
  refine ⟨h2.1, h2.2, ?_, h1.1, h1.2⟩
  rw [hp]
  exact hf
theorem NetOk.ok {ss : List Sys} {us : List Aut} (h : NetOk ss us) : ∀ m ∈ mems ss us, MemOk m := by
  intro m hm
  rcases List.mem_append.1 hm with h1 | h1
  · obtain ⟨s, hs, rfl⟩ := List.mem_map.1 h1
    exact sMem_ok (sml_of (h.sys s hs))
  · obtain ⟨a, ha, rfl⟩ := List.mem_map.1 h1
    exact aMem_ok (h.aut a ha)
theorem prodS_le {l : List Nat} {b : Nat} (h : ∀ x ∈ l, x ≤ b) : prodS l ≤ b ^ l.length := by
  induction l with
  | nil => simp [prodS]
  | cons x r ih =>
    rw [prodS, List.length_cons, Nat.pow_succ, Nat.mul_comm]
    exact Nat.mul_le_mul (ih fun y hy => h y (by simp [hy])) (h x (by simp))
theorem NetOk.le16 {ss : List Sys} {us : List Aut} (h : NetOk ss us) : ∀ x ∈ szs ss us, 1 ≤ x ∧ x ≤ 16 := by
  intro x hx
  rcases List.mem_append.1 hx with h1 | h1
  · obtain ⟨s, hs, rfl⟩ := List.mem_map.1 h1
    have hh := sml_of (h.sys s hs)
    have := hh.1; have := hh.2.1
    omega
  · obtain ⟨a, ha, rfl⟩ := List.mem_map.1 h1
    have := (autValid_row (h.aut a ha)).2.1
    omega
theorem NetOk.len {ss : List Sys} {us : List Aut} (h : NetOk ss us) : (szs ss us).length ≤ 5 := by
  have := h.few; have := h.few'
  simp [szs]; omega
/-- No more than this many nodes. -/
theorem NetOk.total {ss : List Sys} {us : List Aut} (h : NetOk ss us) (l : List Nat) (hl : l.Sublist (szs ss us)) : 1 ≤ prodS l ∧ prodS l ≤ 1048576 := by
  refine ⟨prodS_pos fun x hx => (h.le16 x (hl.subset hx)).1, ?_⟩
  have h1 := prodS_le (l := l) (b := 16) fun x hx => (h.le16 x (hl.subset hx)).2
  have h2 := hl.length_le
  have h3 := h.len
  calc prodS l ≤ 16 ^ l.length := h1
    _ ≤ 16 ^ 5 := Nat.pow_le_pow_right (by omega) (by omega)
    _ = 1048576 := by decide
end Go.Proofs.Ytcmgkekaeafgaaa

namespace Go.Proofs.Ytcmgkekaeafgaaa
open Go Go.RowKit
set_option maxHeartbeats 1000000

theorem place_succ (a k : Nat) : place a (k + 1) = place a k + if a.testBit k then 1 else 0 := by
  unfold place
  rw [letters_succ, List.length_append]
  cases a.testBit k <;> simp
theorem place_le (a k : Nat) : place a k ≤ k := letters_length a k
end Go.Proofs.Ytcmgkekaeafgaaa

namespace Go.Proofs.Ytcmgkekaeafgaaa
open Go Go.RowKit
set_option maxHeartbeats 2000000

def ptrs (bs : List Nat) : List Value := bs.map fun b => .pointer (some ⟨b, 0, none⟩)
theorem own_farP {w : World} {base : Nat} {e t : TypeId} {size n G : Nat} {v : Value} {xs : List Value} {cs : Array Value} (h : w.ownsRow base e size v n xs) (hB : Blk w G t cs) (hne : e ≠ t) {b : Nat} (hv : v.ownBlock = some b) : b ≠ G := by
  rintro rfl
  rcases h.2 with ⟨rfl, _⟩ | ⟨g, cap, cur, rfl, _, hh, _⟩
  · simp [Value.ownBlock] at hv
  · have hg : g = b := by simpa [Value.ownBlock] using hv
    subst hg
    unfold Blk at hB
    rw [hh] at hB
    injection hB with hB
    injection hB with _ ht
    exact absurd ht hne
end Go.Proofs.Ytcmgkekaeafgaaa

namespace Go.Proofs.Ytcmgkekaeafgaaa
open Go Go.RowKit
set_option maxHeartbeats 2000000

theorem nats_snoc (l : List Nat) (x : Nat) : nats (l ++ [x]) = nats l ++ [.int .i64 (x : Nat)] := by simp [nats]
end Go.Proofs.Ytcmgkekaeafgaaa

namespace Go.Proofs.Ytcmgkekaeafgaaa
open Go Go.RowKit
set_option maxHeartbeats 2000000

/-- Zeros ahead of what has been decoded. -/
def decV (sz : List Nat) (x k : Nat) : List Nat := List.replicate k 0 ++ dec (sz.drop k) x
theorem decV_set {sz : List Nat} {x k s : Nat} (h : sz[k]? = some s) : (nats (decV sz x (k + 1))).set k (.int .i64 ((x / prodS (sz.drop (k + 1)) % s : Nat) : Int)) = nats (decV sz x k) := by
  have hd : sz.drop k = s :: sz.drop (k + 1) := by
    obtain ⟨hk, rfl⟩ := List.getElem?_eq_some_iff.1 h
    exact List.drop_eq_getElem_cons hk
  unfold decV nats
  rw [hd, dec, List.replicate_succ', List.append_assoc, List.map_append, List.map_append, List.set_append_right _ _ (by simp)]
  simp
/-- Whether an automaton accepts in a state. -/
def accB (a : Aut) (q : Nat) : Bool := a.acc.getD q false
end Go.Proofs.Ytcmgkekaeafgaaa

namespace Go.Proofs.Ytcmgkekaeafgaaa
open Go Go.RowKit

theorem ltE_irr {a : Edg} : ¬ ltE a a = true := by
  rw [ltE_iff]
  omega
theorem ltE_tri (a b : Edg) : ltE a b = true ∨ a = b ∨ ltE b a = true := by
  rw [ltE_iff, ltE_iff]
  obtain ⟨a1, a2, a3⟩ := a
  obtain ⟨b1, b2, b3⟩ := b
  simp only [Edg.mk.injEq]
  omega
/-- A sorted list. -/
def Srt (es : List Edg) : Prop := ∀ (i j : Nat) (x y : Edg), es[i]? = some x → es[j]? = some y → i < j → ¬ ltE y x = true
end Go.Proofs.Ytcmgkekaeafgaaa

namespace Go.Proofs.Ytcmgkekaeafgaaa
open Go Go.RowKit
set_option maxHeartbeats 2000000

theorem Frm.grown2 {T : Nat → Prop} {w W W' : World} {row : Option Nat} (h : Frm T w W) (hg : W.grownBy W' row) (hr : ∀ k, row = some k → T k ∨ w.heap.size ≤ k) : Frm T w W' :=
  ⟨hg.os.trans h.os, hg.tape.trans h.tape, hg.output.trans h.output, Nat.le_trans h.size hg.size, fun k hk hn => (hg.block k (Nat.lt_of_lt_of_le hk h.size) (fun e => by
    rcases hr k e.symm with h1 | h1
    · exact hn h1
    · omega)).trans (h.block k hk hn)⟩
theorem map_take {α β : Type} {f : α → β} {l : List α} {k : Nat} {x : α} (h : l[k]? = some x) : (l.take (k + 1)).map f = (l.take k).map f ++ [f x] := by
  rw [List.take_add_one, h]; simp
end Go.Proofs.Ytcmgkekaeafgaaa
