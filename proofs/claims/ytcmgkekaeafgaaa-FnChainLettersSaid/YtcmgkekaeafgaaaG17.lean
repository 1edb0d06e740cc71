/- impl.FirstTraceOutside, walked: a search through pairs of a state and a set of states. | impl.TracesWithin and impl.SameTraces, walked. | Plain: the quotient of a system by its greatest relation. No program in sight. | spec.l4Choices and spec.l4Nexts, walked. | spec.l4Nexts, walked. | impl.PartsAlphabet, walked. | impl.SharedLetters, walked; the list behind the first system. | Bytes, as a row's argument. -/
import Derived.Test.YtcmgkekaeafgaaaG16
import Derived.Test.YtcmgkekaeafgaaaG05
import Derived.Test.YtcmgkekaeafgaaaG04
import Derived.Test.YtcmgkekaeafgaaaG07
import Derived.Test.YtcmgkekaeafgaaaG02
import Derived.Test.YtcmgkekaeafgaaaG09
namespace Go.Proofs.Ytcmgkekaeafgaaa
open Go Go.RowKit
set_option maxHeartbeats 4000000

theorem letters_rise (a : Nat) : Rise (letters a 6) := by
  refine ⟨fun l hl => (mem_letters.1 hl).1, fun i j x y hx hy hij => ?_⟩
  have h1 : (letters a 6).Pairwise (· < ·) := List.Pairwise.filter _ List.pairwise_lt_range
  obtain ⟨hi, rfl⟩ := List.getElem?_eq_some_iff.1 hx
  obtain ⟨hj, rfl⟩ := List.getElem?_eq_some_iff.1 hy
  exact List.pairwise_iff_getElem.1 h1 i j hi hj hij
/-- Some trace of one system is none of another. -/
noncomputable def outB (s t : Sys) : Bool := sameB s t && @decide (¬ Lost (dW s.edges t.edges (2 ^ t.st.toNat)) [1] (fun n => n % 2 ^ t.st.toNat == 0) (letters s.al.toNat 6)) (Classical.propDecidable _)
theorem outB_true {s t : Sys} {Z : Nat} {L v : List Nat} (h : sameB s t = true) (hZ : Z = 2 ^ t.st.toNat) (hL : L = letters s.al.toNat 6) (hF : Found (dW s.edges t.edges Z) [1] (fun n => n % Z == 0) L v) : outB s t = true := by
  subst hZ hL
  unfold outB
  rw [h, Bool.true_and]
  refine @decide_eq_true _ (Classical.propDecidable _) fun hl => ?_
  obtain ⟨h1, ⟨x, hx, hg⟩, _⟩ := hF
  have := hl v h1 x hx
  rw [hg] at this
  cases this
theorem outB_false {s t : Sys} {Z : Nat} {L : List Nat} (h : sameB s t = true) (hZ : Z = 2 ^ t.st.toNat) (hL : L = letters s.al.toNat 6) (hF : Lost (dW s.edges t.edges Z) [1] (fun n => n % Z == 0) L) : outB s t = false := by
  subst hZ hL
  unfold outB
  rw [h, Bool.true_and]
  exact @decide_eq_false _ (Classical.propDecidable _) fun hn => hn hF
theorem Blk.ne {w : World} {a b : Nat} {t u : TypeId} {cs ds : Array Value} (h : Blk w a t cs) (h' : Blk w b u ds) (ht : t ≠ u) : a ≠ b := by
  rintro rfl
  unfold Blk at h h'
  rw [h] at h'
  injection h' with h'
  injection h' with _ h2
  exact ht h2
theorem one_at {w : World} {g x : Nat} (h : Blk w g 3 #[.int .i64 (x : Nat)]) : IntsAt w (some ⟨g, 0, none⟩) 1 [x] := by
  refine ⟨rfl, by omega, fun _ => ⟨g, 0, _, rfl, h, fun j y hj => ?_⟩⟩
  cases j with
  | zero =>
    obtain rfl := Option.some.inj hj
    rw [h.cell]; rfl
  | succ j => simp at hj
/-- What FirstTraceOutside answers. -/
def RetOut (w : World) (s t : Sys) (e : Ending) (w' : World) : Prop := ∃ v, e = .returned (.tuple #[.string v, .bool (outB s t)]) ∧ Ext w w'
end Go.Proofs.Ytcmgkekaeafgaaa

namespace Go.Proofs.Ytcmgkekaeafgaaa
open Go Go.RowKit
set_option maxHeartbeats 2000000

/-- All traces of one system are traces of another. -/
noncomputable def withinB (s t : Sys) : Bool := sameB s t && !outB s t
/-- Simulation keeps traces. -/
theorem sim_within {both : Bool} {s t : Sys} (h : simB both s t = true) : withinB s t = true := by
  have hs : sameB s t = true := by unfold simB at h; cases hh : sameB s t <;> simp_all
  obtain ⟨v1, v2, _⟩ := same_valid hs
  obtain ⟨p, hp, hp1, hp2, hf⟩ := valid_few v1
  obtain ⟨q, hq, hq1, hq2, hg⟩ := valid_few v2
  have hl := sim_lost hp2 hf hg hq1 (gfp_at hp hq) ((simB_rel2 hs).1 h) (letters s.al.toNat 6)
  unfold withinB
  rw [hs, outB_false hs (by rw [hq]; rfl) rfl hl]
  rfl
/-- Edges go by letters. -/
theorem valid_L {s : Sys} (h : sysValid s = true) {i l k : Nat} (he : E s.edges i l k) : l ∈ letters s.al.toNat 6 := by
  obtain ⟨_, _, h3, _⟩ := valid_iff.1 h
  obtain ⟨e, he, _, h2, _⟩ := he
  have := h3 e he
  simp only [edgB, hasB, Bool.and_eq_true, decide_eq_true_eq] at this
  rw [h2] at this
  exact mem_letters.2 ⟨by omega, this.2.2.2.2⟩
theorem out_lost {s t : Sys} {q : Nat} (h : withinB s t = true) (hq : t.st = q) : Lost (dW s.edges t.edges (2 ^ q)) [1] (fun n => n % 2 ^ q == 0) (letters s.al.toNat 6) := by
  unfold withinB at h
  rw [Bool.and_eq_true] at h
  have h2 := h.2
  unfold outB at h2
  rw [h.1, Bool.true_and, Bool.not_eq_true', hq] at h2
  have := @of_decide_eq_false _ (Classical.propDecidable _) h2
  exact Classical.not_not.1 this
theorem det_sim {s t : Sys} (hd : Det t.edges) : simB false s t = withinB s t := by
  cases hs : sameB s t
  · unfold simB withinB
    rw [hs]; rfl
  · rw [Bool.eq_iff_iff]
    refine ⟨sim_within, fun h => ?_⟩
    obtain ⟨v1, v2, _⟩ := same_valid hs
    obtain ⟨p, hp, hp1, hp2, hf⟩ := valid_few v1
    obtain ⟨q, hq, hq1, hq2, hg⟩ := valid_few v2
    exact (simB_rel2 hs).2 (lost_sim hp1 hp2 hf hg hq1 (fun i l k he => valid_L v1 he) hd (out_lost h hq) (gfp_at hp hq))
theorem same_symm {s t : Sys} (h : sameB s t = true) : sameB t s = true := by
  obtain ⟨h1, h2, h3⟩ := same_valid h
  simp only [sameB, Bool.and_eq_true, beq_iff_eq]
  exact ⟨h2, h1, h3.symm⟩
theorem bis_symm {s t : Sys} (h : simB true s t = true) : simB true t s = true := by
  have hs : sameB s t = true := by unfold simB at h; cases hh : sameB s t <;> simp_all
  obtain ⟨v1, v2, _⟩ := same_valid hs
  obtain ⟨p, hp, hp1, hp2, hf⟩ := valid_few v1
  obtain ⟨q, hq, hq1, hq2, hg⟩ := valid_few v2
  exact (simB_rel2 (same_symm hs)).2 ((gfp_at hp hq).symm (gfp_at hq hp) ((simB_rel2 hs).1 h))
theorem bis_symm_eq (s t : Sys) : simB true t s = simB true s t := by
  rw [Bool.eq_iff_iff]
  exact ⟨bis_symm, bis_symm⟩
theorem bis_weak {s t : Sys} (h : simB true s t = true) : simB false s t = true := by
  have hs : sameB s t = true := by unfold simB at h; cases hh : sameB s t <;> simp_all
  obtain ⟨v1, v2, _⟩ := same_valid hs
  obtain ⟨p, hp, hp1, hp2, hf⟩ := valid_few v1
  obtain ⟨q, hq, hq1, hq2, hg⟩ := valid_few v2
  exact (simB_rel2 hs).2 ((gfp_at hp hq).weak (gfp_at hp hq) ((simB_rel2 hs).1 h))
theorem sim_self {both : Bool} {s : Sys} (h : sysValid s = true) : simB both s s = true := by
  have hs : sameB s s = true := by simp [sameB, h]
  obtain ⟨p, hp, hp1, hp2, hf⟩ := valid_few h
  exact (simB_rel2 hs).2 (gfp_self hf (gfp_at hp hp) (by omega))
theorem det_bis {s t : Sys} (hd : Det s.edges) (hd' : Det t.edges) : simB true s t = (withinB s t && withinB t s) := by
  cases hs : sameB s t
  · unfold simB withinB
    rw [hs]; rfl
  · rw [Bool.eq_iff_iff, Bool.and_eq_true]
    refine ⟨fun h => ⟨sim_within h, sim_within (bis_symm h)⟩, fun h => ?_⟩
    obtain ⟨v1, v2, v3⟩ := same_valid hs
    obtain ⟨p, hp, hp1, hp2, hf⟩ := valid_few v1
    obtain ⟨q, hq, hq1, hq2, hg⟩ := valid_few v2
    have hl := out_lost h.2 hp
    rw [← v3] at hl
    exact (simB_rel2 hs).2 (lost_bis hp1 hp2 hf hg hq1 hq2 (fun i l k he => valid_L v1 he) (fun i l k he => by rw [v3]; exact valid_L v2 he) hd hd' (out_lost h.1 hq) hl (gfp_at hp hq))
end Go.Proofs.Ytcmgkekaeafgaaa

namespace Go.Proofs.Ytcmgkekaeafgaaa
open Go Go.RowKit

theorem rising_pw {es : List Edg} : Rising es ↔ es.Pairwise (fun x y => ltE x y = true) := by
  rw [List.pairwise_iff_getElem]
  constructor
  · intro h i j hi hj hij
    exact h i j _ _ (List.getElem?_eq_getElem hi) (List.getElem?_eq_getElem hj) hij
  · intro h a b x y hx hy hab
    obtain ⟨ha, rfl⟩ := List.getElem?_eq_some_iff.1 hx
    obtain ⟨hb, rfl⟩ := List.getElem?_eq_some_iff.1 hy
    exact h a b ha hb hab
theorem ltE_asymm {a b : Edg} (h : ltE a b = true) : ¬ ltE b a = true := fun h' => ltE_irr (ltE_trans h h')
/-- Lists that rise are told by their members. -/
theorem rising_ext {l m : List Edg} (hl : l.Pairwise (fun x y => ltE x y = true)) (hm : m.Pairwise (fun x y => ltE x y = true)) (h : ∀ x, x ∈ l ↔ x ∈ m) : l = m := by
  induction l generalizing m with
  | nil =>
    cases m with
    | nil => rfl
    | cons b m => exact absurd ((h b).2 (by simp)) (by simp)
  | cons a l ih =>
    cases m with
    | nil => exact absurd ((h a).1 (by simp)) (by simp)
    | cons b m =>
      rw [List.pairwise_cons] at hl hm
      have e : a = b := by
        rcases List.mem_cons.1 ((h a).1 (by simp)) with h1 | h1
        · exact h1
        · rcases List.mem_cons.1 ((h b).2 (by simp)) with h2 | h2
          · exact h2.symm
          · exact absurd (hl.1 b h2) (ltE_asymm (hm.1 a h1))
      subst e
      rw [ih hl.2 hm.2 (fun x => ?_)]
      constructor
      · intro hx
        rcases List.mem_cons.1 ((h x).1 (by simp [hx])) with h1 | h1
        · subst h1; exact absurd (hl.1 x hx) ltE_irr
        · exact h1
      · intro hx
        rcases List.mem_cons.1 ((h x).2 (by simp [hx])) with h1 | h1
        · subst h1; exact absurd (hm.1 x hx) ltE_irr
        · exact h1
/-- An edge between classes. -/
def quJ (R : List Nat) (e : Edg) : Edg := ⟨(cl R e.fr.toNat : Nat), e.le, (cl R e.to.toNat : Nat)⟩
/-- There is an edge from a class to a class. -/
def quB (R : List Nat) (es : List Edg) (c l d : Nat) : Bool := es.any fun e => decide (cl R e.fr.toNat = c ∧ e.le = (l : Int) ∧ cl R e.to.toNat = d)
def quD (R : List Nat) (es : List Edg) (N c l : Nat) : List Edg := ((List.range N).filter fun d => quB R es c l d).map fun d => ⟨(c : Nat), (l : Nat), (d : Nat)⟩
def quC (R : List Nat) (es : List Edg) (N : Nat) (L : List Nat) (c : Nat) : List Edg := L.flatMap fun l => quD R es N c l
/-- The edges between the classes, in order. -/
def quE (R : List Nat) (es : List Edg) (N : Nat) (L : List Nat) : List Edg := (List.range N).flatMap fun c => quC R es N L c
section
variable {R : List Nat} {es : List Edg} {N : Nat} {L : List Nat}
theorem quD_mem {c l : Nat} {x : Edg} : x ∈ quD R es N c l ↔ ∃ d, d < N ∧ quB R es c l d = true ∧ x = ⟨(c : Nat), (l : Nat), (d : Nat)⟩ := by
  unfold quD
  rw [List.mem_map]
  constructor
  · rintro ⟨d, hd, rfl⟩
    rw [List.mem_filter, List.mem_range] at hd
    exact ⟨d, hd.1, hd.2, rfl⟩
  · rintro ⟨d, h1, h2, rfl⟩
    exact ⟨d, by rw [List.mem_filter, List.mem_range]; exact ⟨h1, h2⟩, rfl⟩
theorem quE_mem {x : Edg} : x ∈ quE R es N L ↔ ∃ c l d, c < N ∧ l ∈ L ∧ d < N ∧ quB R es c l d = true ∧ x = ⟨(c : Nat), (l : Nat), (d : Nat)⟩ := by
  unfold quE quC
  simp only [List.mem_flatMap, List.mem_range, quD_mem]
  constructor
  · rintro ⟨c, hc, l, hl, d, hd, hb, rfl⟩
    exact ⟨c, l, d, hc, hl, hd, hb, rfl⟩
  · rintro ⟨c, l, d, hc, hl, hd, hb, rfl⟩
    exact ⟨c, hc, l, hl, d, hd, hb, rfl⟩
theorem quE_rising (hL : L.Pairwise (· < ·)) : (quE R es N L).Pairwise (fun x y => ltE x y = true) := by
  unfold quE
  rw [List.pairwise_flatMap]
  refine ⟨fun c _ => ?_, ?_⟩
  · unfold quC
    rw [List.pairwise_flatMap]
    refine ⟨fun l _ => ?_, hL.imp ?_⟩
    · unfold quD
      rw [List.pairwise_map]
      refine (List.Pairwise.filter _ List.pairwise_lt_range).imp ?_
      intro a b hab
      rw [ltE_iff]
      exact Or.inr ⟨rfl, Or.inr ⟨rfl, by show (a : Int) < (b : Int); omega⟩⟩
    · intro a b hab x hx y hy
      obtain ⟨d, _, _, rfl⟩ := quD_mem.1 hx
      obtain ⟨d', _, _, rfl⟩ := quD_mem.1 hy
      rw [ltE_iff]
      exact Or.inr ⟨rfl, Or.inl (by show (a : Int) < (b : Int); omega)⟩
  · refine List.pairwise_lt_range.imp ?_
    intro a b hab x hx y hy
    unfold quC at hx hy
    obtain ⟨l, _, hx⟩ := List.mem_flatMap.1 hx
    obtain ⟨l', _, hy⟩ := List.mem_flatMap.1 hy
    obtain ⟨d, _, _, rfl⟩ := quD_mem.1 hx
    obtain ⟨d', _, _, rfl⟩ := quD_mem.1 hy
    rw [ltE_iff]
    exact Or.inl (by show (a : Int) < (b : Int); omega)
end
theorem letters_pw (a k : Nat) : (letters a k).Pairwise (· < ·) := List.Pairwise.filter _ List.pairwise_lt_range
section
variable {p : Nat} {R : List Nat} (h : Eqv p R) (hp : p ≤ 32)
include h hp
theorem Eqv.cl_num {i : Nat} (hi : i < p) : cl R i < (clsOf R p).2 := by
  obtain ⟨_, a2, a3⟩ := h.least hp hi
  rw [h.cl_least hp hi]
  exact num_step a3 (by omega)
theorem Eqv.cl_onto : ∀ k, k ≤ p → ∀ c, c < (clsOf R k).2 → ∃ i, i < k ∧ cl R i = c := by
  intro k
  induction k with
  | zero => intro _ c hc; exact absurd hc (by simp [clsOf])
  | succ k ih =>
    intro hk c hc
    rw [(h.cl_order hp (show k < p by omega)).2] at hc
    split at hc
    · rename_i e
      rcases Nat.lt_or_ge c (clsOf R k).2 with h1 | h1
      · obtain ⟨i, hi, hc⟩ := ih (by omega) c h1
        exact ⟨i, by omega, hc⟩
      · exact ⟨k, by omega, by omega⟩
    · obtain ⟨i, hi, hc⟩ := ih (by omega) c hc
      exact ⟨i, by omega, hc⟩
end
/-- The quotient of a system. -/
noncomputable def quoS (s : Sys) : Sys := ⟨s.al, ((clsOf (gfp true s s) s.st.toNat).2 : Nat), quE (gfp true s s) s.edges (clsOf (gfp true s s) s.st.toNat).2 (letters s.al.toNat 6)⟩
/-- What is known of a quotient. -/
structure Quo (s : Sys) (p : Nat) (R : List Nat) (N : Nat) (q : Sys) : Prop where
  hp1 : 1 ≤ p
  hp2 : p ≤ 16
  few : Few p s.edges
  gfp : Gfp true s.edges s.edges p p R
  eqv : Eqv p R
  num : N = (clsOf R p).2
  al : q.al = s.al
  st : q.st = N
  ris : q.edges.Pairwise (fun x y => ltE x y = true)
  mem : ∀ x, x ∈ q.edges ↔ ∃ e ∈ s.edges, x = quJ R e
  one : 1 ≤ N
  le : N ≤ p
theorem quo_spec {s : Sys} {p : Nat} (hv : sysValid s = true) (hp : s.st = p) : Quo s p (gfp true s s) (clsOf (gfp true s s) p).2 (quoS s) := by
  obtain ⟨p', hp', h1, h2, hf⟩ := valid_few hv
  obtain rfl : p' = p := by omega
  have hG := gfp_at (both := true) hp' hp'
  have hE := hG.eqv hf
  have hsp : s.st.toNat = p' := by rw [hp']; rfl
  refine ⟨h1, h2, hf, hG, hE, rfl, rfl, by unfold quoS; rw [hsp], ?_, fun x => ?_, ?_, clsOf_le _ _⟩
  · unfold quoS
    exact quE_rising (letters_pw _ _)
  · unfold quoS
    rw [quE_mem, hsp]
    constructor
    · rintro ⟨c, l, d, _, _, _, hb, rfl⟩
      unfold quB at hb
      obtain ⟨e, he, hd⟩ := List.any_eq_true.1 hb
      rw [decide_eq_true_eq] at hd
      obtain ⟨rfl, hl, rfl⟩ := hd
      exact ⟨e, he, by unfold quJ; rw [hl]⟩
    · rintro ⟨e, he, rfl⟩
      have hb := hf e he
      have hl := valid_L hv (i := e.fr.toNat) (l := e.le.toNat) (k := e.to.toNat) ⟨e, he, by omega, by omega, by omega⟩
      refine ⟨cl (gfp true s s) e.fr.toNat, e.le.toNat, cl (gfp true s s) e.to.toNat, hE.cl_num (by omega) (by omega), hl, hE.cl_num (by omega) (by omega), ?_, ?_⟩
      · unfold quB
        exact List.any_eq_true.2 ⟨e, he, decide_eq_true ⟨rfl, by omega, rfl⟩⟩
      · unfold quJ
        rw [show ((e.le.toNat : Nat) : Int) = e.le by omega]
  · have := hE.cl_num (i := 0) (by omega) (by omega)
    omega
section
variable {s : Sys} {p N : Nat} {R : List Nat} {q : Sys} (h : Quo s p R N q)
include h
theorem Quo.E {c l d : Nat} : E q.edges c l d ↔ ∃ i k, E s.edges i l k ∧ cl R i = c ∧ cl R k = d := by
  unfold Go.Proofs.Ytcmgkekaeafgaaa.E
  constructor
  · rintro ⟨x, hx, h1, h2, h3⟩
    obtain ⟨e, he, rfl⟩ := (h.mem x).1 hx
    have hb := h.few e he
    simp only [quJ] at h1 h2 h3
    exact ⟨e.fr.toNat, e.to.toNat, ⟨e, he, by omega, h2, by omega⟩, by omega, by omega⟩
  · rintro ⟨i, k, ⟨e, he, h1, h2, h3⟩, h4, h5⟩
    refine ⟨quJ R e, (h.mem _).2 ⟨e, he, rfl⟩, ?_, h2, ?_⟩
    · simp only [quJ]; rw [h1, show ((i : Nat) : Int).toNat = i from rfl, h4]
    · simp only [quJ]; rw [h3, show ((k : Nat) : Int).toNat = k from rfl, h5]
theorem Quo.few' : Few N q.edges := by
  intro x hx
  obtain ⟨e, he, rfl⟩ := (h.mem x).1 hx
  have hb := h.few e he
  have h1 := h.eqv.cl_num (by have := h.hp2; omega) (i := e.fr.toNat) (by omega)
  have h2 := h.eqv.cl_num (by have := h.hp2; omega) (i := e.to.toNat) (by omega)
  have h3 := h.num
  simp only [quJ]
  omega
/-- Each state is bisimilar to its class. -/
theorem Quo.bis {G : List Nat} (hG : Gfp true s.edges q.edges p N G) {i : Nat} (hi : i < p) : rel G i (cl R i) := by
  have hp := h.hp2
  refine hG.great (fun i c => i < p ∧ c = cl R i) ?_ i _ ⟨hi, rfl⟩
  rintro i c ⟨hi, rfl⟩
  refine ⟨hi, by rw [h.num]; exact h.eqv.cl_num (by omega) hi, fun l k hk => ?_, fun _ l d hd => ?_⟩
  · exact ⟨cl R k, h.E.2 ⟨i, k, hk, rfl, rfl⟩, (E_lt h.few hk).2, rfl⟩
  · obtain ⟨j, k, hjk, h1, h2⟩ := h.E.1 hd
    have hr := (h.eqv.cl_iff (by omega) (E_lt h.few hjk).1 hi).1 h1
    obtain ⟨k', hk', hr'⟩ := (h.gfp.post _ _ hr).1 _ _ hjk
    refine ⟨k', hk', (E_lt h.few hk').2, ?_⟩
    rw [← h2]
    exact ((h.eqv.cl_iff (by omega) (E_lt h.few hjk).2 (E_lt h.few hk').2).2 hr')
theorem Quo.valid (hv : sysValid s = true) : sysValid q = true := by
  obtain ⟨h1, h2, h3, h4⟩ := valid_iff.1 hv
  have hN := h.one
  have hN2 := h.le
  have hp := h.hp2
  refine valid_iff.2 ⟨by rw [h.al]; exact h1, by rw [h.st]; omega, fun x hx => ?_, rising_pw.2 h.ris⟩
  have hb := h.few' x hx
  obtain ⟨e, he, rfl⟩ := (h.mem x).1 hx
  have h5 := h3 e he
  rw [h.al, h.st]
  simp only [edgB, hasB, Bool.and_eq_true, decide_eq_true_eq] at h5
  unfold edgB hasB
  simp only [Bool.and_eq_true]
  exact ⟨⟨decide_eq_true (by omega), decide_eq_true (by omega)⟩, ⟨decide_eq_true (by omega), decide_eq_true (by omega)⟩, decide_eq_true (by omega), decide_eq_true (by omega), h5.2.2.2.2⟩
/-- Classes of a quotient are its states. -/
theorem Quo.self {G : List Nat} (hG : Gfp true q.edges q.edges N N G) {a b : Nat} : rel G a b ↔ a = b ∧ a < N := by
  have hp := h.hp2
  constructor
  · intro hr
    obtain ⟨ha, hb⟩ := rel_lt hG.toInv hr
    obtain ⟨i, hi, rfl⟩ := h.eqv.cl_onto (by omega) p (Nat.le_refl _) a (by rw [← h.num]; exact ha)
    obtain ⟨j, hj, rfl⟩ := h.eqv.cl_onto (by omega) p (Nat.le_refl _) b (by rw [← h.num]; exact hb)
    obtain ⟨X, hX⟩ := gfp_exists true s.edges q.edges p N
    obtain ⟨Y, hY⟩ := gfp_exists true q.edges s.edges N p
    have h1 := hX.trans hG hX (h.bis hX hi) hr
    have h2 := hX.symm hY (h.bis hX hj)
    have h3 := hX.trans hY h.gfp h1 h2
    exact ⟨(h.eqv.cl_iff (by omega) hi hj).2 h3, ha⟩
  · rintro ⟨rfl, ha⟩
    exact gfp_self h.few' hG ha
end
theorem cls_id {N : Nat} {G : List Nat} (hN : N ≤ 32) (h : ∀ a b, rel G a b ↔ a = b ∧ a < N) : ∀ k, k ≤ N → (clsOf G k).2 = k ∧ ∀ i, i < k → cl G i = i := by
  have hl : ∀ k, k < N → lst (G.getD k 0) = k := fun k hk => by
    obtain ⟨t, _, h2, h3, _⟩ := lst_spec (x := G.getD k 0) (k := k) (by omega) ((h k k).2 ⟨rfl, hk⟩).2
    exact ((h k _).1 (rel_getD h2)).1.symm
  intro k
  induction k with
  | zero => intro _; exact ⟨rfl, fun i hi => by omega⟩
  | succ k ih =>
    intro hk
    obtain ⟨e1, e2⟩ := ih (by omega)
    have e3 := hl k (by omega)
    rw [clsOf_yes e3]
    refine ⟨by rw [e1], fun i hi => ?_⟩
    rcases Nat.lt_or_ge i k with h1 | h1
    · exact e2 i h1
    · obtain rfl : i = k := by omega
      rw [cl_yes e3, e1]
/-- A quotient is its own quotient. -/
theorem quo_quo {s : Sys} (hv : sysValid s = true) : quoS (quoS s) = quoS s := by
  obtain ⟨p, hp, _⟩ := valid_few hv
  have h := quo_spec hv hp
  have hv' := h.valid hv
  have h' := quo_spec hv' h.st
  have hp2 := h.hp2
  have hle := h.le
  have hid := cls_id (by omega) (fun a b => h.self h'.gfp (a := a) (b := b)) _ (Nat.le_refl _)
  have e1 : (quoS (quoS s)).al = (quoS s).al := h'.al
  have e2 : (quoS (quoS s)).st = (quoS s).st := by rw [h'.st, h.st, hid.1]
  have e3 : (quoS (quoS s)).edges = (quoS s).edges := by
    refine rising_ext h'.ris h.ris fun x => ?_
    rw [h'.mem]
    have key : ∀ e ∈ (quoS s).edges, quJ (gfp true (quoS s) (quoS s)) e = e := fun e he => by
      have hb := h.few' e he
      unfold quJ
      rw [hid.2 _ (by omega), hid.2 _ (by omega), show ((e.fr.toNat : Nat) : Int) = e.fr by omega, show ((e.to.toNat : Nat) : Int) = e.to by omega]
    constructor
    · rintro ⟨e, he, rfl⟩
      rw [key e he]; exact he
    · intro hx
      exact ⟨x, hx, (key x hx).symm⟩
  generalize quoS (quoS s) = a at *
  generalize quoS s = b at *
  obtain ⟨a1, a2, a3⟩ := a
  obtain ⟨b1, b2, b3⟩ := b
  simp only at e1 e2 e3
  rw [e1, e2, e3]
theorem quo_same {s : Sys} (hv : sysValid s = true) : sameB s (quoS s) = true := by
  obtain ⟨p, hp, _⟩ := valid_few hv
  have h := quo_spec hv hp
  simp only [sameB, hv, h.valid hv, Bool.true_and, beq_iff_eq]
  exact h.al.symm
/-- A system is bisimilar to its quotient. -/
theorem quo_bis {s : Sys} (hv : sysValid s = true) : simB true s (quoS s) = true := by
  obtain ⟨p, hp, hp1, hp2, hf⟩ := valid_few hv
  have h := quo_spec hv hp
  have := h.bis (gfp_at hp h.st) (i := 0) (by omega)
  rw [h.eqv.cl_zero (by omega) (by omega)] at this
  exact (simB_rel2 (quo_same hv)).2 this
/-- Determinism is kept. -/
theorem quo_det {s : Sys} (hv : sysValid s = true) (hd : Det s.edges) : Det (quoS s).edges := by
  obtain ⟨p, hp, hp1, hp2, hf⟩ := valid_few hv
  have h := quo_spec hv hp
  have hr : ∀ c, Rch (quoS s).edges c → ∃ i, Rch s.edges i ∧ i < p ∧ cl (gfp true s s) i = c := by
    intro c hc
    induction hc with
    | zero => exact ⟨0, .zero, by omega, h.eqv.cl_zero (by omega) (by omega)⟩
    | @step c l d _ hk ih =>
      obtain ⟨i, hi, hip, rfl⟩ := ih
      obtain ⟨j, k, hjk, h1, h2⟩ := h.E.1 hk
      have hrel := (h.eqv.cl_iff (by omega) (E_lt h.few hjk).1 hip).1 h1
      obtain ⟨k', hk', hr'⟩ := (h.gfp.post _ _ hrel).1 _ _ hjk
      refine ⟨k', hi.step hk', (E_lt h.few hk').2, ?_⟩
      rw [← h2]
      exact ((h.eqv.cl_iff (by omega) (E_lt h.few hjk).2 (E_lt h.few hk').2).2 hr').symm
  intro c l d d' hc hk hk'
  obtain ⟨i, hi, hip, rfl⟩ := hr c hc
  have key : ∀ d, E (quoS s).edges (cl (gfp true s s) i) l d → ∃ k, E s.edges i l k ∧ cl (gfp true s s) k = d := by
    intro d hd
    obtain ⟨j, k, hjk, h1, h2⟩ := h.E.1 hd
    have hrel := (h.eqv.cl_iff (by omega) (E_lt h.few hjk).1 hip).1 h1
    obtain ⟨k', hk', hr'⟩ := (h.gfp.post _ _ hrel).1 _ _ hjk
    refine ⟨k', hk', ?_⟩
    rw [← h2]
    exact ((h.eqv.cl_iff (by omega) (E_lt h.few hjk).2 (E_lt h.few hk').2).2 hr').symm
  obtain ⟨k, hk1, rfl⟩ := key d hk
  obtain ⟨k', hk2, rfl⟩ := key d' hk'
  rw [hd i l k k' hi hk1 hk2]
end Go.Proofs.Ytcmgkekaeafgaaa

namespace Go.Proofs.Ytcmgkekaeafgaaa
open Go Go.RowKit
set_option maxHeartbeats 2000000

/-- Lists of numbers that rise are told by their members. -/
theorem asc_ext : ∀ {l m : List Nat}, l.Pairwise (· < ·) → m.Pairwise (· < ·) → (∀ x, x ∈ l ↔ x ∈ m) → l = m := by
  intro l
  induction l with
  | nil =>
    intro m _ _ h
    cases m with
    | nil => rfl
    | cons y s => exact absurd ((h y).2 (by simp)) (by simp)
  | cons x r ih =>
    intro m hl hm h
    cases m with
    | nil => exact absurd ((h x).1 (by simp)) (by simp)
    | cons y s =>
      rw [List.pairwise_cons] at hl hm
      have e : x = y := by
        have h1 := (h x).1 (by simp)
        have h2 := (h y).2 (by simp)
        rcases List.mem_cons.1 h1 with h1 | h1
        · exact h1
        · rcases List.mem_cons.1 h2 with h2 | h2
          · exact h2.symm
          · have := hl.1 y h2
            have := hm.1 x h1
            omega
      subst e
      rw [ih hl.2 hm.2 fun z => ?_]
      have hz := h z
      simp only [List.mem_cons] at hz
      constructor
      · intro h1
        have := hl.1 z h1
        rcases hz.1 (Or.inr h1) with h2 | h2
        · omega
        · exact h2
      · intro h1
        have := hm.1 z h1
        rcases hz.2 (Or.inr h1) with h2 | h2
        · omega
        · exact h2
/-- The states to which the edges of a state lead with a letter. -/
def chE (es : List Edg) (q l : Nat) : List Nat := (es.filter fun e => e.fr == (q : Int) && e.le == (l : Int)).map fun e => e.to.toNat
theorem chE_cho {p : Nat} {es : List Edg} (hf : Few p es) (hp : p ≤ 16) (hr : Rising es) (q l : Nat) : chE es q l = letters (succ es q l) 32 := by
  refine asc_ext ?_ (letters_pw _ _) fun x => ?_
  · have h1 := rising_pw.1 hr
    rw [chE, List.pairwise_map, List.pairwise_filter]
    refine h1.imp_of_mem fun {a b} ha hb hab h2 h3 => ?_
    simp only [Bool.and_eq_true, beq_iff_eq] at h2 h3
    have := ltE_iff.1 hab
    have := hf a ha
    have := hf b hb
    omega
  · rw [letters_mem, succ_bit, chE, List.mem_map]
    simp only [List.mem_filter, Bool.and_eq_true, beq_iff_eq]
    constructor
    · rintro ⟨e, ⟨h1, h2⟩, rfl⟩
      have := hf e h1
      exact ⟨by omega, e, h1, h2, rfl⟩
    · rintro ⟨_, e, h1, h2, rfl⟩
      exact ⟨e, ⟨h1, h2⟩, rfl⟩
theorem chE_take {es : List Edg} {k : Nat} {x : Edg} (h : es[k]? = some x) (q l : Nat) : chE (es.take (k + 1)) q l = chE (es.take k) q l ++ if x.fr = (q : Int) ∧ x.le = (l : Int) then [x.to.toNat] else [] := by
  rw [List.take_add_one, h]
  unfold chE
  rw [Option.toList_some, List.filter_append, List.map_append]
  congr 1
  by_cases hc : x.fr = (q : Int) ∧ x.le = (l : Int)
  · rw [if_pos hc]; simp [hc]
  · rw [if_neg hc]
    have : (x.fr == (q : Int) && x.le == (l : Int)) = false := by
      rw [Bool.eq_false_iff]
      intro h
      simp only [Bool.and_eq_true, beq_iff_eq] at h
      exact hc h
    simp [this]

theorem chE_len {p : Nat} {es : List Edg} (hf : Few p es) (hp : p ≤ 16) (hr : Rising es) (q l k : Nat) : (chE (es.take k) q l).length ≤ 16 := by
  have h1 : (chE (es.take k) q l).Sublist (chE es q l) := ((List.take_sublist k es).filter _).map _
  refine Nat.le_trans h1.length_le (Nat.le_trans (nodup_len (p := p) ?_ ?_) hp)
  · rw [chE_cho hf hp hr]; exact letters_nodup _ _
  · intro x hx
    obtain ⟨e, he, rfl⟩ := List.mem_map.1 hx
    have := hf e (List.mem_filter.1 he).1
    omega
theorem ret_one {w W : World} {y g : Nat} (hx : Ext w W) (hb : Blk W g 3 #[.int .i64 (y : Nat)]) (hg : w.heap.size ≤ g) : RetNats w [y] (.returned (.slice (some ⟨g, 0, none⟩) 1 1)) W :=
  ⟨some ⟨g, 0, none⟩, 1, rfl, ⟨rfl, .inr ⟨g, 1, _, rfl, hg, hb, by simp [nats, maxLen]⟩⟩, hx⟩
end Go.Proofs.Ytcmgkekaeafgaaa

namespace Go.Proofs.Ytcmgkekaeafgaaa
open Go Go.RowKit
set_option maxHeartbeats 4000000

theorem wrapN (n : Nat) (h : n < 9223372036854775808) : IntKind.i64.wrap (n : Int) = (n : Int) := by rw [IntKind.wrap_i64]; omega
theorem chs_fst (ms : List Mem) (x l : Nat) : (chs ms x l).map Prod.fst = ms.map Prod.fst := by
  induction ms with
  | nil => rfl
  | cons m r ih => simp [chs, ih]
theorem pw_len {l : List Nat} {p : Nat} (h : l.Nodup) (hl : ∀ x ∈ l, x < p) : l.length ≤ p := nodup_len h hl
/-- A member's choices are few. -/
theorem NetOk.choices {ss : List Sys} {us : List Aut} (h : NetOk ss us) {m : Mem} (hm : m ∈ mems ss us) {q l : Nat} (hq : q < m.1) (hl : l < 6) : (∀ x ∈ m.2 q l, x < m.1) ∧ (m.2 q l).length ≤ m.1 := by
  refine ⟨(h.ok m hm).2 q l hq hl, ?_⟩
  rcases List.mem_append.1 hm with h1 | h1
  · obtain ⟨s, hs, rfl⟩ := List.mem_map.1 h1
    exact cho_len (sml_of (h.sys s hs)) hq
  · obtain ⟨a, ha, rfl⟩ := List.mem_map.1 h1
    have := (autValid_row (h.aut a ha)).2.1.1
    simp only [aMem]
    simpa using this
theorem NetOk.fwd_ {ss : List Sys} {us : List Aut} (h : NetOk ss us) (x : Nat) {l : Nat} (hl : l < 6) (k : Nat) : (fwd ((chs (mems ss us) x l).take k)).length ≤ 1048576 ∧ ∀ y ∈ fwd ((chs (mems ss us) x l).take k), y < 1048576 := by
  have hc : ∀ c ∈ (chs (mems ss us) x l).take k, (∀ y ∈ c.2, y < c.1) ∧ c.2.length ≤ c.1 := by
    intro c hc
    obtain ⟨i, hi⟩ := List.getElem?_of_mem (List.mem_of_mem_take hc)
    have hil := (List.getElem?_eq_some_iff.1 hi).1
    rw [chs_length] at hil
    have hm : (mems ss us)[i]? = some (mems ss us)[i] := List.getElem?_eq_getElem hil
    rw [chs_get hm] at hi
    obtain rfl := Option.some.inj hi
    have hmm := List.getElem_mem hil
    exact h.choices hmm (Nat.mod_lt _ (h.ok _ hmm).1) hl
  have hp := (h.total (((chs (mems ss us) x l).take k).map Prod.fst) (by rw [← mems_fst, ← chs_fst _ x l]; exact (List.take_sublist _ _).map _)).2
  refine ⟨Nat.le_trans (fwd_len fun c hc' => (hc c hc').2) hp, fun y hy => Nat.lt_of_lt_of_le (fwd_lt (fun c hc' => (hc c hc').1) y hy) hp⟩
end Go.Proofs.Ytcmgkekaeafgaaa

namespace Go.Proofs.Ytcmgkekaeafgaaa
open Go Go.RowKit
set_option maxHeartbeats 2000000

theorem impl_PartsAlphabet {lo hi : Nat} {A : Option Addr} {n c : Nat} {ss : List Sys} {w : World} (h : SLAt w lo hi A n ss) :
    Calls Try.prog 7 #[.slice A n c] w fun e w' => e = .returned (.int .i64 (partsA ss)) ∧ Ext w w' := by
  have hn := h.len
  have hL := hide h.1
  have HS := hide (fun W (hW : Ext w W) => h.ext hW)
  clear h
  cases hp : areParts ss
  · have Hp := hide hp
    have hr := hide (show partsA ss = -1 by unfold partsA; rw [hp]; rfl)
    clear hp
    go_enter Try.func7, Try.ntmps7
    go_wp2_with (go_at_call 11; refine (impl_areParts (HS.out _ (Ext.refl _))).mono ?_; rw [Hp.out]; rintro e w1 ⟨rfl, hx⟩)
    go_ret
    exact ⟨ret_int (by rw [hr.out]), hx⟩
  · have Hp := hide hp
    have hr := hide (show partsA ss = (unionA ss : Int) by unfold partsA; rw [hp]; rfl)
    have hv := hide (show ∀ s ∈ ss, sysValid s = true by
      unfold areParts at hp
      simp only [Bool.and_eq_true, List.all_eq_true] at hp
      exact hp.2.2)
    clear hp
    go_enter Try.func7, Try.ntmps7
    go_wp2_with (go_at_call 11; refine (impl_areParts (HS.out _ (Ext.refl _))).mono ?_; rw [Hp.out]; rintro e w1 ⟨rfl, hx⟩)
    go_loopw [3, 5, 11] (fun v _ i wr => ∃ k u : Nat, k ≤ n ∧ i = .int .i64 k ∧ v = .int .i64 u ∧ u ≤ 63 ∧ Hid (u = unionA (ss.take k)) ∧ Ext w wr) (fun _ _ i _ => n - (intOf i).toNat)
    case atStart => exact ⟨0, 0, Nat.zero_le _, rfl, rfl, by omega, rfl, hx⟩
    case round =>
      clear hx
      obtain ⟨k, u, hk, rfl, rfl, hu, huA, hx⟩ := hrel
      by_cases hlt : k < n
      · obtain ⟨b, o, s, B, q, d, rfl, _, _, hs, c0, c1, c2, _⟩ := (HS.out wr hx).sys hlt
        obtain ⟨ha0, ha1⟩ := sysValid_al (hv.out s (List.mem_of_getElem? hs.out))
        obtain ⟨al, hal⟩ : ∃ al : Nat, Hid (s.al = al) := ⟨s.al.toNat, by unfold Hid; omega⟩
        rw [hal.out] at c0 ha0 ha1
        have Hu := hide (show unionA (ss.take (k + 1)) = u ||| al by rw [unionA_succ hs.out, hal.out, Int.toNat_natCast, huA.out])
        have Ho := hide (bits_or (a := u) (b := al) (by unfold Sm; omega) (by unfold Sm; omega))
        have hlt2 : u ||| al ≤ 63 := by have := Nat.or_lt_two_pow (n := 6) (x := u) (y := al) (by omega) (by omega); omega
        have ho := Ho.out
        clear huA
        go_wp2_with fail
        go_roundw
        case rel => exact ⟨k + 1, u ||| al, by omega, by go_num, by first | rfl | rw [Ho.out], hlt2, Hu.out.symm, by first | exact hx.alloc _ | exact (hx.alloc _).drew⟩
        case measure => simp [intOf]; omega
      · obtain rfl : n = k := by omega
        have hfin := hide (show partsA ss = (u : Int) by rw [hr.out, huA.out, List.take_of_length_le (by have := hL.out; omega)])
        go_wp2
        go_ret
        exact ⟨ret_int (by rw [hfin.out]), hx⟩
end Go.Proofs.Ytcmgkekaeafgaaa

namespace Go.Proofs.Ytcmgkekaeafgaaa
open Go Go.RowKit
set_option maxHeartbeats 2000000

/-- All letters, and those that two systems have. -/
def shF (ss : List Sys) : Nat × Nat := ss.foldl (fun x s => (x.1 ||| s.al.toNat, x.2 ||| (x.1 &&& s.al.toNat))) (0, 0)
theorem shF_succ {ss : List Sys} {k : Nat} {s : Sys} (h : ss[k]? = some s) : shF (ss.take (k + 1)) = ((shF (ss.take k)).1 ||| s.al.toNat, (shF (ss.take k)).2 ||| ((shF (ss.take k)).1 &&& s.al.toNat)) := by
  rw [List.take_add_one, h]
  simp [shF]
/-- What SharedLetters returns. -/
def sharedA (ss : List Sys) : Int := if areParts ss then ((shF ss).2 : Int) else -1
theorem SLAt.tail {w : World} {lo hi b n : Nat} {ss : List Sys} (h : SLAt w lo hi (some ⟨b, 0, none⟩) (n + 1) ss) : SLAt w lo hi (some ⟨b, 3, none⟩) n ss.tail := by
  obtain ⟨e, cells, ⟨r1, r2, r3⟩, hx⟩ := h
  refine ⟨by rw [List.length_tail]; omega, cells.drop 3, ⟨by rw [List.length_drop]; omega, by omega, fun h0 => ?_⟩, fun k s hs => ?_⟩
  · obtain ⟨ad, ha, h1, h2, h3⟩ := r3 (by omega)
    obtain rfl := Option.some.inj ha
    refine ⟨⟨b, 3, none⟩, rfl, h1, h2, fun j u hu => ?_⟩
    rw [List.getElem?_drop] at hu
    have := h3 _ _ hu
    rw [addr_lit] at this ⊢
    rw [Nat.zero_add] at this
    exact this
  · rw [List.getElem?_tail] at hs
    obtain ⟨B, m, c, h0, h1, h2, h3⟩ := hx (k + 1) s hs
    refine ⟨B, m, c, ?_, ?_, ?_, h3⟩ <;> rw [List.getElem?_drop]
    · rw [← h0]; congr 1; omega
    · rw [← h1]; congr 1; omega
    · rw [← h2]; congr 1; omega
theorem impl_SharedLetters {lo hi : Nat} {A : Option Addr} {n c : Nat} {ss : List Sys} {w : World} (h : SLAt w lo hi A n ss) :
    Calls Try.prog 8 #[.slice A n c] w fun e w' => e = .returned (.int .i64 (sharedA ss)) ∧ Ext w w' := by
  have hn := h.len
  have hL := hide h.1
  have HS := hide (fun W (hW : Ext w W) => h.ext hW)
  clear h
  cases hp : areParts ss
  · have Hp := hide hp
    have hr := hide (show sharedA ss = -1 by unfold sharedA; rw [hp]; rfl)
    clear hp
    go_enter Try.func8, Try.ntmps8
    go_wp2_with (go_at_call 11; refine (impl_areParts (HS.out _ (Ext.refl _))).mono ?_; rw [Hp.out]; rintro e w1 ⟨rfl, hx⟩)
    go_ret
    exact ⟨ret_int (by rw [hr.out]), hx⟩
  · have Hp := hide hp
    have hr := hide (show sharedA ss = ((shF ss).2 : Int) by unfold sharedA; rw [hp]; rfl)
    have hv := hide (show ∀ s ∈ ss, sysValid s = true by
      unfold areParts at hp
      simp only [Bool.and_eq_true, List.all_eq_true] at hp
      exact hp.2.2)
    clear hp
    go_enter Try.func8, Try.ntmps8
    go_wp2_with (go_at_call 11; refine (impl_areParts (HS.out _ (Ext.refl _))).mono ?_; rw [Hp.out]; rintro e w1 ⟨rfl, hx⟩)
    go_loopw [3, 4, 6, 12] (fun v v2 _ i wr => ∃ k u x : Nat, k ≤ n ∧ i = .int .i64 k ∧ v = .int .i64 u ∧ v2 = .int .i64 x ∧ u ≤ 63 ∧ x ≤ 63 ∧ Hid ((u, x) = shF (ss.take k)) ∧ Ext w wr) (fun _ _ _ i _ => n - (intOf i).toNat)
    case atStart => exact ⟨0, 0, 0, Nat.zero_le _, rfl, rfl, rfl, by omega, by omega, rfl, hx⟩
    case round =>
      clear hx
      obtain ⟨k, u, x, hk, rfl, rfl, rfl, hu, hx6, huA, hx⟩ := hrel
      by_cases hlt : k < n
      · obtain ⟨b, o, s, B, q, d, rfl, _, _, hs, c0, c1, c2, _⟩ := (HS.out wr hx).sys hlt
        obtain ⟨ha0, ha1⟩ := sysValid_al (hv.out s (List.mem_of_getElem? hs.out))
        obtain ⟨al, hal⟩ : ∃ al : Nat, Hid (s.al = al) := ⟨s.al.toNat, by unfold Hid; omega⟩
        rw [hal.out] at c0 ha0 ha1
        have Hu := hide (show shF (ss.take (k + 1)) = (u ||| al, x ||| (u &&& al)) by rw [shF_succ hs.out, hal.out, Int.toNat_natCast, ← huA.out])
        have Ho := hide (bits_or (a := u) (b := al) (by unfold Sm; omega) (by unfold Sm; omega))
        have Hn := hide (bits_and (a := u) (b := al) (by unfold Sm; omega) (by unfold Sm; omega))
        have hle : u &&& al ≤ 63 := Nat.le_trans Nat.and_le_left hu
        have Hx := hide (bits_or (a := x) (b := u &&& al) (by unfold Sm; omega) (by unfold Sm; omega))
        have hlt2 : u ||| al ≤ 63 := by have := Nat.or_lt_two_pow (n := 6) (x := u) (y := al) (by omega) (by omega); omega
        have hlt3 : x ||| (u &&& al) ≤ 63 := by have := Nat.or_lt_two_pow (n := 6) (x := x) (y := u &&& al) (by omega) (by omega); omega
        have ho := Ho.out
        have hn' := Hn.out
        have hx' := Hx.out
        clear huA
        go_wp2_with fail
        go_roundw
        case rel => exact ⟨k + 1, u ||| al, x ||| (u &&& al), by omega, by go_num, by first | rfl | rw [Ho.out], by first | rfl | rw [Hn.out, Hx.out], hlt2, hlt3, Hu.out.symm, by first | exact hx.alloc _ | exact (hx.alloc _).drew⟩
        case measure => simp [intOf]; omega
      · obtain rfl : n = k := by omega
        have hfin := hide (show sharedA ss = (x : Int) by
          rw [hr.out]
          have := huA.out
          rw [List.take_of_length_le (by have := hL.out; omega)] at this
          rw [← this])
        go_wp2
        go_ret
        exact ⟨ret_int (by rw [hfin.out]), hx⟩
end Go.Proofs.Ytcmgkekaeafgaaa

namespace Go.Proofs.Ytcmgkekaeafgaaa
open Go Go.ChangeShapes Go.WideShapes Go.ChangeAt Go.RowKit Go.Deep

/-- A slice of bytes that came in. -/
def BytesAt (w : World) (A : Option Addr) (n c : Nat) : Prop := Bytes w A n ∧ n ≤ 9223372036854775807 ∧ n ≤ c ∧ c ≤ 9223372036854775807
set_option maxRecDepth 100000 in
theorem arg_bytes {H : Type} {enc : TypeId × Value → H} {w : World} {spare : Nat → Bool} {held : Bool} {r : Reach} {b0 : Nat} {v : Value} {d : DataW H} {p : List MemPlace} (hv : Value.okWide Try.prog w r b0 22 v) (h : DataW.Trod enc Try.prog w 0 spare held 22 v d p) :
    ∃ (A : Option Addr) (n c : Nat), v = .slice A n c ∧ BytesAt w A n c := by
  obtain ⟨a, l, k, rfl⟩ := okWide_slice Try.underlying22 hv
  obtain ⟨fuel, hf⟩ := h
  rcases open_slice1 Try.underlying22 (by kernel_rfl) hf with ⟨h0, _⟩ | ⟨ad, len, cap, m, n, V, D, Pl, h0, hb, hl, hm, hmm, _, hx⟩
  · simp [Value.cells] at h0
    obtain ⟨rfl, rfl, rfl⟩ := h0
    exact ⟨_, _, _, rfl, fun h => absurd h (by omega), by omega, Nat.le_refl _, by omega⟩
  · simp [Value.cells] at h0
    obtain ⟨rfl, rfl, rfl⟩ := h0
    unfold maxLen at hm
    have hlm : l ≤ m := by rw [hmm]; split <;> omega
    refine ⟨_, _, _, rfl, fun hn => ?_, by omega, hl, by omega⟩
    have h1 := (hx 0 (by omega)).1
    have hs := addr_spot h1
    have hlt := World.block_lt_of_cell? w _ h1
    rw [addr_block] at hlt
    refine ⟨ad.block, ad.off, by rw [← hs], hlt, fun j hj => ?_⟩
    obtain ⟨h2, h3⟩ := hx j (by omega)
    obtain ⟨b, hb1, _, hb3⟩ := DataW.trod_int Try.underlying5 h3
    have hV : V j = .int .u8 b := by simpa using hb1
    rw [hV, hs, addr_lit] at h2
    have hw : 0 ≤ b ∧ b < 256 := by
      simp only [Lit.wf, Bool.and_eq_true, decide_eq_true_eq] at hb3
      have h4 : IntKind.u8.min = 0 := rfl
      have h5 : IntKind.u8.max = 255 := rfl
      omega
    refine ⟨b.toNat, by omega, ?_⟩
    rw [h2]
    have : ((b.toNat : Nat) : Int) = b := by omega
    rw [this]
end Go.Proofs.Ytcmgkekaeafgaaa
