/- Plain: sorted lists of edges. No program in sight. | impl.FirstTraceOutside's closures, walked. | impl.FirstTraceOutside, walked: a search through pairs of a state and a set of states. | impl.TracesWithin and impl.SameTraces, walked. | Plain: the quotient of a system by its greatest relation. No program in sight. | spec.l4Choices and spec.l4Nexts, walked. | spec.l4Nexts, walked. | spec.l4Moves, walked. -/
import Derived.Test.YtplllipekeomiaaGreatDoorG12
import Derived.Test.YtplllipekeomiaaGreatDoorG10
import Derived.Test.YtplllipekeomiaaGreatDoorG06
import Derived.Test.YtplllipekeomiaaGreatDoorG09
import Derived.Deep.DeepCutAuto
import Derived.Test.YtplllipekeomiaaGreatDoorG05
namespace Go.Proofs.YtplllipekeomiaaGreatDoor
open Go Go.RowKit

theorem ltE_irr {a : Edg} : ¬ ltE a a = true := by
  rw [ltE_iff]
  omega
theorem ltE_tri (a b : Edg) : ltE a b = true ∨ a = b ∨ ltE b a = true := by
  rw [ltE_iff, ltE_iff]
  obtain ⟨a1, a2, a3⟩ := a
  obtain ⟨b1, b2, b3⟩ := b
  simp only [Edg.mk.injEq]
  omega
/-- A sorted list. -/
def Srt (es : List Edg) : Prop := ∀ (i j : Nat) (x y : Edg), es[i]? = some x → es[j]? = some y → i < j → ¬ ltE y x = true
end Go.Proofs.YtplllipekeomiaaGreatDoor

namespace Go.Proofs.YtplllipekeomiaaGreatDoor
open Go Go.RowKit
set_option maxHeartbeats 2000000

theorem Frm.grown2 {T : Nat → Prop} {w W W' : World} {row : Option Nat} (h : Frm T w W) (hg : W.grownBy W' row) (hr : ∀ k, row = some k → T k ∨ w.heap.size ≤ k) : Frm T w W' :=
  ⟨hg.os.trans h.os, hg.tape.trans h.tape, hg.output.trans h.output, Nat.le_trans h.size hg.size, fun k hk hn => (hg.block k (Nat.lt_of_lt_of_le hk h.size) (fun e => by
    rcases hr k e.symm with h1 | h1
    · exact hn h1
    · omega)).trans (h.block k hk hn)⟩
/-- What the closures have captured. -/
structure Caps (w : World) (g6 g7 g8 bm bn Z : Nat) (es es' : List Edg) : Prop where
  h6 : Blk w g6 147 #[.pointer (some ⟨bm, 0, none⟩)]
  h7 : Blk w g7 147 #[.pointer (some ⟨bn, 0, none⟩)]
  h8 : Blk w g8 3 #[.int .i64 (Z : Nat)]
  hm : MovB w bm es
  hn : MovB w bn es'
theorem Caps.ext {w w' : World} {g6 g7 g8 bm bn Z : Nat} {es es' : List Edg} (h : Caps w g6 g7 g8 bm bn Z es es') (hx : Ext w w') : Caps w' g6 g7 g8 bm bn Z es es' := ⟨h.h6.ext hx, h.h7.ext hx, h.h8.ext hx, h.hm.ext hx, h.hn.ext hx⟩
theorem map_take {α β : Type} {f : α → β} {l : List α} {k : Nat} {x : α} (h : l[k]? = some x) : (l.take (k + 1)).map f = (l.take k).map f ++ [f x] := by
  rw [List.take_add_one, h]; simp
end Go.Proofs.YtplllipekeomiaaGreatDoor

namespace Go.Proofs.YtplllipekeomiaaGreatDoor
open Go Go.RowKit
set_option maxHeartbeats 4000000

theorem letters_rise (a : Nat) : Rise (letters a 6) := by
  refine ⟨fun l hl => (mem_letters.1 hl).1, fun i j x y hx hy hij => ?_⟩
  have h1 : (letters a 6).Pairwise (· < ·) := List.Pairwise.filter _ List.pairwise_lt_range
  obtain ⟨hi, rfl⟩ := List.getElem?_eq_some_iff.1 hx
  obtain ⟨hj, rfl⟩ := List.getElem?_eq_some_iff.1 hy
  exact List.pairwise_iff_getElem.1 h1 i j hi hj hij
/-- Some trace of one system is none of another. -/
noncomputable def outB (s t : Sys) : Bool := sameB s t && @decide (¬ Lost (dW s.edges t.edges (2 ^ t.st.toNat)) [1] (fun n => n % 2 ^ t.st.toNat == 0) (letters s.al.toNat 6)) (Classical.propDecidable _)
theorem outB_true {s t : Sys} {Z : Nat} {L v : List Nat} (h : sameB s t = true) (hZ : Z = 2 ^ t.st.toNat) (hL : L = letters s.al.toNat 6) (hF : Found (dW s.edges t.edges Z) [1] (fun n => n % Z == 0) L v) : outB s t = true := by
  subst hZ hL
  unfold outB
  rw [h, Bool.true_and]
  refine @decide_eq_true _ (Classical.propDecidable _) fun hl => ?_
  obtain ⟨h1, ⟨x, hx, hg⟩, _⟩ := hF
  have := hl v h1 x hx
  rw [hg] at this
  cases this
theorem outB_false {s t : Sys} {Z : Nat} {L : List Nat} (h : sameB s t = true) (hZ : Z = 2 ^ t.st.toNat) (hL : L = letters s.al.toNat 6) (hF : Lost (dW s.edges t.edges Z) [1] (fun n => n % Z == 0) L) : outB s t = false := by
  subst hZ hL
  unfold outB
  rw [h, Bool.true_and]
  exact @decide_eq_false _ (Classical.propDecidable _) fun hn => hn hF
theorem Blk.ne {w : World} {a b : Nat} {t u : TypeId} {cs ds : Array Value} (h : Blk w a t cs) (h' : Blk w b u ds) (ht : t ≠ u) : a ≠ b := by
  rintro rfl
  unfold Blk at h h'
  rw [h] at h'
  injection h' with h'
  injection h' with _ h2
  exact ht h2
theorem MovB.set {w : World} {b g : Nat} {es : List Edg} {cs : Array Value} {v : Value} (h : MovB w b es) (hg : Blk w g 147 cs) : MovB (w.setCell ⟨g, 0, none⟩ v) b es := by
  obtain ⟨ds, hb, hc⟩ := h
  exact ⟨ds, hb.frm (Frm.setCell w g 0 v) (hb.ne hg (by decide)), hc⟩
theorem ptr_set {w : World} {g b : Nat} {v : Value} (h : Blk w g 147 #[v]) : Blk (w.setCell ⟨g, 0, none⟩ (.pointer (some ⟨b, 0, none⟩))) g 147 #[.pointer (some ⟨b, 0, none⟩)] := by
  simpa using h.set_ 0 (.pointer (some ⟨b, 0, none⟩))
theorem one_at {w : World} {g x : Nat} (h : Blk w g 3 #[.int .i64 (x : Nat)]) : IntsAt w (some ⟨g, 0, none⟩) 1 [x] := by
  refine ⟨rfl, by omega, fun _ => ⟨g, 0, _, rfl, h, fun j y hj => ?_⟩⟩
  cases j with
  | zero =>
    obtain rfl := Option.some.inj hj
    rw [h.cell]; rfl
  | succ j => simp at hj
/-- What FirstTraceOutside answers. -/
def RetOut (w : World) (s t : Sys) (e : Ending) (w' : World) : Prop := ∃ v, e = .returned (.tuple #[.string v, .bool (outB s t)]) ∧ Ext w w'
end Go.Proofs.YtplllipekeomiaaGreatDoor

namespace Go.Proofs.YtplllipekeomiaaGreatDoor
open Go Go.RowKit
set_option maxHeartbeats 2000000

/-- All traces of one system are traces of another. -/
noncomputable def withinB (s t : Sys) : Bool := sameB s t && !outB s t
/-- Simulation keeps traces. -/
theorem sim_within {both : Bool} {s t : Sys} (h : simB both s t = true) : withinB s t = true := by
  have hs : sameB s t = true := by unfold simB at h; cases hh : sameB s t <;> simp_all
  obtain ⟨v1, v2, _⟩ := same_valid hs
  obtain ⟨p, hp, hp1, hp2, hf⟩ := valid_few v1
  obtain ⟨q, hq, hq1, hq2, hg⟩ := valid_few v2
  have hl := sim_lost hp2 hf hg hq1 (gfp_at hp hq) ((simB_rel2 hs).1 h) (letters s.al.toNat 6)
  unfold withinB
  rw [hs, outB_false hs (by rw [hq]; rfl) rfl hl]
  rfl
/-- Edges go by letters. -/
theorem valid_L {s : Sys} (h : sysValid s = true) {i l k : Nat} (he : E s.edges i l k) : l ∈ letters s.al.toNat 6 := by
  obtain ⟨_, _, h3, _⟩ := valid_iff.1 h
  obtain ⟨e, he, _, h2, _⟩ := he
  have := h3 e he
  simp only [edgB, hasB, Bool.and_eq_true, decide_eq_true_eq] at this
  rw [h2] at this
  exact mem_letters.2 ⟨by omega, this.2.2.2.2⟩
theorem out_lost {s t : Sys} {q : Nat} (h : withinB s t = true) (hq : t.st = q) : Lost (dW s.edges t.edges (2 ^ q)) [1] (fun n => n % 2 ^ q == 0) (letters s.al.toNat 6) := by
  unfold withinB at h
  rw [Bool.and_eq_true] at h
  have h2 := h.2
  unfold outB at h2
  rw [h.1, Bool.true_and, Bool.not_eq_true', hq] at h2
  have := @of_decide_eq_false _ (Classical.propDecidable _) h2
  exact Classical.not_not.1 this
theorem det_sim {s t : Sys} (hd : Det t.edges) : simB false s t = withinB s t := by
  cases hs : sameB s t
  · unfold simB withinB
    rw [hs]; rfl
  · rw [Bool.eq_iff_iff]
    refine ⟨sim_within, fun h => ?_⟩
    obtain ⟨v1, v2, _⟩ := same_valid hs
    obtain ⟨p, hp, hp1, hp2, hf⟩ := valid_few v1
    obtain ⟨q, hq, hq1, hq2, hg⟩ := valid_few v2
    exact (simB_rel2 hs).2 (lost_sim hp1 hp2 hf hg hq1 (fun i l k he => valid_L v1 he) hd (out_lost h hq) (gfp_at hp hq))
theorem same_symm {s t : Sys} (h : sameB s t = true) : sameB t s = true := by
  obtain ⟨h1, h2, h3⟩ := same_valid h
  simp only [sameB, Bool.and_eq_true, beq_iff_eq]
  exact ⟨h2, h1, h3.symm⟩
theorem bis_symm {s t : Sys} (h : simB true s t = true) : simB true t s = true := by
  have hs : sameB s t = true := by unfold simB at h; cases hh : sameB s t <;> simp_all
  obtain ⟨v1, v2, _⟩ := same_valid hs
  obtain ⟨p, hp, hp1, hp2, hf⟩ := valid_few v1
  obtain ⟨q, hq, hq1, hq2, hg⟩ := valid_few v2
  exact (simB_rel2 (same_symm hs)).2 ((gfp_at hp hq).symm (gfp_at hq hp) ((simB_rel2 hs).1 h))
theorem bis_symm_eq (s t : Sys) : simB true t s = simB true s t := by
  rw [Bool.eq_iff_iff]
  exact ⟨bis_symm, bis_symm⟩
theorem bis_weak {s t : Sys} (h : simB true s t = true) : simB false s t = true := by
  have hs : sameB s t = true := by unfold simB at h; cases hh : sameB s t <;> simp_all
  obtain ⟨v1, v2, _⟩ := same_valid hs
  obtain ⟨p, hp, hp1, hp2, hf⟩ := valid_few v1
  obtain ⟨q, hq, hq1, hq2, hg⟩ := valid_few v2
  exact (simB_rel2 hs).2 ((gfp_at hp hq).weak (gfp_at hp hq) ((simB_rel2 hs).1 h))
theorem sim_self {both : Bool} {s : Sys} (h : sysValid s = true) : simB both s s = true := by
  have hs : sameB s s = true := by simp [sameB, h]
  obtain ⟨p, hp, hp1, hp2, hf⟩ := valid_few h
  exact (simB_rel2 hs).2 (gfp_self hf (gfp_at hp hp) (by omega))
theorem det_bis {s t : Sys} (hd : Det s.edges) (hd' : Det t.edges) : simB true s t = (withinB s t && withinB t s) := by
  cases hs : sameB s t
  · unfold simB withinB
    rw [hs]; rfl
  · rw [Bool.eq_iff_iff, Bool.and_eq_true]
    refine ⟨fun h => ⟨sim_within h, sim_within (bis_symm h)⟩, fun h => ?_⟩
    obtain ⟨v1, v2, v3⟩ := same_valid hs
    obtain ⟨p, hp, hp1, hp2, hf⟩ := valid_few v1
    obtain ⟨q, hq, hq1, hq2, hg⟩ := valid_few v2
    have hl := out_lost h.2 hp
    rw [← v3] at hl
    exact (simB_rel2 hs).2 (lost_bis hp1 hp2 hf hg hq1 hq2 (fun i l k he => valid_L v1 he) (fun i l k he => by rw [v3]; exact valid_L v2 he) hd hd' (out_lost h.1 hq) hl (gfp_at hp hq))
end Go.Proofs.YtplllipekeomiaaGreatDoor

namespace Go.Proofs.YtplllipekeomiaaGreatDoor
open Go Go.RowKit

theorem rising_pw {es : List Edg} : Rising es ↔ es.Pairwise (fun x y => ltE x y = true) := by
  rw [List.pairwise_iff_getElem]
  constructor
  · intro h i j hi hj hij
    exact h i j _ _ (List.getElem?_eq_getElem hi) (List.getElem?_eq_getElem hj) hij
  · intro h a b x y hx hy hab
    obtain ⟨ha, rfl⟩ := List.getElem?_eq_some_iff.1 hx
    obtain ⟨hb, rfl⟩ := List.getElem?_eq_some_iff.1 hy
    exact h a b ha hb hab
theorem ltE_asymm {a b : Edg} (h : ltE a b = true) : ¬ ltE b a = true := fun h' => ltE_irr (ltE_trans h h')
/-- Lists that rise are told by their members. -/
theorem rising_ext {l m : List Edg} (hl : l.Pairwise (fun x y => ltE x y = true)) (hm : m.Pairwise (fun x y => ltE x y = true)) (h : ∀ x, x ∈ l ↔ x ∈ m) : l = m := by
  induction l generalizing m with
  | nil =>
    cases m with
    | nil => rfl
    | cons b m => exact absurd ((h b).2 (by simp)) (by simp)
  | cons a l ih =>
    cases m with
    | nil => exact absurd ((h a).1 (by simp)) (by simp)
    | cons b m =>
      rw [List.pairwise_cons] at hl hm
      have e : a = b := by
        rcases List.mem_cons.1 ((h a).1 (by simp)) with h1 | h1
        · exact h1
        · rcases List.mem_cons.1 ((h b).2 (by simp)) with h2 | h2
          · exact h2.symm
          · exact absurd (hl.1 b h2) (ltE_asymm (hm.1 a h1))
      subst e
      rw [ih hl.2 hm.2 (fun x => ?_)]
      constructor
      · intro hx
        rcases List.mem_cons.1 ((h x).1 (by simp [hx])) with h1 | h1
        · subst h1; exact absurd (hl.1 x hx) ltE_irr
        · exact h1
      · intro hx
        rcases List.mem_cons.1 ((h x).2 (by simp [hx])) with h1 | h1
        · subst h1; exact absurd (hm.1 x hx) ltE_irr
        · exact h1
/-- An edge between classes. -/
def quJ (R : List Nat) (e : Edg) : Edg := ⟨(cl R e.fr.toNat : Nat), e.le, (cl R e.to.toNat : Nat)⟩
/-- There is an edge from a class to a class. -/
def quB (R : List Nat) (es : List Edg) (c l d : Nat) : Bool := es.any fun e => decide (cl R e.fr.toNat = c ∧ e.le = (l : Int) ∧ cl R e.to.toNat = d)
def quD (R : List Nat) (es : List Edg) (N c l : Nat) : List Edg := ((List.range N).filter fun d => quB R es c l d).map fun d => ⟨(c : Nat), (l : Nat), (d : Nat)⟩
def quC (R : List Nat) (es : List Edg) (N : Nat) (L : List Nat) (c : Nat) : List Edg := L.flatMap fun l => quD R es N c l
/-- The edges between the classes, in order. -/
def quE (R : List Nat) (es : List Edg) (N : Nat) (L : List Nat) : List Edg := (List.range N).flatMap fun c => quC R es N L c
section
variable {R : List Nat} {es : List Edg} {N : Nat} {L : List Nat}
theorem quD_mem {c l : Nat} {x : Edg} : x ∈ quD R es N c l ↔ ∃ d, d < N ∧ quB R es c l d = true ∧ x = ⟨(c : Nat), (l : Nat), (d : Nat)⟩ := by
  unfold quD
  rw [List.mem_map]
  constructor
  · rintro ⟨d, hd, rfl⟩
    rw [List.mem_filter, List.mem_range] at hd
    exact ⟨d, hd.1, hd.2, rfl⟩
  · rintro ⟨d, h1, h2, rfl⟩
    exact ⟨d, by rw [List.mem_filter, List.mem_range]; exact ⟨h1, h2⟩, rfl⟩
theorem quE_mem {x : Edg} : x ∈ quE R es N L ↔ ∃ c l d, c < N ∧ l ∈ L ∧ d < N ∧ quB R es c l d = true ∧ x = ⟨(c : Nat), (l : Nat), (d : Nat)⟩ := by
  unfold quE quC
  simp only [List.mem_flatMap, List.mem_range, quD_mem]
  constructor
  · rintro ⟨c, hc, l, hl, d, hd, hb, rfl⟩
    exact ⟨c, l, d, hc, hl, hd, hb, rfl⟩
  · rintro ⟨c, l, d, hc, hl, hd, hb, rfl⟩
    exact ⟨c, hc, l, hl, d, hd, hb, rfl⟩
theorem quE_rising (hL : L.Pairwise (· < ·)) : (quE R es N L).Pairwise (fun x y => ltE x y = true) := by
  unfold quE
  rw [List.pairwise_flatMap]
  refine ⟨fun c _ => ?_, ?_⟩
  · unfold quC
    rw [List.pairwise_flatMap]
    refine ⟨fun l _ => ?_, hL.imp ?_⟩
    · unfold quD
      rw [List.pairwise_map]
      refine (List.Pairwise.filter _ List.pairwise_lt_range).imp ?_
      intro a b hab
      rw [ltE_iff]
      exact Or.inr ⟨rfl, Or.inr ⟨rfl, by show (a : Int) < (b : Int); omega⟩⟩
    · intro a b hab x hx y hy
      obtain ⟨d, _, _, rfl⟩ := quD_mem.1 hx
      obtain ⟨d', _, _, rfl⟩ := quD_mem.1 hy
      rw [ltE_iff]
      exact Or.inr ⟨rfl, Or.inl (by show (a : Int) < (b : Int); omega)⟩
  · refine List.pairwise_lt_range.imp ?_
    intro a b hab x hx y hy
    unfold quC at hx hy
    obtain ⟨l, _, hx⟩ := List.mem_flatMap.1 hx
    obtain ⟨l', _, hy⟩ := List.mem_flatMap.1 hy
    obtain ⟨d, _, _, rfl⟩ := quD_mem.1 hx
    obtain ⟨d', _, _, rfl⟩ := quD_mem.1 hy
    rw [ltE_iff]
    exact Or.inl (by show (a : Int) < (b : Int); omega)
end
theorem letters_pw (a k : Nat) : (letters a k).Pairwise (· < ·) := List.Pairwise.filter _ List.pairwise_lt_range
section
variable {p : Nat} {R : List Nat} (h : Eqv p R) (hp : p ≤ 32)
include h hp
theorem Eqv.cl_num {i : Nat} (hi : i < p) : cl R i < (clsOf R p).2 := by
  obtain ⟨_, a2, a3⟩ := h.least hp hi
  rw [h.cl_least hp hi]
  exact num_step a3 (by omega)
theorem Eqv.cl_onto : ∀ k, k ≤ p → ∀ c, c < (clsOf R k).2 → ∃ i, i < k ∧ cl R i = c := by
  intro k
  induction k with
  | zero => intro _ c hc; exact absurd hc (by simp [clsOf])
  | succ k ih =>
    intro hk c hc
    rw [(h.cl_order hp (show k < p by omega)).2] at hc
    split at hc
    · rename_i e
      rcases Nat.lt_or_ge c (clsOf R k).2 with h1 | h1
      · obtain ⟨i, hi, hc⟩ := ih (by omega) c h1
        exact ⟨i, by omega, hc⟩
      · exact ⟨k, by omega, by omega⟩
    · obtain ⟨i, hi, hc⟩ := ih (by omega) c hc
      exact ⟨i, by omega, hc⟩
end
/-- The quotient of a system. -/
noncomputable def quoS (s : Sys) : Sys := ⟨s.al, ((clsOf (gfp true s s) s.st.toNat).2 : Nat), quE (gfp true s s) s.edges (clsOf (gfp true s s) s.st.toNat).2 (letters s.al.toNat 6)⟩
/-- What is known of a quotient. -/
structure Quo (s : Sys) (p : Nat) (R : List Nat) (N : Nat) (q : Sys) : Prop where
  hp1 : 1 ≤ p
  hp2 : p ≤ 16
  few : Few p s.edges
  gfp : Gfp true s.edges s.edges p p R
  eqv : Eqv p R
  num : N = (clsOf R p).2
  al : q.al = s.al
  st : q.st = N
  ris : q.edges.Pairwise (fun x y => ltE x y = true)
  mem : ∀ x, x ∈ q.edges ↔ ∃ e ∈ s.edges, x = quJ R e
  one : 1 ≤ N
  le : N ≤ p
theorem quo_spec {s : Sys} {p : Nat} (hv : sysValid s = true) (hp : s.st = p) : Quo s p (gfp true s s) (clsOf (gfp true s s) p).2 (quoS s) := by
  obtain ⟨p', hp', h1, h2, hf⟩ := valid_few hv
  obtain rfl : p' = p := by omega
  have hG := gfp_at (both := true) hp' hp'
  have hE := hG.eqv hf
  have hsp : s.st.toNat = p' := by rw [hp']; rfl
  refine ⟨h1, h2, hf, hG, hE, rfl, rfl, by unfold quoS; rw [hsp], ?_, fun x => ?_, ?_, clsOf_le _ _⟩
  · unfold quoS
    exact quE_rising (letters_pw _ _)
  · unfold quoS
    rw [quE_mem, hsp]
    constructor
    · rintro ⟨c, l, d, _, _, _, hb, rfl⟩
      unfold quB at hb
      obtain ⟨e, he, hd⟩ := List.any_eq_true.1 hb
      rw [decide_eq_true_eq] at hd
      obtain ⟨rfl, hl, rfl⟩ := hd
      exact ⟨e, he, by unfold quJ; rw [hl]⟩
    · rintro ⟨e, he, rfl⟩
      have hb := hf e he
      have hl := valid_L hv (i := e.fr.toNat) (l := e.le.toNat) (k := e.to.toNat) ⟨e, he, by omega, by omega, by omega⟩
      refine ⟨cl (gfp true s s) e.fr.toNat, e.le.toNat, cl (gfp true s s) e.to.toNat, hE.cl_num (by omega) (by omega), hl, hE.cl_num (by omega) (by omega), ?_, ?_⟩
      · unfold quB
        exact List.any_eq_true.2 ⟨e, he, decide_eq_true ⟨rfl, by omega, rfl⟩⟩
      · unfold quJ
        rw [show ((e.le.toNat : Nat) : Int) = e.le by omega]
  · have := hE.cl_num (i := 0) (by omega) (by omega)
    omega
section
variable {s : Sys} {p N : Nat} {R : List Nat} {q : Sys} (h : Quo s p R N q)
include h
theorem Quo.E {c l d : Nat} : E q.edges c l d ↔ ∃ i k, E s.edges i l k ∧ cl R i = c ∧ cl R k = d := by
  unfold Go.Proofs.YtplllipekeomiaaGreatDoor.E
  constructor
  · rintro ⟨x, hx, h1, h2, h3⟩
    obtain ⟨e, he, rfl⟩ := (h.mem x).1 hx
    have hb := h.few e he
    simp only [quJ] at h1 h2 h3
    exact ⟨e.fr.toNat, e.to.toNat, ⟨e, he, by omega, h2, by omega⟩, by omega, by omega⟩
  · rintro ⟨i, k, ⟨e, he, h1, h2, h3⟩, h4, h5⟩
    refine ⟨quJ R e, (h.mem _).2 ⟨e, he, rfl⟩, ?_, h2, ?_⟩
    · simp only [quJ]; rw [h1, show ((i : Nat) : Int).toNat = i from rfl, h4]
    · simp only [quJ]; rw [h3, show ((k : Nat) : Int).toNat = k from rfl, h5]
theorem Quo.few' : Few N q.edges := by
  intro x hx
  obtain ⟨e, he, rfl⟩ := (h.mem x).1 hx
  have hb := h.few e he
  have h1 := h.eqv.cl_num (by have := h.hp2; omega) (i := e.fr.toNat) (by omega)
  have h2 := h.eqv.cl_num (by have := h.hp2; omega) (i := e.to.toNat) (by omega)
  have h3 := h.num
  simp only [quJ]
  omega
/-- Each state is bisimilar to its class. -/
theorem Quo.bis {G : List Nat} (hG : Gfp true s.edges q.edges p N G) {i : Nat} (hi : i < p) : rel G i (cl R i) := by
  have hp := h.hp2
  refine hG.great (fun i c => i < p ∧ c = cl R i) ?_ i _ ⟨hi, rfl⟩
  rintro i c ⟨hi, rfl⟩
  refine ⟨hi, by rw [h.num]; exact h.eqv.cl_num (by omega) hi, fun l k hk => ?_, fun _ l d hd => ?_⟩
  · exact ⟨cl R k, h.E.2 ⟨i, k, hk, rfl, rfl⟩, (E_lt h.few hk).2, rfl⟩
  · obtain ⟨j, k, hjk, h1, h2⟩ := h.E.1 hd
    have hr := (h.eqv.cl_iff (by omega) (E_lt h.few hjk).1 hi).1 h1
    obtain ⟨k', hk', hr'⟩ := (h.gfp.post _ _ hr).1 _ _ hjk
    refine ⟨k', hk', (E_lt h.few hk').2, ?_⟩
    rw [← h2]
    exact ((h.eqv.cl_iff (by omega) (E_lt h.few hjk).2 (E_lt h.few hk').2).2 hr')
theorem Quo.valid (hv : sysValid s = true) : sysValid q = true := by
  obtain ⟨h1, h2, h3, h4⟩ := valid_iff.1 hv
  have hN := h.one
  have hN2 := h.le
  have hp := h.hp2
  refine valid_iff.2 ⟨by rw [h.al]; exact h1, by rw [h.st]; omega, fun x hx => ?_, rising_pw.2 h.ris⟩
  have hb := h.few' x hx
  obtain ⟨e, he, rfl⟩ := (h.mem x).1 hx
  have h5 := h3 e he
  rw [h.al, h.st]
  simp only [edgB, hasB, Bool.and_eq_true, decide_eq_true_eq] at h5
  unfold edgB hasB
  simp only [Bool.and_eq_true]
  exact ⟨⟨decide_eq_true (by omega), decide_eq_true (by omega)⟩, ⟨decide_eq_true (by omega), decide_eq_true (by omega)⟩, decide_eq_true (by omega), decide_eq_true (by omega), h5.2.2.2.2⟩
/-- Classes of a quotient are its states. -/
theorem Quo.self {G : List Nat} (hG : Gfp true q.edges q.edges N N G) {a b : Nat} : rel G a b ↔ a = b ∧ a < N := by
  have hp := h.hp2
  constructor
  · intro hr
    obtain ⟨ha, hb⟩ := rel_lt hG.toInv hr
    obtain ⟨i, hi, rfl⟩ := h.eqv.cl_onto (by omega) p (Nat.le_refl _) a (by rw [← h.num]; exact ha)
    obtain ⟨j, hj, rfl⟩ := h.eqv.cl_onto (by omega) p (Nat.le_refl _) b (by rw [← h.num]; exact hb)
    obtain ⟨X, hX⟩ := gfp_exists true s.edges q.edges p N
    obtain ⟨Y, hY⟩ := gfp_exists true q.edges s.edges N p
    have h1 := hX.trans hG hX (h.bis hX hi) hr
    have h2 := hX.symm hY (h.bis hX hj)
    have h3 := hX.trans hY h.gfp h1 h2
    exact ⟨(h.eqv.cl_iff (by omega) hi hj).2 h3, ha⟩
  · rintro ⟨rfl, ha⟩
    exact gfp_self h.few' hG ha
end
theorem cls_id {N : Nat} {G : List Nat} (hN : N ≤ 32) (h : ∀ a b, rel G a b ↔ a = b ∧ a < N) : ∀ k, k ≤ N → (clsOf G k).2 = k ∧ ∀ i, i < k → cl G i = i := by
  have hl : ∀ k, k < N → lst (G.getD k 0) = k := fun k hk => by
    obtain ⟨t, _, h2, h3, _⟩ := lst_spec (x := G.getD k 0) (k := k) (by omega) ((h k k).2 ⟨rfl, hk⟩).2
    exact ((h k _).1 (rel_getD h2)).1.symm
  intro k
  induction k with
  | zero => intro _; exact ⟨rfl, fun i hi => by omega⟩
  | succ k ih =>
    intro hk
    obtain ⟨e1, e2⟩ := ih (by omega)
    have e3 := hl k (by omega)
    rw [clsOf_yes e3]
    refine ⟨by rw [e1], fun i hi => ?_⟩
    rcases Nat.lt_or_ge i k with h1 | h1
    · exact e2 i h1
    · obtain rfl : i = k := by omega
      rw [cl_yes e3, e1]
/-- A quotient is its own quotient. -/
theorem quo_quo {s : Sys} (hv : sysValid s = true) : quoS (quoS s) = quoS s := by
  obtain ⟨p, hp, _⟩ := valid_few hv
  have h := quo_spec hv hp
  have hv' := h.valid hv
  have h' := quo_spec hv' h.st
  have hp2 := h.hp2
  have hle := h.le
  have hid := cls_id (by omega) (fun a b => h.self h'.gfp (a := a) (b := b)) _ (Nat.le_refl _)
  have e1 : (quoS (quoS s)).al = (quoS s).al := h'.al
  have e2 : (quoS (quoS s)).st = (quoS s).st := by rw [h'.st, h.st, hid.1]
  have e3 : (quoS (quoS s)).edges = (quoS s).edges := by
    refine rising_ext h'.ris h.ris fun x => ?_
    rw [h'.mem]
    have key : ∀ e ∈ (quoS s).edges, quJ (gfp true (quoS s) (quoS s)) e = e := fun e he => by
      have hb := h.few' e he
      unfold quJ
      rw [hid.2 _ (by omega), hid.2 _ (by omega), show ((e.fr.toNat : Nat) : Int) = e.fr by omega, show ((e.to.toNat : Nat) : Int) = e.to by omega]
    constructor
    · rintro ⟨e, he, rfl⟩
      rw [key e he]; exact he
    · intro hx
      exact ⟨x, hx, (key x hx).symm⟩
  generalize quoS (quoS s) = a at *
  generalize quoS s = b at *
  obtain ⟨a1, a2, a3⟩ := a
  obtain ⟨b1, b2, b3⟩ := b
  simp only at e1 e2 e3
  rw [e1, e2, e3]
theorem quo_same {s : Sys} (hv : sysValid s = true) : sameB s (quoS s) = true := by
  obtain ⟨p, hp, _⟩ := valid_few hv
  have h := quo_spec hv hp
  simp only [sameB, hv, h.valid hv, Bool.true_and, beq_iff_eq]
  exact h.al.symm
/-- A system is bisimilar to its quotient. -/
theorem quo_bis {s : Sys} (hv : sysValid s = true) : simB true s (quoS s) = true := by
  obtain ⟨p, hp, hp1, hp2, hf⟩ := valid_few hv
  have h := quo_spec hv hp
  have := h.bis (gfp_at hp h.st) (i := 0) (by omega)
  rw [h.eqv.cl_zero (by omega) (by omega)] at this
  exact (simB_rel2 (quo_same hv)).2 this
/-- Determinism is kept. -/
theorem quo_det {s : Sys} (hv : sysValid s = true) (hd : Det s.edges) : Det (quoS s).edges := by
  obtain ⟨p, hp, hp1, hp2, hf⟩ := valid_few hv
  have h := quo_spec hv hp
  have hr : ∀ c, Rch (quoS s).edges c → ∃ i, Rch s.edges i ∧ i < p ∧ cl (gfp true s s) i = c := by
    intro c hc
    induction hc with
    | zero => exact ⟨0, .zero, by omega, h.eqv.cl_zero (by omega) (by omega)⟩
    | @step c l d _ hk ih =>
      obtain ⟨i, hi, hip, rfl⟩ := ih
      obtain ⟨j, k, hjk, h1, h2⟩ := h.E.1 hk
      have hrel := (h.eqv.cl_iff (by omega) (E_lt h.few hjk).1 hip).1 h1
      obtain ⟨k', hk', hr'⟩ := (h.gfp.post _ _ hrel).1 _ _ hjk
      refine ⟨k', hi.step hk', (E_lt h.few hk').2, ?_⟩
      rw [← h2]
      exact ((h.eqv.cl_iff (by omega) (E_lt h.few hjk).2 (E_lt h.few hk').2).2 hr').symm
  intro c l d d' hc hk hk'
  obtain ⟨i, hi, hip, rfl⟩ := hr c hc
  have key : ∀ d, E (quoS s).edges (cl (gfp true s s) i) l d → ∃ k, E s.edges i l k ∧ cl (gfp true s s) k = d := by
    intro d hd
    obtain ⟨j, k, hjk, h1, h2⟩ := h.E.1 hd
    have hrel := (h.eqv.cl_iff (by omega) (E_lt h.few hjk).1 hip).1 h1
    obtain ⟨k', hk', hr'⟩ := (h.gfp.post _ _ hrel).1 _ _ hjk
    refine ⟨k', hk', ?_⟩
    rw [← h2]
    exact ((h.eqv.cl_iff (by omega) (E_lt h.few hjk).2 (E_lt h.few hk').2).2 hr').symm
  obtain ⟨k, hk1, rfl⟩ := key d hk
  obtain ⟨k', hk2, rfl⟩ := key d' hk'
  rw [hd i l k k' hi hk1 hk2]
end Go.Proofs.YtplllipekeomiaaGreatDoor

namespace Go.Proofs.YtplllipekeomiaaGreatDoor
open Go Go.RowKit
set_option maxHeartbeats 2000000

/-- Lists of numbers that rise are told by their members. -/
theorem asc_ext : ∀ {l m : List Nat}, l.Pairwise (· < ·) → m.Pairwise (· < ·) → (∀ x, x ∈ l ↔ x ∈ m) → l = m := by
  intro l
  induction l with
  | nil =>
    intro m _ _ h
    cases m with
    | nil => rfl
    | cons y s => exact absurd ((h y).2 (by simp)) (by simp)
  | cons x r ih =>
    intro m hl hm h
    cases m with
    | nil => exact absurd ((h x).1 (by simp)) (by simp)
    | cons y s =>
      rw [List.pairwise_cons] at hl hm
      have e : x = y := by
        have h1 := (h x).1 (by simp)
        have h2 := (h y).2 (by simp)
        rcases List.mem_cons.1 h1 with h1 | h1
        · exact h1
        · rcases List.mem_cons.1 h2 with h2 | h2
          · exact h2.symm
          · have := hl.1 y h2
            have := hm.1 x h1
            omega
      subst e
      rw [ih hl.2 hm.2 fun z => ?_]
      have hz := h z
      simp only [List.mem_cons] at hz
      constructor
      · intro h1
        have := hl.1 z h1
        rcases hz.1 (Or.inr h1) with h2 | h2
        · omega
        · exact h2
      · intro h1
        have := hm.1 z h1
        rcases hz.2 (Or.inr h1) with h2 | h2
        · omega
        · exact h2
/-- The states to which the edges of a state lead with a letter. -/
def chE (es : List Edg) (q l : Nat) : List Nat := (es.filter fun e => e.fr == (q : Int) && e.le == (l : Int)).map fun e => e.to.toNat
theorem chE_cho {p : Nat} {es : List Edg} (hf : Few p es) (hp : p ≤ 16) (hr : Rising es) (q l : Nat) : chE es q l = letters (succ es q l) 32 := by
  refine asc_ext ?_ (letters_pw _ _) fun x => ?_
  · have h1 := rising_pw.1 hr
    rw [chE, List.pairwise_map, List.pairwise_filter]
    refine h1.imp_of_mem fun {a b} ha hb hab h2 h3 => ?_
    simp only [Bool.and_eq_true, beq_iff_eq] at h2 h3
    have := ltE_iff.1 hab
    have := hf a ha
    have := hf b hb
    omega
  · rw [letters_mem, succ_bit, chE, List.mem_map]
    simp only [List.mem_filter, Bool.and_eq_true, beq_iff_eq]
    constructor
    · rintro ⟨e, ⟨h1, h2⟩, rfl⟩
      have := hf e h1
      exact ⟨by omega, e, h1, h2, rfl⟩
    · rintro ⟨_, e, h1, h2, rfl⟩
      exact ⟨e, ⟨h1, h2⟩, rfl⟩
theorem chE_take {es : List Edg} {k : Nat} {x : Edg} (h : es[k]? = some x) (q l : Nat) : chE (es.take (k + 1)) q l = chE (es.take k) q l ++ if x.fr = (q : Int) ∧ x.le = (l : Int) then [x.to.toNat] else [] := by
  rw [List.take_add_one, h]
  unfold chE
  rw [Option.toList_some, List.filter_append, List.map_append]
  congr 1
  by_cases hc : x.fr = (q : Int) ∧ x.le = (l : Int)
  · rw [if_pos hc]; simp [hc]
  · rw [if_neg hc]
    have : (x.fr == (q : Int) && x.le == (l : Int)) = false := by
      rw [Bool.eq_false_iff]
      intro h
      simp only [Bool.and_eq_true, beq_iff_eq] at h
      exact hc h
    simp [this]

theorem chE_len {p : Nat} {es : List Edg} (hf : Few p es) (hp : p ≤ 16) (hr : Rising es) (q l k : Nat) : (chE (es.take k) q l).length ≤ 16 := by
  have h1 : (chE (es.take k) q l).Sublist (chE es q l) := ((List.take_sublist k es).filter _).map _
  refine Nat.le_trans h1.length_le (Nat.le_trans (nodup_len (p := p) ?_ ?_) hp)
  · rw [chE_cho hf hp hr]; exact letters_nodup _ _
  · intro x hx
    obtain ⟨e, he, rfl⟩ := List.mem_map.1 hx
    have := hf e (List.mem_filter.1 he).1
    omega
theorem ret_one {w W : World} {y g : Nat} (hx : Ext w W) (hb : Blk W g 3 #[.int .i64 (y : Nat)]) (hg : w.heap.size ≤ g) : RetNats w [y] (.returned (.slice (some ⟨g, 0, none⟩) 1 1)) W :=
  ⟨some ⟨g, 0, none⟩, 1, rfl, ⟨rfl, .inr ⟨g, 1, _, rfl, hg, hb, by simp [nats, maxLen]⟩⟩, hx⟩
set_option maxRecDepth 100000 in
theorem spec_l4Choices {PA AA : Option Addr} {pn pc an ac : Nat} {sv : Value} {L K G : Int} {ss : List Sys} {us : List Aut} {w : World} {i q l : Nat} {m : Mem} (h : NetAt w PA pn AA an ss us) (hok : NetOk ss us) (hm : (mems ss us)[i]? = some m) (hq : q < m.1) (hl : l < 6) :
    Calls Tryz.prog 135 #[.agg #[.slice PA pn pc, .slice AA an ac, sv, .int .i64 L, .int .i64 K, .int .i64 G], .int .i64 i, .int .i64 q, .int .i64 l] w (RetNats w (m.2 q l)) := by
  have hw1 : Ext w (w.alloc (.cells #[.slice PA pn pc, .slice AA an ac, sv, .int .i64 L, .int .i64 K, .int .i64 G] 110)) := (Ext.refl w).alloc _
  have hb1 := Blk.new w 110 #[.slice PA pn pc, .slice AA an ac, sv, .int .i64 L, .int .i64 K, .int .i64 G]
  have HN := hide (fun W (hW : Ext w W) => h.ext hW)
  have hpn : Hid (pn = ss.length) := by obtain ⟨_, _, h1⟩ := h.sys; exact h1.1
  have han : Hid (an = us.length) := by obtain ⟨_, _, h1⟩ := h.aut; exact h1.1
  have hp3 : pn ≤ 3 := by rw [hpn.out]; exact hok.few
  have ha2 : an ≤ 2 := by rw [han.out]; exact hok.few'
  by_cases hip : i < pn
  · have hs : ss[i]? = some (ss[i]'(by rw [← hpn.out]; exact hip)) := List.getElem?_eq_getElem _
    generalize ss[i]'(by rw [← hpn.out]; exact hip) = s at hs
    obtain rfl : m = sMem s := by
      rw [mems, List.getElem?_append_left (by simp; have := hpn.out; omega), List.getElem?_map, hs] at hm
      exact (Option.some.inj hm).symm
    have hv := hok.sys s (List.mem_of_getElem? hs)
    obtain ⟨hal, hst, _, hris⟩ := valid_iff.1 hv
    obtain ⟨p, hp, hp1, hp2, hf⟩ := valid_few hv
    obtain ⟨al, ha⟩ : ∃ al : Nat, Hid (s.al = al) := ⟨s.al.toNat, by unfold Hid; omega⟩
    have hsm : Sm al := by have := ha.out; unfold Sm; omega
    have hres := hide (show (sMem s).2 q l = if al.testBit l then chE s.edges q l else [q] by
      rw [chE_cho hf hp2 hris]
      simp only [sMem, cho]
      rw [ha.out, Int.toNat_natCast])
    have Hs := hide hs
    have H16 := hide (chE_len hf hp2 hris q l)
    have Hf := hide hf
    clear hs hv hal hst hris hf hm hok h hq
    rw [hres.out]
    cases hb : al.testBit l
    · have Hb := hide hb
      clear hb
      go_enter Tryz.func135, Tryz.ntmps135
      go_upto_region 1 with fail
      generalize w.alloc (.cells #[.slice PA pn pc, .slice AA an ac, sv, .int .i64 L, .int .i64 K, .int .i64 G] 110) = w1 at *
      have c0 := hb1.cell
      obtain ⟨lo, hi, hsl⟩ := (HN.out w1 hw1).sys
      obtain ⟨b, o, s', B, n, c', rfl, _, _, hs', e0, e1, e2, hsx⟩ := hsl.sys hip
      obtain rfl : s = s' := by have := hs'.out; rw [Hs.out] at this; exact Option.some.inj this
      rw [ha.out] at e0
      clear e1 hsl hsx
      go_wp2_with (go_at_call 83; with_reducible refine (spec_l1Has al l hsm _ (by omega)).mono ?_; rw [Hb.out]; rintro e w' ⟨rfl, rfl⟩)
      go_ret
      exact ret_one (hw1.alloc _) (Blk.new _ _ _) hw1.size
    · have Hb := hide hb
      clear hb
      simp only [if_true]
      go_enter Tryz.func135, Tryz.ntmps135
      go_upto_region 1 with fail
      generalize w.alloc (.cells #[.slice PA pn pc, .slice AA an ac, sv, .int .i64 L, .int .i64 K, .int .i64 G] 110) = w1 at *
      have c0 := hb1.cell
      obtain ⟨lo, hi, hsl⟩ := (HN.out w1 hw1).sys
      obtain ⟨b, o, s', B, n, c', rfl, _, _, hs', e0, e1, e2, hsx⟩ := hsl.sys hip
      obtain rfl : s = s' := by have := hs'.out; rw [Hs.out] at this; exact Option.some.inj this
      rw [ha.out] at e0
      have Hnl := hide hsx.1
      have HR := hide (fun W (hW : Ext w1 W) => hsx.2.ext hW)
      have hnm := hsx.2.len
      clear e1 hsl hsx
      go_upto_region 6 with (go_at_call 83; with_reducible refine (spec_l1Has al l hsm _ (by omega)).mono ?_; rw [Hb.out]; rintro e w' ⟨rfl, rfl⟩)
      have hx2 := (Ext.refl w1).alloc (.cells #[] 3)
      have hsz2 : w.heap.size ≤ w1.heap.size := hw1.size
      have hown2 := World.ownsRow_lit (base := w1.heap.size) (e := 3) (size := 1) w1 #[] 0 (Nat.le_refl _) (by unfold maxLen; omega) rfl
      have c0' := (hb1.ext hx2).cell
      have e2' := hx2.cell_some e2
      generalize w1.alloc (.cells #[] 3) = w2 at *
      clear c0 e0 e2
      go_wp2_with fail
      go_loopw [9, 11] (fun v j wr => ∃ k : Nat, k ≤ n ∧ j = .int .i64 k ∧ wr.ownsRow w1.heap.size 3 1 v (chE (s.edges.take k) q l).length (nats (chE (s.edges.take k) q l)) ∧ Ext w1 wr) (fun _ j _ => n - (intOf j).toNat)
      case atStart => exact ⟨0, Nat.zero_le _, rfl, hown2, hx2⟩
      case round =>
        clear hown2 c0' e2' hx2
        obtain ⟨k, hk, rfl, hown, hx⟩ := hrel
        by_cases hlt : k < n
        · obtain ⟨b', o', x, rfl, _, _, hxx, d0, d1, d2⟩ := (HR.out wr hx).edge hlt
          obtain ⟨⟨f0, f1⟩, ⟨l0, l1⟩, ⟨t0, t1⟩⟩ := Hf.out x (List.mem_of_getElem? hxx.out)
          have Htk := hide (chE_take hxx.out q l)
          have hck' := H16.out k
          by_cases hfr : x.fr = (q : Int)
          · by_cases hle : x.le = (l : Int)
            · obtain ⟨t, ht⟩ : ∃ t : Nat, x.to = t := ⟨x.to.toNat, by omega⟩
              rw [hfr] at d0
              rw [hle] at d1
              rw [ht] at d2
              have Htk2 := hide (show chE (s.edges.take (k + 1)) q l = chE (s.edges.take k) q l ++ [t] by rw [Htk.out, if_pos ⟨hfr, hle⟩, ht]; rfl)
              clear hfr hle f0 f1 l0 l1 t0 t1 ht Htk
              generalize chE (s.edges.take k) q l = cs at *
              go_wp2_with (at_builtin; refine wpList_push w1 wr rfl _ _ _ rfl 3 _ 1 8 Tryz.underlying84 info_int rfl (by decide) u9 _ _ _ _ rfl rfl hx hown rfl (cells_int _) (by unfold maxLen; omega) (by omega) ?_; intro v' w5 hext5 hown5 hg5 hat5)
              go_roundw
              case rel => exact ⟨k + 1, by omega, by go_num, by rw [Htk2.out, List.length_append, nats_snoc]; exact hown5, hext5⟩
              case measure => simp [intOf]; omega
            · have hne : (x.le == (l : Int)) = false := by simp; omega
              have Htk2 := hide (show chE (s.edges.take (k + 1)) q l = chE (s.edges.take k) q l by rw [Htk.out, if_neg (fun h => hle h.2), List.append_nil])
              rw [hfr] at d0
              clear hfr hle f0 f1 l0 l1 t0 t1 Htk
              go_wp2_with fail
              go_roundw
              case rel => exact ⟨k + 1, by omega, by go_num, by rw [Htk2.out]; exact hown, hx⟩
              case measure => simp [intOf]; omega
          · have hne : (x.fr == (q : Int)) = false := by simp; omega
            have Htk2 := hide (show chE (s.edges.take (k + 1)) q l = chE (s.edges.take k) q l by rw [Htk.out, if_neg (fun h => hfr h.1), List.append_nil])
            clear hfr f0 f1 l0 l1 t0 t1 Htk
            go_wp2_with fail
            go_roundw
            case rel => exact ⟨k + 1, by omega, by go_num, by rw [Htk2.out]; exact hown, hx⟩
            case measure => simp [intOf]; omega
        · obtain rfl : n = k := by omega
          have hfin := hide (show wr.ownsRow w.heap.size 3 1 u9 (chE s.edges q l).length (nats (chE s.edges q l)) by
            rw [List.take_of_length_le (by have := Hnl.out; omega)] at hown
            exact own_less hown hsz2)
          obtain ⟨A5, c5, rfl⟩ := own_form hfin.out
          have hxw := hw1.trans hx
          clear hown
          go_wp2
          go_ret
          exact ⟨_, _, rfl, hfin.out, hxw⟩
  · obtain ⟨j, hj⟩ : ∃ j, i = pn + j := ⟨i - pn, by omega⟩
    subst hj
    have hmj : us[j]?.map aMem = some m := by
      rw [mems, List.getElem?_append_right (by simp; have := hpn.out; omega), List.getElem?_map] at hm
      rw [← hm]
      congr 2
      simp; have := hpn.out; omega
    obtain ⟨a, ha, rfl⟩ := Option.map_eq_some_iff.1 hmj
    have hja : j < an := by rw [han.out]; exact (List.getElem?_eq_some_iff.1 ha).1
    have hva := hide (hok.aut a (List.mem_of_getElem? ha))
    have Ha := hide ha
    have Hq := hide (show q < a.next.length from hq)
    clear hm hmj ha hok h hq
    change Calls _ _ _ _ (RetNats w [aGo a q l])
    go_enter Tryz.func135, Tryz.ntmps135
    go_upto_region 1 with fail
    generalize w.alloc (.cells #[.slice PA pn pc, .slice AA an ac, sv, .int .i64 L, .int .i64 K, .int .i64 G] 110) = w1 at *
    have c0 := hb1.cell
    obtain ⟨lo, hi, hal⟩ := (HN.out w1 hw1).aut
    obtain ⟨b, o, a', B, m, c, B', m', c', rfl, ha', e0, e1, e2, hat⟩ := hal.aut hja
    obtain rfl : a = a' := by have := ha'.out; rw [Ha.out] at this; exact Option.some.inj this
    have hge : ¬ ((pn + j : Nat) : Int) < (pn : Int) := by omega
    have hsb : ((pn + j : Nat) : Int) - (pn : Int) = (j : Int) := by omega
    have Hat := hide hat
    clear hal hat
    go_wp2_with (go_at_call 120; with_reducible refine (spec_l3Go Hat.out hva.out Hq.out hl).mono ?_; rintro e w5 ⟨rfl, hx5⟩)
    go_ret
    exact ret_one ((hw1.trans hx5).alloc _) (Blk.new _ _ _) ((hw1.trans hx5).size)
end Go.Proofs.YtplllipekeomiaaGreatDoor

namespace Go.Proofs.YtplllipekeomiaaGreatDoor
open Go Go.RowKit
set_option maxHeartbeats 4000000

theorem wrapN (n : Nat) (h : n < 9223372036854775808) : IntKind.i64.wrap (n : Int) = (n : Int) := by rw [IntKind.wrap_i64]; omega
theorem chs_fst (ms : List Mem) (x l : Nat) : (chs ms x l).map Prod.fst = ms.map Prod.fst := by
  induction ms with
  | nil => rfl
  | cons m r ih => simp [chs, ih]
theorem pw_len {l : List Nat} {p : Nat} (h : l.Nodup) (hl : ∀ x ∈ l, x < p) : l.length ≤ p := nodup_len h hl
/-- A member's choices are few. -/
theorem NetOk.choices {ss : List Sys} {us : List Aut} (h : NetOk ss us) {m : Mem} (hm : m ∈ mems ss us) {q l : Nat} (hq : q < m.1) (hl : l < 6) : (∀ x ∈ m.2 q l, x < m.1) ∧ (m.2 q l).length ≤ m.1 := by
  refine ⟨(h.ok m hm).2 q l hq hl, ?_⟩
  rcases List.mem_append.1 hm with h1 | h1
  · obtain ⟨s, hs, rfl⟩ := List.mem_map.1 h1
    exact cho_len (sml_of (h.sys s hs)) hq
  · obtain ⟨a, ha, rfl⟩ := List.mem_map.1 h1
    have := (autValid_row (h.aut a ha)).2.1.1
    simp only [aMem]
    simpa using this
theorem NetOk.fwd_ {ss : List Sys} {us : List Aut} (h : NetOk ss us) (x : Nat) {l : Nat} (hl : l < 6) (k : Nat) : (fwd ((chs (mems ss us) x l).take k)).length ≤ 1048576 ∧ ∀ y ∈ fwd ((chs (mems ss us) x l).take k), y < 1048576 := by
  have hc : ∀ c ∈ (chs (mems ss us) x l).take k, (∀ y ∈ c.2, y < c.1) ∧ c.2.length ≤ c.1 := by
    intro c hc
    obtain ⟨i, hi⟩ := List.getElem?_of_mem (List.mem_of_mem_take hc)
    have hil := (List.getElem?_eq_some_iff.1 hi).1
    rw [chs_length] at hil
    have hm : (mems ss us)[i]? = some (mems ss us)[i] := List.getElem?_eq_getElem hil
    rw [chs_get hm] at hi
    obtain rfl := Option.some.inj hi
    have hmm := List.getElem_mem hil
    exact h.choices hmm (Nat.mod_lt _ (h.ok _ hmm).1) hl
  have hp := (h.total (((chs (mems ss us) x l).take k).map Prod.fst) (by rw [← mems_fst, ← chs_fst _ x l]; exact (List.take_sublist _ _).map _)).2
  refine ⟨Nat.le_trans (fwd_len fun c hc' => (hc c hc').2) hp, fun y hy => Nat.lt_of_lt_of_le (fwd_lt (fun c hc' => (hc c hc').1) y hy) hp⟩
set_option maxRecDepth 100000 in
theorem spec_l4Nexts {PA AA SA TA : Option Addr} {pn pc an ac n sc tc lo hi lo' hi' : Nat} {sv : Value} {L K G : Int} {ss : List Sys} {us : List Aut} {w : World} {x l : Nat} (h : NetAt w PA pn AA an ss us) (hok : NetOk ss us) (hS : Lst NatP w lo hi SA (szs ss us)) (hT : Lst NatP w lo' hi' TA (dec (szs ss us) x)) (hn : (szs ss us).length = n) (hl : l < 6) :
    Calls Tryz.prog 124 #[.agg #[.slice PA pn pc, .slice AA an ac, sv, .int .i64 L, .int .i64 K, .int .i64 G], .slice SA n sc, .slice TA n tc, .int .i64 l] w (RetNats w (pnx (mems ss us) x l)) := by
  have hw1 : Ext w (w.alloc (.cells #[.slice PA pn pc, .slice AA an ac, sv, .int .i64 L, .int .i64 K, .int .i64 G] 110)) := (Ext.refl w).alloc _
  have hb1 := Blk.new w 110 #[.slice PA pn pc, .slice AA an ac, sv, .int .i64 L, .int .i64 K, .int .i64 G]
  have HN := hide (fun W (hW : Ext w W) => h.ext hW)
  have HS := hide (fun W (hW : Ext w W) => hS.ext NatP.ok hW)
  have HT := hide (fun W (hW : Ext w W) => hT.ext NatP.ok hW)
  have Hok := hide hok
  have hn5 : n ≤ 5 := by rw [← hn]; exact hok.len
  have hKl : (chs (mems ss us) x l).length = n := by rw [chs_length, ← hn, ← mems_fst, List.length_map]
  have Hfw := hide (hok.fwd_ x hl)
  have Hget := hide (show ∀ k, k < n → ∃ m, (mems ss us)[k]? = some m ∧ (szs ss us)[k]? = some m.1 ∧ (dec (szs ss us) x)[k]? = some (x / prodN ((mems ss us).drop (k + 1)) % m.1) ∧ (chs (mems ss us) x l)[k]? = some (m.1, m.2 (x / prodN ((mems ss us).drop (k + 1)) % m.1) l) ∧ 1 ≤ m.1 ∧ m.1 ≤ 16 from fun k hk => by
    have hkl : k < (mems ss us).length := by rw [← chs_length _ x l, hKl]; exact hk
    have hm : (mems ss us)[k]? = some (mems ss us)[k] := List.getElem?_eq_getElem hkl
    have hz : (szs ss us)[k]? = some ((mems ss us)[k]).1 := by rw [← mems_fst, List.getElem?_map, hm]; rfl
    refine ⟨_, hm, hz, ?_, chs_get hm, hok.le16 _ (List.mem_of_getElem? hz)⟩
    rw [dec_get hz, ← mems_fst, ← List.map_drop]
    rfl)
  have Hfin := hide (fwd_pnx (mems ss us) x l)
  have Hch := hide (fun (m : Mem) (hm : m ∈ mems ss us) (q l : Nat) (hq : q < m.1) (hl : l < 6) => hok.choices hm hq hl)
  clear h hS hT hok
  generalize hK : chs (mems ss us) x l = KK at *
  have Hlen := hide hKl
  have HSl := hide hn
  clear hK hKl hn
  go_enter Tryz.func124, Tryz.ntmps124
  go_upto_region 1 with fail
  generalize w.alloc (.cells #[.slice PA pn pc, .slice AA an ac, sv, .int .i64 L, .int .i64 K, .int .i64 G] 110) = w1 at *
  go_upto_region 2 with fail
  have hx2 := (Ext.refl w1).alloc (.cells #[.int .i64 0] 3)
  have hsz2 : w.heap.size ≤ w1.heap.size := hw1.size
  have hown2 := World.ownsRow_lit (base := w1.heap.size) (e := 3) (size := 1) w1 #[.int .i64 0] 1 (Nat.le_refl _) (by unfold maxLen; omega) rfl
  generalize hg1 : (some ⟨w1.heap.size, 0, none⟩ : Option Addr) = A1 at *
  clear hg1
  generalize w1.alloc (.cells #[.int .i64 0] 3) = w2 at *
  go_wp2_with fail
  go_loopw [9, 10, 11, 12, 13, 14] (fun v i _ _ _ _ wr => ∃ (k : Nat) (out : List Nat), i = .int .i64 k ∧ k ≤ n ∧ Hid (out = fwd (KK.take k)) ∧ wr.ownsRow w1.heap.size 3 1 v out.length (nats out) ∧ Ext w1 wr) (fun _ i _ _ _ _ _ => n - (intOf i).toNat)
  case atStart => exact ⟨0, [0], rfl, Nat.zero_le _, rfl, by simpa [nats] using hown2, hx2⟩
  case round =>
    clear hown2 hx2
    obtain ⟨k, out, rfl, hk, hout, hown, hx⟩ := hrel
    obtain ⟨A0, c0, rfl⟩ := own_form hown
    by_cases hlt : k < n
    · obtain ⟨m, hm, hz, hd, hc, hm1, hm16⟩ := Hget.out k hlt
      have Hm := hide hm
      have Hc := hide hc
      obtain ⟨ho1, ho2⟩ := Hfw.out k
      rw [← hout.out] at ho1 ho2
      have Ho2 := hide ho2
      obtain ⟨q, hq⟩ : ∃ q : Nat, Hid (x / prodN ((mems ss us).drop (k + 1)) % m.1 = q) := ⟨_, rfl⟩
      have hqm : q < m.1 := by rw [← hq.out]; exact Nat.mod_lt _ hm1
      obtain ⟨hcs1, hcs2⟩ := Hch.out m (List.mem_of_getElem? hm) q l hqm hl
      have Hcs1 := hide hcs1
      rw [hq.out] at hd
      have Hc2 := hide (show KK[k]? = some (m.1, m.2 q l) by rw [Hc.out, hq.out])
      obtain ⟨sz, hsz⟩ : ∃ sz : Nat, Hid (m.1 = sz) := ⟨_, rfl⟩
      obtain ⟨cs, hcs⟩ : ∃ cs : List Nat, Hid (m.2 q l = cs) := ⟨_, rfl⟩
      have hkl : k < (dec (szs ss us) x).length := (List.getElem?_eq_some_iff.1 hd).1
      have hww := hw1.trans hx
      obtain ⟨bt, ot, q', rfl, _, _, hq', hct⟩ := (HT.out wr hww).num hkl
      obtain rfl : q = q' := by have := hq'.out; rw [hd] at this; exact Option.some.inj this
      obtain ⟨bz, oz, z', rfl, _, _, hz', hcz⟩ := (HS.out wr hww).num (List.getElem?_eq_some_iff.1 hz).1
      obtain rfl : m.1 = z' := by have := hz'.out; rw [hz] at this; exact Option.some.inj this
      have Hqm := hide hqm
      rw [hsz.out] at hcz hm1 hm16 hcs2
      rw [hcs.out] at hcs2 Hcs1
      rw [hsz.out] at Hcs1 Hc2
      rw [hcs.out] at Hc2
      have hstep := hide (show fwd (KK.take (k + 1)) = out.flatMap fun o => cs.map fun y => o * sz + y by
        rw [List.take_add_one, Hc2.out, Option.toList_some, fwd_snoc, ← hout.out])
      have CT : ∀ W, Ext wr W → W.cell? ⟨bt, ot + k, none⟩ = some (.int .i64 (q : Nat)) := fun W hW => hW.cell_some hct
      have CB : ∀ W, Ext wr W → ∀ j, W.cell? ⟨w.heap.size, j, none⟩ = #[Value.slice PA pn pc, .slice AA an ac, sv, .int .i64 L, .int .i64 K, .int .i64 G][j]? := fun W hW => ((hb1.ext hx).ext hW).cell
      have CC := hide (show ∀ W, Ext wr W → Calls Tryz.prog 135 #[.agg #[.slice PA pn pc, .slice AA an ac, sv, .int .i64 L, .int .i64 K, .int .i64 G], .int .i64 k, .int .i64 q, .int .i64 l] W (RetNats W cs) from fun W hW => by
        have := spec_l4Choices (pc := pc) (ac := ac) (sv := sv) (L := L) (K := K) (G := G) (HN.out W (hww.trans hW)) Hok.out Hm.out Hqm.out hl
        rw [hcs.out] at this
        exact this)
      have hki : (k : Int) < (n : Int) := by omega
      have hrr := Ext.refl wr
      clear hct hz' hq' hz hd hc hm hqm hcs1 ho2 Hqm
      go_upto_region 5 with fail
      refine wp_region_tailU (fun X => Ext wr X) [7] (OrdU.of [0, 1, 2, 3, 4, 5, 6, 7, 8]) (by kernel_rfl) (by kernel_rfl) (by kernel_rfl) (by kernel_rfl) (by kernel_rfl) (fun _ _ _ _ _ h => h) (by first | assumption | exact (Ext.refl _).drew | (refine Ext.drew ?_; assumption)) ?_
      repeat (first | (refine useq_skip rfl rfl (by assumption) ?_; simp only [Act.put, List.setIfInBounds_toArray, List.set_cons_zero, List.set_cons_succ]) | (refine useq_pure (v := ?_) rfl rfl rfl rfl (fun X => ?_) ?_; rotate_left; (focus (go_simp <;> with_reducible rfl)); simp only [Act.put, List.setIfInBounds_toArray, List.set_cons_zero, List.set_cons_succ]) | (refine useq_read (v := ?_) rfl rfl rfl rfl (fun X hX => ?_) ?_; rotate_left; (focus (go_simp <;> with_reducible rfl)); simp only [Act.put, List.setIfInBounds_toArray, List.set_cons_zero, List.set_cons_succ]))
      (refine useq_last rfl rfl rfl rfl (fun K hK => ?_))
      go_simp
      refine (CC.out _ hrr.drew).mono ?_
      rintro e w4 ⟨A4, c4, rfl, hown4, hx4⟩
      refine hK.out _ _ ?_
      (try simp only [Act.put, List.setIfInBounds_toArray, List.set_cons_zero, List.set_cons_succ])
      repeat (first | (refine useq_skip rfl rfl (by assumption) ?_; simp only [Act.put, List.setIfInBounds_toArray, List.set_cons_zero, List.set_cons_succ]) | (refine useq_pure (v := ?_) rfl rfl rfl rfl (fun X => ?_) ?_; rotate_left; (focus (go_simp <;> with_reducible rfl)); simp only [Act.put, List.setIfInBounds_toArray, List.set_cons_zero, List.set_cons_succ]) | (refine useq_read (v := ?_) rfl rfl rfl rfl (fun X hX => ?_) ?_; rotate_left; (focus (go_simp <;> with_reducible rfl)); simp only [Act.put, List.setIfInBounds_toArray, List.set_cons_zero, List.set_cons_succ]))
      refine useq_nil ?_
      have hw4 : Ext wr w4 := hrr.drew.trans hx4
      have hL4 := Lst.own_nats hown4
      have hLo := (Lst.own_nats hown).ext NatP.ok hw4
      have hcz4 := hw4.cell_some hcz
      clear CT CB CC hrr hown4 hx4 hcz
      go_upto_region 7 with fail
      have hx5 := (Ext.refl w4).alloc (.cells #[] 3)
      have hown5 := World.ownsRow_lit (base := w4.heap.size) (e := 3) (size := 1) w4 #[] 0 (Nat.le_refl _) (by unfold maxLen; omega) rfl
      generalize hg1 : (some ⟨w4.heap.size, 0, none⟩ : Option Addr) = A5 at *
      clear hg1
      generalize w4.alloc (.cells #[] 3) = w5 at *
      have hLo' := hide (fun W (hW : Ext w4 W) => hLo.ext NatP.ok hW)
      have hL4' := hide (fun W (hW : Ext w4 W) => hL4.ext NatP.ok hW)
      have Hsz := hide (fun W (hW : Ext w4 W) => hW.cell_some hcz4)
      clear hLo hL4 hcz4
      go_wp2_with fail
      go_loopw [12, 13, 14] (fun v i _ wr => ∃ (a : Nat) (nx : List Nat), i = .int .i64 a ∧ a ≤ out.length ∧ Hid (nx = (out.take a).flatMap fun o => cs.map fun y => o * sz + y) ∧ wr.ownsRow w4.heap.size 3 1 v nx.length (nats nx) ∧ Ext w4 wr) (fun _ i _ _ => out.length - (intOf i).toNat)
      case atStart => exact ⟨0, [], rfl, Nat.zero_le _, by simp [Hid], by simpa [nats] using hown5, hx5⟩
      case round =>
        clear hown5 hx5
        obtain ⟨a, nx, rfl, ha, hnx, hown5, hx5⟩ := hrel
        by_cases hla : a < out.length
        · obtain ⟨bo, oo, o, rfl, _, _, ho, hco⟩ := (hLo'.out _ hx5).num hla
          have holt := Ho2.out o (List.mem_of_getElem? ho.out)
          have hnl : nx.length ≤ 16777216 := by
            rw [hnx.out]
            refine Nat.le_trans (flat_len (k := cs.length) fun z _ => by simp) ?_
            rw [List.length_take]
            have := Nat.mul_le_mul (show min a out.length ≤ 1048576 by omega) (show cs.length ≤ 16 by omega)
            omega
          have hsn := hide (show ((out.take (a + 1)).flatMap fun o => cs.map fun y => o * sz + y) = nx ++ cs.map fun y => o * sz + y by
            rw [List.take_add_one, ho.out, hnx.out]; simp)
          clear hco
          go_wp2_with fail
          go_loopw [12, 14] (fun v i wr => ∃ (b : Nat) (nb : List Nat), i = .int .i64 b ∧ b ≤ cs.length ∧ Hid (nb = nx ++ (cs.take b).map fun y => o * sz + y) ∧ wr.ownsRow w4.heap.size 3 1 v nb.length (nats nb) ∧ Ext w4 wr) (fun _ i _ => cs.length - (intOf i).toNat)
          case atStart => exact ⟨0, nx, rfl, Nat.zero_le _, by simp [Hid], hown5, hx5⟩
          case round =>
            clear hown5 hx5
            obtain ⟨b, nb, rfl, hb, hnb, hown5, hx5⟩ := hrel
            by_cases hlb : b < cs.length
            · obtain ⟨bc, oc, y, rfl, _, _, hy, hcy⟩ := (hL4'.out _ hx5).num hlb
              have hylt := Hcs1.out y (List.mem_of_getElem? hy.out)
              have hnbl : nb.length ≤ 16777216 + 16 := by rw [hnb.out, List.length_append, List.length_map, List.length_take]; omega
              have hmul : o * sz ≤ 1048576 * 16 := Nat.mul_le_mul (by omega) hm16
              obtain ⟨os, hos⟩ : ∃ z : Nat, Hid (o * sz = z) := ⟨_, rfl⟩
              have hosi : (o : Int) * (sz : Int) = (os : Int) := by rw [← hos.out]; exact (Int.natCast_mul o sz).symm
              rw [hos.out] at hmul
              have hsn3 := hide (show (nx ++ (cs.take (b + 1)).map fun y => o * sz + y) = nb ++ [os + y] by
                rw [List.take_add_one, hy.out, hnb.out, ← hos.out]; simp)
              have C1 : ∀ W, Ext wr W → W.cell? ⟨bo, oo + a, none⟩ = some (.int .i64 (o : Nat)) := fun W hW => (hLo'.out W (hx5.trans hW)).num2 ho.out
              have C2 : ∀ W, Ext wr W → W.cell? ⟨bz, oz + k, none⟩ = some (.int .i64 (sz : Nat)) := fun W hW => Hsz.out W (hx5.trans hW)
              have C3 : ∀ W, Ext wr W → W.cell? ⟨bc, oc + b, none⟩ = some (.int .i64 (y : Nat)) := fun W hW => hW.cell_some hcy
              have hai : (a : Int) < (out.length : Int) := by omega
              have hbi : (b : Int) < (cs.length : Int) := by omega
              have hww5 := Ext.refl wr
              clear hcy
              go_upto_region 13 with fail
              refine wp_region_tailU (fun X => Ext wr X) [15, 16] (OrdU.of [0, 1, 2, 3, 4, 5, 6, 7, 8, 9, 10, 11, 12, 13, 14, 15, 16, 17]) (by kernel_rfl) (by kernel_rfl) (by kernel_rfl) (by kernel_rfl) (by kernel_rfl) (fun _ _ _ _ _ h => h) (by first | assumption | exact (Ext.refl _).drew | (refine Ext.drew ?_; assumption)) ?_
              repeat (first | (refine useq_skip rfl rfl (by assumption) ?_; simp only [Act.put, List.setIfInBounds_toArray, List.set_cons_zero, List.set_cons_succ]) | (refine useq_pure (v := ?_) rfl rfl rfl rfl (fun X => ?_) ?_; rotate_left; (focus (go_simp <;> with_reducible rfl)); simp only [Act.put, List.setIfInBounds_toArray, List.set_cons_zero, List.set_cons_succ]) | (refine useq_read (v := ?_) rfl rfl rfl rfl (fun X hX => ?_) ?_; rotate_left; (focus (go_simp <;> with_reducible rfl)); simp only [Act.put, List.setIfInBounds_toArray, List.set_cons_zero, List.set_cons_succ]))
              (refine useq_step rfl rfl rfl (fun K hK => ?_); go_simp)
              refine hK.out _ _ (hww5.drew.alloc _) ?_
              (try simp only [Act.put, List.setIfInBounds_toArray, List.set_cons_zero, List.set_cons_succ])
              (refine useq_last rfl rfl rfl rfl (fun K hK => ?_))
              refine wp_push w4 wr.drew _ _ _ rfl 3 _ 1 8 Tryz.underlying84 info_int rfl (by decide) u12 nb.length (nats nb) _ _ rfl rfl (hx5.drew).size hown5 rfl (cells_int _) (by unfold maxLen; omega) (by omega) ?_
              intro g5 cap5 w6 hown6 hg6 hat6 hlt6
              have hwr : IntKind.i64.wrap (IntKind.i64.wrap (os : Int) + (y : Int)) = ((os + y : Nat) : Int) := by rw [wrapN os (by omega), ← Int.natCast_add, wrapN (os + y) (by omega)]
              rw [hwr] at hown6
              refine hK.out _ _ ?_
              (try simp only [Act.put, List.setIfInBounds_toArray, List.set_cons_zero, List.set_cons_succ])
              repeat (first | (refine useq_skip rfl rfl (by assumption) ?_; simp only [Act.put, List.setIfInBounds_toArray, List.set_cons_zero, List.set_cons_succ]) | (refine useq_pure (v := ?_) rfl rfl rfl rfl (fun X => ?_) ?_; rotate_left; (focus (go_simp <;> with_reducible rfl)); simp only [Act.put, List.setIfInBounds_toArray, List.set_cons_zero, List.set_cons_succ]) | (refine useq_read (v := ?_) rfl rfl rfl rfl (fun X hX => ?_) ?_; rotate_left; (focus (go_simp <;> with_reducible rfl)); simp only [Act.put, List.setIfInBounds_toArray, List.set_cons_zero, List.set_cons_succ]))
              refine useq_nil ?_
              have hx6 : Ext w4 w6 := hx5.drew.grown hg6 (fun q' hq' => (hown5.lt q' hq').1)
              go_wp2_with fail
              go_roundw
              case rel => exact ⟨b + 1, nb ++ [os + y], by go_num, by omega, by unfold Hid; rw [hsn3.out], by rw [List.length_append, nats_snoc]; exact hown6, hx6⟩
              case measure => simp [intOf]; omega
            · obtain rfl : b = cs.length := by omega
              have hfin2 := hide (show nb = nx ++ cs.map fun y => o * sz + y by rw [hnb.out, List.take_length])
              go_wp2_with fail
              go_roundw
              case rel => exact ⟨a + 1, nb, by go_num, by omega, by unfold Hid; rw [hsn.out, hfin2.out], hown5, hx5⟩
              case measure => simp [intOf]; omega
        · obtain rfl : a = out.length := by omega
          have hfin3 := hide (show nx = fwd (KK.take (k + 1)) by rw [hstep.out, hnx.out, List.take_length])
          have hx6 := hx.trans (hw4.trans hx5)
          have hown6 := own_less hown5 (show w1.heap.size ≤ w4.heap.size from (hx.trans hw4).size)
          go_wp2_with fail
          go_roundw
          case rel => exact ⟨k + 1, nx, by go_num, by omega, hfin3, hown6, hx6⟩
          case measure => simp [intOf]; omega
    · obtain rfl : n = k := by omega
      have hfin := hide (show out = pnx (mems ss us) x l by rw [hout.out, List.take_of_length_le (by have := Hlen.out; omega)]; exact Hfin.out)
      have hres := hide (show RetNats w (pnx (mems ss us) x l) (.returned (.slice A0 out.length c0)) wr from by
        rw [← hfin.out]
        exact ⟨A0, c0, rfl, own_less hown hsz2, hw1.trans hx⟩)
      clear hown
      go_wp2
      go_ret
      exact hres.out
end Go.Proofs.YtplllipekeomiaaGreatDoor

namespace Go.Proofs.YtplllipekeomiaaGreatDoor
open Go Go.RowKit
set_option maxHeartbeats 4000000

theorem info_intss : (Tryz.prog.info? 23).map (fun i => (i.zero, i.size, i.bytes)) = some (some (.slice none 0 0), 1, 24) := by kernel_rfl
/-- For each node and each letter the nodes to which it leads. -/
def mvs (d : Nat → Nat → List Nat) (L : List Nat) (N : Nat) : List (List (List Nat)) := (List.range N).map fun x => L.map fun l => d x l
theorem mvs_length (d : Nat → Nat → List Nat) (L : List Nat) (N : Nat) : (mvs d L N).length = N := by simp [mvs]
abbrev P3 : Lay (List (List Nat)) := LstP (LstP NatP)
theorem P3.ok : Lay.Ok P3 := LstP.ok (LstP.ok NatP.ok)
def RetMv (w : World) (mv : List (List (List Nat))) (e : Ending) (w' : World) : Prop := ∃ A c, e = .returned (.slice A mv.length c) ∧ Lst P3 w' w.heap.size w'.heap.size A mv ∧ Ext w w'
set_option maxRecDepth 100000 in
theorem spec_l4Moves {PA AA SA : Option Addr} {pn pc an ac n sc lo hi : Nat} {sv : Value} {K G : Int} {L N : Nat} {ss : List Sys} {us : List Aut} {w : World} (h : NetAt w PA pn AA an ss us) (hok : NetOk ss us) (hS : Lst NatP w lo hi SA (szs ss us)) (hn : (szs ss us).length = n) (hL : L < 64) (hN : N ≤ 1048576) :
    Calls Tryz.prog 103 #[.agg #[.slice PA pn pc, .slice AA an ac, sv, .int .i64 L, .int .i64 K, .int .i64 G], .slice SA n sc, .int .i64 N] w (RetMv w (mvs (pnx (mems ss us)) (letters L 6) N)) := by
  have hw1 : Ext w (w.alloc (.cells #[.slice PA pn pc, .slice AA an ac, sv, .int .i64 L, .int .i64 K, .int .i64 G] 110)) := (Ext.refl w).alloc _
  have hb1 := Blk.new w 110 #[.slice PA pn pc, .slice AA an ac, sv, .int .i64 L, .int .i64 K, .int .i64 G]
  have HN := hide (fun W (hW : Ext w W) => h.ext hW)
  have HS := hide (fun W (hW : Ext w W) => hS.ext NatP.ok hW)
  have Hok := hide hok
  have Hn := hide hn
  have hn5 : n ≤ 5 := by rw [← hn]; exact hok.len
  have Hz := hide hok.le16
  have hLs : Sm L := by unfold Sm; omega
  have hll := letters_length L 6
  have Hl6 := hide (show ∀ l ∈ letters L 6, l < 6 from fun l hl => (letters_mem.1 hl).1)
  clear h hok hS hn
  go_enter Tryz.func103, Tryz.ntmps103
  go_upto_region 1 with fail
  generalize w.alloc (.cells #[.slice PA pn pc, .slice AA an ac, sv, .int .i64 L, .int .i64 K, .int .i64 G] 110) = w1 at *
  go_upto_region 2 with fail
  have hx2 := (Ext.refl w1).alloc (.cells #[] 23)
  have hsz2 : w.heap.size ≤ w1.heap.size := hw1.size
  have hown2 := World.ownsRow_lit (base := w1.heap.size) (e := 23) (size := 1) w1 #[] 0 (Nat.le_refl _) (by unfold maxLen; omega) rfl
  have hob2 : ∀ b, (Value.slice (some ⟨w1.heap.size, 0, none⟩) 0 0).ownBlock = some b → b < (w1.alloc (.cells #[] 23)).heap.size := fun b hb => by
    simp [Value.ownBlock] at hb
    simp; omega
  generalize hg1 : (some ⟨w1.heap.size, 0, none⟩ : Option Addr) = A1 at *
  clear hg1
  generalize w1.alloc (.cells #[] 23) = w2 at *
  have c2 := (hb1.ext hx2).cell
  go_upto_region 3 with (go_at_call 54; refine (spec_l1Letters L hLs _).mono ?_; rintro e w3 ⟨AL, cL, rfl, hownL, hx3⟩)
  have hx23 := hx2.trans hx3
  have hlst3 := Lst.own_nats hownL
  have hsz23 := hx3.size
  have hown3 := own_ext hown2 hx3
  clear hown2 hownL hx2 hx3 c2
  generalize hlq : letters L 6 = LL at *
  have Hlq := hide hlq
  clear hlq
  go_wp2_with fail
  go_loopw [7, 9, 10, 11, 12] (fun v i _ _ _ wr => ∃ k : Nat, i = .int .i64 k ∧ k ≤ N ∧ Grl P3 wr w1.heap.size 23 v (mvs (pnx (mems ss us)) LL k) ∧ Ext w1 wr ∧ Lst NatP wr w2.heap.size w3.heap.size AL LL ∧ (∀ b, v.ownBlock = some b → b < w2.heap.size ∨ w3.heap.size ≤ b) ∧ w3.heap.size ≤ wr.heap.size) (fun _ i _ _ _ _ => N - (intOf i).toNat)
  case atStart => exact ⟨0, rfl, Nat.zero_le _, ⟨[], hown3, fun i r x hr => by simp at hr⟩, hx23, hlst3, fun b hb => Or.inl (hob2 b hb), Nat.le_refl _⟩
  case round =>
    clear hown3 hlst3 hob2
    obtain ⟨k, rfl, hk, hgr, hx, hlst3, hob, hs3⟩ := hrel
    have hkl := mvs_length (pnx (mems ss us)) LL k
    obtain ⟨A0, c0, rfl⟩ := hgr.form
    rw [hkl]
    rw [hkl] at hob
    have Hob := hide hob
    clear hob
    by_cases hlt : k < N
    · have hww := hw1.trans hx
      have Hsn := hide (show mvs (pnx (mems ss us)) LL (k + 1) = mvs (pnx (mems ss us)) LL k ++ [LL.map fun l => pnx (mems ss us) k l] by simp [mvs, List.range_succ])
      rw [hkl] at hgr
      go_upto_region 7 with (go_at_call 105; refine (spec_l4Decode (HS.out _ hww) Hn.out (by omega) Hz.out (by omega)).mono ?_; rintro e w4 ⟨A4, c4, rfl, hown4, hx4⟩)
      have hln : (dec (szs ss us) k).length = n := by rw [dec_length]; exact Hn.out
      rw [hln] at hown4
      rw [hln]
      have HT := hide (fun W (hW : Ext w4 W) => (Lst.own_nats (xs := dec (szs ss us) k) (c := c4) (A := A4) (by rw [hln]; exact hown4)).ext NatP.ok hW)
      clear hown4
      go_upto_region 8 with fail
      have hx5 := (Ext.refl w4).alloc (.cells #[] 84)
      have hown5 := World.ownsRow_lit (base := w4.heap.size) (e := 84) (size := 1) w4 #[] 0 (Nat.le_refl _) (by unfold maxLen; omega) rfl
      generalize hg1 : (some ⟨w4.heap.size, 0, none⟩ : Option Addr) = A5 at *
      clear hg1
      generalize w4.alloc (.cells #[] 84) = w5 at *
      have hw4 := hww.trans hx4
      have CBx := hide (fun W (hW : Ext w4 W) => ((hb1.ext (hx.trans hx4)).ext hW).cell)
      have HL := hide (fun W (hW : Ext w4 W) => hlst3.ext NatP.ok (hx4.trans hW))
      go_wp2_with fail
      go_loopw [11, 12] (fun v i wr => ∃ j : Nat, i = .int .i64 j ∧ j ≤ LL.length ∧ Grl (LstP NatP) wr w4.heap.size 84 v ((LL.take j).map fun l => pnx (mems ss us) k l) ∧ Ext w4 wr) (fun _ i _ => LL.length - (intOf i).toNat)
      case atStart => exact ⟨0, rfl, Nat.zero_le _, ⟨[], hown5, fun i r x hr => by simp at hr⟩, hx5⟩
      case round =>
        clear hown5 hx5
        obtain ⟨j, rfl, hj, hrw, hx5⟩ := hrel
        obtain ⟨A6, c6, rfl⟩ := hrw.form
        have hjl : ((LL.take j).map fun l => pnx (mems ss us) k l).length = j := by simp; omega
        rw [hjl]
        rw [hjl] at hrw
        by_cases hlj : j < LL.length
        · obtain ⟨bl, ol, l, rfl, _, _, hl, hcl⟩ := (HL.out _ hx5).num hlj
          have hl6 := Hl6.out l (List.mem_of_getElem? hl.out)
          have hsn := hide (show (LL.take (j + 1)).map (fun l => pnx (mems ss us) k l) = (LL.take j).map (fun l => pnx (mems ss us) k l) ++ [pnx (mems ss us) k l] by rw [List.take_add_one, hl.out]; simp)
          have CL : ∀ W, Ext wr W → W.cell? ⟨bl, ol + j, none⟩ = some (.int .i64 (l : Nat)) := fun W hW => hW.cell_some hcl
          have CB : ∀ W, Ext wr W → ∀ q, W.cell? ⟨w.heap.size, q, none⟩ = #[Value.slice PA pn pc, .slice AA an ac, sv, .int .i64 L, .int .i64 K, .int .i64 G][q]? := fun W hW => CBx.out W (hx5.trans hW)
          have CC := hide (show ∀ W, Ext wr W → Calls Tryz.prog 124 #[.agg #[.slice PA pn pc, .slice AA an ac, sv, .int .i64 L, .int .i64 K, .int .i64 G], .slice SA n sc, .slice A4 n c4, .int .i64 l] W (RetNats W (pnx (mems ss us) k l)) from fun W hW => spec_l4Nexts (HN.out W ((hw4.trans hx5).trans hW)) Hok.out (HS.out W ((hw4.trans hx5).trans hW)) (HT.out W (hx5.trans hW)) Hn.out hl6)
          have hji : (j : Int) < (LL.length : Int) := by omega
          have hww5 := Ext.refl wr
          obtain ⟨rows, hro, hrp⟩ := hrw
          rw [hjl] at hro
          clear hcl
          go_upto_region 11 with fail
          refine wp_region_tailU (fun X => Ext wr X) [8, 9, 10] (OrdU.of [0, 1, 2, 3, 4, 5, 6, 7, 8, 9, 10, 11]) (by kernel_rfl) (by kernel_rfl) (by kernel_rfl) (by kernel_rfl) (by kernel_rfl) (fun _ _ _ _ _ h => h) (by first | assumption | exact (Ext.refl _).drew | (refine Ext.drew ?_; assumption)) ?_
          repeat (first | (refine useq_skip rfl rfl (by assumption) ?_; simp only [Act.put, List.setIfInBounds_toArray, List.set_cons_zero, List.set_cons_succ]) | (refine useq_pure (v := ?_) rfl rfl rfl rfl (fun X => ?_) ?_; rotate_left; (focus (go_simp <;> with_reducible rfl)); simp only [Act.put, List.setIfInBounds_toArray, List.set_cons_zero, List.set_cons_succ]) | (refine useq_read (v := ?_) rfl rfl rfl rfl (fun X hX => ?_) ?_; rotate_left; (focus (go_simp <;> with_reducible rfl)); simp only [Act.put, List.setIfInBounds_toArray, List.set_cons_zero, List.set_cons_succ]))
          (refine useq_last rfl rfl rfl rfl (fun K hK => ?_))
          go_simp
          refine (CC.out _ hww5.drew).mono ?_
          rintro e w7 ⟨A7, c7, rfl, hown7, hx7⟩
          have hww7 := hww5.drew.trans hx7
          refine hK.out _ _ ?_
          (try simp only [Act.put, List.setIfInBounds_toArray, List.set_cons_zero, List.set_cons_succ])
          (refine useq_last rfl rfl rfl rfl (fun K hK => ?_))
          go_simp
          refine hK.out _ _ ?_
          (try simp only [Act.put, List.setIfInBounds_toArray, List.set_cons_zero, List.set_cons_succ])
          (refine useq_last rfl rfl rfl rfl (fun K hK => ?_))
          refine wp_push w4 w7 _ _ _ rfl 84 _ 1 24 Tryz.underlying23 info_ints rfl (by decide) (.slice A6 j c6) j rows _ _ rfl rfl (hx5.trans hww7).size (own_ext hro hww7) rfl (cells_slice _ _ _) (by unfold maxLen; omega) (by omega) ?_
          intro g8 cap8 w8 hown8 hg8 hat8 hlt8
          refine hK.out _ _ ?_
          (try simp only [Act.put, List.setIfInBounds_toArray, List.set_cons_zero, List.set_cons_succ])
          repeat (first | (refine useq_skip rfl rfl (by assumption) ?_; simp only [Act.put, List.setIfInBounds_toArray, List.set_cons_zero, List.set_cons_succ]) | (refine useq_pure (v := ?_) rfl rfl rfl rfl (fun X => ?_) ?_; rotate_left; (focus (go_simp <;> with_reducible rfl)); simp only [Act.put, List.setIfInBounds_toArray, List.set_cons_zero, List.set_cons_succ]) | (refine useq_read (v := ?_) rfl rfl rfl rfl (fun X hX => ?_) ?_; rotate_left; (focus (go_simp <;> with_reducible rfl)); simp only [Act.put, List.setIfInBounds_toArray, List.set_cons_zero, List.set_cons_succ]))
          refine useq_nil ?_
          have hgr8 : Grl (LstP NatP) w8 w4.heap.size 84 (.slice (some ⟨g8, 0, none⟩) (j + 1) cap8) ((LL.take j).map (fun l => pnx (mems ss us) k l) ++ [pnx (mems ss us) k l]) := by
            have := Grl.push2 (LstP.ok NatP.ok) (v := .slice A6 j c6) (xs := (LL.take j).map fun l => pnx (mems ss us) k l) (g := g8) (cap := cap8) hrp (by rw [hjl]; exact hro) hww7 ⟨A7, c7, rfl, Lst.own_nats hown7⟩ (Nat.le_refl wr.heap.size) hx5.size (Nat.le_refl _) (by rw [hjl]; exact hown8) hg8 hat8
            rwa [hjl] at this
          have hx8 : Ext w4 w8 := (hx5.trans hww7).grown hg8 (fun q' hq' => (hro.lt q' hq').1)
          go_wp2_with fail
          go_roundw
          case rel => exact ⟨j + 1, by go_num, by omega, by rw [hsn.out]; exact hgr8, hx8⟩
          case measure => simp [intOf]; omega
        · obtain rfl : j = LL.length := by omega
          rw [List.take_length] at hrw
          have hw5 := hx4.trans hx5
          have hlst := hrw.lst (LstP.ok NatP.ok)
          obtain ⟨rows, hro, hrp⟩ := hgr
          rw [hkl] at hro
          go_wp2_with (at_builtin; refine wpList_push w1 wr rfl _ _ _ rfl 23 _ 1 24 Tryz.underlying125 info_intss rfl (by decide) (.slice A0 k c0) k rows _ _ rfl rfl (hx.trans hw5) (own_ext hro hw5) rfl (cells_slice _ _ _) (by unfold maxLen; omega) (by omega) ?_; intro v8 w8 hext8 hown8 hg8 hat8)
          have hgr8 : Grl P3 w8 w1.heap.size 23 v8 (mvs (pnx (mems ss us)) LL k ++ [LL.map fun l => pnx (mems ss us) k l]) :=
            Grl.push P3.ok (v := .slice A0 k c0) hrp (by rw [hkl]; exact hro) hw5 (⟨A6, c6, by simp, hlst⟩ : P3 _ _ _ (.slice A6 LL.length c6) _) hx4.size (hx.trans hx4).size (Nat.le_refl _) (by rw [hkl]; exact hown8) hg8 hat8
          have hlst8 : Lst NatP w8 w2.heap.size w3.heap.size AL LL := (hlst3.ext NatP.ok hw5).frm NatP.ok (Frm.of_grown hg8) (fun q h1 h2 hq => by have := Hob.out q hq; omega)
          have hob8 : ∀ b, v8.ownBlock = some b → b < w2.heap.size ∨ w3.heap.size ≤ b := fun b hb => by
            rcases hat8 with h1 | h1
            · rw [h1] at hb; exact Hob.out b hb
            · rw [h1] at hb
              have := Option.some.inj hb
              have := hw5.size
              omega
          have hs8 : w3.heap.size ≤ w8.heap.size := by have := hw5.size; have := (Frm.of_grown hg8).size; omega
          go_roundw
          case rel => exact ⟨k + 1, by go_num, by omega, by rw [Hsn.out]; exact hgr8, hext8, hlst8, hob8, hs8⟩
          case measure => simp [intOf]; omega
    · obtain rfl : N = k := by omega
      have hres := hide (show RetMv w (mvs (pnx (mems ss us)) LL N) (.returned (.slice A0 N c0)) wr from by
        refine ⟨A0, c0, by rw [hkl], ?_, hw1.trans hx⟩
        have := hgr.lst P3.ok
        exact this.more P3.ok hsz2 (Nat.le_refl _))
      clear hgr
      go_wp2
      go_ret
      exact hres.out
end Go.Proofs.YtplllipekeomiaaGreatDoor
