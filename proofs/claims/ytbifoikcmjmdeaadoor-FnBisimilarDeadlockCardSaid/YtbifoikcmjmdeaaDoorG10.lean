/- impl.TracesWithin and impl.SameTraces, walked. | Bytes, as a row's argument. | Plain: what a closed set of states is; edges that rise with no two neighbours alike lead to one state. No program in sight. | impl.ReachableStates and impl.IsDeterministic, walked. | math/bits.OnesCount of a small set; impl.rank. | impl.subSystem and impl.TrimSystem, walked. | Plain: bisimilar systems are stuck after the same words. No program in sight. | impl.firstPath, walked; the step's closure may have arguments bound to it. -/
import Derived.Test.YtbifoikcmjmdeaaDoorG09
import Derived.Test.YtbifoikcmjmdeaaDoorG02
import Derived.Test.YtbifoikcmjmdeaaDoorG03
import Derived.Test.YtbifoikcmjmdeaaDoorG05
import Derived.Deep.DeepCutAuto
import Derived.Test.YtbifoikcmjmdeaaDoorG01
namespace Go.Proofs.YtbifoikcmjmdeaaDoor
open Go Go.RowKit
set_option maxHeartbeats 2000000

/-- All traces of one system are traces of another. -/
noncomputable def withinB (s t : Sys) : Bool := sameB s t && !outB s t
theorem impl_TracesWithin {lo hi lo' hi' : Nat} {A : Option Addr} {n c : Nat} {B : Option Addr} {m d : Nat} {s t : Sys} {w : World} (h : SysAt w lo hi A n s) (h' : SysAt w lo' hi' B m t) (hT : Tab w) :
    Calls Tryd.prog 18 #[.agg #[.int .i64 s.al, .int .i64 s.st, .slice A n c], .agg #[.int .i64 t.al, .int .i64 t.st, .slice B m d]] w fun e w' => e = .returned (.bool (withinB s t)) ∧ Ext w w' := by
  have HS := hide (fun W (hW : Ext w W) => h.ext hW)
  have HT := hide (fun W (hW : Ext w W) => h'.ext hW)
  have HTab := hide (fun W (hW : Ext w W) => hT.ext hW)
  clear h h' hT
  obtain ⟨o, ho⟩ : ∃ o, Hid (outB s t = o) := ⟨_, rfl⟩
  cases h1 : sameB s t
  all_goals
    have H1 := hide h1
    clear h1
    go_enter Tryd.func18, Tryd.ntmps18
    go_wp2_with fail
    refine (impl_FirstTraceOutside (HS.out _ (((Ext.refl _).alloc _).alloc _)) (HT.out _ (((Ext.refl _).alloc _).alloc _)) (HTab.out _ (((Ext.refl _).alloc _).alloc _))).mono ?_
    rintro e w1 ⟨v, rfl, hx⟩
    rw [ho.out]
    obtain ⟨b1, b2⟩ := ext_blk2 hx
    have c1 := b1.cell
    have c2 := b2.cell
    have hw1 := (((Ext.refl w).alloc _).alloc _).trans hx
    go_wp2_with fail
    refine (impl_sameAlphabets (HS.out _ hw1) (HT.out _ hw1)).mono ?_
    rw [H1.out]
    rintro e w2 ⟨rfl, hx2⟩
    go_wp2_with fail
    go_ret
    exact ⟨ret_bool (by unfold withinB; rw [H1.out, ho.out]; rfl), hw1.trans hx2⟩
theorem impl_SameTraces {lo hi lo' hi' : Nat} {A : Option Addr} {n c : Nat} {B : Option Addr} {m d : Nat} {s t : Sys} {w : World} (h : SysAt w lo hi A n s) (h' : SysAt w lo' hi' B m t) (hT : Tab w) :
    Calls Tryd.prog 17 #[.agg #[.int .i64 s.al, .int .i64 s.st, .slice A n c], .agg #[.int .i64 t.al, .int .i64 t.st, .slice B m d]] w fun e w' => e = .returned (.bool (withinB s t && withinB t s)) ∧ Ext w w' := by
  have HS := hide (fun W (hW : Ext w W) => h.ext hW)
  have HT := hide (fun W (hW : Ext w W) => h'.ext hW)
  have HTab := hide (fun W (hW : Ext w W) => hT.ext hW)
  clear h h' hT
  cases h1 : withinB s t
  · have H1 := hide h1
    clear h1
    go_enter Tryd.func17, Tryd.ntmps17
    go_wp2_with fail
    refine (impl_TracesWithin (HS.out _ (((Ext.refl _).alloc _).alloc _)) (HT.out _ (((Ext.refl _).alloc _).alloc _)) (HTab.out _ (((Ext.refl _).alloc _).alloc _))).mono ?_
    rw [H1.out]
    rintro e w1 ⟨rfl, hx⟩
    have hw1 := (((Ext.refl w).alloc _).alloc _).trans hx
    go_wp2_with fail
    go_ret
    exact ⟨rfl, hw1⟩
  · have H1 := hide h1
    clear h1
    obtain ⟨o, ho⟩ : ∃ o, Hid (withinB t s = o) := ⟨_, rfl⟩
    rw [ho.out]
    go_enter Tryd.func17, Tryd.ntmps17
    go_wp2_with fail
    refine (impl_TracesWithin (HS.out _ (((Ext.refl _).alloc _).alloc _)) (HT.out _ (((Ext.refl _).alloc _).alloc _)) (HTab.out _ (((Ext.refl _).alloc _).alloc _))).mono ?_
    rw [H1.out]
    rintro e w1 ⟨rfl, hx⟩
    obtain ⟨b1, b2⟩ := ext_blk2 hx
    have c1 := b1.cell
    have c2 := b2.cell
    have hw1 := (((Ext.refl w).alloc _).alloc _).trans hx
    go_wp2_with fail
    refine (impl_TracesWithin (HT.out _ hw1) (HS.out _ hw1) (HTab.out _ hw1)).mono ?_
    rw [ho.out]
    rintro e w2 ⟨rfl, hx2⟩
    go_wp2_with fail
    go_ret
    exact ⟨ret_bool (by simp), hw1.trans hx2⟩
/-- Simulation keeps traces. -/
theorem sim_within {both : Bool} {s t : Sys} (h : simB both s t = true) : withinB s t = true := by
  have hs : sameB s t = true := by unfold simB at h; cases hh : sameB s t <;> simp_all
  obtain ⟨v1, v2, _⟩ := same_valid hs
  obtain ⟨p, hp, hp1, hp2, hf⟩ := valid_few v1
  obtain ⟨q, hq, hq1, hq2, hg⟩ := valid_few v2
  have hl := sim_lost hp2 hf hg hq1 (gfp_at hp hq) ((simB_rel2 hs).1 h) (letters s.al.toNat 6)
  unfold withinB
  rw [hs, outB_false hs (by rw [hq]; rfl) rfl hl]
  rfl
/-- Edges go by letters. -/
theorem valid_L {s : Sys} (h : sysValid s = true) {i l k : Nat} (he : E s.edges i l k) : l ∈ letters s.al.toNat 6 := by
  obtain ⟨_, _, h3, _⟩ := valid_iff.1 h
  obtain ⟨e, he, _, h2, _⟩ := he
  have := h3 e he
  simp only [edgB, hasB, Bool.and_eq_true, decide_eq_true_eq] at this
  rw [h2] at this
  exact mem_letters.2 ⟨by omega, this.2.2.2.2⟩
theorem out_lost {s t : Sys} {q : Nat} (h : withinB s t = true) (hq : t.st = q) : Lost (dW s.edges t.edges (2 ^ q)) [1] (fun n => n % 2 ^ q == 0) (letters s.al.toNat 6) := by
  unfold withinB at h
  rw [Bool.and_eq_true] at h
  have h2 := h.2
  unfold outB at h2
  rw [h.1, Bool.true_and, Bool.not_eq_true', hq] at h2
  have := @of_decide_eq_false _ (Classical.propDecidable _) h2
  exact Classical.not_not.1 this
theorem det_sim {s t : Sys} (hd : Det t.edges) : simB false s t = withinB s t := by
  cases hs : sameB s t
  · unfold simB withinB
    rw [hs]; rfl
  · rw [Bool.eq_iff_iff]
    refine ⟨sim_within, fun h => ?_⟩
    obtain ⟨v1, v2, _⟩ := same_valid hs
    obtain ⟨p, hp, hp1, hp2, hf⟩ := valid_few v1
    obtain ⟨q, hq, hq1, hq2, hg⟩ := valid_few v2
    exact (simB_rel2 hs).2 (lost_sim hp1 hp2 hf hg hq1 (fun i l k he => valid_L v1 he) hd (out_lost h hq) (gfp_at hp hq))
theorem same_symm {s t : Sys} (h : sameB s t = true) : sameB t s = true := by
  obtain ⟨h1, h2, h3⟩ := same_valid h
  simp only [sameB, Bool.and_eq_true, beq_iff_eq]
  exact ⟨h2, h1, h3.symm⟩
theorem bis_symm {s t : Sys} (h : simB true s t = true) : simB true t s = true := by
  have hs : sameB s t = true := by unfold simB at h; cases hh : sameB s t <;> simp_all
  obtain ⟨v1, v2, _⟩ := same_valid hs
  obtain ⟨p, hp, hp1, hp2, hf⟩ := valid_few v1
  obtain ⟨q, hq, hq1, hq2, hg⟩ := valid_few v2
  exact (simB_rel2 (same_symm hs)).2 ((gfp_at hp hq).symm (gfp_at hq hp) ((simB_rel2 hs).1 h))
theorem bis_symm_eq (s t : Sys) : simB true t s = simB true s t := by
  rw [Bool.eq_iff_iff]
  exact ⟨bis_symm, bis_symm⟩
theorem bis_weak {s t : Sys} (h : simB true s t = true) : simB false s t = true := by
  have hs : sameB s t = true := by unfold simB at h; cases hh : sameB s t <;> simp_all
  obtain ⟨v1, v2, _⟩ := same_valid hs
  obtain ⟨p, hp, hp1, hp2, hf⟩ := valid_few v1
  obtain ⟨q, hq, hq1, hq2, hg⟩ := valid_few v2
  exact (simB_rel2 hs).2 ((gfp_at hp hq).weak (gfp_at hp hq) ((simB_rel2 hs).1 h))
theorem sim_self {both : Bool} {s : Sys} (h : sysValid s = true) : simB both s s = true := by
  have hs : sameB s s = true := by simp [sameB, h]
  obtain ⟨p, hp, hp1, hp2, hf⟩ := valid_few h
  exact (simB_rel2 hs).2 (gfp_self hf (gfp_at hp hp) (by omega))
theorem det_bis {s t : Sys} (hd : Det s.edges) (hd' : Det t.edges) : simB true s t = (withinB s t && withinB t s) := by
  cases hs : sameB s t
  · unfold simB withinB
    rw [hs]; rfl
  · rw [Bool.eq_iff_iff, Bool.and_eq_true]
    refine ⟨fun h => ⟨sim_within h, sim_within (bis_symm h)⟩, fun h => ?_⟩
    obtain ⟨v1, v2, v3⟩ := same_valid hs
    obtain ⟨p, hp, hp1, hp2, hf⟩ := valid_few v1
    obtain ⟨q, hq, hq1, hq2, hg⟩ := valid_few v2
    have hl := out_lost h.2 hp
    rw [← v3] at hl
    exact (simB_rel2 hs).2 (lost_bis hp1 hp2 hf hg hq1 hq2 (fun i l k he => valid_L v1 he) (fun i l k he => by rw [v3]; exact valid_L v2 he) hd hd' (out_lost h.1 hq) hl (gfp_at hp hq))
end Go.Proofs.YtbifoikcmjmdeaaDoor

namespace Go.Proofs.YtbifoikcmjmdeaaDoor
open Go Go.ChangeShapes Go.WideShapes Go.ChangeAt Go.RowKit Go.Deep

/-- A slice of bytes that came in. -/
def BytesAt (w : World) (A : Option Addr) (n c : Nat) : Prop := Bytes w A n ∧ n ≤ 9223372036854775807 ∧ n ≤ c ∧ c ≤ 9223372036854775807
set_option maxRecDepth 100000 in
theorem arg_bytes {H : Type} {enc : TypeId × Value → H} {w : World} {spare : Nat → Bool} {held : Bool} {r : Reach} {b0 : Nat} {v : Value} {d : DataW H} {p : List MemPlace} (hv : Value.okWide Tryd.prog w r b0 22 v) (h : DataW.Trod enc Tryd.prog w 0 spare held 22 v d p) :
    ∃ (A : Option Addr) (n c : Nat), v = .slice A n c ∧ BytesAt w A n c := by
  obtain ⟨a, l, k, rfl⟩ := okWide_slice Tryd.underlying22 hv
  obtain ⟨fuel, hf⟩ := h
  rcases open_slice1 Tryd.underlying22 (by kernel_rfl) hf with ⟨h0, _⟩ | ⟨ad, len, cap, m, n, V, D, Pl, h0, hb, hl, hm, hmm, _, hx⟩
  · simp [Value.cells] at h0
    obtain ⟨rfl, rfl, rfl⟩ := h0
    exact ⟨_, _, _, rfl, fun h => absurd h (by omega), by omega, Nat.le_refl _, by omega⟩
  · simp [Value.cells] at h0
    obtain ⟨rfl, rfl, rfl⟩ := h0
    unfold maxLen at hm
    have hlm : l ≤ m := by rw [hmm]; split <;> omega
    refine ⟨_, _, _, rfl, fun hn => ?_, by omega, hl, by omega⟩
    have h1 := (hx 0 (by omega)).1
    have hs := addr_spot h1
    have hlt := World.block_lt_of_cell? w _ h1
    rw [addr_block] at hlt
    refine ⟨ad.block, ad.off, by rw [← hs], hlt, fun j hj => ?_⟩
    obtain ⟨h2, h3⟩ := hx j (by omega)
    obtain ⟨b, hb1, _, hb3⟩ := DataW.trod_int Tryd.underlying5 h3
    have hV : V j = .int .u8 b := by simpa using hb1
    rw [hV, hs, addr_lit] at h2
    have hw : 0 ≤ b ∧ b < 256 := by
      simp only [Lit.wf, Bool.and_eq_true, decide_eq_true_eq] at hb3
      have h4 : IntKind.u8.min = 0 := rfl
      have h5 : IntKind.u8.max = 255 := rfl
      omega
    refine ⟨b.toNat, by omega, ?_⟩
    rw [h2]
    have : ((b.toNat : Nat) : Int) = b := by omega
    rw [this]
end Go.Proofs.YtbifoikcmjmdeaaDoor

namespace Go.Proofs.YtbifoikcmjmdeaaDoor
open Go Go.RowKit

section
variable {es : List Edg} {p : Nat}
/-- Up to n, no neighbours leave one reachable state by one letter. -/
def NoTwin (es : List Edg) (R n : Nat) : Prop := ∀ (k : Nat) (x y : Edg), es[k]? = some x → es[k + 1]? = some y → k + 1 < n → ¬ (hasB R x.fr = true ∧ x.fr = y.fr ∧ x.le = y.le)
theorem NoTwin.det {R : Nat} (hr : Rising es) (hR : RchSet es p R) (h : NoTwin es R es.length) : Det es := by
  have key : ∀ (a b : Nat) (x y : Edg), es[a]? = some x → es[b]? = some y → a < b → x.fr = y.fr → x.le = y.le → hasB R x.fr = true → False := by
    intro a b x y hx hy hab h1 h2 h3
    have hb := (List.getElem?_eq_some_iff.1 hy).1
    obtain ⟨z, hz⟩ : ∃ z, es[a + 1]? = some z := ⟨_, List.getElem?_eq_getElem (by omega)⟩
    have e1 := hr a (a + 1) x z hx hz (by omega)
    have e2 : z.fr = x.fr ∧ z.le = x.le := by
      rcases Nat.lt_or_ge (a + 1) b with h4 | h4
      · have e3 := hr (a + 1) b z y hz hy h4
        unfold ltE at e1 e3
        (repeat' split at e1) <;> (repeat' split at e3) <;> simp only [decide_eq_true_eq] at e1 e3 <;> omega
      · obtain rfl : b = a + 1 := by omega
        rw [hz] at hy
        obtain rfl := Option.some.inj hy
        exact ⟨h1.symm, h2.symm⟩
    exact h a x z hx hz (by omega) ⟨h3, e2.1.symm, e2.2.symm⟩
  intro i l k k' hi hk hk'
  obtain ⟨e, he, e1, e2, e3⟩ := hk
  obtain ⟨f, hf', f1, f2, f3⟩ := hk'
  obtain ⟨a, ha⟩ := List.getElem?_of_mem he
  obtain ⟨b, hb⟩ := List.getElem?_of_mem hf'
  have hi' : hasB R e.fr = true := by
    simp only [hasB, Bool.and_eq_true, decide_eq_true_eq]
    rw [e1]
    exact ⟨by omega, (hR.2 i).2 hi⟩
  rcases Nat.lt_trichotomy a b with h1 | h1 | h1
  · exact (key a b e f ha hb h1 (by omega) (by omega) hi').elim
  · subst h1
    rw [ha] at hb
    obtain rfl := Option.some.inj hb
    omega
  · exact (key b a f e hb ha h1 (by omega) (by omega) (by rw [f1, ← e1]; exact hi')).elim
/-- A set of reachable states, the first among them. -/
def RIn (es : List Edg) (p R : Nat) : Prop := R < 2 ^ p ∧ R.testBit 0 = true ∧ ∀ i, R.testBit i = true → Rch es i
/-- The states that a set leads to by letters below j, and the set. -/
def More (es : List Edg) (R j M : Nat) : Prop := ∀ k, M.testBit k = true ↔ R.testBit k = true ∨ ∃ l, l < j ∧ (stepB es R (l : Nat)).testBit k = true
theorem More.zero (R : Nat) : More es R 0 R := fun k => ⟨Or.inl, fun h => h.elim id (fun ⟨_, h, _⟩ => by omega)⟩
theorem More.succ {R j M : Nat} (h : More es R j M) : More es R (j + 1) (M ||| stepB es R (j : Nat)) := fun k => by
  rw [Nat.testBit_or, Bool.or_eq_true, h k]
  constructor
  · rintro ((h1 | ⟨l, h1, h2⟩) | h1)
    · exact Or.inl h1
    · exact Or.inr ⟨l, by omega, h2⟩
    · exact Or.inr ⟨j, by omega, h1⟩
  · rintro (h1 | ⟨l, h1, h2⟩)
    · exact Or.inl (Or.inl h1)
    · rcases Nat.lt_or_ge l j with h3 | h3
      · exact Or.inl (Or.inr ⟨l, h3, h2⟩)
      · obtain rfl : l = j := by omega
        exact Or.inr h2
theorem More.lt (hf : Few p es) {R j M : Nat} (hR : R < 2 ^ p) (h : More es R j M) : M < 2 ^ p := by
  apply Nat.lt_pow_two_of_testBit
  intro k hk
  rw [Bool.eq_false_iff]
  intro hb
  rcases (h k).1 hb with h1 | ⟨l, _, h1⟩
  · rw [Nat.testBit_lt_two_pow (Nat.lt_of_lt_of_le hR (Nat.pow_le_pow_right (by omega) hk))] at h1; cases h1
  · rw [Nat.testBit_lt_two_pow (Nat.lt_of_lt_of_le (stepB_lt hf R l) (Nat.pow_le_pow_right (by omega) hk))] at h1; cases h1
theorem More.in_ (hf : Few p es) {R j M : Nat} (hR : RIn es p R) (h : More es R j M) : RIn es p M := by
  refine ⟨h.lt hf hR.1, (h 0).2 (Or.inl hR.2.1), fun k hk => ?_⟩
  rcases (h k).1 hk with h1 | ⟨l, _, h1⟩
  · exact hR.2.2 k h1
  · obtain ⟨e, he, ⟨e1, e2⟩, e3⟩ := (stepB_bit es R l k).1 h1
    have := hf e he
    exact (hR.2.2 _ e2).step ⟨e, he, by omega, e1, by omega⟩
theorem le_of_bits {a b : Nat} (h : ∀ k, a.testBit k = true → b.testBit k = true) : a ≤ b := by
  have e : a ||| b = b := or_same h
  rw [← e]
  exact Nat.left_le_or
theorem More.le {R j M : Nat} (h : More es R j M) : R ≤ M := le_of_bits fun k hk => (h k).2 (Or.inl hk)
theorem More.done (hf : Few p es) {R : Nat} (hR : RIn es p R) (h : More es R 6 R) : RchSet es p R := by
  refine ⟨hR.1, fun i => ⟨hR.2.2 i, fun hi => ?_⟩⟩
  induction hi with
  | zero => exact hR.2.1
  | @step i l k _ hk ih =>
    obtain ⟨e, he, e1, e2, e3⟩ := hk
    have := hf e he
    refine (h k).2 (Or.inr ⟨l, by omega, (stepB_bit es R l k).2 ⟨e, he, ⟨e2, ?_⟩, by omega⟩⟩)
    rw [show e.fr.toNat = i by omega]
    exact ih
theorem RIn.start (hp : 1 ≤ p) : RIn es p 1 := by
  refine ⟨?_, rfl, fun i hi => ?_⟩
  · have := Nat.pow_le_pow_right (n := 2) (by omega) hp
    omega
  · have : i = 0 := by
      rcases Nat.eq_zero_or_pos i with h | h
      · exact h
      · obtain ⟨j, rfl⟩ : ∃ j, i = j + 1 := ⟨i - 1, by omega⟩
        rw [Nat.testBit_succ] at hi
        simp at hi
    subst this
    exact .zero
end
end Go.Proofs.YtbifoikcmjmdeaaDoor

namespace Go.Proofs.YtbifoikcmjmdeaaDoor
open Go Go.RowKit
set_option maxHeartbeats 2000000

theorem pow16 {x p : Nat} (h : x < 2 ^ p) (hp : p ≤ 16) : x < 65536 := Nat.lt_of_lt_of_le h (by rw [show (65536 : Nat) = 2 ^ 16 from rfl]; exact Nat.pow_le_pow_right (by omega) hp)
theorem impl_ReachableStates {lo hi : Nat} {A : Option Addr} {n c p : Nat} {s : Sys} {w : World} (h : SysAt w lo hi A n s) (hT : Tab w) (hv : sysValid s = true) (hp : s.st = p) :
    Calls Tryd.prog 33 #[.agg #[.int .i64 s.al, .int .i64 s.st, .slice A n c]] w fun e w' => ∃ R : Nat, e = .returned (.int .i64 R) ∧ Hid (RchSet s.edges p R) ∧ Ext w w' := by
  obtain ⟨p', hp', hp1, hp2, hf⟩ := valid_few hv
  obtain rfl : p' = p := by omega
  have HS := hide (fun W (hW : Ext w W) => h.ext hW)
  have HTab := hide (fun W (hW : Ext w W) => hT.ext hW)
  have Hf := hide hf
  have Hv := hide hv
  clear hf hv h hT hp hp'
  go_enter Tryd.func33, Tryd.ntmps33
  go_wp2_with fail
  refine (impl_SystemValid (HS.out _ ((Ext.refl _).alloc _))).mono ?_
  rw [Hv.out]
  rintro e w1 ⟨rfl, hx1⟩
  have b1 := (Blk.new w 25 #[.int .i64 s.al, .int .i64 s.st, .slice A n c]).ext hx1
  have k1 := b1.cell
  have hw1 := ((Ext.refl w).alloc (.cells #[.int .i64 s.al, .int .i64 s.st, .slice A n c] 25)).trans hx1
  go_wp2_with fail
  refine (impl_movesOf (HS.out _ hw1) (fun e he => by have := Hf.out e he; omega)).mono ?_
  rintro e w2 ⟨b, rfl, hb, hM, hx2⟩
  have hw2 := hw1.trans hx2
  have HM := hide (fun W (hW : Ext w2 W) => (hM.ext hW).at_)
  clear hM k1 b1 hx1 hx2 hw1
  go_wp2_with fail
  go_loopw [4, 5, 6] (fun v _ _ wr => ∃ x : Nat, v = .int .i64 x ∧ x < 65536 ∧ Hid (RIn s.edges p' x) ∧ Ext w2 wr) (fun v _ _ _ => 65536 - (intOf v).toNat)
  case atStart => exact ⟨1, rfl, by omega, RIn.start hp1, Ext.refl _⟩
  case round =>
    obtain ⟨x, rfl, hx, hR, hxr⟩ := hrel
    go_wp2_with fail
    go_loopw [5, 6, 13] (fun v _ i wr => ∃ j M : Nat, i = .int .i64 j ∧ j ≤ 6 ∧ v = .int .i64 M ∧ M < 65536 ∧ Hid (More s.edges x j M) ∧ Ext w2 wr) (fun _ _ i _ => 6 - (intOf i).toNat)
    case atStart => exact ⟨0, x, rfl, by omega, rfl, hx, More.zero x, hxr⟩
    case round =>
      clear hxr
      obtain ⟨j, M, rfl, hj, rfl, hMl, hMo, hxr⟩ := hrel
      by_cases hj6 : j < 6
      · have hst := hide (impl_step (HM.out _ hxr) (HTab.out _ (hw2.trans hxr)) (show x < 2 ^ 16 from hx) hj6 Hf.out hp2)
        have hsm := stepB_sm Hf.out hp2 x j
        have hor := hide (bits_or (a := M) (by unfold Sm; omega) hsm)
        have hmo := hide hMo.out.succ
        have hlt := pow16 (hmo.out.lt Hf.out hR.out.1) hp2
        clear hMo
        generalize stepB s.edges x (j : Nat) = y at *
        go_wp2_with fail
        refine hst.out.mono ?_
        rintro e w4 ⟨rfl, hx4⟩
        go_wp2_with fail
        go_roundw
        case rel => exact ⟨j + 1, M ||| y, by go_num, by omega, by rw [hor.out], hlt, hmo, hxr.trans hx4⟩
        case measure => simp [intOf]; omega
      · obtain rfl : j = 6 := by omega
        by_cases hMx : M = x
        · subst hMx
          have hres := hide (hMo.out.done Hf.out hR.out)
          have hfin := hw2.trans hxr
          go_wp2_with fail
          go_ret
          exact ⟨M, rfl, hres, hfin⟩
        · have hne : ((M : Int) == (x : Int)) = false := by simp; omega
          have hle := hMo.out.le
          have hin := hide (hMo.out.in_ Hf.out hR.out)
          go_wp2_with fail
          go_roundw
          case rel => exact ⟨M, rfl, hMl, hin, hxr⟩
          case measure => simp [intOf]; omega

theorem fill_frm (W : World) (Z : Nat) (u0 u1 u2 : Value) : Frm (fun k => k = Z) W (((W.setCell ⟨Z, 0, none⟩ u0).setCell ⟨Z, 1, none⟩ u1).setCell ⟨Z, 2, none⟩ u2) :=
  ((Frm.setCell W Z 0 u0).trans (Frm.setCell _ Z 1 u1)).trans (Frm.setCell _ Z 2 u2)
theorem fill_blk {w : World} {Z : Nat} {cs : Array Value} {t : TypeId} (h : Blk w Z t cs) (hc : cs.size = 3) (u0 u1 u2 : Value) : Blk (((w.setCell ⟨Z, 0, none⟩ u0).setCell ⟨Z, 1, none⟩ u1).setCell ⟨Z, 2, none⟩ u2) Z t #[u0, u1, u2] := by
  obtain ⟨l⟩ := cs
  match l, hc with
  | [a, b, c], _ => simpa using ((h.set_ 0 u0).set_ 1 u1).set_ 2 u2
/-- Two new variables that hold edges. -/
def TwoE (w W : World) (g h : Nat) (x y : Edg) : Prop := Ext w W ∧ Blk W g 48 #[.int .i64 x.fr, .int .i64 x.le, .int .i64 x.to] ∧ Blk W h 48 #[.int .i64 y.fr, .int .i64 y.le, .int .i64 y.to]
set_option maxRecDepth 100000 in
theorem impl_IsDeterministic {lo hi : Nat} {A : Option Addr} {n c : Nat} {s : Sys} {w : World} (h : SysAt w lo hi A n s) (hT : Tab w) :
    Calls Tryd.prog 21 #[.agg #[.int .i64 s.al, .int .i64 s.st, .slice A n c]] w fun e w' => ∃ b : Bool, e = .returned (.bool b) ∧ Hid (b = true → sysValid s = true ∧ Det s.edges) ∧ Ext w w' := by
  have HS := hide (fun W (hW : Ext w W) => h.ext hW)
  have hL := hide h.1
  have hnm := h.2.len
  have HTab := hide (fun W (hW : Ext w W) => hT.ext hW)
  clear h hT
  cases hv : sysValid s
  · have Hv := hide hv
    clear hv
    go_enter Tryd.func21, Tryd.ntmps21
    go_wp2_with fail
    refine (impl_SystemValid (HS.out _ ((Ext.refl _).alloc _))).mono ?_
    rw [Hv.out]
    rintro e w1 ⟨rfl, hx1⟩
    have hw1 := ((Ext.refl w).alloc (.cells #[.int .i64 s.al, .int .i64 s.st, .slice A n c] 25)).trans hx1
    go_wp2_with fail
    go_ret
    exact ⟨false, rfl, (show Hid _ from fun h => by cases h), hw1⟩
  · obtain ⟨p, hp, hp1, hp2, hf⟩ := valid_few hv
    have Hf := hide hf
    have Hv := hide hv
    have Hp := hide hp
    clear hf hv hp
    go_enter Tryd.func21, Tryd.ntmps21
    go_wp2_with fail
    refine (impl_SystemValid (HS.out _ ((Ext.refl _).alloc _))).mono ?_
    rw [Hv.out]
    rintro e w1 ⟨rfl, hx1⟩
    have b1 := (Blk.new w 25 #[.int .i64 s.al, .int .i64 s.st, .slice A n c]).ext hx1
    have k1 := b1.cell
    have hw1 := ((Ext.refl w).alloc (.cells #[.int .i64 s.al, .int .i64 s.st, .slice A n c] 25)).trans hx1
    go_wp2_with fail
    refine (impl_ReachableStates (HS.out _ hw1) (HTab.out _ hw1) Hv.out Hp.out).mono ?_
    rintro e w2 ⟨R, rfl, hR, hx2⟩
    have hw2 := hw1.trans hx2
    have b2 := b1.ext hx2
    have hRs : R < 65536 := pow16 hR.out.1 hp2
    clear k1 b1 hx1 hx2 hw1
    go_wp2_with fail
    go_loopw [4, 5, 6] (fun i _ _ wr => ∃ k : Nat, i = .int .i64 ((k : Int) + 1) ∧ (k + 1 ≤ n ∨ k = 0) ∧ Hid (NoTwin s.edges R (k + 1)) ∧ Ext w2 wr) (fun i _ _ _ => n + 1 - (intOf i).toNat)
    case atStart => exact ⟨0, rfl, Or.inr rfl, (show NoTwin s.edges R (0 + 1) from fun k x y _ _ h => by omega), Ext.refl _⟩
    case round =>
      obtain ⟨k, rfl, hk, hNo, hxr⟩ := hrel
      have k1 := (b2.ext hxr).cell
      by_cases hlt : k + 1 < n
      · obtain ⟨g, o, x, rfl, hlo, hhi, hx, c0, c1, c2⟩ := (HS.out wr (hw2.trans hxr)).2.edge (show k < n by omega)
        obtain ⟨y, hy⟩ : ∃ y, Hid (s.edges[k + 1]? = some y) := ⟨_, List.getElem?_eq_getElem (by have := hL.out; omega)⟩
        obtain ⟨d0, d1, d2⟩ := (HS.out wr (hw2.trans hxr)).2.edge2 hy.out
        have hxb := Hf.out x (List.mem_of_getElem? hx.out)
        have C0 : ∀ W, Ext wr W → W.cell? ⟨g, o + k * 3, none⟩ = some (.int .i64 x.fr) := fun W hW => hW.cell_some c0
        have C1 : ∀ W, Ext wr W → W.cell? ⟨g, o + k * 3 + 1, none⟩ = some (.int .i64 x.le) := fun W hW => hW.cell_some c1
        have C2 : ∀ W, Ext wr W → W.cell? ⟨g, o + k * 3 + 2, none⟩ = some (.int .i64 x.to) := fun W hW => hW.cell_some c2
        have D0 : ∀ W, Ext wr W → W.cell? ⟨g, o + (k + 1) * 3, none⟩ = some (.int .i64 y.fr) := fun W hW => hW.cell_some d0
        have D1 : ∀ W, Ext wr W → W.cell? ⟨g, o + (k + 1) * 3 + 1, none⟩ = some (.int .i64 y.le) := fun W hW => hW.cell_some d1
        have D2 : ∀ W, Ext wr W → W.cell? ⟨g, o + (k + 1) * 3 + 2, none⟩ = some (.int .i64 y.to) := fun W hW => hW.cell_some d2
        have K1 : ∀ W, Ext wr W → ∀ q, W.cell? ⟨w.heap.size, q, none⟩ = #[Value.int .i64 s.al, .int .i64 s.st, .slice (some ⟨g, o, none⟩) n c][q]? := fun W hW => ((b2.ext hxr).ext hW).cell
        have hcast : (k : Int) + 1 < (n : Int) := by omega
        have hk0 : 0 ≤ (k : Int) := by omega
        have hkn : (k : Int) < (n : Int) := by omega
        have hk1 : 0 ≤ (k : Int) + 1 := by omega
        have htn : ((k : Int) + 1).toNat = k + 1 := by omega
        have hww := Ext.refl wr
        clear c0 c1 c2 d0 d1 d2 k1
        have hwr : IntKind.i64.wrap (k : Int) = k := IntWalk.i64_in _ (by omega)
        have hsz := hxr.size
        go_upto_region 7 with fail
        go_cut [5, 6] (fun v5 v6 wx => ∃ g5 g6 : Nat, v5 = .pointer (some ⟨g5, 0, none⟩) ∧ v6 = .pointer (some ⟨g6, 0, none⟩) ∧ TwoE wr wx g5 g6 x y)
        case first =>
          refine wp_region_tailU (fun X => Ext wr X) [14] (OrdU.app [0, 1, 2, 3, 4, 5, 6, 7, 8, 9, 10] (OrdU.two 11 (OrdU.of [12, 13, 14]) 12 (OrdU.of [11, 13, 14]))) (by kernel_rfl) rfl (by kernel_rfl) (by kernel_rfl) (by kernel_rfl) (fun _ _ _ _ _ h => h) (by first | assumption | exact (Ext.refl _).drew | (refine Ext.drew ?_; assumption)) ?_
          repeat (first | (refine useq_skip rfl rfl (by assumption) ?_; simp only [Act.put, List.setIfInBounds_toArray, List.set_cons_zero, List.set_cons_succ]) | (refine useq_pure (v := ?_) rfl rfl rfl rfl (fun X => ?_) ?_; rotate_left; (focus (go_simp <;> with_reducible rfl)); simp only [Act.put, List.setIfInBounds_toArray, List.set_cons_zero, List.set_cons_succ]) | (refine useq_read (v := ?_) rfl rfl rfl rfl (fun X hX => ?_) ?_; rotate_left; (focus (go_simp <;> with_reducible rfl)); simp only [Act.put, List.setIfInBounds_toArray, List.set_cons_zero, List.set_cons_succ]))
          refine useq_both rfl rfl rfl rfl (fun K hK => ?_) (fun K hK => ?_)
          · go_simp
            have hx2 : Ext wr (wr.alloc (.cells #[.int .i64 0, .int .i64 0, .int .i64 0] 48)).drew := ((Ext.refl wr).alloc _).drew
            have hb2 : Blk (wr.alloc (.cells #[.int .i64 0, .int .i64 0, .int .i64 0] 48)).drew wr.heap.size 48 #[.int .i64 0, .int .i64 0, .int .i64 0] := Blk.new wr _ _
            have hz2 : (wr.alloc (.cells #[.int .i64 0, .int .i64 0, .int .i64 0] 48)).drew.heap.size = wr.heap.size + 1 := by simp
            refine hK.out _ _ hx2 ?_
            generalize (wr.alloc (.cells #[.int .i64 0, .int .i64 0, .int .i64 0] 48)).drew = w7 at *
            (try simp only [Act.put, List.setIfInBounds_toArray, List.set_cons_zero, List.set_cons_succ])
            (refine useq_step rfl rfl rfl (fun K hK => ?_); go_simp)
            have hx3 := hx2.alloc (.cells #[.int .i64 0, .int .i64 0, .int .i64 0] 48)
            have hb3 := hb2.ext ((Ext.refl w7).alloc (.cells #[.int .i64 0, .int .i64 0, .int .i64 0] 48))
            have hb4 := Blk.new w7 48 #[.int .i64 0, .int .i64 0, .int .i64 0]
            refine hK.out _ _ hx3 ?_
            rw [hz2] at hb4
            generalize w7.alloc (.cells #[.int .i64 0, .int .i64 0, .int .i64 0] 48) = w8 at *
            (try simp only [Act.put, List.setIfInBounds_toArray, List.set_cons_zero, List.set_cons_succ])
            have cA := hb3.cell
            have fA := hb3.frozen
            refine useq_step rfl rfl rfl (fun K hK => ?_)
            go_simp
            have hf9 := fill_frm w8 wr.heap.size (.int .i64 x.fr) (.int .i64 x.le) (.int .i64 x.to)
            have hA9 := fill_blk hb3 rfl (.int .i64 x.fr) (.int .i64 x.le) (.int .i64 x.to)
            have hB9 := hb4.frm hf9 (by omega)
            have hx9 := hx3.frm hf9 (fun k hk e => by omega)
            refine hK.out _ _ hx9 ?_
            clear cA fA
            generalize ((w8.setCell ⟨wr.heap.size, 0, none⟩ (.int .i64 x.fr)).setCell ⟨wr.heap.size, 1, none⟩ (.int .i64 x.le)).setCell ⟨wr.heap.size, 2, none⟩ (.int .i64 x.to) = w9 at *
            (try simp only [Act.put, List.setIfInBounds_toArray, List.set_cons_zero, List.set_cons_succ])
            have cB := hB9.cell
            have fB := hB9.frozen
            (refine useq_last rfl rfl rfl rfl (fun K hK => ?_))
            go_simp
            refine hK.out _ _ ?_
            refine useq_nil ?_
            have hf10 := fill_frm w9 (wr.heap.size + 1) (.int .i64 y.fr) (.int .i64 y.le) (.int .i64 y.to)
            have hE : TwoE wr _ wr.heap.size (wr.heap.size + 1) x y := ⟨hx9.frm hf10 (fun k hk e => by omega), hA9.frm hf10 (by omega), fill_blk hB9 rfl (.int .i64 y.fr) (.int .i64 y.le) (.int .i64 y.to)⟩
            clear cB fB
            generalize ((w9.setCell ⟨(wr.heap.size + 1), 0, none⟩ (.int .i64 y.fr)).setCell ⟨(wr.heap.size + 1), 1, none⟩ (.int .i64 y.le)).setCell ⟨(wr.heap.size + 1), 2, none⟩ (.int .i64 y.to) = w10 at *
            go_wp2_with fail
            go_meet
            exact ⟨_, _, rfl, rfl, hE⟩
          · go_simp
            have hx2 : Ext wr (wr.alloc (.cells #[.int .i64 0, .int .i64 0, .int .i64 0] 48)).drew := ((Ext.refl wr).alloc _).drew
            have hb2 : Blk (wr.alloc (.cells #[.int .i64 0, .int .i64 0, .int .i64 0] 48)).drew wr.heap.size 48 #[.int .i64 0, .int .i64 0, .int .i64 0] := Blk.new wr _ _
            have hz2 : (wr.alloc (.cells #[.int .i64 0, .int .i64 0, .int .i64 0] 48)).drew.heap.size = wr.heap.size + 1 := by simp
            refine hK.out _ _ hx2 ?_
            generalize (wr.alloc (.cells #[.int .i64 0, .int .i64 0, .int .i64 0] 48)).drew = w7 at *
            (try simp only [Act.put, List.setIfInBounds_toArray, List.set_cons_zero, List.set_cons_succ])
            (refine useq_step rfl rfl rfl (fun K hK => ?_); go_simp)
            have hx3 := hx2.alloc (.cells #[.int .i64 0, .int .i64 0, .int .i64 0] 48)
            have hb3 := hb2.ext ((Ext.refl w7).alloc (.cells #[.int .i64 0, .int .i64 0, .int .i64 0] 48))
            have hb4 := Blk.new w7 48 #[.int .i64 0, .int .i64 0, .int .i64 0]
            refine hK.out _ _ hx3 ?_
            rw [hz2] at hb4
            generalize w7.alloc (.cells #[.int .i64 0, .int .i64 0, .int .i64 0] 48) = w8 at *
            (try simp only [Act.put, List.setIfInBounds_toArray, List.set_cons_zero, List.set_cons_succ])
            have cA := hb4.cell
            have fA := hb4.frozen
            refine useq_step rfl rfl rfl (fun K hK => ?_)
            go_simp
            have hf9 := fill_frm w8 (wr.heap.size + 1) (.int .i64 x.fr) (.int .i64 x.le) (.int .i64 x.to)
            have hA9 := fill_blk hb4 rfl (.int .i64 x.fr) (.int .i64 x.le) (.int .i64 x.to)
            have hB9 := hb3.frm hf9 (by omega)
            have hx9 := hx3.frm hf9 (fun k hk e => by omega)
            refine hK.out _ _ hx9 ?_
            clear cA fA
            generalize ((w8.setCell ⟨(wr.heap.size + 1), 0, none⟩ (.int .i64 x.fr)).setCell ⟨(wr.heap.size + 1), 1, none⟩ (.int .i64 x.le)).setCell ⟨(wr.heap.size + 1), 2, none⟩ (.int .i64 x.to) = w9 at *
            (try simp only [Act.put, List.setIfInBounds_toArray, List.set_cons_zero, List.set_cons_succ])
            have cB := hB9.cell
            have fB := hB9.frozen
            (refine useq_last rfl rfl rfl rfl (fun K hK => ?_))
            go_simp
            refine hK.out _ _ ?_
            refine useq_nil ?_
            have hf10 := fill_frm w9 wr.heap.size (.int .i64 y.fr) (.int .i64 y.le) (.int .i64 y.to)
            have hE : TwoE wr _ (wr.heap.size + 1) wr.heap.size x y := ⟨hx9.frm hf10 (fun k hk e => by omega), hA9.frm hf10 (by omega), fill_blk hB9 rfl (.int .i64 y.fr) (.int .i64 y.le) (.int .i64 y.to)⟩
            clear cB fB
            generalize ((w9.setCell ⟨wr.heap.size, 0, none⟩ (.int .i64 y.fr)).setCell ⟨wr.heap.size, 1, none⟩ (.int .i64 y.le)).setCell ⟨wr.heap.size, 2, none⟩ (.int .i64 y.to) = w10 at *
            go_wp2_with fail
            go_meet
            exact ⟨_, _, rfl, rfl, hE⟩
        case rest =>
          obtain ⟨g5, g6, rfl, rfl, hx9, hb5, hb6⟩ := hcut
          have c5 := hb5.cell
          have c6 := hb6.cell
          have hxc := hxr.trans hx9
          have hmk := hide (show NoTwin s.edges R (k + 1 + 1) ∨ (hasB R x.fr = true ∧ x.fr = y.fr ∧ x.le = y.le) by
            by_cases h : hasB R x.fr = true ∧ x.fr = y.fr ∧ x.le = y.le
            · exact Or.inr h
            · refine Or.inl fun i x' y' hx' hy' hi => ?_
              rcases Nat.lt_or_ge (i + 1) (k + 1) with h1 | h1
              · exact hNo.out i x' y' hx' hy' h1
              · obtain rfl : i = k := by omega
                rw [hx.out] at hx'
                rw [hy.out] at hy'
                obtain rfl := Option.some.inj hx'
                obtain rfl := Option.some.inj hy'
                exact h)
          have Has := hide (impl_has R x.fr (by unfold Sm; omega))
          clear C0 C1 C2 D0 D1 D2 K1 hwr htn
          cases h1 : hasB R x.fr
          · have H1 := hide h1
            have hno := hide (show NoTwin s.edges R (k + 1 + 1) from hmk.out.resolve_right fun h => by rw [h1] at h; cases h.1)
            clear h1
            go_wp2_with (go_at_call 26; refine (Has.out _).mono ?_; rw [H1.out]; rintro e w' ⟨rfl, rfl⟩)
            go_roundw
            case rel => exact ⟨k + 1, by first | go_num | (congr 1; omega), by omega, hno, hxc⟩
            case measure => simp [intOf]; omega
          · have H1 := hide h1
            clear h1
            cases h2 : (x.fr == y.fr)
            · have e2 := hide (show x.fr ≠ y.fr from fun h => by rw [h] at h2; simp at h2)
              have hno := hide (show NoTwin s.edges R (k + 1 + 1) from hmk.out.resolve_right fun h => by exact e2.out h.2.1)
              go_wp2_with (go_at_call 26; refine (Has.out _).mono ?_; rw [H1.out]; rintro e w' ⟨rfl, rfl⟩)
              go_roundw
              case rel => exact ⟨k + 1, by first | go_num | (congr 1; omega), by omega, hno, hxc⟩
              case measure => simp [intOf]; omega
            · cases h3 : (x.le == y.le)
              · have e3 := hide (show x.le ≠ y.le from fun h => by rw [h] at h3; simp at h3)
                have hno := hide (show NoTwin s.edges R (k + 1 + 1) from hmk.out.resolve_right fun h => by exact e3.out h.2.2)
                go_wp2_with (go_at_call 26; refine (Has.out _).mono ?_; rw [H1.out]; rintro e w' ⟨rfl, rfl⟩)
                go_roundw
                case rel => exact ⟨k + 1, by first | go_num | (congr 1; omega), by omega, hno, hxc⟩
                case measure => simp [intOf]; omega
              · have hfin := hw2.trans hxc
                go_wp2_with (go_at_call 26; refine (Has.out _).mono ?_; rw [H1.out]; rintro e w' ⟨rfl, rfl⟩)
                go_ret
                exact ⟨false, rfl, (show Hid _ from fun h => by cases h), hfin⟩
      · have hdet := hide (show NoTwin s.edges R s.edges.length from fun i x y hx hy hi => hNo.out i x y hx hy (by have := hL.out; omega))
        have hD := hide (hdet.out.det (valid_iff.1 Hv.out).2.2.2 hR.out)
        have hfin := hw2.trans hxr
        have hcast : ¬ ((k : Int) + 1 < (n : Int)) := by omega
        go_wp2_with fail
        go_ret
        exact Or.inr ⟨rfl, hfin⟩
end Go.Proofs.YtbifoikcmjmdeaaDoor

namespace Go.Proofs.YtbifoikcmjmdeaaDoor
open Go Go.RowKit
set_option maxHeartbeats 1000000

/-- The bits of a number, counted as the library does. -/
def onesN (x : Nat) : Nat :=
  let a := ((x / 2) &&& 6148914691236517205) + (x &&& 6148914691236517205)
  let b := ((a / 4) &&& 3689348814741910323) + (a &&& 3689348814741910323)
  let c := ((b / 16) + b) &&& 1085102592571150095
  let d := c + c / 256
  let e := d + d / 65536
  let f := e + e / 4294967296
  f &&& 127
def c8 (x : Nat) : Nat := x % 2 + x / 2 % 2 + x / 4 % 2 + x / 8 % 2 + x / 16 % 2 + x / 32 % 2 + x / 64 % 2 + x / 128 % 2
set_option maxRecDepth 100000 in
theorem onesN_c8 : ∀ a : Fin 256, ∀ b : Fin 256, onesN (a.val * 256 + b.val) = c8 a.val + c8 b.val := by decide +kernel
theorem c8_rk : ∀ a : Fin 256, c8 a.val = (letters a.val 8).length := by decide +kernel
theorem rk_hi (x k : Nat) : rk x (8 + k) = rk x 8 + rk (x / 256) k := by
  induction k with
  | zero => rfl
  | succ k ih =>
    have e : (x / 256).testBit k = x.testBit (8 + k) := by rw [show (256 : Nat) = 2 ^ 8 from rfl, Nat.testBit_div_two_pow, Nat.add_comm]
    rw [← Nat.add_assoc, rk_succ x (8 + k), rk_succ (x / 256) k, ih, e]
    omega
theorem rk_lo (x : Nat) : ∀ k, k ≤ 8 → rk (x % 256) k = rk x k
  | 0, _ => rfl
  | k + 1, h => by
    rw [rk_succ, rk_succ, rk_lo x k (by omega), show (256 : Nat) = 2 ^ 8 from rfl, Nat.testBit_mod_two_pow]
    simp [show k < 8 by omega]
theorem rk_top {x n : Nat} (h : x < 2 ^ n) : ∀ d, rk x (n + d) = rk x n
  | 0 => rfl
  | d + 1 => by
    rw [← Nat.add_assoc, rk_succ, rk_top h d, Nat.testBit_lt_two_pow (Nat.lt_of_lt_of_le h (Nat.pow_le_pow_right (by omega) (by omega)))]
    rfl
theorem onesN_rk {x : Nat} (h : x < 65536) : onesN x = rk x 32 := by
  have e := onesN_c8 ⟨x / 256, by omega⟩ ⟨x % 256, by omega⟩
  have e1 : c8 (x / 256) = rk (x / 256) 8 := c8_rk ⟨x / 256, by omega⟩
  have e2 : c8 (x % 256) = rk (x % 256) 8 := c8_rk ⟨x % 256, by omega⟩
  simp only at e
  rw [show x / 256 * 256 + x % 256 = x by omega] at e
  have h1 : rk x 32 = rk x 16 := rk_top (n := 16) h 16
  have h2 : rk x 16 = rk x 8 + rk (x / 256) 8 := rk_hi x 8
  have h3 := rk_lo x 8 (Nat.le_refl _)
  omega
theorem and_u64 {a b : Nat} (ha : a < 18446744073709551616) (hb : b < 18446744073709551616) : bits .and .u64 (a : Int) (b : Int) = ((a &&& b : Nat) : Int) := by
  have hx : a &&& b ≤ a := Nat.and_le_left
  show IntKind.u64.wrap ((BitVec.ofInt 64 (a : Int) &&& BitVec.ofInt 64 (b : Int)).toNat : Int) = _
  rw [BitVec.toNat_and, BitVec.ofInt_natCast, BitVec.ofInt_natCast, BitVec.toNat_ofNat, BitVec.toNat_ofNat, Nat.mod_eq_of_lt (by omega), Nat.mod_eq_of_lt (by omega), IntKind.wrap_u64]
  omega
theorem and_u64c {a : Nat} (ha : a < 18446744073709551616) (C : Nat) (hb : C < 18446744073709551616) (I : Int) (hI : I = (C : Int)) : bits .and .u64 (a : Int) I = ((a &&& C : Nat) : Int) := by
  subst hI
  exact and_u64 ha hb
theorem ones64 {x : Nat} (hx : x < 65536) (w : World) : Calls Tryd.prog 83 #[.int .u64 (x : Nat)] w fun e w' => e = .returned (.int .i64 (rk x 32 : Nat)) ∧ w = w' := by
  have hr0 := onesN_rk hx
  dsimp only [onesN] at hr0
  have hres := hide hr0
  clear hr0
  have wr : ∀ y : Nat, y < 18446744073709551616 → IntKind.u64.wrap (y : Int) = (y : Int) := fun y hy => by rw [IntKind.wrap_u64]; omega
  have l1 : x / 2 &&& 6148914691236517205 ≤ x / 2 := Nat.and_le_left
  have l2 : x &&& 6148914691236517205 ≤ x := Nat.and_le_left
  have a1 : bits .and .u64 ((x : Int) / 2) 6148914691236517205 = ((x / 2 &&& 6148914691236517205 : Nat) : Int) := and_u64c (a := x / 2) (by omega) 6148914691236517205 (by omega) _ rfl
  have a2 : bits .and .u64 (x : Int) 6148914691236517205 = ((x &&& 6148914691236517205 : Nat) : Int) := and_u64c (a := x) (by omega) 6148914691236517205 (by omega) _ rfl
  generalize x / 2 &&& 6148914691236517205 = u1 at *
  generalize x &&& 6148914691236517205 = u2 at *
  have a3 : IntKind.u64.wrap ((u1 : Int) + (u2 : Int)) = ((u1 + u2 : Nat) : Int) := by rw [← Int.natCast_add]; exact wr _ (by omega)
  obtain ⟨a, ha⟩ : ∃ a, a = u1 + u2 := ⟨_, rfl⟩
  rw [← ha] at a3 hres
  have l3 : a / 4 &&& 3689348814741910323 ≤ a / 4 := Nat.and_le_left
  have l4 : a &&& 3689348814741910323 ≤ a := Nat.and_le_left
  have b1 : bits .and .u64 ((a : Int) / 4) 3689348814741910323 = ((a / 4 &&& 3689348814741910323 : Nat) : Int) := and_u64c (a := a / 4) (by omega) 3689348814741910323 (by omega) _ rfl
  have b2 : bits .and .u64 (a : Int) 3689348814741910323 = ((a &&& 3689348814741910323 : Nat) : Int) := and_u64c (a := a) (by omega) 3689348814741910323 (by omega) _ rfl
  generalize a / 4 &&& 3689348814741910323 = v1 at *
  generalize a &&& 3689348814741910323 = v2 at *
  have b3 : IntKind.u64.wrap ((v1 : Int) + (v2 : Int)) = ((v1 + v2 : Nat) : Int) := by rw [← Int.natCast_add]; exact wr _ (by omega)
  obtain ⟨b, hb⟩ : ∃ b, b = v1 + v2 := ⟨_, rfl⟩
  rw [← hb] at b3 hres
  have d1 : IntKind.u64.wrap ((b : Int) / 16 + (b : Int)) = ((b / 16 + b : Nat) : Int) := by rw [show (b : Int) / 16 + (b : Int) = ((b / 16 + b : Nat) : Int) by omega]; exact wr _ (by omega)
  obtain ⟨k, hk⟩ : ∃ k, k = b / 16 + b := ⟨_, rfl⟩
  rw [← hk] at d1 hres
  have l5 : k &&& 1085102592571150095 ≤ k := Nat.and_le_left
  have d2 : bits .and .u64 (k : Int) 1085102592571150095 = ((k &&& 1085102592571150095 : Nat) : Int) := and_u64c (a := k) (by omega) 1085102592571150095 (by omega) _ rfl
  generalize k &&& 1085102592571150095 = c at *
  have e1 : IntKind.u64.wrap ((c : Int) + (c : Int) / 256) = ((c + c / 256 : Nat) : Int) := by rw [show (c : Int) + (c : Int) / 256 = ((c + c / 256 : Nat) : Int) by omega]; exact wr _ (by omega)
  obtain ⟨d, hd⟩ : ∃ d, d = c + c / 256 := ⟨_, rfl⟩
  rw [← hd] at e1 hres
  have e2 : IntKind.u64.wrap ((d : Int) + (d : Int) / 65536) = ((d + d / 65536 : Nat) : Int) := by rw [show (d : Int) + (d : Int) / 65536 = ((d + d / 65536 : Nat) : Int) by omega]; exact wr _ (by omega)
  obtain ⟨e, he⟩ : ∃ e, e = d + d / 65536 := ⟨_, rfl⟩
  rw [← he] at e2 hres
  have e3 : IntKind.u64.wrap ((e : Int) + (e : Int) / 4294967296) = ((e + e / 4294967296 : Nat) : Int) := by rw [show (e : Int) + (e : Int) / 4294967296 = ((e + e / 4294967296 : Nat) : Int) by omega]; exact wr _ (by omega)
  obtain ⟨f, hf⟩ : ∃ f, f = e + e / 4294967296 := ⟨_, rfl⟩
  rw [← hf] at e3 hres
  have hfs : f < 4294967296 := by omega
  have f1 := hide (bits_and (a := f) (b := 127) hfs (by unfold Sm; omega))
  have f2 : IntKind.i64.wrap (f : Int) = (f : Int) := IntWalk.i64_in _ (by omega)
  clear ha hb hk hd he hf l1 l2 l3 l4 l5 wr
  go_enter Tryd.func83, Tryd.ntmps83
  go_wp2
  go_ret
  exact ⟨ret_int (by rw [← hres.out]; exact f1.out), rfl⟩
theorem ones {x : Nat} (hx : x < 65536) (w : World) : Calls Tryd.prog 59 #[.int .u64 (x : Nat)] w fun e w' => e = .returned (.int .i64 (rk x 32 : Nat)) ∧ w = w' := by
  go_enter Tryd.func59, Tryd.ntmps59
  go_wp2_with (go_at_call 83; refine (ones64 hx _).mono ?_; rintro e w' ⟨rfl, rfl⟩)
  go_ret
  exact ⟨rfl, rfl⟩
theorem rk_mask (R : Nat) {n : Nat} (hn : n ≤ 32) : rk (R &&& (2 ^ n - 1)) 32 = rk R n := by
  have key : ∀ k, rk (R &&& (2 ^ n - 1)) k = rk R (min k n) := by
    intro k
    induction k with
    | zero => simp [rk, letters_zero]
    | succ k ih =>
      rw [rk_succ, ih, Nat.testBit_and, Nat.testBit_two_pow_sub_one]
      by_cases h : k < n
      · rw [show min (k + 1) n = min k n + 1 by omega, show min k n = k by omega, rk_succ]
        simp [h]
      · rw [show min (k + 1) n = min k n by omega]
        simp [h]
  rw [key, show min 32 n = n by omega]
theorem impl_rank {R n : Nat} (hR : R < 65536) (hn : n < 32) (w : World) : Calls Tryd.prog 60 #[.int .i64 (R : Nat), .int .i64 (n : Nat)] w fun e w' => e = .returned (.int .i64 (rk R n : Nat)) ∧ w = w' := by
  have hp := (Sm.bit hn).lt
  have h1 := Nat.two_pow_pos n
  have hw := wrap_pow hn
  have hm := hide (rk_mask R (n := n) (by omega))
  generalize 2 ^ n = q at *
  have hb := bits_and (a := R) (b := q - 1) (by unfold Sm; omega) (by unfold Sm; omega)
  rw [show ((q - 1 : Nat) : Int) = (q : Int) - 1 by omega] at hb
  have hle : R &&& (q - 1) < 65536 := Nat.lt_of_le_of_lt Nat.and_le_left hR
  generalize R &&& (q - 1) = m at *
  have hu : IntKind.u64.wrap (m : Int) = (m : Int) := by rw [IntKind.wrap_u64]; omega
  have ho := hide (fun W => ones hle W)
  rw [← hm.out]
  clear hm
  generalize rk m 32 = r at *
  go_enter Tryd.func60, Tryd.ntmps60
  go_wp2_with (go_at_call 59; refine (ho.out _).mono ?_; rintro e w' ⟨rfl, rfl⟩)
  go_ret
  exact ⟨rfl, rfl⟩
end Go.Proofs.YtbifoikcmjmdeaaDoor

namespace Go.Proofs.YtbifoikcmjmdeaaDoor
open Go Go.RowKit
set_option maxHeartbeats 2000000

/-- The variable G holds a system that grows: its edges lie in memory that is newer than w0. -/
structure Grw (w0 W : World) (G : Nat) (al st : Int) (v : Value) (es : List Edg) : Prop where
  blk : Blk W G 25 #[.int .i64 al, .int .i64 st, v]
  own : W.ownsRow w0.heap.size 48 3 v es.length (edgeCells es)
  ext : Ext w0 W
  hG : w0.heap.size ≤ G
section
variable {w0 W W' : World} {G : Nat} {al st : Int} {v : Value} {es : List Edg}
theorem Grw.ext_ (h : Grw w0 W G al st v es) (hb : Ext W W') : Grw w0 W' G al st v es := ⟨h.blk.ext hb, own_ext h.own hb, h.ext.trans hb, h.hG⟩
theorem Grw.far (h : Grw w0 W G al st v es) {b : Nat} (hv : v.ownBlock = some b) : b ≠ G := by
  rintro rfl
  have hB := h.blk
  rcases h.own.2 with ⟨rfl, _⟩ | ⟨g, cap, cur, rfl, _, hh, _⟩
  · simp [Value.ownBlock] at hv
  · have hg : g = b := by simpa [Value.ownBlock] using hv
    subst hg
    unfold Blk at hB
    rw [hh] at hB
    injection hB with hB
    injection hB with _ ht
    exact absurd ht (by decide)
/-- One edge more: what 'append' left, and its store into the variable. -/
theorem Grw.push {g cap : Nat} {e : Edg} (h : Grw w0 W G al st v es) (hown : W'.ownsRow w0.heap.size 48 3 (.slice (some ⟨g, 0, none⟩) (es.length + 1) cap) (es.length + 1) (edgeCells es ++ [.int .i64 e.fr, .int .i64 e.le, .int .i64 e.to]))
    (hg : W.grownBy W' v.ownBlock) (hat : v.ownBlock = some g ∨ g = W.heap.size + 1) :
    Hid (W'.cell? ⟨G, 2, none⟩ = some v) ∧ W'.frozen? ⟨G, 2, none⟩ = false ∧ Grw w0 (W'.setCell ⟨G, 2, none⟩ (.slice (some ⟨g, 0, none⟩) (es.length + 1) cap)) G al st (.slice (some ⟨g, 0, none⟩) (es.length + 1) cap) (es ++ [e]) := by
  have hB : Blk W' G 25 #[.int .i64 al, .int .i64 st, v] := (hg.block G h.blk.lt (fun e => h.far e.symm rfl)).trans h.blk
  have hgG : g ≠ G := by
    rcases hat with h1 | h1
    · exact h.far h1
    · have := h.blk.lt; omega
  have hx : Ext w0 W' := h.ext.grown hg (fun k hk => (h.own.lt k hk).1)
  refine ⟨hB.cell 2, hB.frozen 2, ⟨by simpa using hB.set_ 2 _, ?_, hx.setCell (p := ⟨G, 2, none⟩) h.hG _, h.hG⟩⟩
  have := own_frm hown (Frm.setCell W' G 2 (.slice (some ⟨g, 0, none⟩) (es.length + 1) cap)) (fun b hv hS => by
    have : g = b := by simpa [Value.ownBlock] using hv
    omega)
  rw [edgeCells_append]
  simpa [edgeCells] using this
end
/-- A new system. -/
def RetS (w : World) (s : Sys) (e : Ending) (w' : World) : Prop :=
  ∃ (A : Option Addr) (n c : Nat), e = .returned (.agg #[.int .i64 s.al, .int .i64 s.st, .slice A n c]) ∧ SysAt w' w.heap.size w'.heap.size A n s ∧ Ext w w'
set_option maxRecDepth 100000 in
theorem impl_subSystem {lo hi : Nat} {A : Option Addr} {n c p R : Nat} {s : Sys} {w : World} (h : SysAt w lo hi A n s) (hf : Few p s.edges) (hp : p ≤ 16) (hR : R < 65536) (hn4 : n ≤ 1000000) :
    Calls Tryd.prog 32 #[.agg #[.int .i64 s.al, .int .i64 s.st, .slice A n c], .int .i64 (R : Nat)] w (RetS w (subS s R)) := by
  have HS := hide (fun W (hW : Ext w W) => h.ext hW)
  have hL := hide h.1
  have hn := h.2.len
  have Hf := hide hf
  clear h hf
  have ho := hide (fun W => ones hR W)
  have hst := hide (show (subS s R).st = (rk R 32 : Nat) from rfl)
  have hu : IntKind.u64.wrap (R : Int) = (R : Int) := by rw [IntKind.wrap_u64]; omega
  generalize hr32 : rk R 32 = r at *
  have Hr32 := hide hr32
  clear hr32
  go_enter Tryd.func32, Tryd.ntmps32
  obtain ⟨b1, bz⟩ := ext_blk2 (Ext.refl ((w.alloc (.cells #[.int .i64 s.al, .int .i64 s.st, .slice A n c] 25)).alloc (.cells #[.int .i64 0, .int .i64 0, .slice none 0 0] 25)))
  have hw2 : Ext w ((w.alloc (.cells #[.int .i64 s.al, .int .i64 s.st, .slice A n c] 25)).alloc (.cells #[.int .i64 0, .int .i64 0, .slice none 0 0] 25)) := ((Ext.refl w).alloc _).alloc _
  have hsz2 : w.heap.size + 2 = ((w.alloc (.cells #[.int .i64 s.al, .int .i64 s.st, .slice A n c] 25)).alloc (.cells #[.int .i64 0, .int .i64 0, .slice none 0 0] 25)).heap.size := by simp
  go_upto_region 1 with fail
  generalize (w.alloc (.cells #[.int .i64 s.al, .int .i64 s.st, .slice A n c] 25)).alloc (.cells #[.int .i64 0, .int .i64 0, .slice none 0 0] 25) = w2 at *
  go_cut [5] (fun v wx => ∃ G : Nat, v = .pointer (some ⟨G, 0, none⟩) ∧ Grw w2 wx G s.al r (.slice none 0 0) [])
  case first =>
    have c1 := fun W (hW : Ext w2 W) => (b1.ext hW).cell
    have hww := Ext.refl w2
    refine wp_region_tailU (fun X => Ext w2 X) [7] (OrdU.app [0, 1, 2, 3] (OrdU.two 4 (OrdU.of [5, 6, 7]) 6 (OrdU.of [4, 5, 7]))) (by kernel_rfl) (by kernel_rfl) (by kernel_rfl) (by kernel_rfl) (by kernel_rfl) (fun _ _ _ _ _ h => h) (by first | assumption | exact (Ext.refl _).drew | (refine Ext.drew ?_; assumption)) ?_
    repeat (first | (refine useq_skip rfl rfl (by assumption) ?_; simp only [Act.put, List.setIfInBounds_toArray, List.set_cons_zero, List.set_cons_succ]) | (refine useq_pure (v := ?_) rfl rfl rfl rfl (fun X => ?_) ?_; rotate_left; (focus (go_simp <;> with_reducible rfl)); simp only [Act.put, List.setIfInBounds_toArray, List.set_cons_zero, List.set_cons_succ]) | (refine useq_read (v := ?_) rfl rfl rfl rfl (fun X hX => ?_) ?_; rotate_left; (focus (go_simp <;> with_reducible rfl)); simp only [Act.put, List.setIfInBounds_toArray, List.set_cons_zero, List.set_cons_succ]))
    have hx0 : Ext w2 w2.drew := hww.drew
    generalize w2.drew = wd at *
    refine useq_both rfl rfl rfl rfl (fun K hK => ?_) (fun K hK => ?_)
    · go_simp
      refine (ho.out _).mono ?_
      rintro e w' ⟨rfl, rfl⟩
      refine hK.out _ _ hx0 ?_
      (try simp only [Act.put, List.setIfInBounds_toArray, List.set_cons_zero, List.set_cons_succ])
      repeat (first | (refine useq_skip rfl rfl (by assumption) ?_; simp only [Act.put, List.setIfInBounds_toArray, List.set_cons_zero, List.set_cons_succ]) | (refine useq_pure (v := ?_) rfl rfl rfl rfl (fun X => ?_) ?_; rotate_left; (focus (go_simp <;> with_reducible rfl)); simp only [Act.put, List.setIfInBounds_toArray, List.set_cons_zero, List.set_cons_succ]) | (refine useq_read (v := ?_) rfl rfl rfl rfl (fun X hX => ?_) ?_; rotate_left; (focus (go_simp <;> with_reducible rfl)); simp only [Act.put, List.setIfInBounds_toArray, List.set_cons_zero, List.set_cons_succ]))
      (refine useq_step rfl rfl rfl (fun K hK => ?_); go_simp)
      have hx1 := (Ext.refl wd).alloc (.cells #[.int .i64 0, .int .i64 0, .slice none 0 0] 25)
      have hb := Blk.new wd 25 #[.int .i64 0, .int .i64 0, .slice none 0 0]
      have hG := hx0.size
      replace hx0 := hx0.trans hx1
      refine hK.out _ _ hx0 ?_
      generalize wd.alloc (.cells #[.int .i64 0, .int .i64 0, .slice none 0 0] 25) = w3 at *
      generalize wd.heap.size = G at *
      (try simp only [Act.put, List.setIfInBounds_toArray, List.set_cons_zero, List.set_cons_succ])
      repeat (first | (refine useq_skip rfl rfl (by assumption) ?_; simp only [Act.put, List.setIfInBounds_toArray, List.set_cons_zero, List.set_cons_succ]) | (refine useq_pure (v := ?_) rfl rfl rfl rfl (fun X => ?_) ?_; rotate_left; (focus (go_simp <;> with_reducible rfl)); simp only [Act.put, List.setIfInBounds_toArray, List.set_cons_zero, List.set_cons_succ]) | (refine useq_read (v := ?_) rfl rfl rfl rfl (fun X hX => ?_) ?_; rotate_left; (focus (go_simp <;> with_reducible rfl)); simp only [Act.put, List.setIfInBounds_toArray, List.set_cons_zero, List.set_cons_succ]))
      have cG := hb.cell
      have fG := hb.frozen
      (refine useq_last rfl rfl rfl rfl (fun K hK => ?_))
      go_simp
      refine hK.out _ _ ?_
      refine useq_nil ?_
      have hfin : Grw w2 (((w3.setCell ⟨G, 0, none⟩ (.int .i64 s.al)).setCell ⟨G, 1, none⟩ (.int .i64 r)).setCell ⟨G, 2, none⟩ (.slice none 0 0)) G s.al r (.slice none 0 0) [] := ⟨fill_blk hb rfl _ _ _, World.ownsRow_nil _ _ _ _, hx0.frm (fill_frm w3 G _ _ _) (fun k hk e => by omega), hG⟩
      go_wp2_with fail
      go_meet
      exact ⟨G, rfl, hfin⟩
    · go_simp
      have hx1 := (Ext.refl wd).alloc (.cells #[.int .i64 0, .int .i64 0, .slice none 0 0] 25)
      have hb := Blk.new wd 25 #[.int .i64 0, .int .i64 0, .slice none 0 0]
      have hG := hx0.size
      replace hx0 := hx0.trans hx1
      refine hK.out _ _ hx0 ?_
      generalize wd.alloc (.cells #[.int .i64 0, .int .i64 0, .slice none 0 0] 25) = w3 at *
      generalize wd.heap.size = G at *
      (try simp only [Act.put, List.setIfInBounds_toArray, List.set_cons_zero, List.set_cons_succ])
      (refine useq_step rfl rfl rfl (fun K hK => ?_); go_simp)
      refine (ho.out _).mono ?_
      rintro e w' ⟨rfl, rfl⟩
      refine hK.out _ _ hx0 ?_
      (try simp only [Act.put, List.setIfInBounds_toArray, List.set_cons_zero, List.set_cons_succ])
      repeat (first | (refine useq_skip rfl rfl (by assumption) ?_; simp only [Act.put, List.setIfInBounds_toArray, List.set_cons_zero, List.set_cons_succ]) | (refine useq_pure (v := ?_) rfl rfl rfl rfl (fun X => ?_) ?_; rotate_left; (focus (go_simp <;> with_reducible rfl)); simp only [Act.put, List.setIfInBounds_toArray, List.set_cons_zero, List.set_cons_succ]) | (refine useq_read (v := ?_) rfl rfl rfl rfl (fun X hX => ?_) ?_; rotate_left; (focus (go_simp <;> with_reducible rfl)); simp only [Act.put, List.setIfInBounds_toArray, List.set_cons_zero, List.set_cons_succ]))
      have cG := hb.cell
      have fG := hb.frozen
      (refine useq_last rfl rfl rfl rfl (fun K hK => ?_))
      go_simp
      refine hK.out _ _ ?_
      refine useq_nil ?_
      have hfin : Grw w2 (((w3.setCell ⟨G, 0, none⟩ (.int .i64 s.al)).setCell ⟨G, 1, none⟩ (.int .i64 r)).setCell ⟨G, 2, none⟩ (.slice none 0 0)) G s.al r (.slice none 0 0) [] := ⟨fill_blk hb rfl _ _ _, World.ownsRow_nil _ _ _ _, hx0.frm (fill_frm w3 G _ _ _) (fun k hk e => by omega), hG⟩
      go_wp2_with fail
      go_meet
      exact ⟨G, rfl, hfin⟩
  case rest =>
    obtain ⟨G, rfl, hgr⟩ := hcut
    have k1 := (b1.ext hgr.ext).cell
    go_wp2_with fail
    go_loopw [7, 17] (fun _ i wr => ∃ (k : Nat) (v : Value) (es : List Edg), k ≤ n ∧ i = .int .i64 k ∧ Grw w2 wr G s.al r v es ∧ Hid (es = subE R (s.edges.take k)) ∧ es.length ≤ k) (fun _ i _ => n - (intOf i).toNat)
    case atStart => exact ⟨0, _, [], Nat.zero_le _, rfl, hgr, rfl, Nat.zero_le _⟩
    case round =>
      clear hgr k1
      obtain ⟨k, v, es, hk, rfl, hgr, hes, hel⟩ := hrel
      by_cases hlt : k < n
      · obtain ⟨g, o, x, rfl, _, _, hx, c0, c1, c2⟩ := (HS.out wr (hw2.trans hgr.ext)).2.edge hlt
        obtain ⟨⟨f0, f1⟩, ⟨g0, g1⟩, ⟨t0, t1⟩⟩ := Hf.out x (List.mem_of_getElem? hx.out)
        have Htk := hide (show s.edges.take (k + 1) = s.edges.take k ++ [x] by rw [List.take_add_one, hx.out]; rfl)
        obtain ⟨f, hfe⟩ : ∃ f : Nat, x.fr = f := ⟨x.fr.toNat, by omega⟩
        obtain ⟨t, hte⟩ : ∃ t : Nat, x.to = t := ⟨x.to.toNat, by omega⟩
        have hI := hide (show subI R x = (hasB R f && hasB R t) by unfold subI; rw [hfe, hte])
        have hJ := hide (show subJ R x = ⟨(rk R f : Nat), x.le, (rk R t : Nat)⟩ by unfold subJ; rw [hfe, hte]; rfl)
        have hrf := hide (fun W => impl_rank (n := f) hR (by omega) W)
        have hrt := hide (fun W => impl_rank (n := t) hR (by omega) W)
        have hsf := hide (fun W => impl_has R (f : Int) (by unfold Sm; omega) W)
        have hsT := hide (fun W => impl_has R (t : Int) (by unfold Sm; omega) W)
        rw [hfe] at c0 f0 f1
        rw [hte] at c2 t0 t1
        have hbx : Blk (wr.alloc (.cells #[.int .i64 f, .int .i64 x.le, .int .i64 t] 48)) wr.heap.size 48 #[.int .i64 f, .int .i64 x.le, .int .i64 t] := Blk.new _ _ _
        have hgr2 := hgr.ext_ ((Ext.refl wr).alloc (.cells #[.int .i64 f, .int .i64 x.le, .int .i64 t] 48))
        have hx := hide hfe
        have hx' := hide hte
        clear hfe hte hgr
        generalize rk R f = rf at *
        generalize rk R t = rt at *
        cases hif : hasB R f
        · have Hif := hide hif
          have hno := hide (show subI R x = false by rw [hI.out, hif]; rfl)
          clear hif
          go_upto_region 5 with fail
          generalize wr.alloc (.cells #[.int .i64 f, .int .i64 x.le, .int .i64 t] 48) = w3 at *
          have c7 := hbx.cell
          go_wp2_with (go_at_call 26; refine (hsf.out _).mono ?_; rw [Hif.out]; rintro e w' ⟨rfl, rfl⟩)
          go_roundw
          case rel => exact ⟨k + 1, v, es, by omega, by go_num, hgr2, (show Hid _ from by rw [hes.out, Htk.out, subE_snoc, hno.out]; rfl), by omega⟩
          case measure => simp [intOf]; omega
        · have Hif := hide hif
          cases hit : hasB R t
          · have Hit := hide hit
            have hno := hide (show subI R x = false by rw [hI.out, hit, Bool.and_false])
            clear hif hit
            go_upto_region 5 with fail
            generalize wr.alloc (.cells #[.int .i64 f, .int .i64 x.le, .int .i64 t] 48) = w3 at *
            have c7 := hbx.cell
            go_wp2_with fail
            refine (hsf.out _).mono ?_
            rw [Hif.out]
            rintro e w' ⟨rfl, rfl⟩
            go_wp2_with fail
            refine (hsT.out _).mono ?_
            rw [Hit.out]
            rintro e w' ⟨rfl, rfl⟩
            go_wp2_with fail
            go_roundw
            case rel => exact ⟨k + 1, v, es, by omega, by go_num, hgr2, (show Hid _ from by rw [hes.out, Htk.out, subE_snoc, hno.out]; rfl), by omega⟩
            case measure => simp [intOf]; omega
          · have Hit := hide hit
            have hyes := hide (show subI R x = true by rw [hI.out, hif, hit]; rfl)
            clear hif hit
            go_upto_region 5 with fail
            generalize wr.alloc (.cells #[.int .i64 f, .int .i64 x.le, .int .i64 t] 48) = w3 at *
            have c7 := hbx.cell
            go_wp2_with fail
            refine (hsf.out _).mono ?_
            rw [Hif.out]
            rintro e w' ⟨rfl, rfl⟩
            go_wp2_with fail
            refine (hsT.out _).mono ?_
            rw [Hit.out]
            rintro e w' ⟨rfl, rfl⟩
            go_upto_region 6 with fail
            clear c7
            have c7 : ∀ W, Ext w3 W → ∀ q, W.cell? ⟨wr.heap.size, q, none⟩ = #[Value.int .i64 f, .int .i64 x.le, .int .i64 t][q]? := fun W hW => (hbx.ext hW).cell
            have cG : ∀ W, Ext w3 W → ∀ q, W.cell? ⟨G, q, none⟩ = #[Value.int .i64 s.al, .int .i64 r, v][q]? := fun W hW => (hgr2.blk.ext hW).cell
            have hww3 := Ext.refl w3
            refine wp_region_tailU (fun X => Ext w3 X) [14, 16] (OrdU.of [0, 1, 2, 3, 4, 6, 7, 8, 9, 10, 5, 11, 12, 13, 14, 15, 16]) (by kernel_rfl) (by kernel_rfl) (by kernel_rfl) (by kernel_rfl) (by kernel_rfl) (fun _ _ _ _ _ h => h) (by first | assumption | exact (Ext.refl _).drew | (refine Ext.drew ?_; assumption)) ?_
            repeat (first | (refine useq_skip rfl rfl (by assumption) ?_; simp only [Act.put, List.setIfInBounds_toArray, List.set_cons_zero, List.set_cons_succ]) | (refine useq_pure (v := ?_) rfl rfl rfl rfl (fun X => ?_) ?_; rotate_left; (focus (go_simp <;> with_reducible rfl)); simp only [Act.put, List.setIfInBounds_toArray, List.set_cons_zero, List.set_cons_succ]) | (refine useq_read (v := ?_) rfl rfl rfl rfl (fun X hX => ?_) ?_; rotate_left; (focus (go_simp <;> with_reducible rfl)); simp only [Act.put, List.setIfInBounds_toArray, List.set_cons_zero, List.set_cons_succ]))
            (refine useq_step rfl rfl rfl (fun K hK => ?_); go_simp)
            refine (hrf.out _).mono ?_
            rintro e w' ⟨rfl, rfl⟩
            refine hK.out _ _ hww3.drew ?_
            (try simp only [Act.put, List.setIfInBounds_toArray, List.set_cons_zero, List.set_cons_succ])
            (refine useq_step rfl rfl rfl (fun K hK => ?_); go_simp)
            refine (hrt.out _).mono ?_
            rintro e w' ⟨rfl, rfl⟩
            refine hK.out _ _ hww3.drew ?_
            (try simp only [Act.put, List.setIfInBounds_toArray, List.set_cons_zero, List.set_cons_succ])
            repeat (first | (refine useq_skip rfl rfl (by assumption) ?_; simp only [Act.put, List.setIfInBounds_toArray, List.set_cons_zero, List.set_cons_succ]) | (refine useq_pure (v := ?_) rfl rfl rfl rfl (fun X => ?_) ?_; rotate_left; (focus (go_simp <;> with_reducible rfl)); simp only [Act.put, List.setIfInBounds_toArray, List.set_cons_zero, List.set_cons_succ]) | (refine useq_read (v := ?_) rfl rfl rfl rfl (fun X hX => ?_) ?_; rotate_left; (focus (go_simp <;> with_reducible rfl)); simp only [Act.put, List.setIfInBounds_toArray, List.set_cons_zero, List.set_cons_succ]))
            (refine useq_step rfl rfl rfl (fun K hK => ?_); go_simp)
            refine hK.out _ _ (hww3.drew.alloc _) ?_
            (try simp only [Act.put, List.setIfInBounds_toArray, List.set_cons_zero, List.set_cons_succ])
            (refine useq_last rfl rfl rfl rfl (fun K hK => ?_))
            refine wp_push w2 w3.drew _ _ _ rfl 48 _ 3 24 Tryd.underlying23 info_edge rfl (by decide) v es.length (edgeCells es) _ _ rfl rfl hgr2.ext.size hgr2.own rfl (by simp [Value.oneCell']) (by unfold maxLen; omega) (by omega) ?_
            intro g5 cap5 w5 hown5 hg5 hat5 hlt5
            refine hK.out _ _ ?_
            (try simp only [Act.put, List.setIfInBounds_toArray, List.set_cons_zero, List.set_cons_succ])
            repeat (first | (refine useq_skip rfl rfl (by assumption) ?_; simp only [Act.put, List.setIfInBounds_toArray, List.set_cons_zero, List.set_cons_succ]) | (refine useq_pure (v := ?_) rfl rfl rfl rfl (fun X => ?_) ?_; rotate_left; (focus (go_simp <;> with_reducible rfl)); simp only [Act.put, List.setIfInBounds_toArray, List.set_cons_zero, List.set_cons_succ]) | (refine useq_read (v := ?_) rfl rfl rfl rfl (fun X hX => ?_) ?_; rotate_left; (focus (go_simp <;> with_reducible rfl)); simp only [Act.put, List.setIfInBounds_toArray, List.set_cons_zero, List.set_cons_succ]))
            obtain ⟨h1, h2, h3⟩ := (hgr2.ext_ ((Ext.refl _).drew)).push (e := ⟨rf, x.le, rt⟩) (W' := w5) hown5 hg5 hat5
            have h1' := h1.out
            (refine useq_last rfl rfl rfl rfl (fun K hK => ?_))
            go_simp
            refine hK.out _ _ ?_
            refine useq_nil ?_
            go_wp2_with fail
            go_roundw
            case rel => exact ⟨k + 1, _, _, by omega, by go_num, h3, (show Hid _ from by rw [hes.out, Htk.out, subE_snoc, hyes.out, hJ.out]; rfl), by simp; omega⟩
            case measure => simp [intOf]; omega
      · obtain rfl : k = n := by omega
        obtain ⟨A5, c5, rfl⟩ := own_form hgr.own
        have cG := hgr.blk.cell
        have hbz := bz.ext hgr.ext
        have cZ := hbz.cell
        have fZ := hbz.frozen
        have htk : s.edges.take k = s.edges := List.take_of_length_le (by have := hL.out; omega)
        have hfl := fill_frm wr (w.heap.size + 1) (.int .i64 s.al) (.int .i64 r) (.slice A5 es.length c5)
        have hbf := fill_blk hbz rfl (.int .i64 s.al) (.int .i64 r) (.slice A5 es.length c5)
        have hxf := (hw2.trans hgr.ext).frm hfl (fun k hk e => by omega)
        have hof := own_frm hgr.own hfl (fun b hv e => by have := (hgr.own.lt b hv).1; omega)
        have hfin := hide (show RetS w (subS s R) (.returned (.agg #[.int .i64 s.al, .int .i64 r, .slice A5 es.length c5])) (((wr.setCell ⟨w.heap.size + 1, 0, none⟩ (.int .i64 s.al)).setCell ⟨w.heap.size + 1, 1, none⟩ (.int .i64 r)).setCell ⟨w.heap.size + 1, 2, none⟩ (.slice A5 es.length c5)) from by
          have he : es = (subS s R).edges := by rw [hes.out, htk]; rfl
          refine ⟨A5, es.length, c5, by rw [hst.out]; rfl, ⟨by rw [he], ?_⟩, hxf⟩
          rw [← he]
          exact Reads.of_own (own_less hof (by omega)))
        go_wp2_with fail
        generalize ((wr.setCell ⟨w.heap.size + 1, 0, none⟩ (.int .i64 s.al)).setCell ⟨w.heap.size + 1, 1, none⟩ (.int .i64 r)).setCell ⟨w.heap.size + 1, 2, none⟩ (.slice A5 es.length c5) = wf at *
        have cf := hbf.cell
        exact bodyPost_ret (v := .agg #[.int .i64 s.al, .int .i64 r, .slice A5 es.length c5]) (by simp [results, Tryd.results32, go_sem, cf]) rfl hfin.out
set_option maxRecDepth 100000 in
theorem impl_TrimSystem {lo hi : Nat} {A : Option Addr} {n c p : Nat} {s : Sys} {w : World} (h : SysAt w lo hi A n s) (hT : Tab w) (hv : sysValid s = true) (hp : s.st = p) (hn4 : n ≤ 1000000) :
    Calls Tryd.prog 13 #[.agg #[.int .i64 s.al, .int .i64 s.st, .slice A n c]] w fun e w' => ∃ (R : Nat) (A' : Option Addr) (n' c' : Nat), e = .returned (.tuple #[.agg #[.int .i64 (subS s R).al, .int .i64 (subS s R).st, .slice A' n' c'], .bool true]) ∧ Hid (RchSet s.edges p R) ∧ SysAt w' w.heap.size w'.heap.size A' n' (subS s R) ∧ Ext w w' := by
  obtain ⟨p', hp', hp1, hp2, hf⟩ := valid_few hv
  obtain rfl : p' = p := by omega
  have HS := hide (fun W (hW : Ext w W) => h.ext hW)
  have HTab := hide (fun W (hW : Ext w W) => hT.ext hW)
  have Hf := hide hf
  have Hv := hide hv
  have Hp := hide hp
  clear hf hv h hT hp hp'
  go_enter Tryd.func13, Tryd.ntmps13
  obtain ⟨b1, bz⟩ := ext_blk2 (Ext.refl ((w.alloc (.cells #[.int .i64 s.al, .int .i64 s.st, .slice A n c] 25)).alloc (.cells #[.int .i64 0, .int .i64 0, .slice none 0 0] 25)))
  have hw2 : Ext w ((w.alloc (.cells #[.int .i64 s.al, .int .i64 s.st, .slice A n c] 25)).alloc (.cells #[.int .i64 0, .int .i64 0, .slice none 0 0] 25)) := ((Ext.refl w).alloc _).alloc _
  have k1 := b1.cell
  go_upto_region 1 with fail
  generalize (w.alloc (.cells #[.int .i64 s.al, .int .i64 s.st, .slice A n c] 25)).alloc (.cells #[.int .i64 0, .int .i64 0, .slice none 0 0] 25) = w2 at *
  go_wp2_with fail
  refine (impl_SystemValid (HS.out _ hw2)).mono ?_
  rw [Hv.out]
  rintro e w3 ⟨rfl, hx3⟩
  have c1 : ∀ W, Ext w3 W → ∀ q, W.cell? ⟨w.heap.size, q, none⟩ = #[Value.int .i64 s.al, .int .i64 s.st, .slice A n c][q]? := fun W hW => (b1.ext (hx3.trans hW)).cell
  have hww := Ext.refl w3
  have hw3 := hw2.trans hx3
  clear k1
  go_upto_region 3 with fail
  refine wp_region_tailU (fun X => Ext w3 X) [3, 4] (OrdU.of [0, 1, 2, 3, 4, 5]) (by kernel_rfl) (by kernel_rfl) (by kernel_rfl) (by kernel_rfl) (by kernel_rfl) (fun _ _ _ _ _ h => h) (by first | assumption | exact (Ext.refl _).drew | (refine Ext.drew ?_; assumption)) ?_
  repeat (first | (refine useq_skip rfl rfl (by assumption) ?_; simp only [Act.put, List.setIfInBounds_toArray, List.set_cons_zero, List.set_cons_succ]) | (refine useq_pure (v := ?_) rfl rfl rfl rfl (fun X => ?_) ?_; rotate_left; (focus (go_simp <;> with_reducible rfl)); simp only [Act.put, List.setIfInBounds_toArray, List.set_cons_zero, List.set_cons_succ]) | (refine useq_read (v := ?_) rfl rfl rfl rfl (fun X hX => ?_) ?_; rotate_left; (focus (go_simp <;> with_reducible rfl)); simp only [Act.put, List.setIfInBounds_toArray, List.set_cons_zero, List.set_cons_succ]))
  (refine useq_step rfl rfl rfl (fun K hK => ?_); go_simp)
  refine (impl_ReachableStates (HS.out _ hw3.drew) (HTab.out _ hw3.drew) Hv.out Hp.out).mono ?_
  rintro e w4 ⟨R, rfl, hR, hx4⟩
  have hw4 := hw3.drew.trans hx4
  have hx34 := hww.drew.trans hx4
  refine hK.out _ _ hx34 ?_
  (try simp only [Act.put, List.setIfInBounds_toArray, List.set_cons_zero, List.set_cons_succ])
  (refine useq_step rfl rfl rfl (fun K hK => ?_); go_simp)
  refine (impl_subSystem (HS.out _ hw4) Hf.out hp2 (pow16 hR.out.1 hp2) hn4).mono ?_
  rintro e w5 ⟨A5, n5, c5, rfl, h5, hx5⟩
  refine hK.out _ _ (hx34.trans hx5) ?_
  (try simp only [Act.put, List.setIfInBounds_toArray, List.set_cons_zero, List.set_cons_succ])
  have hbz := bz.ext ((hx3.trans hx34).trans hx5)
  have cZ := hbz.cell
  have fZ := hbz.frozen
  generalize hsu : subS s R = u at *
  have Hsu := hide hsu
  clear hsu
  have hfl := fill_frm w5 (w.heap.size + 1) (.int .i64 u.al) (.int .i64 u.st) (.slice A5 n5 c5)
  have hbf := fill_blk hbz rfl (.int .i64 u.al) (.int .i64 u.st) (.slice A5 n5 c5)
  have hxf := (hw4.trans hx5).frm hfl (fun k hk e => by omega)
  have hz4 := hw4.size
  have h2z := hw2.size
  have hwz : w.heap.size + 1 < w4.heap.size := by have := (bz.ext (hx3.trans hx34)).lt; omega
  have hsf : SysAt (((w5.setCell ⟨w.heap.size + 1, 0, none⟩ (.int .i64 u.al)).setCell ⟨w.heap.size + 1, 1, none⟩ (.int .i64 u.st)).setCell ⟨w.heap.size + 1, 2, none⟩ (.slice A5 n5 c5)) w.heap.size (((w5.setCell ⟨w.heap.size + 1, 0, none⟩ (.int .i64 u.al)).setCell ⟨w.heap.size + 1, 1, none⟩ (.int .i64 u.st)).setCell ⟨w.heap.size + 1, 2, none⟩ (.slice A5 n5 c5)).heap.size A5 n5 u :=
    ⟨h5.1, (h5.2.frm hfl (fun k h1 h2 e => by omega)).more (by omega) hfl.size⟩
  (refine useq_last rfl rfl rfl rfl (fun K hK => ?_))
  go_simp
  refine hK.out _ _ ?_
  generalize ((w5.setCell ⟨w.heap.size + 1, 0, none⟩ (.int .i64 u.al)).setCell ⟨w.heap.size + 1, 1, none⟩ (.int .i64 u.st)).setCell ⟨w.heap.size + 1, 2, none⟩ (.slice A5 n5 c5) = wf at *
  (try simp only [Act.put, List.setIfInBounds_toArray, List.set_cons_zero, List.set_cons_succ])
  repeat (first | (refine useq_skip rfl rfl (by assumption) ?_; simp only [Act.put, List.setIfInBounds_toArray, List.set_cons_zero, List.set_cons_succ]) | (refine useq_pure (v := ?_) rfl rfl rfl rfl (fun X => ?_) ?_; rotate_left; (focus (go_simp <;> with_reducible rfl)); simp only [Act.put, List.setIfInBounds_toArray, List.set_cons_zero, List.set_cons_succ]) | (refine useq_read (v := ?_) rfl rfl rfl rfl (fun X hX => ?_) ?_; rotate_left; (focus (go_simp <;> with_reducible rfl)); simp only [Act.put, List.setIfInBounds_toArray, List.set_cons_zero, List.set_cons_succ]))
  refine useq_nil ?_
  have cf := hbf.cell
  have hfin := hide (show ∃ (R : Nat) (A' : Option Addr) (n' c' : Nat), Ending.returned (.tuple #[.agg #[.int .i64 u.al, .int .i64 u.st, .slice A5 n5 c5], .bool true]) = .returned (.tuple #[.agg #[.int .i64 (subS s R).al, .int .i64 (subS s R).st, .slice A' n' c'], .bool true]) ∧ Hid (RchSet s.edges p' R) ∧ SysAt wf w.heap.size wf.heap.size A' n' (subS s R) ∧ Ext w wf from ⟨R, A5, n5, c5, by rw [Hsu.out], hR, by rw [Hsu.out]; exact hsf, hxf⟩)
  go_wp2_with fail
  exact bodyPost_ret (v := .tuple #[.agg #[.int .i64 u.al, .int .i64 u.st, .slice A5 n5 c5], .bool true]) (by simp [results, Tryd.results13, go_sem, cf]) rfl hfin.out
end Go.Proofs.YtbifoikcmjmdeaaDoor

namespace Go.Proofs.YtbifoikcmjmdeaaDoor
open Go Go.RowKit

/-- What follows a state by a letter. -/
def dD (es : List Edg) (n l : Nat) : List Nat := letters (succ es (n : Nat) l) 32
/-- No letter leads on. -/
def stuckB (es : List Edg) (L : List Nat) (n : Nat) : Bool := !L.any fun l => !(dD es n l).isEmpty
section
variable {es es' : List Edg} {p q : Nat}
theorem dD_mem (hp : p ≤ 16) (hf : Few p es) {n l x : Nat} : x ∈ dD es n l ↔ E es n l x := by
  unfold dD
  rw [mem_letters, E_iff hf]
  refine ⟨fun h => h.2, fun h => ⟨?_, h⟩⟩
  obtain ⟨e, he, _, _, h3⟩ := (E_iff hf n l x).2 h
  have := hf e he
  omega
theorem stuck_iff (hp : p ≤ 16) (hf : Few p es) {L : List Nat} {n : Nat} : stuckB es L n = true ↔ ∀ l ∈ L, ∀ x, ¬ E es n l x := by
  unfold stuckB
  simp only [Bool.not_eq_true', List.any_eq_false]
  constructor
  · intro h l hl x hx
    have h1 := h l hl
    have h2 := (dD_mem hp hf).2 hx
    cases he : dD es n l with
    | nil => rw [he] at h2; cases h2
    | cons a r => rw [he] at h1; exact h1 rfl
  · intro h l hl
    cases he : dD es n l with
    | nil => simp
    | cons a r => exact absurd ((dD_mem hp hf).1 (by rw [he]; simp)) (h l hl a)
theorem dead_goes (hp : p ≤ 16) (hq : q ≤ 16) (hf : Few p es) (hg : Few q es') {R : List Nat} (hR : Gfp true es es' p q R) (h0 : rel R 0 0) {v : List Nat} {x : Nat} (hx : Goes (dD es) [0] v x) : ∃ y, Goes (dD es') [0] v y ∧ rel R x y := by
  induction hx with
  | nil h =>
    obtain rfl := List.mem_singleton.1 h
    exact ⟨0, .nil (by simp), h0⟩
  | @snoc w l n x _ h ih =>
    obtain ⟨y, hy, hr⟩ := ih
    obtain ⟨z, hz, hr'⟩ := (hR.post _ _ hr).1 _ _ ((dD_mem hp hf).1 h)
    exact ⟨z, hy.snoc ((dD_mem hq hg).2 hz), hr'⟩
theorem dead_stuck (hp : p ≤ 16) (hq : q ≤ 16) (hf : Few p es) (hg : Few q es') {R : List Nat} (hR : Gfp true es es' p q R) {L : List Nat} {x y : Nat} (hr : rel R x y) (h : stuckB es L x = true) : stuckB es' L y = true := by
  rw [stuck_iff hp hf] at h
  rw [stuck_iff hq hg]
  intro l hl z hz
  obtain ⟨k, hk, _⟩ := (hR.post _ _ hr).2 rfl _ _ hz
  exact h l hl k hk
end
/-- Bisimilar systems have one first word behind which they are stuck, or none. -/
theorem dead_same {s t : Sys} (h : simB true s t = true) {L v : List Nat} (hF : Found (dD s.edges) [0] (stuckB s.edges L) L v) : ¬ Lost (dD t.edges) [0] (stuckB t.edges L) L ∧ ∀ u, (∀ l ∈ L, l < 6) → Found (dD t.edges) [0] (stuckB t.edges L) L u → v = u := by
  have hs : sameB s t = true := by unfold simB at h; cases hh : sameB s t <;> simp_all
  obtain ⟨v1, v2, _⟩ := same_valid hs
  obtain ⟨p, hp, hp1, hp2, hf⟩ := valid_few v1
  obtain ⟨q, hq, hq1, hq2, hg⟩ := valid_few v2
  have hR := gfp_at (both := true) hp hq
  have hR' := gfp_at (both := true) hq hp
  have r0 := (simB_rel2 hs).1 h
  have r0' := hR.symm hR' r0
  obtain ⟨hv, ⟨x, hx, hst⟩, hmin⟩ := hF
  obtain ⟨y, hy, hr⟩ := dead_goes hp2 hq2 hf hg hR r0 hx
  have hyst := dead_stuck hp2 hq2 hf hg hR hr hst
  refine ⟨fun hl => ?_, fun u hL hF' => ?_⟩
  · have := hl v hv y hy
    rw [hyst] at this
    cases this
  · obtain ⟨hu, ⟨z, hz, hzt⟩, hmin'⟩ := hF'
    obtain ⟨k, hk, hr'⟩ := dead_goes hq2 hp2 hg hf hR' r0' hz
    have hkst := dead_stuck hq2 hp2 hg hf hR' hr' hzt
    rcases Nat.lt_trichotomy (wval v) (wval u) with h1 | h1 | h1
    · have := hmin' v hv h1 y hy
      rw [hyst] at this; cases this
    · exact wval_inj _ v u (Nat.le_refl _) (fun l hl => hL l (hv l hl)) (fun l hl => hL l (hu l hl)) h1
    · have := hmin u hu h1 k hk
      rw [hkst] at this; cases this
end Go.Proofs.YtbifoikcmjmdeaaDoor

namespace Go.Proofs.YtbifoikcmjmdeaaDoor
open Go Go.RowKit
set_option maxHeartbeats 2000000

set_option maxHeartbeats 16000000 in
set_option maxRecDepth 100000 in
theorem firstPath_pre {w : World} {N kn kg m c q cL : Nat} {A AL : Option Addr} {pren capn capg : Array Value} {goal : Nat → Bool} {d : Nat → Nat → List Nat} {start L : List Nat} {D : Nat}
    (hA : IntsAt w A m start) (hstart : ∀ n ∈ start, n < N) (hm : m ≤ 1099511627776) (hL : IntsAt w AL q L) (hrise : Rise L) (hN : N ≤ 16777216) (hD : D ≤ 4096)
    (hinn : ∀ args W, (callFunc kn args).run Tryd.prog W = .ok (.enter kn args) W) (hin : ∀ args W, (callFunc kg args).run Tryd.prog W = .ok (.enter kg args) W)
    (hgoal : ∀ W, Ext w W → ∀ n, n < N → Calls Tryd.prog kg (#[.int .i64 (n : Nat)] ++ capg) W fun e W' => e = .returned (.bool (goal n)) ∧ Ext W W')
    (hd : ∀ n l, n < N → l ∈ L → (d n l).length ≤ D ∧ ∀ x ∈ d n l, x < N)
    (hnext : ∀ W, Ext w W → ∀ n l, n < N → l ∈ L → ∀ (base : Nat) (A : Option Addr) (m c : Nat) (xs : List Nat), w.heap.size ≤ base → base ≤ W.heap.size → m ≤ 1099511627776 → W.ownsRow base 3 1 (.slice A m c) m (nats xs) →
      Calls Tryd.prog kn (pren ++ (#[.int .i64 (n : Nat), .int .i64 (l : Nat), .slice A m c] ++ capn)) W fun e W' => ∃ A' c', e = .returned (.slice A' (xs ++ d n l).length c') ∧ W'.ownsRow base 3 1 (.slice A' (xs ++ d n l).length c') (xs ++ d n l).length (nats (xs ++ d n l)) ∧ Frm (fun k => (Value.slice A m c).ownBlock = some k) W W') :
    Calls Tryd.prog 43 #[.int .i64 (N : Nat), .slice A m c, .slice AL q cL, .func (.func kn) pren capn, .func (.func kg) #[] capg] w (RetPath w d start goal L) := by
  have HA := hide hA
  have Hstart := hide hstart
  have Hgoal := hide hgoal
  have Hnext := hide hnext
  have Hd := hide hd
  have hqm : q ≤ 9223372036854775807 := hL.2.1
  clear hA hstart hgoal hnext hd
  go_enter Tryd.func43, Tryd.ntmps43
  have hwa : Ext w (w.alloc (.cells #[.func (.func kg) #[] capg] 58)) := (Ext.refl w).alloc _
  have hgx := hide (Blk.new w 58 #[.func (.func kg) #[] capg])
  go_upto_region 4 with (at_make; refine wpList_make w _ rfl _ _ 76 rfl 4 _ 1 1 Tryd.underlying76 info_bool _ _ N rfl rfl hwa (by omega) (by unfold maxLen; omega) ?_; intro w1 hext1 hown1 hx1 hsz1)
  have hown2 : w1.ownsRow w.heap.size 4 1 (.slice (some ⟨w.heap.size + 1, 0, none⟩) N N) N (bools (List.replicate N false)) := by
    have h := hown1
    rw [World.size_alloc] at h
    simpa [bools, Value.cells, toList_madeCells_one] using h
  have hsea := Sea.start hx1 hsz1 hgx.out hown2
  have hx2 : Ext w ((w1.alloc (.cells #[.slice (some ⟨w.heap.size + 1, 0, none⟩) N N] 76)).alloc (.cells #[.slice none 0 0] 77)) := (hext1.alloc _).alloc _
  clear hown1 hown2 hx1 hsz1 hgx hext1 hwa
  generalize w1.heap.size + 1 = bt at *
  generalize w1.heap.size = bs at *
  generalize (w1.alloc (.cells #[.slice (some ⟨w.heap.size + 1, 0, none⟩) N N] 76)).alloc (.cells #[.slice none 0 0] 77) = w2 at *
  have hvs := vis_spec (List.replicate N false) start (fun n hn => by have := Hstart.out n hn; simpa using this)
  cases hg : (vis (List.replicate N false) start).2.any goal
  · have Hg := hide hg
    have hB := hide (Bfs.begin_ (d := d) (L := L) (goal := goal) Hstart.out (fun x hx => by
      cases hgx : goal x
      · rfl
      · rw [List.any_eq_true.2 ⟨x, hx, hgx⟩] at hg; cases hg))
    have hC := hide ((Cnt.nil N).add (-1) 0 start)
    clear hg hvs
    go_wp2_with (go_at_call 67; refine (visit_any (letter := 0) (parent := -1) hsea (HA.out.ext hx2) Hstart.out hm (by simp) hin Hgoal.out).mono ?_; rintro e w3 ⟨rfl, hx3, hsz3, vst, sts, hsea3, hcase⟩; rw [Hg.out]; have hst := hide (sts_add hcase); clear hcase)
    go_loopw [15, 17, 18, 20] (fun i l r x wr => ∃ (k : Nat) (S : List Bool) (vst : Value) (sts : List (Stp × Value)) (ws : List (List Nat)), i = .int .i64 k ∧ k ≤ sts.length ∧ sts.length ≤ N ∧ Sea w wr bs w.heap.size bt (w.heap.size + 1) N N (.func (.func kg) #[] capg) S vst sts ∧ Hid (Bfs d start goal L N S (sts.map Prod.fst) ws k 0) ∧ Hid (Cnt S (sts.map Prod.fst)))
      (fun i _ _ _ _ => N + 1 - (intOf i).toNat)
    case atStart =>
      simp only [List.map_nil] at hst
      have hB' := hB.out
      have hC' := hC.out
      rw [← hst.out] at hB' hC'
      exact ⟨0, _, vst, sts, _, rfl, Nat.zero_le _, by have := hC'.steps hB'.some_; rw [hB'.len] at this; simpa using this, hsea3, hide hB', hide hC'⟩
    case round =>
      clear hsea3 hst hB hC hx3 hsz3
      clear vst sts
      obtain ⟨k, S, vst, sts, ws, rfl, hk, hsN, hS, hB, hC⟩ := hrel
      obtain ⟨Av, cv, rfl⟩ := own_form hS.dt
      have cT := hS.vt.cell 0
      by_cases hlt : k < sts.length
      · have hcast : ((k : Int) < (sts.length : Int)) := by omega
        go_wp2
        go_loopw [17, 18, 20, 35] (fun _ _ _ i2 wi => ∃ (j : Nat) (S : List Bool) (vst : Value) (sts : List (Stp × Value)) (ws : List (List Nat)), i2 = .int .i64 j ∧ j ≤ q ∧ k < sts.length ∧ sts.length ≤ N ∧ Sea w wi bs w.heap.size bt (w.heap.size + 1) N N (.func (.func kg) #[] capg) S vst sts ∧ Hid (Bfs d start goal L N S (sts.map Prod.fst) ws k j) ∧ Hid (Cnt S (sts.map Prod.fst)))
          (fun _ _ _ i2 _ => q - (intOf i2).toNat)
        case atStart => exact ⟨0, S, _, sts, ws, rfl, Nat.zero_le _, hlt, hsN, hS, hB, hC⟩
        case round =>
          clear hS hB hC cT hlt hcast hk hsN
          rename World => wi
          obtain ⟨j, S, vst, sts, ws, rfl, hj, hk, hsN, hS, hB, hC⟩ := hrel
          by_cases hjq : j < q
          · obtain ⟨gl, ol, l, rfl, hxl, hcl⟩ := hL.at_ hjq
            have cL : wi.cell? ⟨gl, ol + j, none⟩ = some (.int .i64 (l : Nat)) := hS.ext.cell_some hcl
            have hlL := hide (List.mem_of_getElem? hxl.out)
            obtain ⟨⟨⟨pp, pl, pn⟩, vk⟩, hpk⟩ : ∃ x, Hid (sts[k]? = some x) := ⟨_, List.getElem?_eq_getElem hk⟩
            obtain ⟨Ak, ck, rfl, hnk⟩ := hS.nd k _ vk hpk.out
            dsimp only at hnk hpk
            have hpm := hide (show (sts.map Prod.fst)[k]? = some ⟨pp, pl, pn⟩ by rw [List.getElem?_map, hpk.out]; rfl)
            have hne := List.length_pos_iff.2 (hB.out.some_ k _ hpm.out)
            have hnN : pn.length ≤ N := by have := hC.out.nodes hpm.out; rw [hB.out.len] at this; exact this
            have hsmall := hide (hB.out.small k _ hpm.out)
            dsimp only at hne hsmall
            have cV : wi.cell? ⟨bt, 0, none⟩ = some vst := hS.vt.cell 0
            obtain ⟨Av, cv, rfl⟩ := own_form hS.dt
            obtain ⟨gv, rfl⟩ : ∃ gv, Av = some ⟨gv, 0, none⟩ := by
              rcases hS.dt.2 with ⟨_, hh⟩ | ⟨g, cap, cur, hv, _⟩
              · omega
              · exact ⟨g, by injection hv⟩
            obtain ⟨mk, hmk⟩ : ∃ mk, Hid (mk = pn.length) := ⟨_, rfl⟩
            have cK : wi.cell? ⟨gv, k * 3 + 2, none⟩ = some (.slice Ak mk ck) := by
              rw [hS.dt.cellAt _ (by omega), hmk.out]
              exact (stCells_get hpk.out).2.2
            rw [← hmk.out] at hnk hne hnN
            obtain ⟨gk, ok, _, rfl, _, _⟩ := hnk.at_ hne
            have Hnk := hide hnk
            have h1 := hS.vs.lt
            have h2 : w.heap.size < wi.heap.size := by obtain ⟨t, hh⟩ := hS.vg; exact hh.lt
            have h3 := hS.vt.lt
            have h4 := hS.gs_lt.2
            have h0 := hS.ext.size
            have HnI := hide (show ∀ b, wi.heap.size ≤ b → ∀ cs, wi.heap[b]? ≠ some (.cells cs 3 (0, 0)) from fun b hb cs hc => by
              have := (Array.getElem?_eq_some_iff.1 hc).1
              omega)
            have hvl := (hS.dt.lt gv rfl).2
            have HSea := hide (fun W (hW : Frm (fun b => wi.heap.size ≤ b) wi W) => hS.far hW (fun _ h => h) h1 h2 h3 h4 (fun b hb => by have : gv = b := (by simpa [Value.ownBlock] using hb); omega) h0 (hS.nd.frm hW HnI.out))
            have hkc : (k : Int) < (sts.length : Int) := by omega
            have hjc : (j : Int) < (q : Int) := by omega
            clear hnk hcl hS h1 h3 h4
            go_wp2_with fail
            go_loopw [18, 20, 45] (fun v _ i3 wr => ∃ i : Nat, i3 = .int .i64 i ∧ i ≤ mk ∧ wr.ownsRow wi.heap.size 3 1 v (reach d l (pn.take i)).length (nats (reach d l (pn.take i))) ∧ Frm (fun b => wi.heap.size ≤ b) wi wr) (fun _ _ i3 _ => mk - (intOf i3).toNat)
            case atStart => exact ⟨0, rfl, Nat.zero_le _, World.ownsRow_nil _ _ _ _, Frm.refl _ _⟩
            case round =>
              obtain ⟨i, rfl, hi, hown, hfr⟩ := hrel
              have hSr := hide (HSea.out wr hfr)
              have hsz := hfr.size
              have hrl : (reach d l (pn.take i)).length ≤ 1099511627776 - 4096 := by
                have e1 := reach_len (d := d) (l := l) (D := D) (ns := pn.take i) (fun n hn => (Hd.out n l (hsmall.out n (List.mem_of_mem_take hn)) hlL.out).1)
                have e2 := Nat.mul_le_mul (show (pn.take i).length ≤ 16777216 by rw [List.length_take]; omega) hD
                omega
              obtain ⟨A0, c0, rfl⟩ := own_form hown
              clear cL cV cK
              by_cases hil : i < mk
              · obtain ⟨g', o', n, hA', hn, cN⟩ := (Hnk.out.frm hfr HnI.out).at_ hil
                obtain ⟨rfl, rfl⟩ : gk = g' ∧ ok = o' := by injection hA' with e; injection e with e1 e2; exact ⟨e1, e2⟩
                have hnlt := hsmall.out n (List.mem_of_getElem? hn.out)
                have hnx := hide (Hnext.out wr hSr.out.ext n l hnlt hlL.out wi.heap.size A0 _ c0 _ h0 hsz (by omega) hown)
                clear hA'
                go_wp2_with fail
                refine hnx.out.mono ?_
                rintro e w4 ⟨A', c', rfl, hown4, hf4⟩
                have hlow := hide (fun b (hb : (Value.slice A0 (reach d l (pn.take i)).length c0).ownBlock = some b) => (hown.lt b hb).1)
                go_wp2_with fail
                go_roundw
                case rel => exact ⟨i + 1, by go_num, by omega, by rw [reach_take hn.out]; rw [List.length_append] at hown4 ⊢; exact hown4, hfr.out hf4 hlow.out⟩
                case measure => simp [intOf]; omega
              · obtain rfl : i = mk := by omega
                have htk : pn.take i = pn := List.take_of_length_le (by have := hmk.out; omega)
                rw [htk] at hown hrl ⊢
                have hrs := hide (fun x (hx : x ∈ reach d l pn) => by
                  obtain ⟨n, hn, hx⟩ := mem_reach.1 hx
                  exact (Hd.out n l (hsmall.out n hn) hlL.out).2 x hx)
                have hvis := hide (visit_any (letter := l) (parent := (k : Int)) (c := c0) hSr.out (IntsAt.own hown) hrs.out (by omega) (by omega) hin Hgoal.out)
                cases hg : (vis S (reach d l pn)).2.any goal
                · have Hg := hide hg
                  have hB' := hide (hB.out.step hrise hpm.out hxl.out (fun x => mem_reach) hrs.out (fun x hx => by
                    cases hgx : goal x
                    · rfl
                    · rw [List.any_eq_true.2 ⟨x, hx, hgx⟩] at hg; cases hg))
                  have hC' := hide (hC.out.add (k : Int) l (reach d l pn))
                  clear hg
                  go_wp2_with fail
                  refine hvis.out.mono ?_
                  rintro e w4 ⟨rfl, hx4, hsz4, vst4, sts4, hsea4, hcase⟩
                  rw [Hg.out]
                  have hst := hide (sts_add hcase)
                  have hlen : sts.length ≤ sts4.length := by
                    rcases hcase with ⟨_, rfl⟩ | ⟨_, v, rfl⟩ <;> simp
                  rw [← hst.out] at hB' hC'
                  go_wp2_with fail
                  go_roundw
                  case rel => exact ⟨j + 1, _, vst4, sts4, _, by go_num, by omega, by omega, (by have := hC'.out.steps hB'.out.some_; rw [hB'.out.len] at this; simpa using this), hsea4, hB', hC'⟩
                  case measure => simp [intOf]; omega
                · have Hg := hide hg
                  obtain ⟨x, hx, hgx⟩ := List.any_eq_true.1 hg
                  have hxr := ((vis_spec S (reach d l pn) (fun n hn => by rw [hB.out.len]; exact hrs.out n hn)).2.2 x).1 hx
                  obtain ⟨n, hn, hxd⟩ := mem_reach.1 hxr.1
                  have hF := hide (show Found d start goal L (ws.getD k [] ++ [l]) from ⟨fun m hm => (by
                    rcases List.mem_append.1 hm with h | h
                    · exact hB.out.letters k k (Nat.le_refl _) (by simpa using hk) m h
                    · rw [List.mem_singleton.1 h]; exact hlL.out), ⟨x, (hB.out.goes k _ hpm.out n hn).snoc hxd, hgx⟩, fun u hu hlt y hy => hB.out.found hrise (by simpa using hk) hxl.out hu hlt hy⟩)
                  clear hg hgx hxr hxd
                  go_wp2_with fail
                  refine hvis.out.mono ?_
                  rintro e w4 ⟨rfl, hx4, hsz4, vst4, sts4, hsea4, hcase⟩
                  rw [Hg.out]
                  obtain ⟨_, v4, hst4⟩ : (vis S (reach d l pn)).2 ≠ [] ∧ ∃ v, sts4 = sts ++ [(⟨(k : Int), l, (vis S (reach d l pn)).2⟩, v)] := by
                    rcases hcase with ⟨h, _⟩ | h
                    · rw [h] at hx; cases hx
                    · exact h
                  have hl4 : sts4.length = sts.length + 1 := by rw [hst4]; simp
                  obtain ⟨A4, c4, rfl⟩ := own_form hsea4.dt
                  have cV4 := hsea4.vt.cell 0
                  have hpw := hide (show Calls Tryd.prog 68 #[.slice A4 sts4.length c4] w4 fun e w' => e = .returned (.string (strOfNums (lbs (ws.getD k [] ++ [l])))) ∧ Ext w4 w' by
                    have key := pathWord_any (ws := ws ++ [ws.getD k [] ++ [l]]) hsea4.dt rfl (by omega) (by omega) (fun i p v hi => by
                      have hm : (sts4.map Prod.fst)[i]? = some p := by rw [List.getElem?_map, hi]; rfl
                      rw [hst4, List.map_append] at hm
                      exact hB.out.words hrise (by simpa using hk) hlL.out i p hm)
                    rw [hl4, Nat.add_sub_cancel, show sts.length = ws.length by have := hB.out.wl; simpa using this.symm, getD_last] at key
                    rw [hl4, show sts.length = ws.length by have := hB.out.wl; simpa using this.symm]
                    exact key)
                  clear hx hcase hst4 hl4
                  go_wp2_with fail
                  refine hpw.out.mono ?_
                  rintro e w5 ⟨rfl, hx5⟩
                  go_wp2_with fail
                  go_ret2
                  exact ⟨hx4.trans hx5, Or.inl ⟨_, rfl, hF.out⟩⟩
          · obtain rfl : j = q := by omega
            have hql := hL.1
            have hB2 := hide (hB.out.row (by omega))
            go_wp2
            go_roundw
            case rel => exact ⟨k + 1, S, vst, sts, ws, by go_num, by omega, hsN, hS, hB2, hC⟩
            case measure => simp [intOf]; omega
      · obtain rfl : k = sts.length := by omega
        have hlost := hide (show Lost d start goal L from fun v hv x hx => hB.out.none (by simp) hv hx)
        have hxr := hS.ext
        go_wp2
        go_ret2
        exact ⟨hxr, Or.inr ⟨rfl, hlost.out⟩⟩
  · have Hg := hide hg
    obtain ⟨x, hx, hgx⟩ := List.any_eq_true.1 hg
    have hF := hide (show Found d start goal L [] from ⟨fun l hl => (by cases hl), ⟨x, .nil ((hvs.2.2 x).1 hx).1, hgx⟩, fun u _ hu => by rw [wval_nil] at hu; omega⟩)
    clear hg hvs
    go_wp2_with (go_at_call 67; refine (visit_any (letter := 0) (parent := -1) hsea (HA.out.ext hx2) Hstart.out hm (by simp) hin Hgoal.out).mono ?_; rintro e w' ⟨rfl, hx3, _⟩; rw [Hg.out])
    go_ret2
    exact ⟨hx3, Or.inl ⟨[], rfl, hF.out⟩⟩
end Go.Proofs.YtbifoikcmjmdeaaDoor
