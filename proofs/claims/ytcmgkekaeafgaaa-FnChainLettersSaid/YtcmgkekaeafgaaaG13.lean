/- spec.l2Small, walked. | A list of systems that were drawn, in a row of its own. | spec.l6Change at any system of few states, walked (XDraw7's walk, without a state at the least). | An automaton that grows: a variable holds it, its rows and its marks lie in new memory. impl.copyAutomaton and spec.l3Copy, walked. | Drawn automata: a variable that holds an automaton which grows beside a source. | spec.l3Random, walked. | The laws' own marks on automata, and what is held of them, walked. | Drawn automata whose cells turn; spec.l3Safe, walked. -/
import Derived.Test.YtcmgkekaeafgaaaG12
import Derived.Test.YtcmgkekaeafgaaaG02
import Derived.Test.YtcmgkekaeafgaaaG11
import Derived.Test.YtcmgkekaeafgaaaG05
import Derived.Test.YtcmgkekaeafgaaaG04
import Derived.Deep.DeepCutAuto
import Derived.Test.YtcmgkekaeafgaaaG09
import Derived.Test.YtcmgkekaeafgaaaG10
namespace Go.Proofs.Ytcmgkekaeafgaaa
open Go Go.RowKit
set_option maxHeartbeats 4000000

set_option maxRecDepth 100000 in
theorem spec_l2Small {R M : Nat} {w : World} (h : Rd w R M) (hM : M ≤ 800000000) :
    Calls Try.prog 16 #[.pointer (some ⟨R, 0, none⟩)] w (RetG R (M + 30000) 20000 w) := by
  have hRl := h.lt
  have hx0 := (Ext.refl w).alloc (.cells #[.int .i64 0, .int .i64 0, .slice none 0 0] 35)
  have bz5 := Blk.new w 35 #[.int .i64 0, .int .i64 0, .slice none 0 0]
  have hr5 := h.ext hx0
  have hw5 := hx0.dr (R := R)
  have hz1 := bz5.lt
  go_enter Try.func16, Try.ntmps16
  go_wp2_with fail
  have C6 := (num_lit [3, 6, 7, 5, 2] 5 #[.int .i64 3, .int .i64 6, .int .i64 7, .int .i64 5, .int .i64 2] rfl rfl (by omega) (by omega) hr5 (by omega))
  simp only [World.size_alloc] at C6
  refine C6.mono ?_
  rintro e w6 ⟨al, hal, rfl, hr6, hd6⟩
  have hw6 := (hw5.ext ((Ext.refl _).alloc _)).trans hd6
  have bz6 := (bz5.ext ((Ext.refl _).alloc _)).dr hd6 (by omega)
  go_wp2_with fail
  refine (num_lit [2, 3, 1, 3] 4 #[.int .i64 2, .int .i64 3, .int .i64 1, .int .i64 3] rfl rfl (by omega) (by omega) hr6 (by omega)).mono ?_
  rintro e w7 ⟨st, hst, rfl, hr7, hd7⟩
  have hw7 := (hw6.ext ((Ext.refl _).alloc _)).trans hd7
  have bz7 := (bz6.ext ((Ext.refl _).alloc _)).dr hd7 (by omega)
  go_wp2_with fail
  refine (num_lit [2, 3, 4] 3 #[.int .i64 2, .int .i64 3, .int .i64 4] rfl rfl (by omega) (by omega) hr7 (by omega)).mono ?_
  rintro e w8 ⟨fw, _, rfl, hr8, hd8⟩
  have hw8 := (hw7.ext ((Ext.refl _).alloc _)).trans hd8
  have bz8 := (bz7.ext ((Ext.refl _).alloc _)).dr hd8 (by omega)
  obtain ⟨a, rfl, ha⟩ : ∃ a : Nat, al = a ∧ a < 64 := ⟨al.toNat, by simp at hal; omega, by simp at hal; omega⟩
  obtain ⟨p, rfl, hp1, hp⟩ : ∃ p : Nat, st = p ∧ 1 ≤ p ∧ p ≤ 16 := ⟨st.toNat, by simp at hst; omega, by simp at hst; omega, by simp at hst; omega⟩
  clear hal hst
  go_wp2_with fail
  refine (spec_l2Random hr8 (by omega) ha hp1 hp).mono ?_
  rintro e w9 ⟨s9, A9, n9, c9, rfl, hs9, hg9, hn9, hr9, hd9⟩
  have bz9 := bz8.dr hd9 (by omega)
  have hfin9 := hide (ret_fill (R := R) (M := M + 30000) (L := 20000) (c := c9) hs9 hg9 hn9 (hr9.more (by omega)) (hw8.trans hd9) bz9 hRl (Nat.le_refl _))
  have cz9 := bz9.cell
  have fz9 := bz9.frozen
  go_wp2_with fail
  exact bodyPost_ret (v := .agg #[.int .i64 s9.al, .int .i64 s9.st, .slice A9 n9 c9]) (by simp [results, Try.results16, go_sem, cz9]) rfl hfin9.out
end Go.Proofs.Ytcmgkekaeafgaaa

namespace Go.Proofs.Ytcmgkekaeafgaaa
open Go Go.RowKit
set_option maxHeartbeats 2000000

/-- An entry: a system, and where its edges lie. -/
structure Ent where
  s : Sys
  A : Option Addr
  n : Nat
  c : Nat
def Ent.cs (e : Ent) : List Value := [.int .i64 e.s.al, .int .i64 e.s.st, .slice e.A e.n e.c]
def entC (l : List Ent) : List Value := l.flatMap Ent.cs
theorem entC_snoc (l : List Ent) (e : Ent) : entC (l ++ [e]) = entC l ++ e.cs := by simp [entC]
theorem entC_length (l : List Ent) : (entC l).length = l.length * 3 := by
  induction l with
  | nil => rfl
  | cons e r ih =>
    show (e.cs ++ entC r).length = _
    rw [List.length_append, ih, List.length_cons]
    show 3 + _ = _
    omega
theorem entC_get {l : List Ent} {k : Nat} {e : Ent} (h : l[k]? = some e) : (entC l)[k * 3]? = some (.int .i64 e.s.al) ∧ (entC l)[k * 3 + 1]? = some (.int .i64 e.s.st) ∧ (entC l)[k * 3 + 2]? = some (.slice e.A e.n e.c) := by
  induction l generalizing k with
  | nil => simp at h
  | cons a r ih =>
    have e0 : entC (a :: r) = a.cs ++ entC r := rfl
    rw [e0]
    cases k with
    | zero =>
      simp at h
      subst h
      exact ⟨rfl, rfl, rfl⟩
    | succ k =>
      simp only [List.getElem?_cons_succ] at h
      obtain ⟨h1, h2, h3⟩ := ih h
      have hl : a.cs.length = 3 := rfl
      refine ⟨?_, ?_, ?_⟩
      · rw [List.getElem?_append_right (by omega), hl, show (k + 1) * 3 - 3 = k * 3 by omega]; exact h1
      · rw [List.getElem?_append_right (by omega), hl, show (k + 1) * 3 + 1 - 3 = k * 3 + 1 by omega]; exact h2
      · rw [List.getElem?_append_right (by omega), hl, show (k + 1) * 3 + 2 - 3 = k * 3 + 2 by omega]; exact h3
/-- An entry's system lies behind the source. -/
def Ent.ok (e : Ent) (W : World) (R : Nat) : Prop := SysIn W R e.A e.n e.s ∧ e.n ≤ 50000 ∧ e.n ≤ e.c
/-- The value v is a list of drawn systems, newer than the world w0. -/
structure Sld (w0 W : World) (R M : Nat) (v : Value) (l : List Ent) : Prop where
  own : W.ownsRow w0.heap.size 35 3 v l.length (entC l)
  ent : ∀ e ∈ l, e.ok W R
  rd : Rd W R M
  dr : Dr R w0 W
  hR : R < w0.heap.size
/-- A row of systems is no block of edges. -/
theorem own_sys {w : World} {base size n : Nat} {v : Value} {xs : List Value} (h : w.ownsRow base 35 size v n xs) {k : Nat} (hk : v.ownBlock = some k) : ∀ cs, w.heap[k]? ≠ some (.cells cs 65 (0, 0)) := by
  rcases h.2 with ⟨rfl, _⟩ | ⟨g, cap, cur, rfl, _, hh, _⟩
  · simp [Value.ownBlock] at hk
  · have : g = k := by simpa [Value.ownBlock] using hk
    subst this
    intro cs e
    rw [hh] at e
    injection e with e
    injection e with _ e2
    exact absurd e2 (by decide)
section
variable {w0 W W' : World} {R M N : Nat} {v : Value} {l : List Ent}
theorem Ent.ok.dr {e : Ent} (h : e.ok W R) (hd : Dr R W W') : e.ok W' R := ⟨h.1.dr hd, h.2⟩
theorem Sld.drawn (h : Sld w0 W R M v l) (hd : Dr R W W') (hr : Rd W' R N) : Sld w0 W' R N v l :=
  ⟨own_keep h.own hd (fun b h1 e => by have := h.hR; omega), fun e he => (h.ent e he).dr hd, hr, h.dr.trans hd, h.hR⟩
theorem Sld.ext (h : Sld w0 W R M v l) (hx : Ext W W') : Sld w0 W' R M v l := h.drawn hx.dr (h.rd.ext hx)
theorem Sld.more (h : Sld w0 W R M v l) (hM : M ≤ N) : Sld w0 W R N v l := { h with rd := h.rd.more hM }
theorem Sld.less {w1 : World} (h : Sld w0 W R M v l) (hd : Dr R w1 w0) (hR : R < w1.heap.size) : Sld w1 W R M v l :=
  ⟨own_less h.own hd.size, h.ent, h.rd, hd.trans h.dr, hR⟩
/-- What the list's growth leaves as it was. -/
theorem Sld.grown (h : Sld w0 W R M v l) (hg : W.grownBy W' v.ownBlock) : (∀ e : Ent, e.ok W R → e.ok W' R) ∧ Dr R w0 W' ∧ Rd W' R M := by
  have hRG := h.hR
  refine ⟨fun e he => ⟨he.1.frm (Frm.of_grown hg) (fun k hk _ => own_sys h.own hk), he.2⟩, h.dr.grown hg (fun k hk => (h.own.lt k hk).1), h.rd.frm (Frm.of_grown hg) (fun k hk hS => by have := (h.own.lt k hS).1; omega)⟩
/-- One system more. -/
theorem Sld.push {e : Ent} {g cap : Nat} (h : Sld w0 W R M v l) (he : e.ok W R)
    (hown : W'.ownsRow w0.heap.size 35 3 (.slice (some ⟨g, 0, none⟩) (l.length + 1) cap) (l.length + 1) (entC l ++ e.cs)) (hg : W.grownBy W' v.ownBlock) :
    Sld w0 W' R M (.slice (some ⟨g, 0, none⟩) (l.length + 1) cap) (l ++ [e]) := by
  obtain ⟨h1, h2, h3⟩ := h.grown hg
  refine ⟨by rw [entC_snoc, List.length_append, List.length_singleton]; exact hown, fun x hx => ?_, h3, h2, h.hR⟩
  rcases List.mem_append.1 hx with hx | hx
  · exact h1 x (h.ent x hx)
  · rw [List.mem_singleton] at hx
    subst hx
    exact h1 _ he
/-- The list as the contracts read it. -/
theorem Sld.sl {A : Option Addr} {n c : Nat} (h : Sld w0 W R M (.slice A n c) l) (hn : n = l.length) : SLAt W (R + 1) W.heap.size A n (l.map Ent.s) := by
  have ho := h.own
  rw [← hn] at ho
  have hr := Reads.of_own ho
  refine ⟨by simpa using hn, entC l, hr.more (by have := h.hR; omega) (Nat.le_refl _), fun k s hs => ?_⟩
  rw [List.getElem?_map, Option.map_eq_some_iff] at hs
  obtain ⟨e, he, rfl⟩ := hs
  obtain ⟨h1, h2, h3⟩ := entC_get he
  exact ⟨e.A, e.n, e.c, h1, h2, h3, (h.ent e (List.mem_of_getElem? he)).1.at_⟩
end
/-- The empty list. -/
theorem Sld.nil {w0 W : World} {R M : Nat} (hr : Rd W R M) (hd : Dr R w0 W) (hR : R < w0.heap.size) : Sld w0 (W.alloc (.cells #[] 35)) R M (.slice (some ⟨W.heap.size, 0, none⟩) 0 0) [] :=
  ⟨own_less (World.ownsRow_lit W #[] 0 (Nat.le_refl _) (by unfold maxLen; omega) rfl) hd.size, fun _ h => by simp at h, hr.ext ((Ext.refl _).alloc _), hd.alloc _, hR⟩
/-- A list of three. -/
theorem Sld.three {w0 W : World} {R M : Nat} {a b c : Ent} (hr : Rd W R M) (hd : Dr R w0 W) (hR : R < w0.heap.size) (ha : a.ok W R) (hb : b.ok W R) (hc : c.ok W R) :
    Sld w0 (W.alloc (.cells #[.int .i64 a.s.al, .int .i64 a.s.st, .slice a.A a.n a.c, .int .i64 b.s.al, .int .i64 b.s.st, .slice b.A b.n b.c, .int .i64 c.s.al, .int .i64 c.s.st, .slice c.A c.n c.c] 35)) R M (.slice (some ⟨W.heap.size, 0, none⟩) 3 3) [a, b, c] := by
  have hx := (Ext.refl W).alloc (.cells #[.int .i64 a.s.al, .int .i64 a.s.st, .slice a.A a.n a.c, .int .i64 b.s.al, .int .i64 b.s.st, .slice b.A b.n b.c, .int .i64 c.s.al, .int .i64 c.s.st, .slice c.A c.n c.c] 35)
  refine ⟨own_less (World.ownsRow_lit W _ 3 (Nat.le_refl _) (by unfold maxLen; omega) rfl) hd.size, fun e he => ?_, hr.ext hx, hd.alloc _, hR⟩
  simp only [List.mem_cons, List.not_mem_nil, or_false] at he
  rcases he with rfl | rfl | rfl
  · exact ha.dr hx.dr
  · exact hb.dr hx.dr
  · exact hc.dr hx.dr
end Go.Proofs.Ytcmgkekaeafgaaa

namespace Go.Proofs.Ytcmgkekaeafgaaa
open Go Go.RowKit
set_option maxHeartbeats 4000000

theorem pickA {p x : Nat} (h : 1 ≤ (p : Int) → (x : Int) < p) (h0 : (p : Int) < 1 → x = 0) : x < p + 1 := by
  rcases Nat.lt_or_ge 0 p with h1 | h1
  · have := h (by omega); omega
  · have := h0 (by omega); omega
theorem e_filledA {R M M' E x y p : Nat} {w2 w4 : World} (hb : Blk w4 E 65 #[.int .i64 0, .int .i64 0, .int .i64 0]) (hr : Rd w4 R M') (hd : Dr R w2 w4) (hE : w2.heap.size ≤ E) (hR : R < w2.heap.size) (hx : x < p + 1) (hy : y < p + 1) (hM : M' ≤ M) :
    ∃ E' x' y' : Nat, Value.pointer (some ⟨E, 0, none⟩) = .pointer (some ⟨E', 0, none⟩) ∧ x' < p + 1 ∧ y' < p + 1 ∧ w2.heap.size ≤ E' ∧ Blk (((w4.setCell ⟨E, 0, none⟩ (.int .i64 x)).setCell ⟨E, 1, none⟩ (.int .i64 0)).setCell ⟨E, 2, none⟩ (.int .i64 y)) E' 65 #[.int .i64 x', .int .i64 0, .int .i64 y'] ∧ Rd (((w4.setCell ⟨E, 0, none⟩ (.int .i64 x)).setCell ⟨E, 1, none⟩ (.int .i64 0)).setCell ⟨E, 2, none⟩ (.int .i64 y)) R M ∧ Dr R w2 (((w4.setCell ⟨E, 0, none⟩ (.int .i64 x)).setCell ⟨E, 1, none⟩ (.int .i64 0)).setCell ⟨E, 2, none⟩ (.int .i64 y)) := by
  have hf := frm_fill w4 E (.int .i64 x) (.int .i64 0) (.int .i64 y)
  refine ⟨E, x, y, rfl, by omega, by omega, hE, by simpa using ((hb.set_ 0 (.int .i64 x)).set_ 1 (.int .i64 0)).set_ 2 (.int .i64 y), (hr.frm hf (fun k h1 h2 => by omega)).more hM, ?_⟩
  exact ((hd.setNew (p := ⟨E, 0, none⟩) hE _).setNew (p := ⟨E, 1, none⟩) hE _).setNew (p := ⟨E, 2, none⟩) hE _

set_option maxRecDepth 100000 in
theorem spec_l6ChangeA {R M n c L a p : Nat} {A : Option Addr} {es : List Edg} {w : World} (h : Rd w R M) (hM : M ≤ 900000000) (hs : SysIn w R A n ⟨a, p, es⟩) (ha : a < 64) (hp : p ≤ 16) (hfew : Few (p + 1) es) (hn : n ≤ L) (hL : L ≤ 100000) :
    Calls Try.prog 28 #[.pointer (some ⟨R, 0, none⟩), .agg #[.int .i64 a, .int .i64 p, .slice A n c]] w (RetA R (M + 10) (L + 1) w) := by
  have hRl := h.lt
  have hr0 := hs.at_.2
  have hen := hide hs.1
  have Hfew := hide hfew
  have hsm : Sm a := by unfold Sm; omega
  have hx1 : Ext w (((w.alloc (.cells #[.int .i64 a, .int .i64 p, .slice A n c] 35)).alloc (.cells #[.int .i64 0, .int .i64 0, .slice none 0 0] 35)).alloc (.cells #[.int .i64 a, .int .i64 p, .slice none 0 0] 35)) := (((Ext.refl _).alloc _).alloc _).alloc _
  obtain ⟨bS, bZ, bG⟩ := ext_blk3 (Ext.refl (((w.alloc (.cells #[.int .i64 a, .int .i64 p, .slice A n c] 35)).alloc (.cells #[.int .i64 0, .int .i64 0, .slice none 0 0] 35)).alloc (.cells #[.int .i64 a, .int .i64 p, .slice none 0 0] 35)))
  have HbS := hide bS
  have HbZ := hide bZ
  have HbG := hide bG
  have Hx1 := hide hx1
  clear bS bZ bG hx1 hs hfew
  go_enter Try.func28, Try.ntmps28
  go_wp2_with fail
  generalize ((w.alloc (.cells #[.int .i64 a, .int .i64 p, .slice A n c] 35)).alloc (.cells #[.int .i64 0, .int .i64 0, .slice none 0 0] 35)).alloc (.cells #[.int .i64 a, .int .i64 p, .slice none 0 0] 35) = w1 at *
  refine (l19Rd_pick (h.ext Hx1.out) (by omega)).mono ?_
  rintro e w2 ⟨gone, rfl, -, -, hr2, hd2⟩
  have hz1 := HbG.out.lt
  have bS2 := HbS.out.dr hd2 (by omega)
  have bZ2 := HbZ.out.dr hd2 (by omega)
  have bG2 := HbG.out.dr hd2 (by omega)
  have hw2 := Hx1.out.dr.trans hd2
  have cS : ∀ W, Dr R w2 W → ∀ q, W.cell? ⟨w.heap.size, q, none⟩ = #[Value.int .i64 a, .int .i64 p, .slice A n c][q]? := fun W hW => (bS2.dr hW (by omega)).cell
  go_upto_region 3 with fail
  go_cut [7] (fun s7 wx => ∃ E x y : Nat, s7 = .pointer (some ⟨E, 0, none⟩) ∧ x < p + 1 ∧ y < p + 1 ∧ w2.heap.size ≤ E ∧ Blk wx E 65 #[.int .i64 x, .int .i64 0, .int .i64 y] ∧ Rd wx R (M + 3) ∧ Dr R w2 wx)
  case first =>
    refine wp_region_tail (fun X => Dr R w2 X) [10] (Ord.app [0, 1, 2, 4, 5, 6] (Ord.two 3 (Ord.two 7 (Ord.of [8, 9, 10]) 9 (Ord.of [7, 8, 10])) 9 (Ord.of [3, 7, 8, 10]))) (by kernel_rfl) rfl (by kernel_rfl) (by kernel_rfl) (by kernel_rfl) (fun _ _ _ _ _ h => h) (by first | assumption | exact (Ext.refl _).drew | exact (Dr.refl _ _).drew | (refine Ext.drew ?_; assumption)) ?_
    repeat (first | (refine tseq_skip rfl rfl (by assumption) ?_; simp only [Act.put, List.setIfInBounds_toArray, List.set_cons_zero, List.set_cons_succ]) | (refine tseq_pure (v := ?_) rfl rfl rfl rfl (fun X => ?_) ?_; rotate_left; (focus (go_simp <;> with_reducible rfl)); simp only [Act.put, List.setIfInBounds_toArray, List.set_cons_zero, List.set_cons_succ]) | (refine tseq_read (v := ?_) rfl rfl rfl rfl (fun X hX => ?_) ?_; rotate_left; (focus (go_simp <;> with_reducible rfl)); simp only [Act.put, List.setIfInBounds_toArray, List.set_cons_zero, List.set_cons_succ]))
    refine tseq_both rfl rfl rfl rfl (fun K hK => ?_) (fun K hK => ?_)
    · go_simp
      refine (l19Rd_pick (n := p) (hr2.ext ((Ext.refl _).drew)) (by omega)).mono ?_
      rintro e w3 ⟨x, rfl, hx, hx0, hr3, hd3⟩
      have hd23 : Dr R w2 w3 := ((Dr.refl R w2).drew).trans hd3
      refine hK.out _ _ hd23 ?_
      (try simp only [Act.put, List.setIfInBounds_toArray, List.set_cons_zero, List.set_cons_succ])
      refine tseq_both rfl rfl rfl rfl (fun K hK => ?_) (fun K hK => ?_)
      · go_simp
        refine (l19Rd_pick (n := p) hr3 (by omega)).mono ?_
        rintro e w4 ⟨y, rfl, hy, hy0, hr4, hd4⟩
        have hd24 := hd23.trans hd4
        refine hK.out _ _ hd24 ?_
        (try simp only [Act.put, List.setIfInBounds_toArray, List.set_cons_zero, List.set_cons_succ])
        repeat (first | (refine tseq_skip rfl rfl (by assumption) ?_; simp only [Act.put, List.setIfInBounds_toArray, List.set_cons_zero, List.set_cons_succ]) | (refine tseq_pure (v := ?_) rfl rfl rfl rfl (fun X => ?_) ?_; rotate_left; (focus (go_simp <;> with_reducible rfl)); simp only [Act.put, List.setIfInBounds_toArray, List.set_cons_zero, List.set_cons_succ]) | (refine tseq_read (v := ?_) rfl rfl rfl rfl (fun X hX => ?_) ?_; rotate_left; (focus (go_simp <;> with_reducible rfl)); simp only [Act.put, List.setIfInBounds_toArray, List.set_cons_zero, List.set_cons_succ]))
        (refine tseq_step rfl rfl rfl (fun K hK => ?_); go_simp)
        refine hK.out _ _ (hd24.alloc _) ?_
        (try simp only [Act.put, List.setIfInBounds_toArray, List.set_cons_zero, List.set_cons_succ])
        repeat (first | (refine tseq_skip rfl rfl (by assumption) ?_; simp only [Act.put, List.setIfInBounds_toArray, List.set_cons_zero, List.set_cons_succ]) | (refine tseq_pure (v := ?_) rfl rfl rfl rfl (fun X => ?_) ?_; rotate_left; (focus (go_simp <;> with_reducible rfl)); simp only [Act.put, List.setIfInBounds_toArray, List.set_cons_zero, List.set_cons_succ]) | (refine tseq_read (v := ?_) rfl rfl rfl rfl (fun X hX => ?_) ?_; rotate_left; (focus (go_simp <;> with_reducible rfl)); simp only [Act.put, List.setIfInBounds_toArray, List.set_cons_zero, List.set_cons_succ]))
        (refine tseq_last rfl rfl rfl rfl (fun K hK => ?_))
        go_simp
        refine hK.out _ _ ?_
        refine tseq_nil ?_
        go_wp2_with fail
        go_meet
        exact ⟨w4.heap.size, x, y, rfl, by omega, by omega, hd24.size, Blk.new _ _ _, hr4.ext ((Ext.refl _).alloc _), hd24.alloc _⟩
      · go_simp
        have hx3 := (Ext.refl w3).alloc (.cells #[.int .i64 0, .int .i64 0, .int .i64 0] 65)
        have hb3 := Blk.new w3 65 #[.int .i64 0, .int .i64 0, .int .i64 0]
        have hd23' := hd23.ext hx3
        have hr3' := hr3.ext hx3
        have hRw := hr3.lt
        refine hK.out _ _ hd23' ?_
        generalize w3.alloc (.cells #[.int .i64 0, .int .i64 0, .int .i64 0] 65) = w3' at *
        (try simp only [Act.put, List.setIfInBounds_toArray, List.set_cons_zero, List.set_cons_succ])
        (refine tseq_step rfl rfl rfl (fun K hK => ?_); go_simp)
        refine (l19Rd_pick (n := p) hr3' (by omega)).mono ?_
        rintro e w4 ⟨y, rfl, hy, hy0, hr4, hd4⟩
        have hd24 := hd23'.trans hd4
        have hb4 := hb3.dr hd4 (by omega)
        refine hK.out _ _ hd24 ?_
        (try simp only [Act.put, List.setIfInBounds_toArray, List.set_cons_zero, List.set_cons_succ])
        repeat (first | (refine tseq_skip rfl rfl (by assumption) ?_; simp only [Act.put, List.setIfInBounds_toArray, List.set_cons_zero, List.set_cons_succ]) | (refine tseq_pure (v := ?_) rfl rfl rfl rfl (fun X => ?_) ?_; rotate_left; (focus (go_simp <;> with_reducible rfl)); simp only [Act.put, List.setIfInBounds_toArray, List.set_cons_zero, List.set_cons_succ]) | (refine tseq_read (v := ?_) rfl rfl rfl rfl (fun X hX => ?_) ?_; rotate_left; (focus (go_simp <;> with_reducible rfl)); simp only [Act.put, List.setIfInBounds_toArray, List.set_cons_zero, List.set_cons_succ]))
        have cE := hb4.cell
        have fE := hb4.frozen
        (refine tseq_last rfl rfl rfl rfl (fun K hK => ?_))
        go_simp
        refine hK.out _ _ ?_
        refine tseq_nil ?_
        go_wp2_with fail
        go_meet
        exact e_filledA hb4 hr4 hd24 hd23.size hr2.lt (pickA hx hx0) (pickA hy hy0) (by omega)
    · go_simp
      have hx2 := ((Ext.refl w2).alloc (.cells #[.int .i64 0, .int .i64 0, .int .i64 0] 65)).drew
      have hb2 : Blk (w2.alloc (.cells #[.int .i64 0, .int .i64 0, .int .i64 0] 65)).drew w2.heap.size 65 #[.int .i64 0, .int .i64 0, .int .i64 0] := Blk.new w2 _ _
      have hr2' := hr2.ext hx2
      have hRw := hr2.lt
      have hd22 : Dr R w2 (w2.alloc (.cells #[.int .i64 0, .int .i64 0, .int .i64 0] 65)).drew := hx2.dr
      refine hK.out _ _ hd22 ?_
      generalize (w2.alloc (.cells #[.int .i64 0, .int .i64 0, .int .i64 0] 65)).drew = w2' at *
      (try simp only [Act.put, List.setIfInBounds_toArray, List.set_cons_zero, List.set_cons_succ])
      (refine tseq_step rfl rfl rfl (fun K hK => ?_); go_simp)
      refine (l19Rd_pick (n := p) hr2' (by omega)).mono ?_
      rintro e w3 ⟨x, rfl, hx, hx0, hr3, hd3⟩
      have hd23 := hd22.trans hd3
      have hb3 := hb2.dr hd3 (by omega)
      refine hK.out _ _ hd23 ?_
      (try simp only [Act.put, List.setIfInBounds_toArray, List.set_cons_zero, List.set_cons_succ])
      (refine tseq_step rfl rfl rfl (fun K hK => ?_); go_simp)
      refine (l19Rd_pick (n := p) hr3 (by omega)).mono ?_
      rintro e w4 ⟨y, rfl, hy, hy0, hr4, hd4⟩
      have hd24 := hd23.trans hd4
      have hb4 := hb3.dr hd4 (by omega)
      refine hK.out _ _ hd24 ?_
      (try simp only [Act.put, List.setIfInBounds_toArray, List.set_cons_zero, List.set_cons_succ])
      repeat (first | (refine tseq_skip rfl rfl (by assumption) ?_; simp only [Act.put, List.setIfInBounds_toArray, List.set_cons_zero, List.set_cons_succ]) | (refine tseq_pure (v := ?_) rfl rfl rfl rfl (fun X => ?_) ?_; rotate_left; (focus (go_simp <;> with_reducible rfl)); simp only [Act.put, List.setIfInBounds_toArray, List.set_cons_zero, List.set_cons_succ]) | (refine tseq_read (v := ?_) rfl rfl rfl rfl (fun X hX => ?_) ?_; rotate_left; (focus (go_simp <;> with_reducible rfl)); simp only [Act.put, List.setIfInBounds_toArray, List.set_cons_zero, List.set_cons_succ]))
      have cE := hb4.cell
      have fE := hb4.frozen
      (refine tseq_last rfl rfl rfl rfl (fun K hK => ?_))
      go_simp
      refine hK.out _ _ ?_
      refine tseq_nil ?_
      go_wp2_with fail
      go_meet
      exact e_filledA hb4 hr4 hd24 (Nat.le_refl _) hRw (pickA hx hx0) (pickA hy hy0) (by omega)
  case rest =>
    obtain ⟨E, x, y, rfl, hx, hy, hE, hbE, hr3, hd3⟩ := hcut
    have hw3 := hw2.trans hd3
    have bS3 := bS2.dr hd3 (by omega)
    have bZ3 := bZ2.dr hd3 (by omega)
    have bG3 := bG2.dr hd3 (by omega)
    have hz2 := bG2.lt
    clear cS
    have cS := bS3.cell
    go_wp2_with fail
    refine (spec_l1Letters a hsm _).mono ?_
    rintro e w4 ⟨B, d, rfl, hown4, hx4⟩
    have hw4 := hw3.ext hx4
    have bS4 := bS3.ext hx4
    have bZ4 := bZ3.ext hx4
    have bG4 := bG3.ext hx4
    have bE4 := hbE.ext hx4
    have hr4 := hr3.ext hx4
    have hE3 := hbE.lt
    have hl6 := letters_length a 6
    have hlm := hide (fun k (hk : k ∈ letters a 6) => (mem_letters.1 hk).1)
    have hrd4 := (Reads.of_own hown4)
    have hz23 := hd3.size
    have hz34 := hx4.size
    have hRz := hr2.lt
    clear cS hown4 hx4 bS3 bZ3 bG3 hbE hr3 hw3 HbS HbZ HbG Hx1 bS2 bZ2 bG2 hw2 hr2
    generalize letters a 6 = ls at *
    go_upto_region 5 with fail
    go_cut [9] (fun s9 wx => ∃ b : Bool, s9 = .bool b ∧ (b = true → 0 < ls.length) ∧ Rd wx R (M + 4) ∧ Dr R w4 wx)
    case first =>
      by_cases hl : 0 < ls.length
      · go_wp2_with fail
        refine (l19Rd_pick hr4 (by omega)).mono ?_
        rintro e w5 ⟨z, rfl, -, -, hr5, hd5⟩
        go_wp2_with fail
        go_meet
        exact ⟨_, rfl, fun _ => hl, hr5, hd5⟩
      · go_wp2_with fail
        go_meet
        exact ⟨false, rfl, fun h => by (first | cases h | omega), hr4.more (by omega), Dr.refl _ _⟩
    case rest =>
      obtain ⟨b, rfl, hbl, hr5, hd5⟩ := hcut
      go_upto_if 42 with fail
      go_cut [] (fun wx => ∃ l : Nat, l < 6 ∧ Blk wx E 65 #[.int .i64 x, .int .i64 l, .int .i64 y] ∧ Blk wx w.heap.size 35 #[.int .i64 a, .int .i64 p, .slice A n c] ∧ Blk wx (w.heap.size + 1) 35 #[.int .i64 0, .int .i64 0, .slice none 0 0] ∧ Blk wx (w.heap.size + 1 + 1) 35 #[.int .i64 a, .int .i64 p, .slice none 0 0] ∧ Rd wx R (M + 5) ∧ Dr R w wx)
      case first =>
        have bS5 := bS4.dr hd5 (by omega)
        have bZ5 := bZ4.dr hd5 (by omega)
        have bG5 := bG4.dr hd5 (by omega)
        have bE5 := bE4.dr hd5 (by omega)
        have hw5 := hw4.trans hd5
        clear bS4 bZ4 bG4 bE4 hw4 hr4
        cases b
        · go_wp2_with fail
          go_meet
          exact ⟨0, by omega, bE5, bS5, bZ5, bG5, hr5.more (by omega), hw5⟩
        · have hl0 := hbl rfl
          have hl1 : (1 : Int) ≤ (ls.length : Int) := by omega
          clear hbl
          go_wp2_with fail
          refine (l19Rd_pick hr5 (by omega)).mono ?_
          rintro e w6 ⟨z, rfl, hz, -, hr6, hd6⟩
          have hzl := hz hl1
          have hzl' : z < ls.length := by omega
          obtain ⟨ad, l, rfl, _, _, hl, hlc⟩ := ((hrd4.dr hd5 (by omega)).dr hd6 (by omega)).nat hzl'
          have hl6' := hlm.out l (List.mem_of_getElem? hl.out)
          have bS6 := bS5.dr hd6 (by omega)
          have bZ6 := bZ5.dr hd6 (by omega)
          have bG6 := bG5.dr hd6 (by omega)
          have bE6 := bE5.dr hd6 (by omega)
          have hw6 := hw5.trans hd6
          have cE := bE6.cell
          have fE := bE6.frozen
          have hf := Frm.setCell w6 E 1 (.int .i64 (l : Nat))
          clear hz bS5 bZ5 bG5 bE5 hw5
          go_wp2_with fail
          go_meet
          exact ⟨l, hl6', by simpa using bE6.set_ 1 (.int .i64 (l : Nat)), bS6.frm hf (by omega), bZ6.frm hf (by omega), bG6.frm hf (by omega), (hr6.frm hf (fun k h1 h2 => by omega)), hw6.setNew (by dsimp only; omega) _⟩
      case rest =>
        obtain ⟨l, hl, bE, bS, bZ, bG, hrB, hdB⟩ := hcut
        clear bS4 bZ4 bG4 bE4 hw4 hr4 hd5 hr5 hlm hrd4 hl6 hbl
        obtain ⟨wB, hwB⟩ : ∃ wB, wB = wc := ⟨_, rfl⟩
        subst hwB
        have hacc : Acc w wB wB R (w.heap.size + 1 + 1) (M + 5) a p (.slice none 0 0) [] := ⟨bG, World.ownsRow_nil _ _ _ _, hrB, hdB, Frm.refl _ _, hRl, hdB.size, by omega⟩
        have hEz := bE.lt
        have hSz := bG.lt
        clear bG
        go_wp2_with fail
        go_loopw [9, 10] (fun v i wr => ∃ (b : Bool) (k : Nat), k ≤ n ∧ i = .int .i64 k ∧ v = .bool b ∧ ∃ (u : Value) (fs : List Edg), Acc w wB wr R (w.heap.size + 1 + 1) (M + 5) a p u fs ∧ fs.length + b.toNat ≤ k + 1 ∧ Hid (Few (p + 1) fs)) (fun _ i _ => n - (intOf i).toNat)
        case atStart => exact ⟨b, 0, Nat.zero_le _, rfl, rfl, _, [], hacc, by cases b <;> decide, few_nil (p + 1)⟩
        case round =>
          clear hacc
          obtain ⟨b, k, hk, rfl, rfl, u, fs, hacc, hlen, hfw⟩ := hrel
          have bS1 := bS.frm hacc.fr (by omega)
          have bE1 := bE.frm hacc.fr (by omega)
          have cS := bS1.cell
          have hxyl : (0 ≤ (x : Int) ∧ (x : Int) < ((p + 1 : Nat) : Int)) ∧ (0 ≤ (l : Int) ∧ (l : Int) < 6) ∧ (0 ≤ (y : Int) ∧ (y : Int) < ((p + 1 : Nat) : Int)) := by omega
          by_cases hlt : k < n
          · obtain ⟨b0, o0, ed, rfl, hlo, hhi, he, c0, c1, c2⟩ := (hr0.dr hacc.dr (by omega)).edge hlt
            have hedf := hide (Hfew.out ed (List.mem_of_getElem? he.out))
            go_upto_region 11 with fail
            clear cS
            go_cut [67] (fun s wx => ∃ q : Bool, s = .bool q ∧ (q = true → b = true) ∧ Ext wr wx)
            case first =>
              have cS : ∀ W, Ext wr W → ∀ q, W.cell? ⟨w.heap.size, q, none⟩ = #[Value.int .i64 a, .int .i64 p, .slice (some ⟨b0, o0, none⟩) n c][q]? := fun W hW => (bS1.ext hW).cell
              have cE : ∀ W, Ext wr W → ∀ q, W.cell? ⟨E, q, none⟩ = #[Value.int .i64 x, .int .i64 l, .int .i64 y][q]? := fun W hW => (bE1.ext hW).cell
              have C0 : ∀ W, Ext wr W → W.cell? ⟨b0, o0 + k * 3, none⟩ = some (.int .i64 ed.fr) := fun W hW => hW.cell_some c0
              have C1 : ∀ W, Ext wr W → W.cell? ⟨b0, o0 + k * 3 + 1, none⟩ = some (.int .i64 ed.le) := fun W hW => hW.cell_some c1
              have C2 : ∀ W, Ext wr W → W.cell? ⟨b0, o0 + k * 3 + 2, none⟩ = some (.int .i64 ed.to) := fun W hW => hW.cell_some c2
              have hww := Ext.refl wr
              cases b
              · go_wp2_with fail
                go_quiet (fail)
                go_wp2_with fail
                go_meet
                exact ⟨false, rfl, fun h => h, (Ext.refl _).drewN _⟩
              · go_wp2_with fail
                go_region_held3 (fun W => Ext wr W) (first | assumption | (refine Ext.drew ?_; assumption) | (refine Ext.trans ?_ (by assumption); assumption) | (refine Ext.trans ?_ (by assumption); refine Ext.drew ?_; assumption)) ((go_at_call 47; refine (spec_l2Before (a := ⟨x, l, y⟩) (b := ed)).mono ?_; rintro e w5 ⟨rfl, hx5⟩))
                go_wp2_with fail
                go_meet
                exact ⟨_, rfl, fun _ => by trivial, by assumption⟩
            case rest =>
              obtain ⟨q, rfl, hq, hxc⟩ := hcut
              replace hacc := hacc.ext hxc
              replace bE1 := bE1.ext hxc
              go_upto_if 67 with fail
              go_cut [9] (fun s9 wx => ∃ (b : Bool) (u : Value) (fs : List Edg), s9 = .bool b ∧ Acc w wB wx R (w.heap.size + 1 + 1) (M + 5) a p u fs ∧ fs.length + b.toNat ≤ k + 1 ∧ Hid (Few (p + 1) fs))
              case first =>
                cases q
                · go_wp2_with fail
                  go_meet
                  exact ⟨b, u, fs, rfl, hacc, hlen, hfw⟩
                · obtain rfl := hq rfl
                  have cG := hacc.blk.cell
                  have cE := bE1.cell
                  simp only [Bool.toNat_true] at hlen
                  clear hq
                  go_wp2_with (at_builtin; refine wpList_push3 wB _ rfl _ _ _ rfl 65 _ 3 24 Try.underlying33 info_edge rfl (by decide) u fs.length (edgeCells fs) _ _ rfl rfl hacc.fr.size hacc.own rfl (by simp [Value.oneCell']) (by unfold maxLen; omega) (by omega) ?_; intro g cap w3 hown3 hg3 hat3 hlt3; obtain ⟨h1, h2, h3⟩ := hacc.push (e := ⟨x, l, y⟩) hown3 hg3 hat3; have h1' := h1.out)
                  go_meet
                  exact ⟨false, _, _, rfl, h3, by simp; omega, few_snoc hfw.out hxyl⟩
              case rest =>
                clear hacc hlen hfw bS1 bE1 c0 c1 c2 hxc hq
                obtain ⟨b, u, fs, rfl, hacc, hlen, hfw⟩ := hcut
                obtain ⟨wr, hwr⟩ : ∃ wr, wr = wc := ⟨_, rfl⟩
                subst hwr
                have bS1 := bS.frm hacc.fr (by omega)
                have bE1 := bE.frm hacc.fr (by omega)
                obtain ⟨c0, c1, c2⟩ := (hr0.dr hacc.dr (by omega)).edge2 he.out
                go_upto_region 14 with fail
                go_cut [83] (fun s wx => ∃ q : Bool, s = .bool q ∧ Ext wr wx)
                case first =>
                  have cS : ∀ W, Ext wr W → ∀ q, W.cell? ⟨w.heap.size, q, none⟩ = #[Value.int .i64 a, .int .i64 p, .slice (some ⟨b0, o0, none⟩) n c][q]? := fun W hW => (bS1.ext hW).cell
                  have cE : ∀ W, Ext wr W → ∀ q, W.cell? ⟨E, q, none⟩ = #[Value.int .i64 x, .int .i64 l, .int .i64 y][q]? := fun W hW => (bE1.ext hW).cell
                  have C0 : ∀ W, Ext wr W → W.cell? ⟨b0, o0 + k * 3, none⟩ = some (.int .i64 ed.fr) := fun W hW => hW.cell_some c0
                  have C1 : ∀ W, Ext wr W → W.cell? ⟨b0, o0 + k * 3 + 1, none⟩ = some (.int .i64 ed.le) := fun W hW => hW.cell_some c1
                  have C2 : ∀ W, Ext wr W → W.cell? ⟨b0, o0 + k * 3 + 2, none⟩ = some (.int .i64 ed.to) := fun W hW => hW.cell_some c2
                  have hww := Ext.refl wr
                  cases b
                  · go_wp2_with fail
                    go_quiet (fail)
                    go_wp2_with fail
                    go_meet
                    exact ⟨false, rfl, (Ext.refl _).drewN _⟩
                  · go_wp2_with fail
                    refine wp_region_ord (fun X => Ext wr X) [0, 1, 2, 3, 4, 5, 6, 7, 8, 9] (by kernel_rfl) rfl (by kernel_rfl) (by kernel_rfl) (fun _ _ _ _ _ h => h) (by first | assumption | exact (Ext.refl _).drew | (refine Ext.drew ?_; assumption)) (fun hS => ?_)
                    repeat (first | (refine seq_skip rfl rfl (by assumption) ?_; simp only [Act.put, List.setIfInBounds_toArray, List.set_cons_zero, List.set_cons_succ]) | (refine seq_read (v := ?_) rfl rfl rfl (fun X hX => ?_) (by assumption) ?_; rotate_left; (focus (go_simp <;> with_reducible rfl)); simp only [Act.put, List.setIfInBounds_toArray, List.set_cons_zero, List.set_cons_succ]))
                    have HE := eq_edge (x : Int) (l : Int) (y : Int) ed.fr ed.le ed.to
                    refine seq_read (v := .bool (((x : Int) == ed.fr) && (((l : Int) == ed.le) && ((y : Int) == ed.to)))) rfl rfl rfl (fun X hX => ?_) (by assumption) ?_
                    · go_simp
                    · clear HE
                      (try simp only [Act.put, List.setIfInBounds_toArray, List.set_cons_zero, List.set_cons_succ])
                      generalize (((x : Int) == ed.fr) && (((l : Int) == ed.le) && ((y : Int) == ed.to))) = q
                      repeat (first | (refine seq_skip rfl rfl (by assumption) ?_; simp only [Act.put, List.setIfInBounds_toArray, List.set_cons_zero, List.set_cons_succ]) | (refine seq_read (v := ?_) rfl rfl rfl (fun X hX => ?_) (by assumption) ?_; rotate_left; (focus (go_simp <;> with_reducible rfl)); simp only [Act.put, List.setIfInBounds_toArray, List.set_cons_zero, List.set_cons_succ]))
                      refine seq_nil ?_
                      go_wp2_with fail
                      go_meet
                      exact ⟨_, rfl, (Ext.refl _).drew⟩
                case rest =>
                  obtain ⟨q, rfl, hxc⟩ := hcut
                  replace hacc := hacc.ext hxc
                  replace bS1 := bS1.ext hxc
                  replace c0 := hxc.cell_some c0
                  replace c1 := hxc.cell_some c1
                  replace c2 := hxc.cell_some c2
                  clear bE1 hxc
                  go_upto_if 83 with fail
                  go_cut [9] (fun s9 wx => ∃ b' : Bool, s9 = .bool b' ∧ b'.toNat ≤ b.toNat ∧ wc = wx)
                  case first =>
                    cases q
                    · go_wp2_with fail
                      go_meet
                      exact ⟨b, rfl, Nat.le_refl _, rfl⟩
                    · go_wp2_with fail
                      go_meet
                      exact ⟨false, rfl, Nat.zero_le _, rfl⟩
                  case rest =>
                    obtain ⟨b', rfl, hbb, hwc⟩ := hcut
                    subst hwc
                    by_cases hgo : k = gone
                    · have hne : ((k : Int) != (gone : Int)) = false := by simp [hgo]
                      have Hgo := hide hgo
                      clear hgo
                      go_wp2_with fail
                      go_roundw
                      case rel => exact ⟨b', k + 1, by omega, by go_num, rfl, u, fs, hacc, by omega, hfw⟩
                      case measure => simp [intOf]; omega
                    · have hne : ((k : Int) != (gone : Int)) = true := by simp; omega
                      clear hgo
                      obtain ⟨wr, hwr⟩ : ∃ wr, wr = wc := ⟨_, rfl⟩
                      subst hwr
                      have cS : ∀ W, Ext wr W → ∀ q, W.cell? ⟨w.heap.size, q, none⟩ = #[Value.int .i64 a, .int .i64 p, .slice (some ⟨b0, o0, none⟩) n c][q]? := fun W hW => (bS1.ext hW).cell
                      have cG : ∀ W, Ext wr W → ∀ q, W.cell? ⟨w.heap.size + 1 + 1, q, none⟩ = #[Value.int .i64 a, .int .i64 p, u][q]? := fun W hW => (hacc.blk.ext hW).cell
                      have C0 : ∀ W, Ext wr W → W.cell? ⟨b0, o0 + k * 3, none⟩ = some (.int .i64 ed.fr) := fun W hW => hW.cell_some c0
                      have C1 : ∀ W, Ext wr W → W.cell? ⟨b0, o0 + k * 3 + 1, none⟩ = some (.int .i64 ed.le) := fun W hW => hW.cell_some c1
                      have C2 : ∀ W, Ext wr W → W.cell? ⟨b0, o0 + k * 3 + 2, none⟩ = some (.int .i64 ed.to) := fun W hW => hW.cell_some c2
                      go_wp2_with fail
                      refine wp_region_tail (fun X => Ext wr X) [8, 10] (Ord.of [0, 1, 2, 3, 4, 5, 6, 7, 8, 9, 10]) (by kernel_rfl) rfl (by kernel_rfl) (by kernel_rfl) (by kernel_rfl) (fun _ _ _ _ _ h => h) (by first | assumption | exact (Ext.refl _).drew | exact (Dr.refl _ _).drew | (refine Ext.drew ?_; assumption)) ?_
                      repeat (first | (refine tseq_skip rfl rfl (by assumption) ?_; simp only [Act.put, List.setIfInBounds_toArray, List.set_cons_zero, List.set_cons_succ]) | (refine tseq_pure (v := ?_) rfl rfl rfl rfl (fun X => ?_) ?_; rotate_left; (focus (go_simp <;> with_reducible rfl)); simp only [Act.put, List.setIfInBounds_toArray, List.set_cons_zero, List.set_cons_succ]) | (refine tseq_read (v := ?_) rfl rfl rfl rfl (fun X hX => ?_) ?_; rotate_left; (focus (go_simp <;> with_reducible rfl)); simp only [Act.put, List.setIfInBounds_toArray, List.set_cons_zero, List.set_cons_succ]))
                      (refine tseq_step rfl rfl rfl (fun K hK => ?_); go_simp)
                      refine hK.out _ _ ((Ext.refl _).drew.alloc _) ?_
                      (try simp only [Act.put, List.setIfInBounds_toArray, List.set_cons_zero, List.set_cons_succ])
                      (refine tseq_last rfl rfl rfl rfl (fun K hK => ?_))
                      refine wp_push wB wr.drew _ _ _ rfl 65 _ 3 24 Try.underlying33 info_edge rfl (by decide) u fs.length (edgeCells fs) _ _ rfl rfl hacc.fr.size hacc.own rfl (by simp [Value.oneCell']) (by unfold maxLen; omega) (by omega) ?_
                      intro g cap w3 hown3 hg3 hat3 hlt3
                      refine hK.out _ _ ?_
                      (try simp only [Act.put, List.setIfInBounds_toArray, List.set_cons_zero, List.set_cons_succ])
                      repeat (first | (refine tseq_skip rfl rfl (by assumption) ?_; simp only [Act.put, List.setIfInBounds_toArray, List.set_cons_zero, List.set_cons_succ]) | (refine tseq_pure (v := ?_) rfl rfl rfl rfl (fun X => ?_) ?_; rotate_left; (focus (go_simp <;> with_reducible rfl)); simp only [Act.put, List.setIfInBounds_toArray, List.set_cons_zero, List.set_cons_succ]) | (refine tseq_read (v := ?_) rfl rfl rfl rfl (fun X hX => ?_) ?_; rotate_left; (focus (go_simp <;> with_reducible rfl)); simp only [Act.put, List.setIfInBounds_toArray, List.set_cons_zero, List.set_cons_succ]))
                      obtain ⟨h1, h2, h3⟩ := (hacc.ext ((Ext.refl _).drew)).push (e := ed) (W' := w3) hown3 hg3 hat3
                      have h1' := h1.out
                      (refine tseq_last rfl rfl rfl rfl (fun K hK => ?_))
                      go_simp
                      refine hK.out _ _ ?_
                      refine tseq_nil ?_
                      go_wp2_with fail
                      go_roundw
                      case rel => exact ⟨b', k + 1, by omega, by go_num, rfl, _, _, h3, by simp; omega, few_snoc hfw.out hedf.out⟩
                      case measure => simp [intOf]; omega
          · obtain rfl : k = n := by omega
            go_upto_if 97 with fail
            go_cut [] (fun wx => ∃ (u : Value) (fs : List Edg), Acc w wB wx R (w.heap.size + 1 + 1) (M + 5) a p u fs ∧ fs.length ≤ k + 1 ∧ Hid (Few (p + 1) fs))
            case first =>
              cases b
              · go_wp2_with fail
                go_meet
                exact ⟨u, fs, hacc, by simpa using hlen, hfw⟩
              · have cG := hacc.blk.cell
                have cE := bE1.cell
                simp only [Bool.toNat_true] at hlen
                go_wp2_with (at_builtin; refine wpList_push3 wB _ rfl _ _ _ rfl 65 _ 3 24 Try.underlying33 info_edge rfl (by decide) u fs.length (edgeCells fs) _ _ rfl rfl hacc.fr.size hacc.own rfl (by simp [Value.oneCell']) (by unfold maxLen; omega) (by omega) ?_; intro g cap w3 hown3 hg3 hat3 hlt3; obtain ⟨h1, h2, h3⟩ := hacc.push (e := ⟨x, l, y⟩) hown3 hg3 hat3; have h1' := h1.out)
                go_meet
                exact ⟨_, _, h3, by simp; omega, few_snoc hfw.out hxyl⟩
            case rest =>
              clear hacc hlen hfw cS bS1 bE1
              obtain ⟨u, fs, hacc, hlen, hfw⟩ := hcut
              obtain ⟨A', n', c', rfl⟩ := hacc.form
              obtain ⟨rfl, _⟩ := hacc.reads
              have hcap := own_cap hacc.own
              have cG := hacc.blk.cell
              have bz2 := bZ.frm hacc.fr (by omega)
              have cz := bz2.cell
              have hzz := bZ.lt
              have fz := bz2.frozen
              obtain ⟨f1, f2, f3⟩ := hacc.fin (Z := w.heap.size + 1) (by omega) (by omega) (.int .i64 a) (.int .i64 p) (.slice A' fs.length c')
              have Hfin := hide (show RetA R (M + 10) (L + 1) w (.returned (.agg #[.int .i64 a, .int .i64 p, .slice A' fs.length c'])) _ from ⟨⟨a, p, fs⟩, A', fs.length, c', rfl, f1, by omega, f2.more (by omega), f3⟩)
              clear f1 f2 f3
              go_wp2_with fail
              exact bodyPost_ret (v := .agg #[.int .i64 a, .int .i64 p, .slice A' fs.length c']) (by simp [results, Try.results28, go_sem, cz]) rfl Hfin.out
theorem spec_l6ChangeF {R M n c L : Nat} {A : Option Addr} {s : Sys} {w : World} (h : Rd w R M) (hM : M ≤ 900000000) (hs : SysIn w R A n s) (hf : Fair s) (hn : n ≤ L) (hL : L ≤ 100000) :
    Calls Try.prog 28 #[.pointer (some ⟨R, 0, none⟩), .agg #[.int .i64 s.al, .int .i64 s.st, .slice A n c]] w (RetA R (M + 10) (L + 1) w) := by
  obtain ⟨al, st, es⟩ := s
  obtain ⟨a, p, h1, h2, h3, h5, h6⟩ := hf
  simp only at h1 h3 h6
  subst h1; subst h3
  exact spec_l6ChangeA h hM hs h2 h5 h6 hn hL
end Go.Proofs.Ytcmgkekaeafgaaa

namespace Go.Proofs.Ytcmgkekaeafgaaa
open Go Go.RowKit
set_option maxHeartbeats 2000000

theorem fillA_frm (W : World) (Z : Nat) (u0 u1 u2 : Value) : Frm (fun k => k = Z) W (((W.setCell ⟨Z, 0, none⟩ u0).setCell ⟨Z, 1, none⟩ u1).setCell ⟨Z, 2, none⟩ u2) :=
  ((Frm.setCell W Z 0 u0).trans (Frm.setCell _ Z 1 u1)).trans (Frm.setCell _ Z 2 u2)
theorem fillA_blk {w : World} {Z : Nat} {cs : Array Value} {t : TypeId} (h : Blk w Z t cs) (hc : cs.size = 3) (u0 u1 u2 : Value) : Blk (((w.setCell ⟨Z, 0, none⟩ u0).setCell ⟨Z, 1, none⟩ u1).setCell ⟨Z, 2, none⟩ u2) Z t #[u0, u1, u2] := by
  obtain ⟨l⟩ := cs
  match l, hc with
  | [a, b, c], _ => simpa using ((h.set_ 0 u0).set_ 1 u1).set_ 2 u2
/-- A block of another type is not one's own. -/
theorem own_far {w : World} {base : Nat} {e t : TypeId} {size n G : Nat} {v : Value} {xs : List Value} {cs : Array Value} (h : w.ownsRow base e size v n xs) (hB : Blk w G t cs) (hne : e ≠ t) {b : Nat} (hv : v.ownBlock = some b) : b ≠ G := by
  rintro rfl
  rcases h.2 with ⟨rfl, _⟩ | ⟨g, cap, cur, rfl, _, hh, _⟩
  · simp [Value.ownBlock] at hv
  · have hg : g = b := by simpa [Value.ownBlock] using hv
    subst hg
    unfold Blk at hB
    rw [hh] at hB
    injection hB with hB
    injection hB with _ ht
    exact absurd ht hne
/-- The variable G holds an automaton that grows. -/
structure Gra (w0 W : World) (G : Nat) (al : Int) (v : Value) (ls : List (List Int)) (vA : Value) (acc : List Bool) : Prop where
  blk : Blk W G 27 #[.int .i64 al, v, vA]
  own : OwnLL W w0.heap.size v ls
  acc : W.ownsRow w0.heap.size 4 1 vA acc.length (bools acc)
  ext : Ext w0 W
  hG : w0.heap.size ≤ G
section
variable {w0 W W' : World} {G : Nat} {al : Int} {v vA : Value} {ls : List (List Int)} {acc : List Bool}
theorem Gra.ext_ (h : Gra w0 W G al v ls vA acc) (hb : Ext W W') : Gra w0 W' G al v ls vA acc := ⟨h.blk.ext hb, h.own.ext hb, own_ext h.acc hb, h.ext.trans hb, h.hG⟩
/-- One row more: what 'append' left, and its store into the variable. -/
theorem Gra.push {W1 : World} {rows : List Value} {row : Value} {l : List Int} {g cap : Nat} (h : Gra w0 W G al v ls vA acc) (hrows : RowsOwn W w0.heap.size rows ls) (hv : W.ownsRow w0.heap.size 52 1 v ls.length rows)
    (hx : Ext W W1) (hrow : W1.ownsRow W.heap.size 3 1 row l.length (ints l))
    (hown : W'.ownsRow w0.heap.size 52 1 (.slice (some ⟨g, 0, none⟩) (ls.length + 1) cap) (ls.length + 1) (rows ++ [row]))
    (hg : W1.grownBy W' v.ownBlock) (hat : v.ownBlock = some g ∨ g = W1.heap.size + 1) :
    Hid (W'.cell? ⟨G, 1, none⟩ = some v) ∧ W'.frozen? ⟨G, 1, none⟩ = false ∧ Gra w0 (W'.setCell ⟨G, 1, none⟩ (.slice (some ⟨g, 0, none⟩) (ls.length + 1) cap)) G al (.slice (some ⟨g, 0, none⟩) (ls.length + 1) cap) (ls ++ [l]) vA acc := by
  have hB1 := h.blk.ext hx
  have hv1 := own_ext hv hx
  have hB : Blk W' G 27 #[.int .i64 al, v, vA] := (hg.block G hB1.lt (fun e => own_far hv1 hB1 (by decide) e.symm rfl)).trans hB1
  have hgG : g ≠ G := by
    rcases hat with h1 | h1
    · exact own_far hv1 hB1 (by decide) h1
    · have := hB1.lt; omega
  have hx' : Ext w0 W' := (h.ext.trans hx).grown hg (fun k hk => (hv1.lt k hk).1)
  have hr1 := hrows.snoc hx (h.ext.size) hrow
  have hfr : Frm (fun k => v.ownBlock = some k) W1 W' := Frm.of_grown hg
  have hr2 : RowsOwn W' w0.heap.size (rows ++ [row]) (ls ++ [l]) := hr1.frm hfr (fun i r b hr hb hS => by
    obtain ⟨l', _, ho⟩ := hr1.row hr
    exact own_ne ho hv1 (by decide) hb hS)
  have hacc : W'.ownsRow w0.heap.size 4 1 vA acc.length (bools acc) := own_frm (own_ext h.acc hx) hfr (fun b hb hS => own_ne (own_ext h.acc hx) hv1 (by decide) hb hS)
  have hset := Frm.setCell W' G 1 (.slice (some ⟨g, 0, none⟩) (ls.length + 1) cap)
  refine ⟨hB.cell 1, hB.frozen 1, ⟨by simpa using hB.set_ 1 _, ⟨rows ++ [row], ?_, ?_⟩, ?_, hx'.setCell (p := ⟨G, 1, none⟩) h.hG _, h.hG⟩⟩
  · rw [List.length_append, List.length_singleton]
    exact own_frm hown hset (fun b hv hS => by
      have : g = b := by simpa [Value.ownBlock] using hv
      omega)
  · refine hr2.frm hset (fun i r b hr hb hS => ?_)
    obtain ⟨l', _, ho⟩ := hr2.row hr
    exact own_far ho hB (by decide) hb hS
  · exact own_frm hacc hset (fun b hb hS => own_far hacc hB (by decide) hb hS)
end

end Go.Proofs.Ytcmgkekaeafgaaa

namespace Go.Proofs.Ytcmgkekaeafgaaa
open Go Go.RowKit
set_option maxHeartbeats 2000000

/-- One row more, in memory that is newer than the other rows'. -/
theorem RowsOwn.snoc2 {w : World} {base N : Nat} {rows : List Value} {ls : List (List Int)} {row : Value} {l : List Int} (h : RowsOwn w base rows ls) (hlow : ∀ (i : Nat) (r : Value) (b : Nat), rows[i]? = some r → r.ownBlock = some b → b < N) (hN : base ≤ N) (hrow : w.ownsRow N 3 1 row l.length (ints l)) :
    RowsOwn w base (rows ++ [row]) (ls ++ [l]) := by
  have hlen := h.1
  refine ⟨by simp [hlen], fun i r m hr hm => ?_, fun i j ri rj b hri hrj hij hbi => ?_⟩
  · rcases Nat.lt_trichotomy i rows.length with hi | hi | hi
    · rw [List.getElem?_append_left hi] at hr
      rw [List.getElem?_append_left (by omega)] at hm
      exact h.2.1 i r m hr hm
    · rw [List.getElem?_append_right (by omega), hi, Nat.sub_self] at hr
      rw [List.getElem?_append_right (by omega), hi, hlen, Nat.sub_self] at hm
      simp at hr hm
      subst hr; subst hm
      exact own_less hrow hN
    · rw [List.getElem?_eq_none (by simp; omega)] at hr; cases hr
  · have new : ∀ b, row.ownBlock = some b → N ≤ b := fun b hb => (hrow.lt b hb).1
    have hi : i ≤ rows.length := by have := (List.getElem?_eq_some_iff.1 hri).1; simp at this; omega
    have hj : j ≤ rows.length := by have := (List.getElem?_eq_some_iff.1 hrj).1; simp at this; omega
    rcases Nat.lt_or_eq_of_le hi with hi | hi <;> rcases Nat.lt_or_eq_of_le hj with hj | hj
    · rw [List.getElem?_append_left hi] at hri
      rw [List.getElem?_append_left hj] at hrj
      exact h.2.2 i j ri rj b hri hrj hij hbi
    · rw [List.getElem?_append_left hi] at hri
      subst hj
      simp at hrj
      subst hrj
      intro hc
      have h1 := hlow i ri b hri hbi
      have h2 := new b hc
      omega
    · rw [List.getElem?_append_left hj] at hrj
      subst hi
      simp at hri
      subst hri
      intro hc
      have h1 := hlow j rj b hrj hc
      have h2 := new b hbi
      omega
    · omega
/-- An automaton that was drawn. -/
def RetAu (R M : Nat) (sh : Aut → Prop) (w : World) (e : Ending) (w' : World) : Prop :=
  ∃ (a : Aut) (A : Option Addr) (n c : Nat) (A' : Option Addr) (n' c' : Nat), e = .returned (.agg #[.int .i64 a.al, .slice A n c, .slice A' n' c']) ∧ AutOwn w' w.heap.size A n c A' n' c' a ∧ Hid (sh a) ∧ Rd w' R M ∧ Dr R w w'
/-- The variable G holds an automaton that grows behind the source R. -/
structure AccA (w0 W : World) (R G M : Nat) (al : Int) (v : Value) (rows : List Value) (ls : List (List Int)) (vA : Value) (acc : List Bool) : Prop where
  blk : Blk W G 27 #[.int .i64 al, v, vA]
  nx : W.ownsRow w0.heap.size 52 1 v ls.length rows
  rows : RowsOwn W w0.heap.size rows ls
  acc : W.ownsRow w0.heap.size 4 1 vA acc.length (bools acc)
  rd : Rd W R M
  dr : Dr R w0 W
  hR : R < w0.heap.size
  hG : w0.heap.size ≤ G
section
variable {w0 W W' : World} {R G M N : Nat} {al : Int} {v vA : Value} {rows : List Value} {ls : List (List Int)} {acc : List Bool}
theorem AccA.drawn (h : AccA w0 W R G M al v rows ls vA acc) (hd : Dr R W W') (hr : Rd W' R N) : AccA w0 W' R G N al v rows ls vA acc :=
  ⟨h.blk.dr hd (by have := h.hR; have := h.hG; omega), own_keep h.nx hd (fun b h1 e => by have := h.hR; omega), h.rows.keep hd (fun b h1 e => by have := h.hR; omega), own_keep h.acc hd (fun b h1 e => by have := h.hR; omega), hr, h.dr.trans hd, h.hR, h.hG⟩
theorem AccA.ext (h : AccA w0 W R G M al v rows ls vA acc) (hx : Ext W W') : AccA w0 W' R G M al v rows ls vA acc := h.drawn (Ext.dr hx) (h.rd.ext hx)
theorem AccA.more (h : AccA w0 W R G M al v rows ls vA acc) (hM : M ≤ N) : AccA w0 W R G N al v rows ls vA acc := { h with rd := h.rd.more hM }
theorem AccA.low (h : AccA w0 W R G M al v rows ls vA acc) : ∀ (i : Nat) (r : Value) (b : Nat), rows[i]? = some r → r.ownBlock = some b → b < W.heap.size := fun i r b hr hb => by
  obtain ⟨l, _, ho⟩ := h.rows.row hr
  exact (ho.lt b hb).2
/-- What lies in other blocks than the turned one. -/
theorem AccA.grown (h : AccA w0 W R G M al v rows ls vA acc) {v0 : Value} {e : TypeId} {size k : Nat} {xs : List Value} (ho : W.ownsRow w0.heap.size e size v0 k xs) (hg : W.grownBy W' v0.ownBlock) : Dr R w0 W' ∧ Rd W' R M := by
  have hRG := h.hR
  refine ⟨h.dr.grown hg (fun k hk => (ho.lt k hk).1), h.rd.frm (Frm.of_grown hg) (fun k hk hS => by have := (ho.lt k hS).1; omega)⟩
/-- One row more. -/
theorem AccA.pushRow {row : Value} {l : List Int} {g cap K : Nat} (h : AccA w0 W R G M al v rows ls vA acc) (hlow : ∀ (i : Nat) (r : Value) (b : Nat), rows[i]? = some r → r.ownBlock = some b → b < K) (hK : w0.heap.size ≤ K) (hrow : W.ownsRow K 3 1 row l.length (ints l))
    (hown : W'.ownsRow w0.heap.size 52 1 (.slice (some ⟨g, 0, none⟩) (ls.length + 1) cap) (ls.length + 1) (rows ++ [row]))
    (hg : W.grownBy W' v.ownBlock) (hat : v.ownBlock = some g ∨ g = W.heap.size + 1) :
    Hid (W'.cell? ⟨G, 1, none⟩ = some v) ∧ W'.frozen? ⟨G, 1, none⟩ = false ∧ AccA w0 (W'.setCell ⟨G, 1, none⟩ (.slice (some ⟨g, 0, none⟩) (ls.length + 1) cap)) R G M al (.slice (some ⟨g, 0, none⟩) (ls.length + 1) cap) (rows ++ [row]) (ls ++ [l]) vA acc := by
  have hRG := h.hR; have hGG := h.hG
  have hB : Blk W' G 27 #[.int .i64 al, v, vA] := (hg.block G h.blk.lt (fun e => own_far h.nx h.blk (by decide) e.symm rfl)).trans h.blk
  have hgG : g ≠ G := by
    rcases hat with h1 | h1
    · exact own_far h.nx h.blk (by decide) h1
    · have := h.blk.lt; omega
  have hfr : Frm (fun k => v.ownBlock = some k) W W' := Frm.of_grown hg
  obtain ⟨hdr, hrd⟩ := h.grown h.nx hg
  have hr1 := h.rows.snoc2 hlow hK hrow
  have hr2 : RowsOwn W' w0.heap.size (rows ++ [row]) (ls ++ [l]) := hr1.frm hfr (fun i r b hr hb hS => by
    obtain ⟨l', _, ho⟩ := hr1.row hr
    exact own_ne ho h.nx (by decide) hb hS)
  have hacc : W'.ownsRow w0.heap.size 4 1 vA acc.length (bools acc) := own_frm h.acc hfr (fun b hb hS => own_ne h.acc h.nx (by decide) hb hS)
  have hset := Frm.setCell W' G 1 (.slice (some ⟨g, 0, none⟩) (ls.length + 1) cap)
  refine ⟨hB.cell 1, hB.frozen 1, ⟨by simpa using hB.set_ 1 _, ?_, ?_, ?_, hrd.frm hset (fun k hk e => by omega), hdr.setNew (p := ⟨G, 1, none⟩) hGG _, hRG, hGG⟩⟩
  · rw [List.length_append, List.length_singleton]
    exact own_frm hown hset (fun b hv hS => by
      have : g = b := by simpa [Value.ownBlock] using hv
      omega)
  · refine hr2.frm hset (fun i r b hr hb hS => ?_)
    obtain ⟨l', _, ho⟩ := hr2.row hr
    exact own_far ho hB (by decide) hb hS
  · exact own_frm hacc hset (fun b hb hS => own_far hacc hB (by decide) hb hS)
/-- One mark more. -/
theorem AccA.pushAcc {x : Bool} {g cap : Nat} (h : AccA w0 W R G M al v rows ls vA acc)
    (hown : W'.ownsRow w0.heap.size 4 1 (.slice (some ⟨g, 0, none⟩) (acc.length + 1) cap) (acc.length + 1) (bools acc ++ [.bool x]))
    (hg : W.grownBy W' vA.ownBlock) (hat : vA.ownBlock = some g ∨ g = W.heap.size + 1) :
    Hid (W'.cell? ⟨G, 2, none⟩ = some vA) ∧ W'.frozen? ⟨G, 2, none⟩ = false ∧ AccA w0 (W'.setCell ⟨G, 2, none⟩ (.slice (some ⟨g, 0, none⟩) (acc.length + 1) cap)) R G M al v rows ls (.slice (some ⟨g, 0, none⟩) (acc.length + 1) cap) (acc ++ [x]) := by
  have hRG := h.hR; have hGG := h.hG
  have hB : Blk W' G 27 #[.int .i64 al, v, vA] := (hg.block G h.blk.lt (fun e => own_far h.acc h.blk (by decide) e.symm rfl)).trans h.blk
  have hgG : g ≠ G := by
    rcases hat with h1 | h1
    · exact own_far h.acc h.blk (by decide) h1
    · have := h.blk.lt; omega
  have hfr : Frm (fun k => vA.ownBlock = some k) W W' := Frm.of_grown hg
  obtain ⟨hdr, hrd⟩ := h.grown h.acc hg
  have hn : W'.ownsRow w0.heap.size 52 1 v ls.length rows := own_frm h.nx hfr (fun b hb hS => own_ne h.nx h.acc (by decide) hb hS)
  have hr2 : RowsOwn W' w0.heap.size rows ls := h.rows.frm hfr (fun i r b hr hb hS => by
    obtain ⟨l', _, ho⟩ := h.rows.row hr
    exact own_ne ho h.acc (by decide) hb hS)
  have hset := Frm.setCell W' G 2 (.slice (some ⟨g, 0, none⟩) (acc.length + 1) cap)
  refine ⟨hB.cell 2, hB.frozen 2, ⟨by simpa using hB.set_ 2 _, own_frm hn hset (fun b hb hS => own_far hn hB (by decide) hb hS), hr2.frm hset (fun i r b hr hb hS => ?_), ?_, hrd.frm hset (fun k hk e => by omega), hdr.setNew (p := ⟨G, 2, none⟩) hGG _, hRG, hGG⟩⟩
  · obtain ⟨l', _, ho⟩ := hr2.row hr
    exact own_far ho hB (by decide) hb hS
  · rw [List.length_append, List.length_singleton, show bools (acc ++ [x]) = bools acc ++ [.bool x] by simp [bools]]
    exact own_frm hown hset (fun b hv hS => by
      have : g = b := by simpa [Value.ownBlock] using hv
      omega)
/-- Another row of numbers, newer than the automaton's, grows. -/
theorem AccA.side {v0 : Value} {K k : Nat} {xs : List Value} (h : AccA w0 W R G M al v rows ls vA acc) (hlow : ∀ (i : Nat) (r : Value) (b : Nat), rows[i]? = some r → r.ownBlock = some b → b < K) (hK : w0.heap.size ≤ K) (ho : W.ownsRow K 3 1 v0 k xs) (hg : W.grownBy W' v0.ownBlock) : AccA w0 W' R G M al v rows ls vA acc := by
  have ho' := own_less ho hK
  obtain ⟨hdr, hrd⟩ := h.grown ho' hg
  have hfr : Frm (fun k => v0.ownBlock = some k) W W' := Frm.of_grown hg
  exact ⟨h.blk.frm hfr (fun e => own_far ho h.blk (by decide) e rfl), own_frm h.nx hfr (fun b hb hS => own_ne ho h.nx (by decide) hS hb), h.rows.frm hfr (fun i r b hr hb hS => by have := hlow i r b hr hb; have := (ho.lt b hS).1; omega),
    own_frm h.acc hfr (fun b hb hS => own_ne ho h.acc (by decide) hS hb), hrd, hdr, h.hR, h.hG⟩
/-- What is handed back: the automaton's value lies in the result's box too. -/
theorem AccA.fin {w : World} {Z n n' c c' : Nat} {A A' : Option Addr} {cs : Array Value} {t : TypeId} {sh : Aut → Prop} (h : AccA w0 W R G M al (.slice A n c) rows ls (.slice A' n' c') acc) (hx : Ext w w0) (bz : Blk w0 Z t cs) (hc : cs.size = 3) (hRw : R < w.heap.size) (hZ : w.heap.size ≤ Z) (hZ' : Z < w0.heap.size) (hM : M ≤ N) (hsh : sh ⟨al, ls, acc⟩) :
    Hid (RetAu R N sh w (.returned (.agg #[.int .i64 al, .slice A n c, .slice A' n' c'])) (((W.setCell ⟨Z, 0, none⟩ (.int .i64 al)).setCell ⟨Z, 1, none⟩ (.slice A n c)).setCell ⟨Z, 2, none⟩ (.slice A' n' c'))) ∧
    Blk (((W.setCell ⟨Z, 0, none⟩ (.int .i64 al)).setCell ⟨Z, 1, none⟩ (.slice A n c)).setCell ⟨Z, 2, none⟩ (.slice A' n' c')) Z t #[.int .i64 al, .slice A n c, .slice A' n' c'] := by
  have hb := bz.dr h.dr (by omega)
  have hf := fillA_frm W Z (.int .i64 al) (.slice A n c) (.slice A' n' c')
  have hn : n = ls.length := by
    rcases h.nx.2 with ⟨h1, h2⟩ | ⟨_, _, _, h1, _⟩
    · simp at h1; omega
    · simp at h1; exact h1.2.1
  have hn' : n' = acc.length := by
    rcases h.acc.2 with ⟨h1, h2⟩ | ⟨_, _, _, h1, _⟩
    · simp at h1; omega
    · simp at h1; exact h1.2.1
  refine ⟨hide ⟨⟨al, ls, acc⟩, A, n, c, A', n', c', rfl, ⟨⟨rows, ?_, ?_⟩, hn, ?_, hn'⟩, hide hsh, ?_, ?_⟩, fillA_blk hb hc _ _ _⟩
  · exact own_less (own_keep h.nx hf (fun b h1 e => by omega)) hx.size
  · exact (h.rows.keep hf (fun b h1 e => by omega)).less hx.size
  · have ho := own_less (own_keep h.acc hf (fun b h1 e => by omega)) hx.size
    rw [← hn'] at ho; exact ho
  · exact (h.rd.more hM).frm hf (fun k hk e => by omega)
  · exact (((hx.dr.trans h.dr).setNew (p := ⟨Z, 0, none⟩) hZ _).setNew (p := ⟨Z, 1, none⟩) hZ _).setNew (p := ⟨Z, 2, none⟩) hZ _
end
end Go.Proofs.Ytcmgkekaeafgaaa

namespace Go.Proofs.Ytcmgkekaeafgaaa
open Go Go.RowKit
set_option maxHeartbeats 4000000

/-- The shape of a drawn automaton: p states, rows of k entries. -/
def shA (al p k : Nat) (a : Aut) : Prop := a.al = al ∧ a.next.length = p ∧ a.acc.length = p ∧ ∀ l ∈ a.next, l.length = k
set_option maxRecDepth 100000 in
theorem spec_l3Random {R M a p : Nat} {w : World} (h : Rd w R M) (hM : M ≤ 900000000) (ha : a < 64) (hp : p ≤ 16) :
    Calls Try.prog 61 #[.pointer (some ⟨R, 0, none⟩), .int .i64 a, .int .i64 p] w (RetAu R (M + 400) (shA a p (letters a 6).length) w) := by
  have hsm : Sm a := by unfold Sm; omega
  have hRl := h.lt
  go_enter Try.func61, Try.ntmps61
  have hxz := (Ext.refl w).alloc (.cells #[.int .i64 0, .slice none 0 0, .slice none 0 0] 27)
  have bz := Blk.new w 27 #[.int .i64 0, .slice none 0 0, .slice none 0 0]
  have hxG := (Ext.refl (w.alloc (.cells #[.int .i64 0, .slice none 0 0, .slice none 0 0] 27))).alloc (.cells #[.int .i64 a, .slice none 0 0, .slice none 0 0] 27)
  have bG := Blk.new (w.alloc (.cells #[.int .i64 0, .slice none 0 0, .slice none 0 0] 27)) 27 #[.int .i64 a, .slice none 0 0, .slice none 0 0]
  have hz1 := bz.lt
  have hsz : (w.alloc (.cells #[.int .i64 0, .slice none 0 0, .slice none 0 0] 27)).heap.size = w.heap.size + 1 := by simp
  rw [hsz] at bG
  go_upto_region 2 with fail
  generalize (w.alloc (.cells #[.int .i64 0, .slice none 0 0, .slice none 0 0] 27)).alloc (.cells #[.int .i64 a, .slice none 0 0, .slice none 0 0] 27) = w2 at *
  generalize w.alloc (.cells #[.int .i64 0, .slice none 0 0, .slice none 0 0] 27) = w1 at *
  go_wp2_with fail
  refine (spec_l1Letters a hsm _).mono ?_
  rintro e w3 ⟨B, d, rfl, -, hx3⟩
  have hacc : AccA w1 w3 R (w.heap.size + 1) M a (.slice none 0 0) [] [] (.slice none 0 0) [] := ⟨bG.ext hx3, World.ownsRow_nil _ _ _ _, RowsOwn.nil _ _, World.ownsRow_nil _ _ _ _, h.ext ((hxz.trans hxG).trans hx3), (hxG.trans hx3).dr, by omega, by omega⟩
  have hl6 := letters_length a 6
  clear bG hx3 hxG
  generalize (letters a 6).length = k at *
  go_wp2_with fail
  go_loopw [9] (fun iv wr => ∃ (i : Nat) (v : Value) (rows : List Value) (ls : List (List Int)) (vA : Value) (acc : List Bool), i ≤ p ∧ iv = .int .i64 (i : Nat) ∧ AccA w1 wr R (w.heap.size + 1) (M + i * 20) a v rows ls vA acc ∧ ls.length = i ∧ acc.length = i ∧ Hid (∀ l ∈ ls, l.length = k)) (fun iv _ => p - (intOf iv).toNat)
  case atStart => exact ⟨0, _, [], [], _, [], Nat.zero_le _, rfl, hacc, rfl, rfl, hide (fun l hl => by simp at hl)⟩
  case round =>
    clear hacc
    obtain ⟨i, v, rows, ls, vA, acc, hi, rfl, hacc, hll, hla, hlk⟩ := hrel
    by_cases hip : i < p
    · have hlow := hide hacc.low
      have hK := hide (show w1.heap.size ≤ wr.heap.size from hacc.dr.size)
      have h0 := World.ownsRow_made (base := wr.heap.size) (e := 3) (size := 1) wr #[] 0 (Nat.le_refl _) (Nat.zero_le _) rfl
      have hx0 := (Ext.refl wr).alloc (.cells #[] 3)
      have hacc0 := hacc.ext hx0
      go_upto_region 7 with fail
      clear hacc
      obtain ⟨wK, hwK⟩ : ∃ wK, wK = wr := ⟨_, rfl⟩
      rw [← hwK] at h0 hlow hK hacc0 hx0 ⊢
      clear hwK
      generalize wK.alloc (.cells #[] 3) = w4 at *
      go_wp2_with fail
      go_loopw [10, 11] (fun rv jv wr => ∃ (j : Nat) (l : List Int), j ≤ k ∧ jv = .int .i64 (j : Nat) ∧ AccA w1 wr R (w.heap.size + 1) (M + i * 20 + j) a v rows ls vA acc ∧ l.length = j ∧ wr.ownsRow wK.heap.size 3 1 rv j (ints l) ∧ Hid (wK.heap.size ≤ wr.heap.size)) (fun _ jv _ => k - (intOf jv).toNat)
      case atStart => exact ⟨0, [], Nat.zero_le _, rfl, hacc0, rfl, h0, hide hx0.size⟩
      case round =>
        clear hacc0 h0
        obtain ⟨j, l, hj, rfl, hacc, hlj, hrow, hsK⟩ := hrel
        by_cases hjk : j < k
        · obtain ⟨AR, cR, rfl⟩ := own_form hrow
          go_wp2_with fail
          refine (l19Rd_pick hacc.rd (by omega)).mono ?_
          rintro e w5 ⟨y, rfl, -, -, hr5, hd5⟩
          have hacc5 := hacc.drawn hd5 hr5
          have hrow5 := own_keep hrow hd5 (fun b h1 e => by have := hacc.dr.size; have := hacc.hR; have := hK.out; omega)
          have hs5 : wK.heap.size ≤ w5.heap.size := Nat.le_trans hsK.out hd5.size
          have hl' := hide hlj
          clear hlj hacc hrow
          go_wp2_with (at_builtin; refine wpList_push3 wK w5 rfl _ _ _ rfl 3 _ 1 8 Try.underlying52 info_int rfl (by decide) (.slice AR j cR) j (ints l) _ _ rfl rfl hs5 hrow5 rfl (by simp [Value.oneCell']) (by unfold maxLen; omega) (by omega) ?_; intro g5 cap5 w6 hown6 hg6 hat6 hlt6)
          go_roundw
          case rel => exact ⟨j + 1, l ++ [(y : Int)], by omega, by go_num, (hacc5.side hlow.out hK.out hrow5 hg6).more (by omega), by simp [hl'.out], by simpa [ints] using hown6, hide (Nat.le_trans hs5 hg6.size)⟩
          case measure => simp [intOf]; omega
        · obtain rfl : j = k := by omega
          obtain ⟨AR, cR, rfl⟩ := own_form hrow
          have cG := hacc.blk.cell
          have hs1 := hacc.dr.size
          have hrow' : wr.ownsRow wK.heap.size 3 1 (.slice AR j cR) l.length (ints l) := by rw [hlj]; exact hrow
          go_upto_region 12 with (at_builtin; refine wpList_push3 w1 wr rfl _ _ _ rfl 52 _ 1 24 Try.underlying24 info_ints rfl (by decide) v ls.length rows _ _ rfl rfl hs1 hacc.nx rfl (cells_slice _ _ _) (by unfold maxLen; omega) (by omega) ?_; intro g5 cap5 w6 hown6 hg6 hat6 hlt6; obtain ⟨q1, q2, q3⟩ := hacc.pushRow hlow.out hK.out hrow' hown6 hg6 hat6; have q1' := q1.out)
          rw [hll] at q3
          clear q1 q1' q2 hown6 hg6 hat6 hlt6 hrow hrow' cG hacc
          have hlk7 := hide (show ∀ l' ∈ ls ++ [l], l'.length = j from fun l' hl' => by
            rcases List.mem_append.1 hl' with h1 | h1
            · exact hlk.out l' h1
            · rw [List.mem_singleton.1 h1]; exact hlj)
          have hll7 : (ls ++ [l]).length = i + 1 := by simp [hll]
          clear hlj hll
          generalize ls ++ [l] = ls7 at *
          generalize rows ++ [.slice AR j cR] = rows7 at *
          generalize w6.setCell ⟨w.heap.size + 1, 1, none⟩ (.slice (some ⟨g5, 0, none⟩) (i + 1) cap5) = w7 at *
          generalize Value.slice (some ⟨g5, 0, none⟩) (i + 1) cap5 = v7 at *
          have cG : ∀ W, Dr R w7 W → ∀ q, W.cell? ⟨w.heap.size + 1, q, none⟩ = #[Value.int .i64 a, v7, vA][q]? := fun W hW => (q3.blk.dr hW (by omega)).cell
          refine wp_region_tail (fun X => Dr R w7 X) [6, 8] (Ord.of [0, 1, 2, 3, 4, 5, 6, 7, 8]) (by kernel_rfl) rfl (by kernel_rfl) (by kernel_rfl) (by kernel_rfl) (fun _ _ _ _ _ h => h) (by first | assumption | exact (Ext.refl _).drew | exact (Dr.refl _ _).drew | (refine Ext.drew ?_; assumption)) ?_
          repeat (first | (refine tseq_skip rfl rfl (by assumption) ?_; simp only [Act.put, List.setIfInBounds_toArray, List.set_cons_zero, List.set_cons_succ]) | (refine tseq_pure (v := ?_) rfl rfl rfl rfl (fun X => ?_) ?_; rotate_left; (focus (go_simp <;> with_reducible rfl)); simp only [Act.put, List.setIfInBounds_toArray, List.set_cons_zero, List.set_cons_succ]) | (refine tseq_read (v := ?_) rfl rfl rfl rfl (fun X hX => ?_) ?_; rotate_left; (focus (go_simp <;> with_reducible rfl)); simp only [Act.put, List.setIfInBounds_toArray, List.set_cons_zero, List.set_cons_succ]))
          (refine tseq_step rfl rfl rfl (fun K hK => ?_); go_simp)
          refine (l19Rd_pick (n := 3) (q3.rd.ext ((Ext.refl _).drew)) (by omega)).mono ?_
          rintro e w8 ⟨z, rfl, -, -, hr8, hd8⟩
          have hd78 : Dr R w7 w8 := ((Dr.refl R w7).drew).trans hd8
          have hacc8 := q3.drawn hd78 hr8
          refine hK.out _ _ hd78 ?_
          (try simp only [Act.put, List.setIfInBounds_toArray, List.set_cons_zero, List.set_cons_succ])
          repeat (first | (refine tseq_skip rfl rfl (by assumption) ?_; simp only [Act.put, List.setIfInBounds_toArray, List.set_cons_zero, List.set_cons_succ]) | (refine tseq_pure (v := ?_) rfl rfl rfl rfl (fun X => ?_) ?_; rotate_left; (focus (go_simp <;> with_reducible rfl)); simp only [Act.put, List.setIfInBounds_toArray, List.set_cons_zero, List.set_cons_succ]) | (refine tseq_read (v := ?_) rfl rfl rfl rfl (fun X hX => ?_) ?_; rotate_left; (focus (go_simp <;> with_reducible rfl)); simp only [Act.put, List.setIfInBounds_toArray, List.set_cons_zero, List.set_cons_succ]))
          (refine tseq_step rfl rfl rfl (fun K hK => ?_); go_simp)
          refine hK.out _ _ (hd78.alloc _) ?_
          (try simp only [Act.put, List.setIfInBounds_toArray, List.set_cons_zero, List.set_cons_succ])
          (refine tseq_last rfl rfl rfl rfl (fun K hK => ?_))
          trace_state
          refine wp_push w1 w8 _ _ _ rfl 4 _ 1 1 Try.underlying25 info_bool rfl (by decide) vA acc.length (bools acc) _ _ rfl rfl hacc8.dr.size hacc8.acc rfl (by simp [Value.oneCell']) (by unfold maxLen; omega) (by omega) ?_
          intro g9 cap9 w9 hown9 hg9 hat9 hlt9
          refine hK.out _ _ ?_
          (try simp only [Act.put, List.setIfInBounds_toArray, List.set_cons_zero, List.set_cons_succ])
          repeat (first | (refine tseq_skip rfl rfl (by assumption) ?_; simp only [Act.put, List.setIfInBounds_toArray, List.set_cons_zero, List.set_cons_succ]) | (refine tseq_pure (v := ?_) rfl rfl rfl rfl (fun X => ?_) ?_; rotate_left; (focus (go_simp <;> with_reducible rfl)); simp only [Act.put, List.setIfInBounds_toArray, List.set_cons_zero, List.set_cons_succ]) | (refine tseq_read (v := ?_) rfl rfl rfl rfl (fun X hX => ?_) ?_; rotate_left; (focus (go_simp <;> with_reducible rfl)); simp only [Act.put, List.setIfInBounds_toArray, List.set_cons_zero, List.set_cons_succ]))
          obtain ⟨p1, p2, p3⟩ := hacc8.pushAcc (x := decide (0 < z)) (W' := w9) hown9 hg9 hat9
          have p1' := p1.out
          rw [hla] at p3
          (refine tseq_last rfl rfl rfl rfl (fun K hK => ?_))
          go_simp
          refine hK.out _ _ ?_
          refine tseq_nil ?_
          go_wp2_with fail
          go_roundw
          case rel => exact ⟨i + 1, _, _, _, _, _, by omega, by go_num, p3.more (by omega), hll7, by simp [hla], hlk7⟩
          case measure => simp [intOf]; omega
    · obtain rfl : i = p := by omega
      obtain ⟨A5, c5, rfl⟩ := own_form hacc.nx
      obtain ⟨B5, d5, rfl⟩ := own_form hacc.acc
      obtain ⟨f1, f2⟩ := hacc.fin (N := M + 400) (sh := shA a i k) hxz bz rfl hRl (Nat.le_refl _) hz1 (by omega) ⟨rfl, hll, hla, hlk.out⟩
      rw [hll, hla] at f1 f2
      have cG := hacc.blk.cell
      have bz5 := bz.dr hacc.dr (by omega)
      have cZ := bz5.cell
      have fZ := bz5.frozen
      go_wp2_with fail
      have cf := f2.cell
      exact bodyPost_ret (v := .agg #[.int .i64 a, .slice A5 i c5, .slice B5 i d5]) (by simp [results, Try.results61, go_sem, cf]) rfl f1.out
end Go.Proofs.Ytcmgkekaeafgaaa

namespace Go.Proofs.Ytcmgkekaeafgaaa
open Go Go.RowKit
set_option maxHeartbeats 1000000

/-- The marks of the rows. -/
def mk1 (k n : Nat) : List Int := (marks k n).map fun n : Nat => (n : Int)
def mkL (k : Nat) : List (List Int) → List (List Int)
  | [] => []
  | l :: r => mk1 k l.length :: mkL (k + l.length) r
def mkB (k n : Nat) : List Bool := (List.range n).map fun j => (k + j) % 3 == 0
def mkA (k : Nat) (a : Aut) : Aut := ⟨a.al, mkL k a.next, mkB (k + tot a.next) a.acc.length⟩
theorem tot_cons (l : List Int) (r : List (List Int)) : tot (l :: r) = l.length + tot r := by simp [tot]
theorem mk1_length (k n : Nat) : (mk1 k n).length = n := by simp [mk1, marks_length]
theorem mk1_nats (k n : Nat) : nats (marks k n) = ints (mk1 k n) := by simp [mk1, nats, ints]
theorem mkL_length (k : Nat) (ls : List (List Int)) : (mkL k ls).length = ls.length := by
  induction ls generalizing k with
  | nil => rfl
  | cons l r ih => simp [mkL, ih]
theorem mkL_get {k j : Nat} {ls : List (List Int)} {l : List Int} (h : ls[j]? = some l) : (mkL k ls)[j]? = some (mk1 (k + tot (ls.take j)) l.length) := by
  induction ls generalizing k j with
  | nil => simp at h
  | cons a r ih =>
    cases j with
    | zero => simp at h; subst h; simp [mkL, tot]
    | succ j =>
      have := ih (k := k + a.length) (j := j) (by simpa using h)
      rw [mkL, List.getElem?_cons_succ, this, List.take_succ_cons, tot_cons, Nat.add_assoc]
theorem mkL_tot (k : Nat) (ls : List (List Int)) : tot (mkL k ls) = tot ls := by
  induction ls generalizing k with
  | nil => rfl
  | cons a r ih => rw [mkL, tot_cons, tot_cons, ih, mk1_length]
theorem mkB_length (k n : Nat) : (mkB k n).length = n := by simp [mkB]
theorem mkB_get {k n j : Nat} (h : j < n) : (mkB k n)[j]? = some ((k + j) % 3 == 0) := by simp [mkB, h]
theorem mkB_take {k n i : Nat} (h : i ≤ n) : (mkB k n).take i = mkB k i := by
  unfold mkB
  rw [← List.map_take, List.take_range, Nat.min_eq_left h]

/-- A row is written anew. -/
theorem RowsOwn.set_ {w w' : World} {base j : Nat} {rows : List Value} {ls : List (List Int)} {A : Option Addr} {c : Nat} {l : List Int} (h : RowsOwn w base rows ls) (hr : rows[j]? = some (.slice A l.length c))
    (hf : Frm (blk A) w w') (hown : w'.ownsRow base 3 1 (.slice A l.length c) l.length (ints l)) : RowsOwn w' base rows (ls.set j l) := by
  have hj : j < rows.length := (List.getElem?_eq_some_iff.1 hr).1
  refine ⟨by simp [h.1], fun i row m hi hm => ?_, h.2.2⟩
  by_cases hij : i = j
  · subst hij
    rw [hr] at hi
    obtain rfl := Option.some.inj hi
    rw [List.getElem?_set_self (by rw [← h.1]; exact hj)] at hm
    obtain rfl := Option.some.inj hm
    exact hown
  · rw [List.getElem?_set_ne (fun e => hij e.symm)] at hm
    refine own_frm (h.2.1 i row m hi hm) hf (fun b hb hS => ?_)
    obtain ⟨ad, rfl, rfl⟩ := hS
    exact h.2.2 i j row _ ad.block hi hr hij hb rfl
/-- A slice of slices, all in blocks below hi. -/
def OwnLLh (w : World) (base hi : Nat) (v : Value) (ls : List (List Int)) : Prop :=
  ∃ rows, w.ownsRow base 52 1 v ls.length rows ∧ RowsOwn w base rows ls ∧ ∀ (i : Nat) (row : Value) (b : Nat), rows[i]? = some row → row.ownBlock = some b → b < hi
def AutH (w : World) (base hi : Nat) (A : Option Addr) (n c : Nat) (A' : Option Addr) (n' c' : Nat) (a : Aut) : Prop :=
  OwnLLh w base hi (.slice A n c) a.next ∧ (∀ b, (Value.slice A n c).ownBlock = some b → b < hi) ∧ n = a.next.length ∧ w.ownsRow base 4 1 (.slice A' n' c') n' (bools a.acc) ∧ (∀ b, (Value.slice A' n' c').ownBlock = some b → b < hi) ∧ n' = a.acc.length
section
variable {w w' : World} {base hi n c n' c' : Nat} {A A' : Option Addr} {a : Aut}
theorem AutOwn.high (h : AutOwn w base A n c A' n' c' a) : AutH w base w.heap.size A n c A' n' c' a := by
  obtain ⟨⟨rows, h1, h2⟩, h3, h4, h5⟩ := h
  exact ⟨⟨rows, h1, h2, fun i row b hr hb => by
    obtain ⟨l, _, ho⟩ := h2.row hr
    exact (ho.lt b hb).2⟩, fun b hb => (h1.lt b hb).2, h3, h4, fun b hb => (h4.lt b hb).2, h5⟩
theorem AutH.own (h : AutH w base hi A n c A' n' c' a) : AutOwn w base A n c A' n' c' a := by
  obtain ⟨⟨rows, h1, h2, _⟩, _, h3, h4, _, h5⟩ := h
  exact ⟨⟨rows, h1, h2⟩, h3, h4, h5⟩
theorem AutH.frm {S : Nat → Prop} (h : AutH w base hi A n c A' n' c' a) (hb : Frm S w w') (hS : ∀ b, base ≤ b → b < hi → ¬ S b) : AutH w' base hi A n c A' n' c' a := by
  obtain ⟨⟨rows, h1, h2, h6⟩, h7, h3, h4, h8, h5⟩ := h
  exact ⟨⟨rows, own_frm h1 hb (fun b hb => hS b (h1.lt b hb).1 (h7 b hb)), h2.frm hb (fun i row b hr hb => by
    obtain ⟨l, _, ho⟩ := h2.row hr
    exact hS b (ho.lt b hb).1 (h6 i row b hr hb)), h6⟩, h7, h3, own_frm h4 hb (fun b hb => hS b (h4.lt b hb).1 (h8 b hb)), h8, h5⟩
theorem AutH.ext (h : AutH w base hi A n c A' n' c' a) (hb : Ext w w') : AutH w' base hi A n c A' n' c' a := h.frm hb (fun _ _ _ h => h)
end

/-- The blocks of the rows. -/
def rblk (rows : List Value) (b : Nat) : Prop := ∃ (i : Nat) (row : Value), rows[i]? = some row ∧ row.ownBlock = some b
theorem set_mid {α : Type} {l : List α} {j : Nat} {x : α} (hl : j < l.length) : (∀ i, i < j → (l.set j x)[i]? = l[i]?) ∧ (l.set j x)[j]? = some x ∧ ∀ i, j < i → (l.set j x)[i]? = l[i]? :=
  ⟨fun i hi => List.getElem?_set_ne (by omega), List.getElem?_set_self hl, fun i hi => List.getElem?_set_ne (by omega)⟩
theorem mod3 (k j : Nat) : (((k : Int) + (j : Int)) % 3 == 0) = ((k + j) % 3 == 0) := by
  by_cases h : (k + j) % 3 = 0
  · have h2 : ((k : Int) + (j : Int)) % 3 = 0 := by omega
    rw [beq_iff_eq.2 h, beq_iff_eq.2 h2]
  · have h2 : ¬ ((k : Int) + (j : Int)) % 3 = 0 := by omega
    rw [beq_eq_false_iff_ne.2 h, beq_eq_false_iff_ne.2 h2]
/-- How many marks an automaton bears. -/
def cntA (a : Aut) : Nat := tot a.next + a.acc.length
theorem cntA_mk (k : Nat) (a : Aut) : cntA (mkA k a) = cntA a := by simp [cntA, mkA, mkL_tot, mkB_length]
end Go.Proofs.Ytcmgkekaeafgaaa

namespace Go.Proofs.Ytcmgkekaeafgaaa
open Go Go.RowKit
set_option maxHeartbeats 4000000

section
variable {w0 W W' : World} {R G M N : Nat} {al : Int} {v vA : Value} {rows : List Value} {ls : List (List Int)} {acc : List Bool}
/-- A drawn automaton in a variable. -/
theorem AccA.of {A A' : Option Addr} {n c n' c' : Nat} {a : Aut} (ho : AutOwn W w0.heap.size A n c A' n' c' a) (hr : Rd W R M) (hd : Dr R w0 W) (hR : R < w0.heap.size) :
    ∃ rows, AccA w0 (W.alloc (.cells #[.int .i64 a.al, .slice A n c, .slice A' n' c'] 27)) R W.heap.size M a.al (.slice A n c) rows a.next (.slice A' n' c') a.acc := by
  obtain ⟨⟨rows, h1, h2⟩, h3, h4, h5⟩ := ho
  have hx := (Ext.refl W).alloc (.cells #[.int .i64 a.al, .slice A n c, .slice A' n' c'] 27)
  refine ⟨rows, Blk.new W _ _, own_ext h1 hx, h2.keep hx.toFrm (fun _ _ => id), ?_, hr.ext hx, hd.ext hx, hR, hd.size⟩
  rw [← h5]
  exact own_ext h4 hx
/-- A mark is written. -/
theorem AccA.setAcc {g n c i : Nat} {x : Bool} (h : AccA w0 W R G M al v rows ls (.slice (some ⟨g, 0, none⟩) n c) acc) (hn : n = acc.length) :
    AccA w0 (W.setCell ⟨g, i, none⟩ (.bool x)) R G M al v rows ls (.slice (some ⟨g, 0, none⟩) n c) (acc.set i x) := by
  subst hn
  have hf := Frm.setCell W g i (.bool x)
  have hg := (h.acc.lt g rfl).1
  have hRG := h.hR
  have hst := (h.acc.stored i (.bool x)).1
  rw [show (bools acc).set i (.bool x) = bools (acc.set i x) by simp [bools, List.map_set]] at hst
  refine ⟨h.blk.frm hf (fun e => own_far h.acc h.blk (by decide) rfl e.symm), own_frm h.nx hf (fun b hb hS => ?_), h.rows.frm hf (fun i' r b hr hb hS => ?_), by simpa using hst, h.rd.frm hf (fun k hk e => by omega), h.dr.setNew (p := ⟨g, i, none⟩) hg _, hRG, h.hG⟩
  · subst hS; exact own_ne h.nx h.acc (by decide) hb rfl
  · subst hS
    obtain ⟨l', _, ho⟩ := h.rows.row hr
    exact own_ne ho h.acc (by decide) hb rfl
/-- A cell of a row is written. -/
theorem AccA.setRow {g n c i k : Nat} {x : Int} {l : List Int} (h : AccA w0 W R G M al v rows ls vA acc) (hr : rows[i]? = some (.slice (some ⟨g, 0, none⟩) n c)) (hl : ls[i]? = some l) (hn : n = l.length) :
    AccA w0 (W.setCell ⟨g, k, none⟩ (.int .i64 x)) R G M al v rows (ls.set i (l.set k x)) vA acc := by
  subst hn
  have hf := Frm.setCell W g k (.int .i64 x)
  have ho := h.rows.2.1 i _ l hr hl
  have hg := (ho.lt g rfl).1
  have hRG := h.hR
  have hst := (ho.stored k (.int .i64 x)).1
  rw [show (ints l).set k (.int .i64 x) = ints (l.set k x) by simp [ints, List.map_set]] at hst
  have hf' : Frm (Go.Proofs.Ytcmgkekaeafgaaa.blk (some ⟨g, 0, none⟩)) W (W.setCell ⟨g, k, none⟩ (.int .i64 x)) := hf.mono (fun b _ hb => ⟨_, rfl, hb.symm⟩)
  refine ⟨h.blk.frm hf (fun e => own_far ho h.blk (by decide) rfl e.symm), ?_, ?_, own_frm h.acc hf (fun b hb hS => ?_), h.rd.frm hf (fun k hk e => by omega), h.dr.setNew (p := ⟨g, k, none⟩) hg _, hRG, h.hG⟩
  · rw [List.length_set]
    exact own_frm h.nx hf (fun b hb hS => by subst hS; exact own_ne h.nx ho (by decide) hb rfl)
  · have := h.rows.set_ (w' := W.setCell ⟨g, k, none⟩ (.int .i64 x)) (j := i) (l := l.set k x) (A := some ⟨g, 0, none⟩) (c := c) (by simpa using hr) hf' (by simpa using hst)
    exact this
  · subst hS; exact own_ne h.acc ho (by decide) hb rfl
/-- A row as it lies. -/
theorem AccA.row {g n c i : Nat} {l : List Int} (h : AccA w0 W R G M al (.slice (some ⟨g, 0, none⟩) n c) rows ls vA acc) (hl : ls[i]? = some l) (hn : n = ls.length) :
    ∃ Ar cr, rows[i]? = some (.slice Ar l.length cr) ∧ W.cell? ⟨g, i, none⟩ = some (.slice Ar l.length cr) ∧ W.ownsRow w0.heap.size 3 1 (.slice Ar l.length cr) l.length (ints l) := by
  subst hn
  have hi : i < ls.length := (List.getElem?_eq_some_iff.1 hl).1
  have hi' : i < rows.length := by rw [h.rows.1]; exact hi
  have hr : rows[i]? = some rows[i] := List.getElem?_eq_getElem hi'
  have ho := h.rows.2.1 i _ l hr hl
  obtain ⟨Ar, cr, e⟩ := own_form ho
  rw [e] at hr ho
  exact ⟨Ar, cr, hr, by rw [h.nx.cellAt i (by omega), hr], ho⟩
end
set_option maxRecDepth 100000 in
theorem spec_l3Safe {R M a p : Nat} {w : World} (h : Rd w R M) (hM : M ≤ 900000000) (ha : a < 64) (hp0 : 1 ≤ p) (hp : p ≤ 16) :
    Calls Try.prog 51 #[.pointer (some ⟨R, 0, none⟩), .int .i64 a, .int .i64 p] w (RetAu R (M + 400) (shA a p (letters a 6).length) w) := by
  have hRl := h.lt
  go_enter Try.func51, Try.ntmps51
  have hxz := (Ext.refl w).alloc (.cells #[.int .i64 0, .slice none 0 0, .slice none 0 0] 27)
  have bz := Blk.new w 27 #[.int .i64 0, .slice none 0 0, .slice none 0 0]
  have hz1 := bz.lt
  go_wp2_with fail
  generalize w.alloc (.cells #[.int .i64 0, .slice none 0 0, .slice none 0 0] 27) = w1 at *
  refine (spec_l3Random (h.ext hxz) hM ha hp).mono ?_
  rintro e w2 ⟨b, A, n, c, A', n', c', rfl, hown, hsh, hr2, hd2⟩
  obtain ⟨rows, hacc⟩ := AccA.of hown hr2 hd2 (by omega)
  obtain ⟨s1, s2, s3, s4⟩ := hsh.out
  have hn : n = b.next.length := hown.2.1
  have hn' : n' = b.acc.length := hown.2.2.2
  obtain ⟨bal, bnx, bac⟩ := b
  dsimp only at *
  subst s1
  rw [s2] at hn; rw [s3] at hn'
  replace hn := hn.symm
  replace hn' := hn'.symm
  subst hn; subst hn'
  have hG := hd2.size
  clear hown hr2 hd2 hsh
  have S4 := hide s4
  clear s4
  have hl6 := letters_length a 6
  generalize (letters a 6).length = k at *
  obtain ⟨gA, rfl, hgA, -⟩ := own_some' (s3 ▸ hacc.acc) hp0
  obtain ⟨gN, rfl, hgN, -⟩ := own_some' (s2 ▸ hacc.nx) hp0
  have S2 := hide s2
  have S3 := hide s3
  clear s2 s3
  go_upto_region 2 with fail
  generalize w2.alloc (.cells #[.int .i64 a, .slice (some ⟨gN, 0, none⟩) p c, .slice (some ⟨gA, 0, none⟩) p c'] 27) = w3 at *
  generalize w2.heap.size = G at *
  go_wp2_with fail
  go_loopw [8] (fun iv wr => ∃ (i : Nat) (acc : List Bool), i ≤ p ∧ iv = .int .i64 (i : Nat) ∧ AccA w1 wr R G (M + 400) a (.slice (some ⟨gN, 0, none⟩) p c) rows bnx (.slice (some ⟨gA, 0, none⟩) p c') acc ∧ Hid (acc.length = p)) (fun iv _ => p - (intOf iv).toNat)
  case atStart => exact ⟨0, _, Nat.zero_le _, rfl, hacc, S3⟩
  case round =>
    clear hacc
    obtain ⟨i, acc, hi, rfl, hacc, hal⟩ := hrel
    by_cases hip : i < p
    · have cG := hacc.blk.cell
      have ho := hacc.acc
      rw [hal.out] at ho
      obtain ⟨o0, c0⟩ := own_cell ho i (by omega)
      have f0 := ho.frozenAt i
      have hset := hacc.setAcc (i := i) (x := decide ((i : Int) < (p : Int) - 1)) hal.out.symm
      clear ho
      go_wp2_with fail
      go_roundw
      case rel => exact ⟨i + 1, _, by omega, by go_num, hset, hide (by rw [List.length_set]; exact hal.out)⟩
      case measure => simp [intOf]; omega
    · clear hi
      have hp1 : p - 1 < bnx.length := by have := S2.out; omega
      obtain ⟨l0, hl0⟩ : ∃ l, bnx[p - 1]? = some l := ⟨_, List.getElem?_eq_getElem hp1⟩
      have hll := hide (S4.out l0 (List.mem_of_getElem? hl0))
      have Hl0 := hide hl0
      have hpc : ((p : Int) - 1).toNat = p - 1 := by omega
      clear hl0 hp1
      go_wp2_with fail
      go_loopw [9] (fun iv wr => ∃ (j : Nat) (ls : List (List Int)) (l : List Int), j ≤ k ∧ iv = .int .i64 (j : Nat) ∧ AccA w1 wr R G (M + 400) a (.slice (some ⟨gN, 0, none⟩) p c) rows ls (.slice (some ⟨gA, 0, none⟩) p c') acc ∧ Hid (ls.length = p) ∧ Hid (∀ l ∈ ls, l.length = k) ∧ Hid (ls[p - 1]? = some l)) (fun iv _ => k - (intOf iv).toNat)
      case atStart => exact ⟨0, _, _, Nat.zero_le _, rfl, hacc, S2, S4, Hl0⟩
      case round =>
        clear hacc hll
        obtain ⟨j, ls, l, hj, rfl, hacc, hls, hlk, hl0⟩ := hrel
        have hll := hlk.out l (List.mem_of_getElem? hl0.out)
        obtain ⟨Ar, cr, hrr, hcell, hor⟩ := hacc.row hl0.out hls.out.symm
        have cG := hacc.blk.cell
        rw [hll] at hrr hcell hor
        have HR := hide hrr
        clear hrr
        by_cases hjk : j < k
        · obtain ⟨g, rfl, -, -⟩ := own_some' hor (by omega)
          obtain ⟨o0, c0⟩ := own_cell hor j (by omega)
          have f0 := hor.frozenAt j
          have hset := hacc.setRow (k := j) (x := (p : Int) - 1) HR.out hl0.out hll.symm
          clear hor
          have HL := hide hll
          clear hll
          go_wp2_with fail
          go_roundw
          case rel =>
            refine ⟨j + 1, _, l.set j ((p : Int) - 1), by omega, by go_num, hset, hide (by rw [List.length_set]; exact hls.out), hide (fun l' hl' => ?_), hide ?_⟩
            · rcases List.mem_or_eq_of_mem_set hl' with h1 | h1
              · exact hlk.out l' h1
              · rw [h1, List.length_set]; exact HL.out
            · have := hls.out
              rw [List.getElem?_set_self (by omega)]
          case measure => simp [intOf]; omega
        · obtain ⟨f1, f2⟩ := hacc.fin (N := M + 400) (sh := shA a p k) hxz bz rfl hRl (Nat.le_refl _) hz1 (by omega) ⟨rfl, hls.out, hal.out, hlk.out⟩
          have bz5 := bz.dr hacc.dr (by omega)
          have cZ := bz5.cell
          have fZ := bz5.frozen
          clear hor hll
          go_wp2_with fail
          have cf := f2.cell
          exact bodyPost_ret (v := .agg #[.int .i64 a, .slice (some ⟨gN, 0, none⟩) p c, .slice (some ⟨gA, 0, none⟩) p c']) (by simp [results, Try.results51, go_sem, cf]) rfl f1.out
end Go.Proofs.Ytcmgkekaeafgaaa
