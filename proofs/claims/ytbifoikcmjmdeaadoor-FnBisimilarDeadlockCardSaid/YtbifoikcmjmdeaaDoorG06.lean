/- spec.FormatSystem, by its shape alone, walked. | Systems that are drawn: what a growing list of edges behind a variable means; spec.l2Random. | spec.l2Random, walked. | spec.ParseSystem, by its shape alone, walked. | spec.l2Big, walked. | spec.l2Texts, spec.l2Draw, walked. | spec.l6Change, walked. | 'append(s, xs...)': a slice that came in is appended to one of the call's own; an element of edges is turned. It holds of every program, without conditions. -/
import Derived.Test.YtbifoikcmjmdeaaDoorG04
import Derived.Test.YtbifoikcmjmdeaaDoorG05
import Derived.Test.YtbifoikcmjmdeaaDoorG03
import Derived.Test.YtbifoikcmjmdeaaDoorG02
import Derived.Laws.Strings
import Derived.Deep.DeepCutAuto
import Derived.Laws.StructEq
import Derived.Deep.AppendLies
namespace Go.Proofs.YtbifoikcmjmdeaaDoor
open Go Go.RowKit
set_option maxHeartbeats 2000000

/-- A text; empty, if the system is not valid. -/
def RetFmt (s : Sys) (w : World) (e : Ending) (w' : World) : Prop := ∃ t : ByteArray, e = .returned (.string t) ∧ (sysValid s = false → t.size = 0) ∧ Ext w w'
theorem valid_al {s : Sys} (h : sysValid s = true) : ∃ a : Nat, s.al = a ∧ a < 64 := by
  simp only [sysValid, Bool.and_eq_true, decide_eq_true_eq] at h
  exact ⟨s.al.toNat, by omega, by omega⟩

set_option maxRecDepth 100000 in
theorem spec_FormatSystem {lo hi : Nat} {A : Option Addr} {n c : Nat} {s : Sys} {w : World} (h : SysAt w lo hi A n s) (hn : n ≤ 1000000) :
    Calls Tryd.prog 97 #[.agg #[.int .i64 s.al, .int .i64 s.st, .slice A n c]] w (RetFmt s w) := by
  have HS := hide (fun W (hW : Ext w W) => h.ext hW)
  clear h
  cases h1 : sysValid s
  · have H1 := hide h1
    clear h1
    go_enter Tryd.func97, Tryd.ntmps97
    go_wp2_with (go_at_call 46; refine (spec_SystemValid (HS.out _ ((Ext.refl _).alloc _))).mono ?_; rw [H1.out]; rintro e w1 ⟨rfl, hx⟩)
    go_ret
    exact ⟨_, rfl, fun _ => rfl, ((Ext.refl _).alloc _).trans hx⟩
  · obtain ⟨p, hp, hp1, hp2, hf⟩ := valid_few h1
    obtain ⟨a, ha, ha2⟩ := valid_al h1
    have H1 := hide h1
    have Hf := hide hf
    have Hp := hide hp
    have Ha := hide ha
    clear h1 hf hp ha
    go_enter Tryd.func97, Tryd.ntmps97
    go_wp2_with fail
    refine (spec_SystemValid (HS.out _ ((Ext.refl _).alloc _))).mono ?_
    rw [H1.out]
    rintro e w1 ⟨rfl, hx⟩
    have b1 := ext_blk1 hx
    rw [Ha.out, Hp.out] at b1
    have hw1 := ((Ext.refl w).alloc _).trans hx
    have cb : ∀ W, Ext w1 W → ∀ q, W.cell? ⟨w.heap.size, q, none⟩ = #[Value.int .i64 a, .int .i64 p, .slice A n c][q]? := fun W hW => (b1.ext hW).cell
    go_wp2_with fail
    refine wp_region_tail (fun X => Ext w1 X) [] (Ord.of [0, 1, 4, 5, 2, 3, 6, 7, 8]) (by kernel_rfl) rfl (by kernel_rfl) (by kernel_rfl) (by kernel_rfl) (fun _ _ _ _ _ h => h) (by first | assumption | exact (Ext.refl _).drew | exact (Dr.refl _ _).drew | (refine Ext.drew ?_; assumption)) ?_
    repeat (first | (refine tseq_skip rfl rfl (by assumption) ?_; simp only [Act.put, List.setIfInBounds_toArray, List.set_cons_zero, List.set_cons_succ]) | (refine tseq_pure (v := ?_) rfl rfl rfl rfl (fun X => ?_) ?_; rotate_left; (focus (go_simp <;> with_reducible rfl)); simp only [Act.put, List.setIfInBounds_toArray, List.set_cons_zero, List.set_cons_succ]) | (refine tseq_read (v := ?_) rfl rfl rfl rfl (fun X hX => ?_) ?_; rotate_left; (focus (go_simp <;> with_reducible rfl)); simp only [Act.put, List.setIfInBounds_toArray, List.set_cons_zero, List.set_cons_succ]))
    (refine tseq_step rfl rfl rfl (fun K hK => ?_); go_simp)
    refine (spec_FormatAlphabet ha2).mono ?_
    rintro e w2 ⟨t2, rfl, ht2, hx2⟩
    have hx12 := ((Ext.refl w1).drew).trans hx2
    have q1 : ¬ 9223372036854775807 < t2.size + 1 := by omega
    refine hK.out _ _ hx12 ?_
    (try simp only [Act.put, List.setIfInBounds_toArray, List.set_cons_zero, List.set_cons_succ])
    repeat (first | (refine tseq_skip rfl rfl (by assumption) ?_; simp only [Act.put, List.setIfInBounds_toArray, List.set_cons_zero, List.set_cons_succ]) | (refine tseq_pure (v := ?_) rfl rfl rfl rfl (fun X => ?_) ?_; rotate_left; (focus (go_simp <;> with_reducible rfl)); simp only [Act.put, List.setIfInBounds_toArray, List.set_cons_zero, List.set_cons_succ]) | (refine tseq_read (v := ?_) rfl rfl rfl rfl (fun X hX => ?_) ?_; rotate_left; (focus (go_simp <;> with_reducible rfl)); simp only [Act.put, List.setIfInBounds_toArray, List.set_cons_zero, List.set_cons_succ]))
    (refine tseq_step rfl rfl rfl (fun K hK => ?_); go_simp)
    refine (spec_l19Dec (n := p) (by omega)).mono ?_
    rintro e w3 ⟨t3, rfl, ht3, hx3⟩
    have hx13 := hx12.trans hx3
    have q2 : ¬ 9223372036854775807 < t2.size + 1 + t3.size := by omega
    refine hK.out _ _ hx13 ?_
    (try simp only [Act.put, List.setIfInBounds_toArray, List.set_cons_zero, List.set_cons_succ])
    repeat (first | (refine tseq_skip rfl rfl (by assumption) ?_; simp only [Act.put, List.setIfInBounds_toArray, List.set_cons_zero, List.set_cons_succ]) | (refine tseq_pure (v := ?_) rfl rfl rfl rfl (fun X => ?_) ?_; rotate_left; (focus (go_simp <;> with_reducible rfl)); simp only [Act.put, List.setIfInBounds_toArray, List.set_cons_zero, List.set_cons_succ]) | (refine tseq_read (v := ?_) rfl rfl rfl rfl (fun X hX => ?_) ?_; rotate_left; (focus (go_simp <;> with_reducible rfl)); simp only [Act.put, List.setIfInBounds_toArray, List.set_cons_zero, List.set_cons_succ]))
    refine tseq_nil ?_
    obtain ⟨t4, ht4⟩ : ∃ t4 : ByteArray, t4 = t2 ++ { data := #[32] } ++ t3 := ⟨_, rfl⟩
    have hs4 : t4.size ≤ 20 := by rw [ht4, ByteArray.size_append, ByteArray.size_append]; show t2.size + 1 + t3.size ≤ 20; omega
    rw [← ht4]
    clear ht4 q1 q2 ht2 ht3 hx2 hx3 hx12
    have hext0 := hx13
    go_wp2_with fail
    go_loopw [3, 4] (fun v i wr => ∃ (k : Nat) (t : ByteArray), k ≤ n ∧ i = .int .i64 k ∧ v = .string t ∧ t.size ≤ 20 + 20 * k ∧ Ext w1 wr) (fun _ i _ => n - (intOf i).toNat)
    case atStart => exact ⟨0, t4, Nat.zero_le _, rfl, rfl, hs4, hext0⟩
    case round =>
      clear hext0 hx13 hs4
      obtain ⟨k, t, hk, rfl, rfl, ht, hext⟩ := hrel
      have cb0 := cb wr hext
      by_cases hlt : k < n
      · obtain ⟨b, o, x, rfl, _, _, hx0, c0, c1, c2⟩ := (HS.out wr (hw1.trans hext)).2.edge hlt
        obtain ⟨⟨f0, f1⟩, ⟨g0, g1⟩, ⟨t0, t1⟩⟩ := Hf.out x (List.mem_of_getElem? hx0.out)
        obtain ⟨u, hue⟩ : ∃ u : Nat, x.fr = u := ⟨x.fr.toNat, by omega⟩
        obtain ⟨v, hve⟩ : ∃ v : Nat, x.to = v := ⟨x.to.toNat, by omega⟩
        rw [hue] at c0 f0 f1
        rw [hve] at c2 t0 t1
        clear hue hve
        go_wp2_with fail
        have hxq := (Ext.refl wr).alloc (.cells #[.int .i64 u, .int .i64 x.le, .int .i64 v] 48)
        have hbq := Blk.new wr 48 #[.int .i64 u, .int .i64 x.le, .int .i64 v]
        generalize wr.alloc (.cells #[.int .i64 u, .int .i64 x.le, .int .i64 v] 48) = wq at *
        have cq : ∀ W, Ext wq W → ∀ q, W.cell? ⟨wr.heap.size, q, none⟩ = #[Value.int .i64 u, .int .i64 x.le, .int .i64 v][q]? := fun W hW => (hbq.ext hW).cell
        have q0 : ¬ 9223372036854775807 < t.size + 1 := by omega
        refine wp_region_tail (fun X => Ext wq X) [] (Ord.of [0, 1, 2, 3, 6, 7, 10, 11, 4, 5, 8, 9, 12, 13, 14]) (by kernel_rfl) rfl (by kernel_rfl) (by kernel_rfl) (by kernel_rfl) (fun _ _ _ _ _ h => h) (by first | assumption | exact (Ext.refl _).drew | exact (Dr.refl _ _).drew | (refine Ext.drew ?_; assumption)) ?_
        repeat (first | (refine tseq_skip rfl rfl (by assumption) ?_; simp only [Act.put, List.setIfInBounds_toArray, List.set_cons_zero, List.set_cons_succ]) | (refine tseq_pure (v := ?_) rfl rfl rfl rfl (fun X => ?_) ?_; rotate_left; (focus (go_simp <;> with_reducible rfl)); simp only [Act.put, List.setIfInBounds_toArray, List.set_cons_zero, List.set_cons_succ]) | (refine tseq_read (v := ?_) rfl rfl rfl rfl (fun X hX => ?_) ?_; rotate_left; (focus (go_simp <;> with_reducible rfl)); simp only [Act.put, List.setIfInBounds_toArray, List.set_cons_zero, List.set_cons_succ]))
        (refine tseq_step rfl rfl rfl (fun K hK => ?_); go_simp)
        refine (spec_l19Dec (n := u) (by omega)).mono ?_
        rintro e w2 ⟨t2, rfl, ht2, hx2⟩
        have hy2 := ((Ext.refl wq).drew).trans hx2
        have q1 : ¬ 9223372036854775807 < t.size + 1 + t2.size := by omega
        refine hK.out _ _ hy2 ?_
        (try simp only [Act.put, List.setIfInBounds_toArray, List.set_cons_zero, List.set_cons_succ])
        repeat (first | (refine tseq_skip rfl rfl (by assumption) ?_; simp only [Act.put, List.setIfInBounds_toArray, List.set_cons_zero, List.set_cons_succ]) | (refine tseq_pure (v := ?_) rfl rfl rfl rfl (fun X => ?_) ?_; rotate_left; (focus (go_simp <;> with_reducible rfl)); simp only [Act.put, List.setIfInBounds_toArray, List.set_cons_zero, List.set_cons_succ]) | (refine tseq_read (v := ?_) rfl rfl rfl rfl (fun X hX => ?_) ?_; rotate_left; (focus (go_simp <;> with_reducible rfl)); simp only [Act.put, List.setIfInBounds_toArray, List.set_cons_zero, List.set_cons_succ]))
        (refine tseq_step rfl rfl rfl (fun K hK => ?_); go_simp)
        refine (spec_l1Text (l := x.le) g0 g1).mono ?_
        rintro e w3 ⟨t3, rfl, ht3, hx3⟩
        have hy3 := hy2.trans hx3
        have q2 : ¬ 9223372036854775807 < t.size + 1 + t2.size + t3.size := by omega
        refine hK.out _ _ hy3 ?_
        (try simp only [Act.put, List.setIfInBounds_toArray, List.set_cons_zero, List.set_cons_succ])
        repeat (first | (refine tseq_skip rfl rfl (by assumption) ?_; simp only [Act.put, List.setIfInBounds_toArray, List.set_cons_zero, List.set_cons_succ]) | (refine tseq_pure (v := ?_) rfl rfl rfl rfl (fun X => ?_) ?_; rotate_left; (focus (go_simp <;> with_reducible rfl)); simp only [Act.put, List.setIfInBounds_toArray, List.set_cons_zero, List.set_cons_succ]) | (refine tseq_read (v := ?_) rfl rfl rfl rfl (fun X hX => ?_) ?_; rotate_left; (focus (go_simp <;> with_reducible rfl)); simp only [Act.put, List.setIfInBounds_toArray, List.set_cons_zero, List.set_cons_succ]))
        (refine tseq_step rfl rfl rfl (fun K hK => ?_); go_simp)
        refine (spec_l19Dec (n := v) (by omega)).mono ?_
        rintro e w5 ⟨t5, rfl, ht5, hx5⟩
        have hy5 := hy3.trans hx5
        have q3 : ¬ 9223372036854775807 < t.size + 1 + t2.size + t3.size + t5.size := by omega
        refine hK.out _ _ hy5 ?_
        (try simp only [Act.put, List.setIfInBounds_toArray, List.set_cons_zero, List.set_cons_succ])
        repeat (first | (refine tseq_skip rfl rfl (by assumption) ?_; simp only [Act.put, List.setIfInBounds_toArray, List.set_cons_zero, List.set_cons_succ]) | (refine tseq_pure (v := ?_) rfl rfl rfl rfl (fun X => ?_) ?_; rotate_left; (focus (go_simp <;> with_reducible rfl)); simp only [Act.put, List.setIfInBounds_toArray, List.set_cons_zero, List.set_cons_succ]) | (refine tseq_read (v := ?_) rfl rfl rfl rfl (fun X hX => ?_) ?_; rotate_left; (focus (go_simp <;> with_reducible rfl)); simp only [Act.put, List.setIfInBounds_toArray, List.set_cons_zero, List.set_cons_succ]))
        refine tseq_nil ?_
        have hs6 : (t ++ { data := #[32] } ++ t2 ++ t3 ++ t5).size ≤ 20 + 20 * (k + 1) := by
          simp only [ByteArray.size_append]
          show t.size + 1 + t2.size + t3.size + t5.size ≤ _
          omega
        clear q0 q1 q2 q3
        go_wp2_with fail
        go_roundw
        case rel => exact ⟨k + 1, _, by omega, by go_num, rfl, hs6, (hext.trans hxq).trans hy5⟩
        case measure => simp [intOf]; omega
      · obtain rfl : n = k := by omega
        go_wp2_with fail
        go_ret
        have hv := H1.out
        exact ⟨t, rfl, fun h => absurd (hv.symm.trans h) (by decide), hw1.trans hext⟩
end Go.Proofs.YtbifoikcmjmdeaaDoor

namespace Go.Proofs.YtbifoikcmjmdeaaDoor
open Go Go.RowKit
set_option maxHeartbeats 2000000

/-- A system with few letters and few states, whose edges lie among them. -/
def Good (s : Sys) : Prop := ∃ a p : Nat, s.al = a ∧ a < 64 ∧ s.st = p ∧ 1 ≤ p ∧ p ≤ 16 ∧ Few p s.edges
/-- The edges of a system lie behind the source R, in a block of edges. -/
def SysIn (w : World) (R : Nat) (A : Option Addr) (n : Nat) (s : Sys) : Prop :=
  n = s.edges.length ∧ n ≤ 9223372036854775807 ∧ (0 < n → ∃ (g o : Nat) (cs : Array Value), A = some ⟨g, o, none⟩ ∧ R < g ∧ w.heap[g]? = some (.cells cs 48 (0, 0)) ∧ ∀ j u, (edgeCells s.edges)[j]? = some u → w.cell? ⟨g, o + j, none⟩ = some u)
theorem SysIn.at_ {w : World} {R n : Nat} {A : Option Addr} {s : Sys} (h : SysIn w R A n s) : SysAt w (R + 1) w.heap.size A n s := by
  refine ⟨h.1, by rw [edgeCells_length, ← h.1], h.2.1, fun h0 => ?_⟩
  obtain ⟨g, o, cs, e, hR, hh, hc⟩ := h.2.2 h0
  exact ⟨⟨g, o, none⟩, e, hR, (Array.getElem?_eq_some_iff.1 hh).1, fun j u hu => by rw [addr_lit]; exact hc j u hu⟩
/-- What turns other blocks alone leaves it as it is. -/
theorem SysIn.frm {S : Nat → Prop} {w w' : World} {R n : Nat} {A : Option Addr} {s : Sys} (h : SysIn w R A n s) (hb : Frm S w w') (hS : ∀ k, S k → R < k → ∀ cs, w.heap[k]? ≠ some (.cells cs 48 (0, 0))) : SysIn w' R A n s := by
  refine ⟨h.1, h.2.1, fun h0 => ?_⟩
  obtain ⟨g, o, cs, e, hR, hh, hc⟩ := h.2.2 h0
  have hlt := (Array.getElem?_eq_some_iff.1 hh).1
  have hn : ¬ S g := fun hs => hS g hs hR cs hh
  exact ⟨g, o, cs, e, hR, (hb.block g hlt hn).trans hh, fun j u hu => (World.cell?_of_block (w := w) (hb.block g hlt hn)).trans (hc j u hu)⟩
theorem SysIn.ext {w w' : World} {R n : Nat} {A : Option Addr} {s : Sys} (h : SysIn w R A n s) (hb : Ext w w') : SysIn w' R A n s := h.frm (S := fun _ => False) hb (fun _ hk => hk.elim)
theorem SysIn.dr {w w' : World} {R n : Nat} {A : Option Addr} {s : Sys} (h : SysIn w R A n s) (hb : Dr R w w') : SysIn w' R A n s := h.frm hb (fun k hk hR => by omega)
/-- A store into a variable of another type. -/
theorem SysIn.far {w w' : World} {R n Z : Nat} {A : Option Addr} {s : Sys} {cs : Array Value} {t : TypeId} (h : SysIn w R A n s) (hB : Blk w Z t cs) (ht : t ≠ 48) (hb : Frm (fun k => k = Z) w w') : SysIn w' R A n s := h.frm hb (fun k hk _ cs' hh => by
  subst hk
  unfold Blk at hB
  rw [hB] at hh
  injection hh with hh
  injection hh with _ h2
  exact ht h2)
theorem SysIn.own {w : World} {R base n c : Nat} {A : Option Addr} {s : Sys} (h : w.ownsRow base 48 3 (.slice A n c) n (edgeCells s.edges)) (hR : R < base) : SysIn w R A n s := by
  have hl : n = s.edges.length := by have := h.1; rw [edgeCells_length] at this; omega
  refine ⟨hl, (Reads.of_own h).len, fun h0 => ?_⟩
  rcases h.2 with ⟨_, h1⟩ | ⟨g, cap, cur, hv, hb, hh, _⟩
  · omega
  · have hA : A = some ⟨g, 0, none⟩ := by injection hv
    subst hA
    exact ⟨g, 0, cur, rfl, by omega, hh, fun j u hu => by
      have := h.cells (g := g) rfl j u hu
      rwa [addr_lit] at this⟩
theorem own_cap {w : World} {base : Nat} {e : TypeId} {size n c : Nat} {A : Option Addr} {xs : List Value} (h : w.ownsRow base e size (.slice A n c) n xs) : n ≤ c := by
  rcases h.2 with ⟨hv, h0⟩ | ⟨g, cap, cur, hv, _, _, hnc, _⟩
  · omega
  · injection hv with _ _ h3
    omega
/-- A system that was drawn. -/
def RetG (R M L : Nat) (w : World) (e : Ending) (w' : World) : Prop :=
  ∃ (s : Sys) (A : Option Addr) (n c : Nat), e = .returned (.agg #[.int .i64 s.al, .int .i64 s.st, .slice A n c]) ∧ SysIn w' R A n s ∧ Good s ∧ (n ≤ L ∧ n ≤ c) ∧ Rd w' R M ∧ Dr R w w'
/-- A system that was drawn, of whatever values. -/
def RetA (R M L : Nat) (w : World) (e : Ending) (w' : World) : Prop :=
  ∃ (s : Sys) (A : Option Addr) (n c : Nat), e = .returned (.agg #[.int .i64 s.al, .int .i64 s.st, .slice A n c]) ∧ SysIn w' R A n s ∧ (n ≤ L ∧ n ≤ c) ∧ Rd w' R M ∧ Dr R w w'
/-- The variable G holds a system that grows: its edges lie in memory that is newer than the world wB. -/
structure Acc (w0 wB W : World) (R G M : Nat) (al st : Int) (v : Value) (es : List Edg) : Prop where
  blk : Blk W G 25 #[.int .i64 al, .int .i64 st, v]
  own : W.ownsRow wB.heap.size 48 3 v es.length (edgeCells es)
  rd : Rd W R M
  dr : Dr R w0 W
  fr : Frm (fun k => k = R ∨ k = G) wB W
  hR : R < w0.heap.size
  hB : w0.heap.size ≤ wB.heap.size
  hG : w0.heap.size ≤ G
section
variable {w0 wB W W' : World} {R G M N : Nat} {al st : Int} {v : Value} {es : List Edg}
theorem Acc.more (h : Acc w0 wB W R G M al st v es) (hM : M ≤ N) : Acc w0 wB W R G N al st v es := { h with rd := h.rd.more hM }
theorem Acc.ext (h : Acc w0 wB W R G M al st v es) (hb : Ext W W') : Acc w0 wB W' R G M al st v es := ⟨h.blk.ext hb, own_ext h.own hb, h.rd.ext hb, h.dr.ext hb, h.fr.ext hb, h.hR, h.hB, h.hG⟩
theorem Acc.drawn (h : Acc w0 wB W R G M al st v es) (hb : Dr R W W') (hr : Rd W' R N) : Acc w0 wB W' R G N al st v es :=
  ⟨h.blk.dr hb (by have := h.hR; have := h.hG; omega), own_frm h.own hb (fun b hv hS => by have := (h.own.lt b hv).1; have := h.hR; have := h.hB; omega), hr, h.dr.trans hb, h.fr.trans (hb.mono fun k _ hk => Or.inl hk), h.hR, h.hB, h.hG⟩
theorem Acc.far (h : Acc w0 wB W R G M al st v es) {b : Nat} (hv : v.ownBlock = some b) : b ≠ G := by
  rintro rfl
  have hB := h.blk
  rcases h.own.2 with ⟨rfl, _⟩ | ⟨g, cap, cur, rfl, _, hh, _⟩
  · simp [Value.ownBlock] at hv
  · have hg : g = b := by simpa [Value.ownBlock] using hv
    subst hg
    unfold Blk at hB
    rw [hh] at hB
    injection hB with hB
    injection hB with _ ht
    exact absurd ht (by decide)
/-- The variable's other cells may be turned. -/
theorem Acc.setAl (h : Acc w0 wB W R G M al st v es) (x : Int) : Acc w0 wB (W.setCell ⟨G, 0, none⟩ (.int .i64 x)) R G M x st v es :=
  ⟨by simpa using h.blk.set_ 0 _, own_frm h.own (Frm.setCell W G 0 _) (fun b hv hS => h.far hv hS), h.rd.frm (Frm.setCell W G 0 _) (fun k hk hS => by have := h.hR; have := h.hG; omega), h.dr.setNew h.hG _, h.fr.cell (Or.inr rfl) _, h.hR, h.hB, h.hG⟩
theorem Acc.setSt (h : Acc w0 wB W R G M al st v es) (x : Int) : Acc w0 wB (W.setCell ⟨G, 1, none⟩ (.int .i64 x)) R G M al x v es :=
  ⟨by simpa using h.blk.set_ 1 _, own_frm h.own (Frm.setCell W G 1 _) (fun b hv hS => h.far hv hS), h.rd.frm (Frm.setCell W G 1 _) (fun k hk hS => by have := h.hR; have := h.hG; omega), h.dr.setNew h.hG _, h.fr.cell (Or.inr rfl) _, h.hR, h.hB, h.hG⟩
/-- One edge more: what 'append' left, and its store into the variable. -/
theorem Acc.push {g cap : Nat} {e : Edg} (h : Acc w0 wB W R G M al st v es) (hown : W'.ownsRow wB.heap.size 48 3 (.slice (some ⟨g, 0, none⟩) (es.length + 1) cap) (es.length + 1) (edgeCells es ++ [.int .i64 e.fr, .int .i64 e.le, .int .i64 e.to]))
    (hg : W.grownBy W' v.ownBlock) (hat : v.ownBlock = some g ∨ g = W.heap.size + 1) :
    Hid (W'.cell? ⟨G, 2, none⟩ = some v) ∧ W'.frozen? ⟨G, 2, none⟩ = false ∧ Acc w0 wB (W'.setCell ⟨G, 2, none⟩ (.slice (some ⟨g, 0, none⟩) (es.length + 1) cap)) R G M al st (.slice (some ⟨g, 0, none⟩) (es.length + 1) cap) (es ++ [e]) := by
  have hB : Blk W' G 25 #[.int .i64 al, .int .i64 st, v] := (hg.block G h.blk.lt (fun e => h.far e.symm rfl)).trans h.blk
  have hgG : g ≠ G := by
    rcases hat with h1 | h1
    · exact h.far h1
    · have := h.blk.lt; omega
  have hd : Dr R w0 W' := h.dr.grown hg (fun k hk => Nat.le_trans h.hB (h.own.lt k hk).1)
  have hr : Rd W' R M := h.rd.frm (Frm.of_grown hg) (fun k hk hS => by have := (h.own.lt k hS).1; have := h.hR; have := h.hB; omega)
  have hf : Frm (fun k => k = R ∨ k = G) wB W' :=
    ⟨hg.os.trans h.fr.os, hg.tape.trans h.fr.tape, hg.output.trans h.fr.output, Nat.le_trans h.fr.size hg.size,
      fun k hk hn => (hg.block k (Nat.lt_of_lt_of_le hk h.fr.size) (fun e => by have := (h.own.lt k e.symm).1; omega)).trans (h.fr.block k hk hn)⟩
  refine ⟨hB.cell 2, hB.frozen 2, ⟨by simpa using hB.set_ 2 _, ?_, hr.frm (Frm.setCell W' G 2 _) (fun k hk hS => by have := h.hR; have := h.hG; omega), hd.setNew h.hG _, hf.cell (Or.inr rfl) _, h.hR, h.hB, h.hG⟩⟩
  have := own_frm hown (Frm.setCell W' G 2 (.slice (some ⟨g, 0, none⟩) (es.length + 1) cap)) (fun b hv hS => by
    have : g = b := by simpa [Value.ownBlock] using hv
    omega)
  rw [edgeCells_append]
  simpa [edgeCells] using this
theorem Acc.reads {A : Option Addr} {n c : Nat} (h : Acc w0 wB W R G M al st (.slice A n c) es) : n = es.length ∧ SysAt W wB.heap.size W.heap.size A n ⟨al, st, es⟩ := by
  have hn : n = es.length := by
    rcases h.own.2 with ⟨hv, h0⟩ | ⟨g, cap, cur, hv, _⟩
    · injection hv with _ h2 _; omega
    · injection hv
  have ho := h.own
  rw [← hn] at ho
  exact ⟨hn, hn, Reads.of_own ho⟩
theorem Acc.form (h : Acc w0 wB W R G M al st v es) : ∃ A n c, v = .slice A n c := by
  obtain ⟨A, c, e⟩ := own_form h.own
  exact ⟨A, _, c, e⟩
/-- What is older than wB, and neither the source nor the variable, reads as it did. -/
theorem Acc.old (h : Acc w0 wB W R G M al st v es) {lo hi size n : Nat} {A : Option Addr} {xs : List Value} (hx : Reads wB lo hi size A n xs) (h1 : ∀ k, lo ≤ k → k < hi → k ≠ R ∧ k ≠ G) : Reads W lo hi size A n xs :=
  hx.frm h.fr (fun k a b hS => by have := h1 k a b; omega)
end
/-- The result's cells are filled. -/
theorem frm_fill (W : World) (Z : Nat) (u0 u1 u2 : Value) : Frm (fun k => k = Z) W (((W.setCell ⟨Z, 0, none⟩ u0).setCell ⟨Z, 1, none⟩ u1).setCell ⟨Z, 2, none⟩ u2) :=
  ((Frm.setCell W Z 0 u0).trans (Frm.setCell _ Z 1 u1)).trans (Frm.setCell _ Z 2 u2)
/-- What a function that builds a system hands back. -/
theorem Acc.fin {w0 wB W : World} {R G M Z : Nat} {al st : Int} {A : Option Addr} {n c : Nat} {es : List Edg} (h : Acc w0 wB W R G M al st (.slice A n c) es) (hZ : w0.heap.size ≤ Z) (hZ2 : Z < wB.heap.size) (u0 u1 u2 : Value) :
    SysIn (((W.setCell ⟨Z, 0, none⟩ u0).setCell ⟨Z, 1, none⟩ u1).setCell ⟨Z, 2, none⟩ u2) R A n ⟨al, st, es⟩ ∧
    Rd (((W.setCell ⟨Z, 0, none⟩ u0).setCell ⟨Z, 1, none⟩ u1).setCell ⟨Z, 2, none⟩ u2) R M ∧ Dr R w0 (((W.setCell ⟨Z, 0, none⟩ u0).setCell ⟨Z, 1, none⟩ u1).setCell ⟨Z, 2, none⟩ u2) := by
  have hf := frm_fill W Z u0 u1 u2
  obtain ⟨hn, _⟩ := h.reads
  have hR := h.hR
  have hB := h.hB
  have ho := h.own
  rw [← hn] at ho
  refine ⟨SysIn.own (s := ⟨al, st, es⟩) (own_frm ho hf (fun b hv hS => by have := (h.own.lt b hv).1; omega)) (by omega), h.rd.frm hf (fun k h1 h2 => by omega), ?_⟩
  exact ((h.dr.setNew (p := ⟨Z, 0, none⟩) hZ u0).setNew (p := ⟨Z, 1, none⟩) hZ u1).setNew (p := ⟨Z, 2, none⟩) hZ u2
end Go.Proofs.YtbifoikcmjmdeaaDoor

namespace Go.Proofs.YtbifoikcmjmdeaaDoor
open Go Go.RowKit
set_option maxHeartbeats 2000000

theorem few_snoc {p : Nat} {es : List Edg} {e : Edg} (h : Few p es) (he : (0 ≤ e.fr ∧ e.fr < p) ∧ (0 ≤ e.le ∧ e.le < 6) ∧ (0 ≤ e.to ∧ e.to < p)) : Few p (es ++ [e]) := fun x hx => by
  rcases List.mem_append.1 hx with h1 | h1
  · exact h x h1
  · rw [List.mem_singleton.1 h1]; exact he
theorem few_nil (p : Nat) : Few p [] := fun x hx => by cases hx

set_option maxRecDepth 100000 in
theorem spec_l2Random {R M a p : Nat} {few : Int} {w : World} (h : Rd w R M) (hM : M ≤ 900000000) (ha : a < 64) (hp1 : 1 ≤ p) (hp : p ≤ 16) :
    Calls Tryd.prog 70 #[.pointer (some ⟨R, 0, none⟩), .int .i64 a, .int .i64 p, .int .i64 few] w (RetG R (M + 20000) 20000 w) := by
  have hsm : Sm a := by unfold Sm; omega
  have hRl := h.lt
  go_enter Tryd.func70, Tryd.ntmps70
  go_wp2_with fail
  refine (spec_l1Letters a hsm _).mono ?_
  rintro e w1 ⟨B, d, rfl, hown1, hx1⟩
  obtain ⟨bz, bG⟩ := ext_blk2 hx1
  have hw1 := (((Ext.refl w).alloc _).alloc _).trans hx1
  have hl6 := letters_length a 6
  have hlm := hide (fun k (hk : k ∈ letters a 6) => (mem_letters.1 hk).1)
  have hrd1 := (Reads.of_own hown1).more (lo' := w.heap.size + 2) (hi' := w1.heap.size) (by simp) (Nat.le_refl _)
  have hacc : Acc w w1 w1 R (w.heap.size + 1) M a p (.slice none 0 0) [] := ⟨bG, World.ownsRow_nil _ _ _ _, h.ext hw1, hw1.dr, Frm.refl _ _, hRl, hw1.size, by omega⟩
  have bz1 : Blk w1 w.heap.size 25 #[.int .i64 0, .int .i64 0, .slice none 0 0] := bz
  clear hown1 bG hx1 bz
  generalize letters a 6 = ls at *
  have hz1 := hw1.size
  go_wp2_with fail
  go_loopw [11] (fun i wr => ∃ k : Nat, k ≤ p ∧ i = .int .i64 k ∧ ∃ (v : Value) (es : List Edg), Acc w w1 wr R (w.heap.size + 1) (M + k * 1000) a p v es ∧ es.length ≤ k * 1000 ∧ Hid (Few p es)) (fun i _ => p - (intOf i).toNat)
  case atStart => exact ⟨0, Nat.zero_le _, rfl, _, [], hacc.more (Nat.le_add_right _ _), Nat.zero_le _, few_nil p⟩
  case round =>
    clear hacc
    obtain ⟨k, hk, rfl, v, es, hacc, hel, hfew⟩ := hrel
    by_cases hlt : k < p
    · go_wp2_with fail
      go_loopw [12] (fun i wr => ∃ j : Nat, j ≤ ls.length ∧ i = .int .i64 j ∧ ∃ (v : Value) (es : List Edg), Acc w w1 wr R (w.heap.size + 1) (M + k * 1000 + j * 100) a p v es ∧ es.length ≤ k * 1000 + j * 100 ∧ Hid (Few p es)) (fun i _ => ls.length - (intOf i).toNat)
      case atStart => exact ⟨0, Nat.zero_le _, rfl, v, es, hacc.more (Nat.le_add_right _ _), Nat.le_trans hel (Nat.le_add_right _ _), hfew⟩
      case round =>
        clear hacc hel hfew
        obtain ⟨j, hj, rfl, v, es, hacc, hel, hfew⟩ := hrel
        by_cases hlj : j < ls.length
        · go_wp2_with fail
          go_loopw [13] (fun i wr => ∃ x : Nat, x ≤ p ∧ i = .int .i64 x ∧ ∃ (v : Value) (es : List Edg), Acc w w1 wr R (w.heap.size + 1) (M + k * 1000 + j * 100 + x) a p v es ∧ es.length ≤ k * 1000 + j * 100 + x ∧ Hid (Few p es)) (fun i _ => p - (intOf i).toNat)
          case atStart => exact ⟨0, Nat.zero_le _, rfl, v, es, hacc.more (Nat.le_add_right _ _), Nat.le_trans hel (Nat.le_add_right _ _), hfew⟩
          case round =>
            clear hacc hel hfew
            obtain ⟨x, hx, rfl, v, es, hacc, hel, hfew⟩ := hrel
            by_cases hlx : x < p
            · go_wp2_with fail
              refine (l19Rd_pick hacc.rd (by omega)).mono ?_
              rintro e w2 ⟨y, rfl, _, _, hr2, hd2⟩
              have hacc2 := hacc.drawn hd2 hr2
              obtain ⟨ad, l, rfl, _, hadhi, hl, hlc⟩ := (hacc2.old hrd1 (by omega)).nat hlj
              have hl6' := hlm.out l (List.mem_of_getElem? hl.out)
              by_cases hy : y = 0
              · subst hy
                have cG : ∀ W, Ext w2 W → ∀ q, W.cell? ⟨w.heap.size + 1, q, none⟩ = #[Value.int .i64 a, .int .i64 p, v][q]? := fun W hW => (hacc2.blk.ext hW).cell
                have cL : ∀ W, Ext w2 W → W.cell? (ad.add j) = some (.int .i64 (l : Nat)) := fun W hW => hW.cell_some hlc
                have hj0 : (0 : Int) ≤ (j : Int) := by omega
                have hj1 : (j : Int) < (ls.length : Int) := by omega
                go_wp2_with fail
                refine wp_region_tail (fun X => Ext w2 X) [10, 12] (Ord.of [0, 1, 2, 3, 4, 5, 6, 7, 8, 9, 10, 11, 12]) (by kernel_rfl) rfl (by kernel_rfl) (by kernel_rfl) (by kernel_rfl) (fun _ _ _ _ _ h => h) (by first | assumption | exact (Ext.refl _).drew | exact (Dr.refl _ _).drew | (refine Ext.drew ?_; assumption)) ?_
                repeat (first | (refine tseq_skip rfl rfl (by assumption) ?_; simp only [Act.put, List.setIfInBounds_toArray, List.set_cons_zero, List.set_cons_succ]) | (refine tseq_pure (v := ?_) rfl rfl rfl rfl (fun X => ?_) ?_; rotate_left; (focus (go_simp <;> with_reducible rfl)); simp only [Act.put, List.setIfInBounds_toArray, List.set_cons_zero, List.set_cons_succ]) | (refine tseq_read (v := ?_) rfl rfl rfl rfl (fun X hX => ?_) ?_; rotate_left; (focus (go_simp <;> with_reducible rfl)); simp only [Act.put, List.setIfInBounds_toArray, List.set_cons_zero, List.set_cons_succ]))
                (refine tseq_step rfl rfl rfl (fun K hK => ?_); go_simp)
                refine hK.out _ _ ((Ext.refl _).drew.alloc _) ?_
                (try simp only [Act.put, List.setIfInBounds_toArray, List.set_cons_zero, List.set_cons_succ])
                (refine tseq_last rfl rfl rfl rfl (fun K hK => ?_))
                refine wp_push w1 w2.drew _ _ _ rfl 48 _ 3 24 Tryd.underlying23 info_edge rfl (by decide) v es.length (edgeCells es) _ _ rfl rfl hacc2.fr.size hacc2.own rfl (by simp [Value.oneCell']) (by unfold maxLen; omega) (by omega) ?_
                intro g cap w3 hown3 hg3 hat3 hlt3
                refine hK.out _ _ ?_
                (try simp only [Act.put, List.setIfInBounds_toArray, List.set_cons_zero, List.set_cons_succ])
                repeat (first | (refine tseq_skip rfl rfl (by assumption) ?_; simp only [Act.put, List.setIfInBounds_toArray, List.set_cons_zero, List.set_cons_succ]) | (refine tseq_pure (v := ?_) rfl rfl rfl rfl (fun X => ?_) ?_; rotate_left; (focus (go_simp <;> with_reducible rfl)); simp only [Act.put, List.setIfInBounds_toArray, List.set_cons_zero, List.set_cons_succ]) | (refine tseq_read (v := ?_) rfl rfl rfl rfl (fun X hX => ?_) ?_; rotate_left; (focus (go_simp <;> with_reducible rfl)); simp only [Act.put, List.setIfInBounds_toArray, List.set_cons_zero, List.set_cons_succ]))
                obtain ⟨h1, h2, h3⟩ := (hacc2.ext ((Ext.refl _).drew)).push (e := ⟨k, l, x⟩) (W' := w3) hown3 hg3 hat3
                have h1' := h1.out
                (refine tseq_last rfl rfl rfl rfl (fun K hK => ?_))
                go_simp
                refine hK.out _ _ ?_
                refine tseq_nil ?_
                go_wp2_with fail
                go_roundw
                case rel => exact ⟨x + 1, by omega, by go_num, _, _, h3.more (by omega), by simp; omega, few_snoc hfew.out (by simp; omega)⟩
                case measure => simp [intOf]; omega
              · have hy' : ((y : Int) == 0) = false := by simp; omega
                go_wp2_with fail
                go_roundw
                case rel => exact ⟨x + 1, by omega, by go_num, v, es, hacc2.more (by omega), by omega, hfew⟩
                case measure => simp [intOf]; omega
            · obtain rfl : p = x := by omega
              have e1 : es.length ≤ k * 1000 + (j + 1) * 100 := by omega
              have e2 : M + k * 1000 + j * 100 + p ≤ M + k * 1000 + (j + 1) * 100 := by omega
              go_wp2_with fail
              go_roundw
              case rel => exact ⟨j + 1, by omega, by go_num, v, es, hacc.more e2, e1, hfew⟩
              case measure => simp [intOf]; omega
        · obtain rfl : j = ls.length := by omega
          have e1 : es.length ≤ (k + 1) * 1000 := by omega
          have e2 : M + k * 1000 + ls.length * 100 ≤ M + (k + 1) * 1000 := by omega
          go_wp2_with fail
          go_roundw
          case rel => exact ⟨k + 1, by omega, by go_num, v, es, hacc.more e2, e1, hfew⟩
          case measure => simp [intOf]; omega
    · obtain rfl : p = k := by omega
      obtain ⟨A, n, c, rfl⟩ := hacc.form
      obtain ⟨rfl, _⟩ := hacc.reads
      have hcap := own_cap hacc.own
      have cG := hacc.blk.cell
      have bz2 := bz1.frm hacc.fr (by omega)
      have cz := bz2.cell
      have hzz := bz1.lt
      have fz := bz2.frozen
      obtain ⟨f1, f2, f3⟩ := hacc.fin (Z := w.heap.size) (Nat.le_refl _) (by omega) (.int .i64 a) (.int .i64 p) (.slice A es.length c)
      have Hfin := hide (show RetG R (M + 20000) 20000 w (.returned (.agg #[.int .i64 a, .int .i64 p, .slice A es.length c])) _ from ⟨⟨a, p, es⟩, A, es.length, c, rfl, f1, ⟨a, p, rfl, ha, rfl, hp1, hp, hfew.out⟩, by omega, f2.more (by omega), f3⟩)
      clear bz1 hrd1 hlm f1 f2 f3
      go_wp2_with fail
      exact bodyPost_ret (v := .agg #[.int .i64 a, .int .i64 p, .slice A es.length c]) (by simp [results, Tryd.results70, go_sem, cz]) rfl Hfin.out
end Go.Proofs.YtbifoikcmjmdeaaDoor

namespace Go.Proofs.YtbifoikcmjmdeaaDoor
open Go Go.RowKit
set_option maxHeartbeats 4000000

theorem wpList_push2 {P : Program} (wb w : World) {ops : Array Oper} {rest : List Oper} {o : Oper} {a : Act} {Q : Exit → Act → World → Prop} (hgd : o.guard = none) (s x : Operand) (t : TypeId)
    (ho : o.op = .call { callee := .builtin .append, args := #[s, x], argTypes := #[t, t] })
    (e : TypeId) (z : Value) (size bytes : Nat) (ht : P.underlying t = some (.slice e)) (hi : (P.info? e).map (fun i => (i.zero, i.size, i.bytes)) = some (some z, size, bytes)) (hzs : z.cells.size = size) (hsz : 0 < size)
    (v : Value) (n : Nat) (xs : List Value) (us : Array Value) (e' : TypeId) (hs : a.eval s = v) (hx : a.eval x = .slice (some ⟨w.heap.size, 0, none⟩) 1 1)
    (hext : wb.heap.size ≤ w.heap.size) (hown : w.ownsRow wb.heap.size e size v n xs) (hus : us.size = size) (h1 : ∀ u ∈ us.toList, u.oneCell' = true)
    (h63 : n + 1 ≤ maxLen) (hbytes : (n + 1) * bytes ≤ 140737488355328)
    (h : ∀ g cap w', w'.ownsRow wb.heap.size e size (.slice (some ⟨g, 0, none⟩) (n + 1) cap) (n + 1) (xs ++ us.toList) → w.grownBy w' v.ownBlock → (v.ownBlock = some g ∨ g = w.heap.size + 1) → g < w'.heap.size → wpList P ops Q rest (a.put o.dst (.slice (some ⟨g, 0, none⟩) (n + 1) cap)) w') :
    wpList P ops Q (o :: rest) a (w.alloc (.cells us e')) :=
  wpList_plain hgd fun _ hK => wp_push wb w s x t ho e z size bytes ht hi hzs hsz v n xs us e' hs hx hext hown hus h1 h63 hbytes fun g cap w' h2 h3 h4 h5 => hK _ _ (h g cap w' h2 h3 h4 h5)
theorem Reads.str {w : World} {lo hi n k : Nat} {A : Option Addr} {l : List ByteArray} (h : Reads w lo hi 1 A n (strs l)) (hk : k < n) : ∃ ad x, A = some ad ∧ lo ≤ ad.block ∧ ad.block < hi ∧ Hid (l[k]? = some x) ∧ w.cell? (ad.add k) = some (.string x) := by
  obtain ⟨ad, u, e, h1, h2, hu, hc⟩ := h.one hk
  have := hu.out
  simp only [strs, List.getElem?_map, Option.map_eq_some_iff] at this
  obtain ⟨x, hx, rfl⟩ := this
  exact ⟨ad, x, e, h1, h2, hx, hc⟩
theorem valid_good {s : Sys} (h : sysValid s = true) : Good s := by
  obtain ⟨p, hp, hp1, hp2, hf⟩ := valid_few h
  obtain ⟨a, ha, ha2⟩ := valid_al h
  exact ⟨a, p, ha, ha2, hp, hp1, hp2, hf⟩
theorem Acc.fillRD {w0 wB W : World} {R G M Z : Nat} {al st : Int} {v : Value} {es : List Edg} (h : Acc w0 wB W R G M al st v es) (hZ : w0.heap.size ≤ Z) (u0 u1 u2 : Value) :
    Rd (((W.setCell ⟨Z, 0, none⟩ u0).setCell ⟨Z, 1, none⟩ u1).setCell ⟨Z, 2, none⟩ u2) R M ∧ Dr R w0 (((W.setCell ⟨Z, 0, none⟩ u0).setCell ⟨Z, 1, none⟩ u1).setCell ⟨Z, 2, none⟩ u2) :=
  ⟨h.rd.frm (frm_fill W Z u0 u1 u2) (fun k h1 h2 => by have := h.hR; omega), ((h.dr.setNew (p := ⟨Z, 0, none⟩) hZ u0).setNew (p := ⟨Z, 1, none⟩) hZ u1).setNew (p := ⟨Z, 2, none⟩) hZ u2⟩
theorem str_empty {t x : ByteArray} (h : t.toList = x.toList) (h0 : t.size = 0) : x.size = 0 := by
  have h1 := congrArg List.length h
  rw [ByteArray.toList_eq, ByteArray.toList_eq] at h1
  have e1 : t.data.toList.length = t.size := rfl
  have e2 : x.data.toList.length = x.size := rfl
  omega
/-- A system and whether it is one. -/
def RetParse (R M L : Nat) (w : World) (e : Ending) (w' : World) : Prop :=
  ∃ (s : Sys) (A : Option Addr) (n c : Nat) (ok : Bool), e = .returned (.tuple #[.agg #[.int .i64 s.al, .int .i64 s.st, .slice A n c], .bool ok]) ∧ SysIn w' R A n s ∧ (ok = true → Good s) ∧ (n ≤ L ∧ n ≤ c) ∧ Rd w' R M ∧ Dr R w w'
theorem ret_none {R M L : Nat} {w w' : World} (h : Rd w' R M) (hd : Dr R w w') : RetParse R M L w (.returned (.tuple #[.agg #[.int .i64 0, .int .i64 0, .slice none 0 0], .bool false])) w' :=
  ⟨⟨0, 0, []⟩, none, 0, 0, false, rfl, ⟨rfl, by omega, fun h0 => by omega⟩, (fun h => by cases h), ⟨Nat.zero_le _, Nat.le_refl _⟩, h, hd⟩

set_option maxRecDepth 100000 in
theorem spec_ParseSystem {R M : Nat} {x : ByteArray} {w : World} (h : Rd w R M) (hx : x.size ≤ 1000) :
    Calls Tryd.prog 87 #[.string x] w (RetParse R M 1001 w) := by
  have hRl := h.lt
  go_enter Tryd.func87, Tryd.ntmps87
  go_wp2_with fail
  refine (spec_l19Cut (s := x) (by omega)).mono ?_
  rintro e w1 ⟨B, m, d, l, rfl, hml, hown1, hlx, hm, hx1⟩
  have bz1 := ext_blk1 hx1
  have hzz := bz1.lt
  have hw1 := ((Ext.refl w).alloc _).trans hx1
  have hrd := (Reads.of_own hown1).more (lo' := w.heap.size + 1) (hi' := w1.heap.size) (by simp) (Nat.le_refl _)
  have Hlx := hide hlx
  have Hml := hide hml
  clear hown1 hlx hml hx1
  have cz := bz1.cell
  have fz := bz1.frozen
  have hfill := hide (fun (W : World) (hW : Ext w1 W) (u0 u1 u2 : Value) => (⟨(h.ext (hw1.trans hW)).frm (frm_fill W w.heap.size u0 u1 u2) (fun k hk hS => by omega), (((hw1.trans hW).dr.setNew (R := R) (p := ⟨w.heap.size, 0, none⟩) (Nat.le_refl _) u0).setNew (p := ⟨w.heap.size, 1, none⟩) (Nat.le_refl _) u1).setNew (p := ⟨w.heap.size, 2, none⟩) (Nat.le_refl _) u2⟩ : Rd (((W.setCell ⟨w.heap.size, 0, none⟩ u0).setCell ⟨w.heap.size, 1, none⟩ u1).setCell ⟨w.heap.size, 2, none⟩ u2) R M ∧ Dr R w (((W.setCell ⟨w.heap.size, 0, none⟩ u0).setCell ⟨w.heap.size, 1, none⟩ u1).setCell ⟨w.heap.size, 2, none⟩ u2)))
  by_cases hm2 : m < 2
  · go_wp2_with fail
    obtain ⟨g1, g2⟩ := hfill.out w1 (Ext.refl _) (.int .i64 0) (.int .i64 0) (.slice none 0 0)
    exact bodyPost_ret (v := .tuple #[.agg #[.int .i64 0, .int .i64 0, .slice none 0 0], .bool false]) (by simp [results, Tryd.results87, go_sem, cz]) rfl (ret_none g1 g2)
  · obtain ⟨ad, x0, rfl, hlo, hhi, hx0, hc0⟩ := hrd.str (k := 0) (by omega)
    obtain ⟨b, o, rfl⟩ : ∃ b o, ad = ⟨b, o, none⟩ := ⟨_, _, addr_spot hc0⟩
    rw [addr_lit, Nat.add_zero] at hc0
    obtain ⟨ad', x1, hae, _, _, hx1, hc1⟩ := hrd.str (k := 1) (by omega)
    obtain rfl := Option.some.inj hae
    rw [addr_lit] at hc1
    have hm2' : (2 : Int) ≤ (m : Int) := by omega
    have hb1 := hide (Hlx.out x1 (List.mem_of_getElem? hx1.out))
    go_wp2_with fail
    refine (spec_ParseAlphabet (x := x0)).mono ?_
    rintro e w2 ⟨a, ok1, rfl, ha, hx2⟩
    have hc12 := hx2.cell_some hc1
    have bz2 := bz1.ext hx2
    have cz2 := bz2.cell
    have fz2 := bz2.frozen
    go_wp2_with fail
    refine (spec_l19Num (s := x1) (by have := hb1.out; omega)).mono ?_
    rintro e w2' ⟨st, ok2, rfl, rfl⟩
    obtain ⟨g1, g2⟩ := hfill.out w2 hx2 (.int .i64 0) (.int .i64 0) (.slice none 0 0)
    have Hnone := hide (ret_none (L := 1001) g1 g2)
    clear g1 g2
    cases ok1
    · go_wp2_with fail
      exact bodyPost_ret (v := .tuple #[.agg #[.int .i64 0, .int .i64 0, .slice none 0 0], .bool false]) (by simp [results, Tryd.results87, go_sem, cz2]) rfl Hnone.out
    · cases ok2
      · go_wp2_with fail
        exact bodyPost_ret (v := .tuple #[.agg #[.int .i64 0, .int .i64 0, .slice none 0 0], .bool false]) (by simp [results, Tryd.results87, go_sem, cz2]) rfl Hnone.out
      · have bG := Blk.new w2 25 #[.int .i64 a, .int .i64 st, .slice none 0 0]
        have hx3 := (Ext.refl w2).alloc (.cells #[.int .i64 a, .int .i64 st, .slice none 0 0] 25)
        have hz3 : w2.heap.size < (w2.alloc (.cells #[.int .i64 a, .int .i64 st, .slice none 0 0] 25)).heap.size := by simp
        have hz12 := hx2.size
        have hz01 := hw1.size
        have hw2 := hw1.trans hx2
        clear hc0 hc1 hc12 cz fz cz2 fz2
        go_wp2_with fail
        generalize w2.alloc (.cells #[.int .i64 a, .int .i64 st, .slice none 0 0] 25) = w3 at *
        have hw3 := hw2.trans hx3
        have hrd3 := (hrd.ext hx2).ext hx3
        have bz3 := bz2.ext hx3
        have hacc : Acc w w3 w3 R w2.heap.size M a st (.slice none 0 0) [] := ⟨bG, World.ownsRow_nil _ _ _ _, h.ext hw3, hw3.dr, Frm.refl _ _, hRl, hw3.size, by omega⟩
        go_loopw [10] (fun i wr => ∃ (k : Nat) (v : Value) (es : List Edg), 2 ≤ k ∧ k ≤ m ∧ i = .int .i64 k ∧ Acc w w3 wr R w2.heap.size M a st v es ∧ es.length ≤ k) (fun i _ => m - (intOf i).toNat)
        case atStart => exact ⟨2, _, [], Nat.le_refl _, by omega, rfl, hacc, Nat.zero_le _⟩
        case round =>
          clear hacc
          obtain ⟨k, v, es, hk2, hk, rfl, hacc, hel⟩ := hrel
          have hG := hacc.blk.cell
          have hbz := bz3.frm hacc.fr (by omega)
          have hbzc := hbz.cell
          have hbzf := hbz.frozen
          have hrdk := hacc.old hrd3 (by omega)
          by_cases hlt : k < m
          · obtain ⟨ad, xk, hae, _, _, hxk, hck⟩ := hrdk.str hlt
            obtain rfl := Option.some.inj hae
            rw [addr_lit] at hck
            have hbk := hide (Hlx.out xk (List.mem_of_getElem? hxk.out))
            clear hbzc hbzf
            go_wp2_with fail
            refine (spec_l2Parse (s := xk) (by have := hbk.out; omega)).mono ?_
            rintro e w4 ⟨ed, ok3, rfl, hx4⟩
            have hacc4 := hacc.ext (hx4.alloc (.cells #[.int .i64 ed.fr, .int .i64 ed.le, .int .i64 ed.to] 48))
            have bed := Blk.new w4 48 #[.int .i64 ed.fr, .int .i64 ed.le, .int .i64 ed.to]
            have hbz4 := hbz.ext (hx4.alloc (.cells #[.int .i64 ed.fr, .int .i64 ed.le, .int .i64 ed.to] 48))
            clear hG
            cases ok3
            · have hz4 := hbz4.cell
              have hzf := hbz4.frozen
              go_wp2_with fail
              generalize w4.alloc (.cells #[.int .i64 ed.fr, .int .i64 ed.le, .int .i64 ed.to] 48) = wq at *
              obtain ⟨g1, g2⟩ := hacc4.fillRD (Z := w.heap.size) (Nat.le_refl _) (.int .i64 0) (.int .i64 0) (.slice none 0 0)
              exact bodyPost_ret (v := .tuple #[.agg #[.int .i64 0, .int .i64 0, .slice none 0 0], .bool false]) (by simp [results, Tryd.results87, go_sem, hz4]) rfl (ret_none g1 g2)
            · have hG4 := hacc4.blk.cell
              go_wp2_with (at_builtin; refine wpList_push2 w3 (w4.alloc (.cells #[.int .i64 ed.fr, .int .i64 ed.le, .int .i64 ed.to] 48)) rfl _ _ _ rfl 48 _ 3 24 Tryd.underlying23 info_edge rfl (by decide) v es.length (edgeCells es) _ _ rfl (by first | rfl | simp [go_sem]) hacc4.fr.size hacc4.own rfl (by simp [Value.oneCell']) (by unfold maxLen; omega) (by omega) ?_; intro g cap w5 hown5 hg5 hat5 hlt5; obtain ⟨h1, h2, h3⟩ := hacc4.push (e := ed) (W' := w5) hown5 hg5 hat5; have h1' := h1.out)
              go_roundw
              case rel => exact ⟨k + 1, _, _, by omega, by omega, by go_num, h3, by simp; omega⟩
              case measure => simp [intOf]; omega
          · obtain rfl : m = k := by omega
            obtain ⟨A, n, c, rfl⟩ := hacc.form
            obtain ⟨rfl, hsys⟩ := hacc.reads
            clear hbzc hbzf
            go_wp2_with fail
            refine (spec_FormatSystem (s := ⟨a, st, es⟩) hsys (by omega)).mono ?_
            rintro e w4 ⟨tx, rfl, htx, hx4⟩
            have hacc4 := hacc.ext hx4
            have hbz4 := hbz.ext hx4
            have hz4 := hbz4.cell
            have hzf := hbz4.frozen
            have hG4 := hacc4.blk.cell
            cases hne : tx.toList == x.toList
            · go_wp2_with fail
              obtain ⟨g1, g2⟩ := hacc4.fillRD (Z := w.heap.size) (Nat.le_refl _) (.int .i64 0) (.int .i64 0) (.slice none 0 0)
              exact bodyPost_ret (v := .tuple #[.agg #[.int .i64 0, .int .i64 0, .slice none 0 0], .bool false]) (by simp [results, Tryd.results87, go_sem, hz4]) rfl (ret_none g1 g2)
            · have hval : sysValid (⟨a, st, es⟩ : Sys) = true := by
                cases hv : sysValid (⟨a, st, es⟩ : Sys)
                · exfalso
                  have h0 := htx hv
                  have hxe : x.size = 0 := str_empty (by simpa using hne) h0
                  omega
                · rfl
              have hgood := valid_good hval
              have hcap := own_cap hacc4.own
              obtain ⟨g1, g2, g3⟩ := hacc4.fin (Z := w.heap.size) (Nat.le_refl _) (by omega) (.int .i64 a) (.int .i64 st) (.slice A es.length c)
              have Hfin := hide (show RetParse R M 1001 w (.returned (.tuple #[.agg #[.int .i64 a, .int .i64 st, .slice A es.length c], .bool true])) _ from ⟨⟨a, st, es⟩, A, es.length, c, true, rfl, g1, fun _ => hgood, by omega, g2, g3⟩)
              clear g1 g2 g3 hgood hval
              go_wp2_with fail
              exact bodyPost_ret (v := .tuple #[.agg #[.int .i64 a, .int .i64 st, .slice A es.length c], .bool true]) (by simp [results, Tryd.results87, go_sem, hz4]) rfl Hfin.out
end Go.Proofs.YtbifoikcmjmdeaaDoor

namespace Go.Proofs.YtbifoikcmjmdeaaDoor
open Go Go.RowKit
set_option maxHeartbeats 2000000

/-- A system that was drawn, with an edge at least. -/
def RetG1 (R M L : Nat) (w : World) (e : Ending) (w' : World) : Prop :=
  ∃ (s : Sys) (A : Option Addr) (n c : Nat), e = .returned (.agg #[.int .i64 s.al, .int .i64 s.st, .slice A n c]) ∧ SysIn w' R A n s ∧ Good s ∧ n ≤ L ∧ (1 ≤ n ∧ n ≤ c) ∧ Rd w' R M ∧ Dr R w w'
set_option maxRecDepth 100000 in
theorem spec_l2Big {R M : Nat} {w : World} (h : Rd w R M) (hM : M ≤ 900000000) :
    Calls Tryd.prog 73 #[.pointer (some ⟨R, 0, none⟩)] w (RetG1 R (M + 100) 100 w) := by
  have hRl := h.lt
  have hfull : Ext w ((w.alloc (.cells #[.int .i64 0, .int .i64 0, .slice none 0 0] 25)).alloc (.cells #[.int .i64 3, .int .i64 16, .slice none 0 0] 25)) := ((Ext.refl _).alloc _).alloc _
  obtain ⟨bz, bG⟩ := ext_blk2 (Ext.refl ((w.alloc (.cells #[.int .i64 0, .int .i64 0, .slice none 0 0] 25)).alloc (.cells #[.int .i64 3, .int .i64 16, .slice none 0 0] 25)))
  have hsz : ((w.alloc (.cells #[.int .i64 0, .int .i64 0, .slice none 0 0] 25)).alloc (.cells #[.int .i64 3, .int .i64 16, .slice none 0 0] 25)).heap.size = w.heap.size + 2 := by simp
  have Hfull := hide hfull
  have Hsz := hide hsz
  have Hbz := hide bz
  have HbG := hide bG
  clear hfull hsz bz bG
  go_enter Tryd.func73, Tryd.ntmps73
  go_wp2_with fail
  generalize (w.alloc (.cells #[.int .i64 0, .int .i64 0, .slice none 0 0] 25)).alloc (.cells #[.int .i64 3, .int .i64 16, .slice none 0 0] 25) = w1 at *
  have hw1 := Hfull.out
  have hacc : Acc w w1 w1 R (w.heap.size + 1) M 3 16 (.slice none 0 0) [] := ⟨HbG.out, World.ownsRow_nil _ _ _ _, h.ext hw1, hw1.dr, Frm.refl _ _, hRl, hw1.size, by omega⟩
  have hz1 : w.heap.size + 2 ≤ w1.heap.size := by rw [Hsz.out]; exact Nat.le_refl _
  go_loopw [4] (fun i wr => ∃ k : Nat, k ≤ 16 ∧ i = .int .i64 k ∧ ∃ (v : Value) (es : List Edg), Acc w w1 wr R (w.heap.size + 1) (M + k * 2) 3 16 v es ∧ es.length ≤ k * 2 ∧ Hid (Few 16 es) ∧ k ≤ es.length) (fun i _ => 16 - (intOf i).toNat)
  case atStart => exact ⟨0, Nat.zero_le _, rfl, _, [], hacc.more (Nat.le_add_right _ _), Nat.zero_le _, few_nil 16, Nat.le_refl _⟩
  case round =>
    clear hacc
    obtain ⟨k, hk, rfl, v, es, hacc, hel, hfew, hke⟩ := hrel
    have cG0 := hacc.blk.cell
    by_cases hlt : k < 16
    · go_wp2_with fail
      clear cG0
      have cG : ∀ W, Ext wr W → ∀ q, W.cell? ⟨w.heap.size + 1, q, none⟩ = #[Value.int .i64 3, .int .i64 16, v][q]? := fun W hW => (hacc.blk.ext hW).cell
      have tm : ((k : Int) + 1).tmod 16 = (((k + 1) % 16 : Nat) : Int) := by rw [Int.tmod_eq_emod_of_nonneg (by omega)]; omega
      have tw : IntKind.i64.wrap ((k : Int) + 1) = (k : Int) + 1 := IntWalk.i64_in _ (by omega)
      refine wp_region_tail (fun X => Ext wr X) [10, 12] (Ord.of [0, 1, 2, 3, 4, 5, 6, 7, 8, 9, 10, 11, 12]) (by kernel_rfl) rfl (by kernel_rfl) (by kernel_rfl) (by kernel_rfl) (fun _ _ _ _ _ h => h) (by first | assumption | exact (Ext.refl _).drew | exact (Dr.refl _ _).drew | (refine Ext.drew ?_; assumption)) ?_
      repeat (first | (refine tseq_skip rfl rfl (by assumption) ?_; simp only [Act.put, List.setIfInBounds_toArray, List.set_cons_zero, List.set_cons_succ]) | (refine tseq_pure (v := ?_) rfl rfl rfl rfl (fun X => ?_) ?_; rotate_left; (focus (go_simp <;> with_reducible rfl)); simp only [Act.put, List.setIfInBounds_toArray, List.set_cons_zero, List.set_cons_succ]) | (refine tseq_read (v := ?_) rfl rfl rfl rfl (fun X hX => ?_) ?_; rotate_left; (focus (go_simp <;> with_reducible rfl)); simp only [Act.put, List.setIfInBounds_toArray, List.set_cons_zero, List.set_cons_succ]))
      (refine tseq_step rfl rfl rfl (fun K hK => ?_); go_simp)
      refine hK.out _ _ ((Ext.refl _).drew.alloc _) ?_
      (try simp only [Act.put, List.setIfInBounds_toArray, List.set_cons_zero, List.set_cons_succ])
      (refine tseq_last rfl rfl rfl rfl (fun K hK => ?_))
      refine wp_push w1 wr.drew _ _ _ rfl 48 _ 3 24 Tryd.underlying23 info_edge rfl (by decide) v es.length (edgeCells es) _ _ rfl rfl hacc.fr.size hacc.own rfl (by simp [Value.oneCell']) (by unfold maxLen; omega) (by omega) ?_
      intro g cap w3 hown3 hg3 hat3 hlt3
      refine hK.out _ _ ?_
      (try simp only [Act.put, List.setIfInBounds_toArray, List.set_cons_zero, List.set_cons_succ])
      repeat (first | (refine tseq_skip rfl rfl (by assumption) ?_; simp only [Act.put, List.setIfInBounds_toArray, List.set_cons_zero, List.set_cons_succ]) | (refine tseq_pure (v := ?_) rfl rfl rfl rfl (fun X => ?_) ?_; rotate_left; (focus (go_simp <;> with_reducible rfl)); simp only [Act.put, List.setIfInBounds_toArray, List.set_cons_zero, List.set_cons_succ]) | (refine tseq_read (v := ?_) rfl rfl rfl rfl (fun X hX => ?_) ?_; rotate_left; (focus (go_simp <;> with_reducible rfl)); simp only [Act.put, List.setIfInBounds_toArray, List.set_cons_zero, List.set_cons_succ]))
      obtain ⟨h1, h2, h3⟩ := (hacc.ext ((Ext.refl _).drew)).push (e := ⟨k, 0, ((k + 1) % 16 : Nat)⟩) (W' := w3) hown3 hg3 hat3
      have h1' := h1.out
      have hfew3 := hide (few_snoc (e := ⟨k, 0, ((k + 1) % 16 : Nat)⟩) hfew.out (by simp; omega))
      (refine tseq_last rfl rfl rfl rfl (fun K hK => ?_))
      go_simp
      refine hK.out _ _ ?_
      refine tseq_nil ?_
      have hel3 : (es ++ [(⟨k, 0, ((k + 1) % 16 : Nat)⟩ : Edg)]).length ≤ k * 2 + 1 := by simp; omega
      have hke3 : k + 1 ≤ (es ++ [(⟨k, 0, ((k + 1) % 16 : Nat)⟩ : Edg)]).length := by simp; omega
      clear h1' h1 h2 hacc hfew hel hke tm tw cG hown3 hg3 hat3 hlt3
      generalize es ++ [(⟨k, 0, ((k + 1) % 16 : Nat)⟩ : Edg)] = es3 at *
      generalize w3.setCell ⟨w.heap.size + 1, 2, none⟩ (.slice (some ⟨g, 0, none⟩) (es.length + 1) cap) = w4 at *
      generalize Value.slice (some ⟨g, 0, none⟩) (es.length + 1) cap = v3 at *
      go_wp2_with fail
      refine (l19Rd_pick h3.rd (by omega)).mono ?_
      rintro e w5 ⟨y, rfl, _, _, hr5, hd5⟩
      have hacc5 := h3.drawn hd5 hr5
      clear h3
      by_cases hy : y = 0
      · subst hy
        have cG : ∀ W, Dr R w5 W → ∀ q, W.cell? ⟨w.heap.size + 1, q, none⟩ = #[Value.int .i64 3, .int .i64 16, v3][q]? := fun W hW => (hacc5.blk.dr hW (by omega)).cell
        go_wp2_with fail
        refine wp_region_tail (fun X => Dr R w5 X) [9, 11] (Ord.of [0, 1, 2, 3, 4, 5, 6, 7, 8, 9, 10, 11]) (by kernel_rfl) rfl (by kernel_rfl) (by kernel_rfl) (by kernel_rfl) (fun _ _ _ _ _ h => h) (by first | assumption | exact (Ext.refl _).drew | exact (Dr.refl _ _).drew | (refine Ext.drew ?_; assumption)) ?_
        repeat (first | (refine tseq_skip rfl rfl (by assumption) ?_; simp only [Act.put, List.setIfInBounds_toArray, List.set_cons_zero, List.set_cons_succ]) | (refine tseq_pure (v := ?_) rfl rfl rfl rfl (fun X => ?_) ?_; rotate_left; (focus (go_simp <;> with_reducible rfl)); simp only [Act.put, List.setIfInBounds_toArray, List.set_cons_zero, List.set_cons_succ]) | (refine tseq_read (v := ?_) rfl rfl rfl rfl (fun X hX => ?_) ?_; rotate_left; (focus (go_simp <;> with_reducible rfl)); simp only [Act.put, List.setIfInBounds_toArray, List.set_cons_zero, List.set_cons_succ]))
        (refine tseq_step rfl rfl rfl (fun K hK => ?_); go_simp)
        refine (l19Rd_pick (n := 16) (hacc5.rd.ext ((Ext.refl _).drew)) (by omega)).mono ?_
        rintro e w6 ⟨z, rfl, hz16, _, hr6, hd6⟩
        have hz16' := hz16 (by omega)
        have hd56 : Dr R w5 w6 := ((Dr.refl R w5).drew).trans hd6
        have hacc6 := hacc5.drawn hd56 hr6
        refine hK.out _ _ hd56 ?_
        (try simp only [Act.put, List.setIfInBounds_toArray, List.set_cons_zero, List.set_cons_succ])
        repeat (first | (refine tseq_skip rfl rfl (by assumption) ?_; simp only [Act.put, List.setIfInBounds_toArray, List.set_cons_zero, List.set_cons_succ]) | (refine tseq_pure (v := ?_) rfl rfl rfl rfl (fun X => ?_) ?_; rotate_left; (focus (go_simp <;> with_reducible rfl)); simp only [Act.put, List.setIfInBounds_toArray, List.set_cons_zero, List.set_cons_succ]) | (refine tseq_read (v := ?_) rfl rfl rfl rfl (fun X hX => ?_) ?_; rotate_left; (focus (go_simp <;> with_reducible rfl)); simp only [Act.put, List.setIfInBounds_toArray, List.set_cons_zero, List.set_cons_succ]))
        (refine tseq_step rfl rfl rfl (fun K hK => ?_); go_simp)
        refine hK.out _ _ (hd56.alloc _) ?_
        (try simp only [Act.put, List.setIfInBounds_toArray, List.set_cons_zero, List.set_cons_succ])
        (refine tseq_last rfl rfl rfl rfl (fun K hK => ?_))
        refine wp_push w1 w6 _ _ _ rfl 48 _ 3 24 Tryd.underlying23 info_edge rfl (by decide) v3 es3.length (edgeCells es3) _ _ rfl rfl hacc6.fr.size hacc6.own rfl (by simp [Value.oneCell']) (by unfold maxLen; omega) (by omega) ?_
        intro g7 cap7 w7 hown7 hg7 hat7 hlt7
        refine hK.out _ _ ?_
        (try simp only [Act.put, List.setIfInBounds_toArray, List.set_cons_zero, List.set_cons_succ])
        repeat (first | (refine tseq_skip rfl rfl (by assumption) ?_; simp only [Act.put, List.setIfInBounds_toArray, List.set_cons_zero, List.set_cons_succ]) | (refine tseq_pure (v := ?_) rfl rfl rfl rfl (fun X => ?_) ?_; rotate_left; (focus (go_simp <;> with_reducible rfl)); simp only [Act.put, List.setIfInBounds_toArray, List.set_cons_zero, List.set_cons_succ]) | (refine tseq_read (v := ?_) rfl rfl rfl rfl (fun X hX => ?_) ?_; rotate_left; (focus (go_simp <;> with_reducible rfl)); simp only [Act.put, List.setIfInBounds_toArray, List.set_cons_zero, List.set_cons_succ]))
        obtain ⟨h1, h2, h7⟩ := hacc6.push (e := ⟨k, 1, z⟩) (W' := w7) hown7 hg7 hat7
        have h1' := h1.out
        have hfew7 := hide (few_snoc (e := ⟨k, 1, z⟩) hfew3.out (by simp; omega))
        have hel7 : (es3 ++ [(⟨k, 1, z⟩ : Edg)]).length ≤ (k + 1) * 2 := by simp; omega
        (refine tseq_last rfl rfl rfl rfl (fun K hK => ?_))
        go_simp
        refine hK.out _ _ ?_
        refine tseq_nil ?_
        go_wp2_with fail
        go_roundw
        case rel => exact ⟨k + 1, by omega, by go_num, _, _, h7.more (by omega), hel7, hfew7, by simp; omega⟩
        case measure => simp [intOf]; omega
      · have hy' : ((y : Int) == 0) = false := by simp; omega
        go_wp2_with fail
        go_roundw
        case rel => exact ⟨k + 1, by omega, by go_num, _, _, hacc5.more (by omega), by omega, hfew3, hke3⟩
        case measure => simp [intOf]; omega
    · obtain rfl : k = 16 := by omega
      obtain ⟨A, n, c, rfl⟩ := hacc.form
      obtain ⟨rfl, _⟩ := hacc.reads
      have hcap := hide (own_cap hacc.own)
      have bz2 := Hbz.out.frm hacc.fr (by omega)
      have cz := bz2.cell
      have fz := bz2.frozen
      obtain ⟨f1, f2, f3⟩ := hacc.fin (Z := w.heap.size) (Nat.le_refl _) (by omega) (.int .i64 3) (.int .i64 16) (.slice A es.length c)
      have Hfin := hide (show RetG1 R (M + 100) 100 w (.returned (.agg #[.int .i64 3, .int .i64 16, .slice A es.length c])) _ from ⟨⟨3, 16, es⟩, A, es.length, c, rfl, f1, ⟨3, 16, rfl, by omega, rfl, by omega, by omega, hfew.out⟩, by omega, ⟨by omega, hcap.out⟩, f2.more (by omega), f3⟩)
      clear f1 f2 f3
      go_wp2_with fail
      exact bodyPost_ret (v := .agg #[.int .i64 3, .int .i64 16, .slice A es.length c]) (by simp [results, Tryd.results73, go_sem, cz]) rfl Hfin.out
end Go.Proofs.YtbifoikcmjmdeaaDoor

namespace Go.Proofs.YtbifoikcmjmdeaaDoor
open Go Go.RowKit
set_option maxHeartbeats 4000000

def strOf : Value → ByteArray
  | .string s => s
  | _ => ⟨#[]⟩
/-- Some texts, none long. -/
def RetTexts (L : Nat) (w : World) (e : Ending) (w' : World) : Prop := ∃ (A : Option Addr) (n c : Nat) (l : List ByteArray), e = .returned (.slice A n c) ∧ 0 < n ∧ w'.ownsRow w.heap.size 9 1 (.slice A n c) n (strs l) ∧ (∀ x ∈ l, x.size ≤ L) ∧ Ext w w'
theorem texts_lit (w : World) {us : Array Value} {n : Nat} (hu : strs (us.toList.map strOf) = us.toList) (hn : us.size = n) (h : n ≤ 1000) : (w.alloc (.cells us 9)).ownsRow w.heap.size 9 1 (.slice (some ⟨w.heap.size, 0, none⟩) n n) n (strs (us.toList.map strOf)) := by
  rw [hu]
  exact World.ownsRow_lit w us n (Nat.le_refl _) (by unfold maxLen; omega) (by simpa using hn)
set_option maxRecDepth 100000 in
theorem spec_l2Texts {w : World} : Calls Tryd.prog 89 #[] w (RetTexts 100 w) := by
  go_enter Tryd.func89, Tryd.ntmps89
  go_wp2
  go_ret
  exact ⟨_, _, _, _, rfl, by decide, texts_lit w rfl rfl (by omega), by decide +kernel, (Ext.refl _).alloc _⟩
theorem reads_ints {w w' : World} {us : Array Value} {n : Nat} {e : TypeId} (l : List Int) (hu : us.toList = ints l) (hn : us.size = n) (hx : Ext (w.alloc (.cells us e)) w') (h63 : n ≤ 1000) : Reads w' w.heap.size (w.heap.size + 1) 1 (some ⟨w.heap.size, 0, none⟩) n (ints l) :=
  ⟨by rw [← hu]; simpa using hn, by omega, fun _ => ⟨_, rfl, Nat.le_refl _, by simp, fun j u hj => by
    have := (ext_blk1 hx).cell j
    rw [addr_lit, Nat.zero_add, this]
    rw [← hu] at hj
    simpa using hj⟩⟩

theorem num_lit {R M : Nat} {w : World} (l : List Int) (n : Nat) (us : Array Value) (hu : us.toList = ints l) (hn : us.size = n) (h0 : 0 < n) (h63 : n ≤ 1000) (h : Rd w R M) (hM : M ≤ 1000000000) :
    Calls Tryd.prog 71 #[.pointer (some ⟨R, 0, none⟩), .slice (some ⟨w.heap.size, 0, none⟩) n n] (w.alloc (.cells us 3)) (RetNum R M l (w.alloc (.cells us 3))) :=
  l19Rd_num (h.ext ((Ext.refl _).alloc _)) hM (reads_ints l hu hn (Ext.refl _) h63) h.lt h0
/-- The result's cells are filled with a system that was drawn. -/
theorem ret_fill {R M L n c Z : Nat} {A : Option Addr} {s : Sys} {w W : World} {cs : Array Value} (hs : SysIn W R A n s) (hg : Good s) (hn : n ≤ L ∧ n ≤ c) (hr : Rd W R M) (hd : Dr R w W) (hB : Blk W Z 25 cs) (hR : R < w.heap.size) (hZ : w.heap.size ≤ Z) :
    RetG R M L w (.returned (.agg #[.int .i64 s.al, .int .i64 s.st, .slice A n c])) (((W.setCell ⟨Z, 0, none⟩ (.int .i64 s.al)).setCell ⟨Z, 1, none⟩ (.int .i64 s.st)).setCell ⟨Z, 2, none⟩ (.slice A n c)) := by
  have hf := frm_fill W Z (.int .i64 s.al) (.int .i64 s.st) (.slice A n c)
  exact ⟨s, A, n, c, rfl, hs.far hB (by decide) hf, hg, hn, hr.frm hf (fun k h1 h2 => by omega), ((hd.setNew (p := ⟨Z, 0, none⟩) hZ _).setNew (p := ⟨Z, 1, none⟩) hZ _).setNew (p := ⟨Z, 2, none⟩) hZ _⟩
set_option maxRecDepth 100000 in
theorem spec_l2Draw {R M : Nat} {w : World} (h : Rd w R M) (hM : M ≤ 800000000) :
    Calls Tryd.prog 69 #[.pointer (some ⟨R, 0, none⟩)] w (RetG R (M + 30000) 20000 w) := by
  have hRl := h.lt
  have hx0 := (Ext.refl w).alloc (.cells #[.int .i64 0, .int .i64 0, .slice none 0 0] 25)
  have bz := Blk.new w 25 #[.int .i64 0, .int .i64 0, .slice none 0 0]
  go_enter Tryd.func69, Tryd.ntmps69
  go_wp2_with fail
  refine (l19Rd_pick (h.ext hx0) (by omega)).mono ?_
  rintro e w1 ⟨y, rfl, _, _, hr1, hd1⟩
  have hw1 := hx0.dr.trans hd1
  have bz1 := bz.dr hd1 (by omega)
  have hz1 := bz1.lt
  clear bz
  by_cases hy : y = 0
  · subst hy
    go_wp2_with fail
    refine (spec_l2Texts).mono ?_
    rintro e w2 ⟨A, n, c, l, rfl, hn, hown, hl, hx2⟩
    go_wp2_with fail
    refine (l19Rd_of (hr1.ext hx2) (by omega) (Reads.of_own hown) (by omega) hn).mono ?_
    rintro e w3 ⟨x, hx, rfl, hr3, hd3⟩
    have hxs := hl x hx
    go_wp2_with fail
    refine (spec_ParseSystem hr3 (by omega)).mono ?_
    rintro e w4 ⟨s, B, m, d, ok, rfl, hs, hg, hm, hr4, hd4⟩
    have hw4 : Dr R w w4 := ((hw1.ext hx2).trans hd3).trans hd4
    have bz4 := ((bz1.ext hx2).dr hd3 (by omega)).dr hd4 (by omega)
    have hx5 := (Ext.refl w4).alloc (.cells #[.int .i64 s.al, .int .i64 s.st, .slice B m d] 25)
    have b5 := Blk.new w4 25 #[.int .i64 s.al, .int .i64 s.st, .slice B m d]
    cases ok
    · have hr5 := hr4.ext hx5
      have hw5 := hw4.ext hx5
      have bz5 := bz4.ext hx5
      clear b5 hx5 hs hg
      go_wp2_with fail
      have C6 := (num_lit [3, 6, 7, 5, 1, 0, 12] 7 #[.int .i64 3, .int .i64 6, .int .i64 7, .int .i64 5, .int .i64 1, .int .i64 0, .int .i64 12] rfl rfl (by omega) (by omega) hr5 (by omega))
      simp only [World.size_alloc] at C6
      refine C6.mono ?_
      rintro e w6 ⟨al, hal, rfl, hr6, hd6⟩
      have hw6 := (hw5.ext ((Ext.refl _).alloc _)).trans hd6
      have bz6 := (bz5.ext ((Ext.refl _).alloc _)).dr hd6 (by omega)
      go_wp2_with fail
      refine (num_lit [3, 2, 4, 1, 5] 5 #[.int .i64 3, .int .i64 2, .int .i64 4, .int .i64 1, .int .i64 5] rfl rfl (by omega) (by omega) hr6 (by omega)).mono ?_
      rintro e w7 ⟨st, hst, rfl, hr7, hd7⟩
      have hw7 := (hw6.ext ((Ext.refl _).alloc _)).trans hd7
      have bz7 := (bz6.ext ((Ext.refl _).alloc _)).dr hd7 (by omega)
      go_wp2_with fail
      refine (num_lit [3, 2, 4, 6] 4 #[.int .i64 3, .int .i64 2, .int .i64 4, .int .i64 6] rfl rfl (by omega) (by omega) hr7 (by omega)).mono ?_
      rintro e w8 ⟨fw, _, rfl, hr8, hd8⟩
      have hw8 := (hw7.ext ((Ext.refl _).alloc _)).trans hd8
      have bz8 := (bz7.ext ((Ext.refl _).alloc _)).dr hd8 (by omega)
      obtain ⟨a, rfl, ha⟩ : ∃ a : Nat, al = a ∧ a < 64 := ⟨al.toNat, by simp at hal; omega, by simp at hal; omega⟩
      obtain ⟨p, rfl, hp1, hp⟩ : ∃ p : Nat, st = p ∧ 1 ≤ p ∧ p ≤ 16 := ⟨st.toNat, by simp at hst; omega, by simp at hst; omega, by simp at hst; omega⟩
      clear hal hst
      go_wp2_with fail
      refine (spec_l2Random hr8 (by omega) ha hp1 hp).mono ?_
      rintro e w9 ⟨s9, A9, n9, c9, rfl, hs9, hg9, hn9, hr9, hd9⟩
      have bz9 := bz8.dr hd9 (by omega)
      have hfin9 := hide (ret_fill (R := R) (M := M + 30000) (L := 20000) (c := c9) hs9 hg9 hn9 (hr9.more (by omega)) (hw8.trans hd9) bz9 hRl (Nat.le_refl _))
      have cz9 := bz9.cell
      have fz9 := bz9.frozen
      go_wp2_with fail
      exact bodyPost_ret (v := .agg #[.int .i64 s9.al, .int .i64 s9.st, .slice A9 n9 c9]) (by simp [results, Tryd.results69, go_sem, cz9]) rfl hfin9.out
    · have hgood := hg rfl
      have c5 := b5.cell
      have b45 := bz4.ext hx5
      have c45 := b45.cell
      have f45 := b45.frozen
      go_wp2_with fail
      generalize w4.alloc (.cells #[.int .i64 s.al, .int .i64 s.st, .slice B m d] 25) = w5 at *
      have hfin := ret_fill (R := R) (M := M + 30000) (L := 20000) (c := d) (hs.ext hx5) hgood (by omega) ((hr4.more (by omega)).ext hx5) (hw4.ext hx5) b45 hRl (Nat.le_refl _)
      exact bodyPost_ret (v := .agg #[.int .i64 s.al, .int .i64 s.st, .slice B m d]) (by simp [results, Tryd.results69, go_sem, c45]) rfl hfin
  · have hy' : ((y : Int) == 0) = false := (by rw [beq_eq_false_iff_ne]; omega)
    go_wp2_with fail
    refine (num_lit [3, 6, 7, 5, 1, 0, 12] 7 #[.int .i64 3, .int .i64 6, .int .i64 7, .int .i64 5, .int .i64 1, .int .i64 0, .int .i64 12] rfl rfl (by omega) (by omega) hr1 (by omega)).mono ?_
    rintro e w6 ⟨al, hal, rfl, hr6, hd6⟩
    have hw6 := (hw1.ext ((Ext.refl _).alloc _)).trans hd6
    have bz6 := (bz1.ext ((Ext.refl _).alloc _)).dr hd6 (by omega)
    go_wp2_with fail
    refine (num_lit [3, 2, 4, 1, 5] 5 #[.int .i64 3, .int .i64 2, .int .i64 4, .int .i64 1, .int .i64 5] rfl rfl (by omega) (by omega) hr6 (by omega)).mono ?_
    rintro e w7 ⟨st, hst, rfl, hr7, hd7⟩
    have hw7 := (hw6.ext ((Ext.refl _).alloc _)).trans hd7
    have bz7 := (bz6.ext ((Ext.refl _).alloc _)).dr hd7 (by omega)
    go_wp2_with fail
    refine (num_lit [3, 2, 4, 6] 4 #[.int .i64 3, .int .i64 2, .int .i64 4, .int .i64 6] rfl rfl (by omega) (by omega) hr7 (by omega)).mono ?_
    rintro e w8 ⟨fw, _, rfl, hr8, hd8⟩
    have hw8 := (hw7.ext ((Ext.refl _).alloc _)).trans hd8
    have bz8 := (bz7.ext ((Ext.refl _).alloc _)).dr hd8 (by omega)
    obtain ⟨a, rfl, ha⟩ : ∃ a : Nat, al = a ∧ a < 64 := ⟨al.toNat, by simp at hal; omega, by simp at hal; omega⟩
    obtain ⟨p, rfl, hp1, hp⟩ : ∃ p : Nat, st = p ∧ 1 ≤ p ∧ p ≤ 16 := ⟨st.toNat, by simp at hst; omega, by simp at hst; omega, by simp at hst; omega⟩
    clear hal hst
    go_wp2_with fail
    refine (spec_l2Random hr8 (by omega) ha hp1 hp).mono ?_
    rintro e w9 ⟨s9, A9, n9, c9, rfl, hs9, hg9, hn9, hr9, hd9⟩
    have bz9 := bz8.dr hd9 (by omega)
    have hfin9 := hide (ret_fill (R := R) (M := M + 30000) (L := 20000) (c := c9) hs9 hg9 hn9 (hr9.more (by omega)) (hw8.trans hd9) bz9 hRl (Nat.le_refl _))
    have cz9 := bz9.cell
    have fz9 := bz9.frozen
    go_wp2_with fail
    exact bodyPost_ret (v := .agg #[.int .i64 s9.al, .int .i64 s9.st, .slice A9 n9 c9]) (by simp [results, Tryd.results69, go_sem, cz9]) rfl hfin9.out
end Go.Proofs.YtbifoikcmjmdeaaDoor

namespace Go.Proofs.YtbifoikcmjmdeaaDoor
open Go Go.RowKit
set_option maxHeartbeats 4000000

theorem eq_edge (a b c d e f : Int) (w : World) : (Op.equalIn 10000 48 (.agg #[.int .i64 a, .int .i64 b, .int .i64 c]) (.agg #[.int .i64 d, .int .i64 e, .int .i64 f])).run Tryd.prog w = .ok (a == d && (b == e && c == f)) w := by
  have u3 := Tryd.underlying3
  have a3 := Tryd.isAgg3
  have z3 := Tryd.sizeOf3
  have hS : Tryd.prog.underlying 48 = some (.struct (Tryd.prog.fieldsOf 48)) := by kernel_rfl
  have hp : Tryd.prog.stoodInHeld 48 = false := by kernel_rfl
  rw [show (10000 : Nat) = 9999 + 1 from rfl, run_equalIn_agg w 9999 48 _ _ hS hp]
  simp only [Program.fieldsOf, Tryd.underlying48]
  go_simp
  by_cases h1 : a = d <;> by_cases h2 : b = e <;> by_cases h3 : c = f <;> simp [h1, h2, h3]
theorem e_filled {R M M' E x y p : Nat} {w2 w4 : World} (hb : Blk w4 E 48 #[.int .i64 0, .int .i64 0, .int .i64 0]) (hr : Rd w4 R M') (hd : Dr R w2 w4) (hE : w2.heap.size ≤ E) (hR : R < w2.heap.size) (hx : 1 ≤ (p : Int) → (x : Int) < p) (hy : 1 ≤ (p : Int) → (y : Int) < p) (hp : 1 ≤ p) (hM : M' ≤ M) :
    ∃ E' x' y' : Nat, Value.pointer (some ⟨E, 0, none⟩) = .pointer (some ⟨E', 0, none⟩) ∧ x' < p ∧ y' < p ∧ w2.heap.size ≤ E' ∧ Blk (((w4.setCell ⟨E, 0, none⟩ (.int .i64 x)).setCell ⟨E, 1, none⟩ (.int .i64 0)).setCell ⟨E, 2, none⟩ (.int .i64 y)) E' 48 #[.int .i64 x', .int .i64 0, .int .i64 y'] ∧ Rd (((w4.setCell ⟨E, 0, none⟩ (.int .i64 x)).setCell ⟨E, 1, none⟩ (.int .i64 0)).setCell ⟨E, 2, none⟩ (.int .i64 y)) R M ∧ Dr R w2 (((w4.setCell ⟨E, 0, none⟩ (.int .i64 x)).setCell ⟨E, 1, none⟩ (.int .i64 0)).setCell ⟨E, 2, none⟩ (.int .i64 y)) := by
  have hf := frm_fill w4 E (.int .i64 x) (.int .i64 0) (.int .i64 y)
  refine ⟨E, x, y, rfl, by omega, by omega, hE, by simpa using ((hb.set_ 0 (.int .i64 x)).set_ 1 (.int .i64 0)).set_ 2 (.int .i64 y), (hr.frm hf (fun k h1 h2 => by omega)).more hM, ?_⟩
  exact ((hd.setNew (p := ⟨E, 0, none⟩) hE _).setNew (p := ⟨E, 1, none⟩) hE _).setNew (p := ⟨E, 2, none⟩) hE _

set_option maxRecDepth 100000 in
theorem spec_l6Change_ {R M n c L a p : Nat} {A : Option Addr} {es : List Edg} {w : World} (h : Rd w R M) (hM : M ≤ 900000000) (hs : SysIn w R A n ⟨a, p, es⟩) (ha : a < 64) (hp1 : 1 ≤ p) (hp : p ≤ 16) (hfew : Few p es) (hn : n ≤ L) (hL : L ≤ 100000) :
    Calls Tryd.prog 49 #[.pointer (some ⟨R, 0, none⟩), .agg #[.int .i64 a, .int .i64 p, .slice A n c]] w (RetG R (M + 10) (L + 1) w) := by
  have hRl := h.lt
  have hr0 := hs.at_.2
  have hen := hide hs.1
  have Hfew := hide hfew
  have hsm : Sm a := by unfold Sm; omega
  have hx1 : Ext w (((w.alloc (.cells #[.int .i64 a, .int .i64 p, .slice A n c] 25)).alloc (.cells #[.int .i64 0, .int .i64 0, .slice none 0 0] 25)).alloc (.cells #[.int .i64 a, .int .i64 p, .slice none 0 0] 25)) := (((Ext.refl _).alloc _).alloc _).alloc _
  obtain ⟨bS, bZ, bG⟩ := ext_blk3 (Ext.refl (((w.alloc (.cells #[.int .i64 a, .int .i64 p, .slice A n c] 25)).alloc (.cells #[.int .i64 0, .int .i64 0, .slice none 0 0] 25)).alloc (.cells #[.int .i64 a, .int .i64 p, .slice none 0 0] 25)))
  have HbS := hide bS
  have HbZ := hide bZ
  have HbG := hide bG
  have Hx1 := hide hx1
  clear bS bZ bG hx1 hs hfew
  go_enter Tryd.func49, Tryd.ntmps49
  go_wp2_with fail
  generalize ((w.alloc (.cells #[.int .i64 a, .int .i64 p, .slice A n c] 25)).alloc (.cells #[.int .i64 0, .int .i64 0, .slice none 0 0] 25)).alloc (.cells #[.int .i64 a, .int .i64 p, .slice none 0 0] 25) = w1 at *
  refine (l19Rd_pick (h.ext Hx1.out) (by omega)).mono ?_
  rintro e w2 ⟨gone, rfl, -, -, hr2, hd2⟩
  have hz1 := HbG.out.lt
  have bS2 := HbS.out.dr hd2 (by omega)
  have bZ2 := HbZ.out.dr hd2 (by omega)
  have bG2 := HbG.out.dr hd2 (by omega)
  have hw2 := Hx1.out.dr.trans hd2
  have cS : ∀ W, Dr R w2 W → ∀ q, W.cell? ⟨w.heap.size, q, none⟩ = #[Value.int .i64 a, .int .i64 p, .slice A n c][q]? := fun W hW => (bS2.dr hW (by omega)).cell
  go_upto_region 3 with fail
  go_cut [7] (fun s7 wx => ∃ E x y : Nat, s7 = .pointer (some ⟨E, 0, none⟩) ∧ x < p ∧ y < p ∧ w2.heap.size ≤ E ∧ Blk wx E 48 #[.int .i64 x, .int .i64 0, .int .i64 y] ∧ Rd wx R (M + 3) ∧ Dr R w2 wx)
  case first =>
    refine wp_region_tail (fun X => Dr R w2 X) [10] (Ord.app [0, 1, 2, 4, 5, 6] (Ord.two 3 (Ord.two 7 (Ord.of [8, 9, 10]) 9 (Ord.of [7, 8, 10])) 9 (Ord.of [3, 7, 8, 10]))) (by kernel_rfl) rfl (by kernel_rfl) (by kernel_rfl) (by kernel_rfl) (fun _ _ _ _ _ h => h) (by first | assumption | exact (Ext.refl _).drew | exact (Dr.refl _ _).drew | (refine Ext.drew ?_; assumption)) ?_
    repeat (first | (refine tseq_skip rfl rfl (by assumption) ?_; simp only [Act.put, List.setIfInBounds_toArray, List.set_cons_zero, List.set_cons_succ]) | (refine tseq_pure (v := ?_) rfl rfl rfl rfl (fun X => ?_) ?_; rotate_left; (focus (go_simp <;> with_reducible rfl)); simp only [Act.put, List.setIfInBounds_toArray, List.set_cons_zero, List.set_cons_succ]) | (refine tseq_read (v := ?_) rfl rfl rfl rfl (fun X hX => ?_) ?_; rotate_left; (focus (go_simp <;> with_reducible rfl)); simp only [Act.put, List.setIfInBounds_toArray, List.set_cons_zero, List.set_cons_succ]))
    refine tseq_both rfl rfl rfl rfl (fun K hK => ?_) (fun K hK => ?_)
    · go_simp
      refine (l19Rd_pick (n := p) (hr2.ext ((Ext.refl _).drew)) (by omega)).mono ?_
      rintro e w3 ⟨x, rfl, hx, _, hr3, hd3⟩
      have hd23 : Dr R w2 w3 := ((Dr.refl R w2).drew).trans hd3
      refine hK.out _ _ hd23 ?_
      (try simp only [Act.put, List.setIfInBounds_toArray, List.set_cons_zero, List.set_cons_succ])
      refine tseq_both rfl rfl rfl rfl (fun K hK => ?_) (fun K hK => ?_)
      · go_simp
        refine (l19Rd_pick (n := p) hr3 (by omega)).mono ?_
        rintro e w4 ⟨y, rfl, hy, _, hr4, hd4⟩
        have hd24 := hd23.trans hd4
        refine hK.out _ _ hd24 ?_
        (try simp only [Act.put, List.setIfInBounds_toArray, List.set_cons_zero, List.set_cons_succ])
        repeat (first | (refine tseq_skip rfl rfl (by assumption) ?_; simp only [Act.put, List.setIfInBounds_toArray, List.set_cons_zero, List.set_cons_succ]) | (refine tseq_pure (v := ?_) rfl rfl rfl rfl (fun X => ?_) ?_; rotate_left; (focus (go_simp <;> with_reducible rfl)); simp only [Act.put, List.setIfInBounds_toArray, List.set_cons_zero, List.set_cons_succ]) | (refine tseq_read (v := ?_) rfl rfl rfl rfl (fun X hX => ?_) ?_; rotate_left; (focus (go_simp <;> with_reducible rfl)); simp only [Act.put, List.setIfInBounds_toArray, List.set_cons_zero, List.set_cons_succ]))
        (refine tseq_step rfl rfl rfl (fun K hK => ?_); go_simp)
        refine hK.out _ _ (hd24.alloc _) ?_
        (try simp only [Act.put, List.setIfInBounds_toArray, List.set_cons_zero, List.set_cons_succ])
        repeat (first | (refine tseq_skip rfl rfl (by assumption) ?_; simp only [Act.put, List.setIfInBounds_toArray, List.set_cons_zero, List.set_cons_succ]) | (refine tseq_pure (v := ?_) rfl rfl rfl rfl (fun X => ?_) ?_; rotate_left; (focus (go_simp <;> with_reducible rfl)); simp only [Act.put, List.setIfInBounds_toArray, List.set_cons_zero, List.set_cons_succ]) | (refine tseq_read (v := ?_) rfl rfl rfl rfl (fun X hX => ?_) ?_; rotate_left; (focus (go_simp <;> with_reducible rfl)); simp only [Act.put, List.setIfInBounds_toArray, List.set_cons_zero, List.set_cons_succ]))
        (refine tseq_last rfl rfl rfl rfl (fun K hK => ?_))
        go_simp
        refine hK.out _ _ ?_
        refine tseq_nil ?_
        go_wp2_with fail
        go_meet
        exact ⟨w4.heap.size, x, y, rfl, by omega, by omega, hd24.size, Blk.new _ _ _, hr4.ext ((Ext.refl _).alloc _), hd24.alloc _⟩
      · go_simp
        have hx3 := (Ext.refl w3).alloc (.cells #[.int .i64 0, .int .i64 0, .int .i64 0] 48)
        have hb3 := Blk.new w3 48 #[.int .i64 0, .int .i64 0, .int .i64 0]
        have hd23' := hd23.ext hx3
        have hr3' := hr3.ext hx3
        have hRw := hr3.lt
        refine hK.out _ _ hd23' ?_
        generalize w3.alloc (.cells #[.int .i64 0, .int .i64 0, .int .i64 0] 48) = w3' at *
        (try simp only [Act.put, List.setIfInBounds_toArray, List.set_cons_zero, List.set_cons_succ])
        (refine tseq_step rfl rfl rfl (fun K hK => ?_); go_simp)
        refine (l19Rd_pick (n := p) hr3' (by omega)).mono ?_
        rintro e w4 ⟨y, rfl, hy, _, hr4, hd4⟩
        have hd24 := hd23'.trans hd4
        have hb4 := hb3.dr hd4 (by omega)
        refine hK.out _ _ hd24 ?_
        (try simp only [Act.put, List.setIfInBounds_toArray, List.set_cons_zero, List.set_cons_succ])
        repeat (first | (refine tseq_skip rfl rfl (by assumption) ?_; simp only [Act.put, List.setIfInBounds_toArray, List.set_cons_zero, List.set_cons_succ]) | (refine tseq_pure (v := ?_) rfl rfl rfl rfl (fun X => ?_) ?_; rotate_left; (focus (go_simp <;> with_reducible rfl)); simp only [Act.put, List.setIfInBounds_toArray, List.set_cons_zero, List.set_cons_succ]) | (refine tseq_read (v := ?_) rfl rfl rfl rfl (fun X hX => ?_) ?_; rotate_left; (focus (go_simp <;> with_reducible rfl)); simp only [Act.put, List.setIfInBounds_toArray, List.set_cons_zero, List.set_cons_succ]))
        have cE := hb4.cell
        have fE := hb4.frozen
        (refine tseq_last rfl rfl rfl rfl (fun K hK => ?_))
        go_simp
        refine hK.out _ _ ?_
        refine tseq_nil ?_
        go_wp2_with fail
        go_meet
        exact e_filled hb4 hr4 hd24 hd23.size hr2.lt hx hy hp1 (by omega)
    · go_simp
      have hx2 := ((Ext.refl w2).alloc (.cells #[.int .i64 0, .int .i64 0, .int .i64 0] 48)).drew
      have hb2 : Blk (w2.alloc (.cells #[.int .i64 0, .int .i64 0, .int .i64 0] 48)).drew w2.heap.size 48 #[.int .i64 0, .int .i64 0, .int .i64 0] := Blk.new w2 _ _
      have hr2' := hr2.ext hx2
      have hRw := hr2.lt
      have hd22 : Dr R w2 (w2.alloc (.cells #[.int .i64 0, .int .i64 0, .int .i64 0] 48)).drew := hx2.dr
      refine hK.out _ _ hd22 ?_
      generalize (w2.alloc (.cells #[.int .i64 0, .int .i64 0, .int .i64 0] 48)).drew = w2' at *
      (try simp only [Act.put, List.setIfInBounds_toArray, List.set_cons_zero, List.set_cons_succ])
      (refine tseq_step rfl rfl rfl (fun K hK => ?_); go_simp)
      refine (l19Rd_pick (n := p) hr2' (by omega)).mono ?_
      rintro e w3 ⟨x, rfl, hx, _, hr3, hd3⟩
      have hd23 := hd22.trans hd3
      have hb3 := hb2.dr hd3 (by omega)
      refine hK.out _ _ hd23 ?_
      (try simp only [Act.put, List.setIfInBounds_toArray, List.set_cons_zero, List.set_cons_succ])
      (refine tseq_step rfl rfl rfl (fun K hK => ?_); go_simp)
      refine (l19Rd_pick (n := p) hr3 (by omega)).mono ?_
      rintro e w4 ⟨y, rfl, hy, _, hr4, hd4⟩
      have hd24 := hd23.trans hd4
      have hb4 := hb3.dr hd4 (by omega)
      refine hK.out _ _ hd24 ?_
      (try simp only [Act.put, List.setIfInBounds_toArray, List.set_cons_zero, List.set_cons_succ])
      repeat (first | (refine tseq_skip rfl rfl (by assumption) ?_; simp only [Act.put, List.setIfInBounds_toArray, List.set_cons_zero, List.set_cons_succ]) | (refine tseq_pure (v := ?_) rfl rfl rfl rfl (fun X => ?_) ?_; rotate_left; (focus (go_simp <;> with_reducible rfl)); simp only [Act.put, List.setIfInBounds_toArray, List.set_cons_zero, List.set_cons_succ]) | (refine tseq_read (v := ?_) rfl rfl rfl rfl (fun X hX => ?_) ?_; rotate_left; (focus (go_simp <;> with_reducible rfl)); simp only [Act.put, List.setIfInBounds_toArray, List.set_cons_zero, List.set_cons_succ]))
      have cE := hb4.cell
      have fE := hb4.frozen
      (refine tseq_last rfl rfl rfl rfl (fun K hK => ?_))
      go_simp
      refine hK.out _ _ ?_
      refine tseq_nil ?_
      go_wp2_with fail
      go_meet
      exact e_filled hb4 hr4 hd24 (Nat.le_refl _) hRw hx hy hp1 (by omega)
  case rest =>
    obtain ⟨E, x, y, rfl, hx, hy, hE, hbE, hr3, hd3⟩ := hcut
    have hw3 := hw2.trans hd3
    have bS3 := bS2.dr hd3 (by omega)
    have bZ3 := bZ2.dr hd3 (by omega)
    have bG3 := bG2.dr hd3 (by omega)
    have hz2 := bG2.lt
    clear cS
    have cS := bS3.cell
    go_wp2_with fail
    refine (spec_l1Letters a hsm _).mono ?_
    rintro e w4 ⟨B, d, rfl, hown4, hx4⟩
    have hw4 := hw3.ext hx4
    have bS4 := bS3.ext hx4
    have bZ4 := bZ3.ext hx4
    have bG4 := bG3.ext hx4
    have bE4 := hbE.ext hx4
    have hr4 := hr3.ext hx4
    have hE3 := hbE.lt
    have hl6 := letters_length a 6
    have hlm := hide (fun k (hk : k ∈ letters a 6) => (mem_letters.1 hk).1)
    have hrd4 := (Reads.of_own hown4)
    have hz23 := hd3.size
    have hz34 := hx4.size
    have hRz := hr2.lt
    clear cS hown4 hx4 bS3 bZ3 bG3 hbE hr3 hw3 HbS HbZ HbG Hx1 bS2 bZ2 bG2 hw2 hr2
    generalize letters a 6 = ls at *
    go_upto_region 5 with fail
    go_cut [9] (fun s9 wx => ∃ b : Bool, s9 = .bool b ∧ (b = true → 0 < ls.length) ∧ Rd wx R (M + 4) ∧ Dr R w4 wx)
    case first =>
      by_cases hl : 0 < ls.length
      · go_wp2_with fail
        refine (l19Rd_pick hr4 (by omega)).mono ?_
        rintro e w5 ⟨z, rfl, -, -, hr5, hd5⟩
        go_wp2_with fail
        go_meet
        exact ⟨_, rfl, fun _ => hl, hr5, hd5⟩
      · go_wp2_with fail
        go_meet
        exact ⟨false, rfl, fun h => by (first | cases h | omega), hr4.more (by omega), Dr.refl _ _⟩
    case rest =>
      obtain ⟨b, rfl, hbl, hr5, hd5⟩ := hcut
      go_upto_if 42 with fail
      go_cut [] (fun wx => ∃ l : Nat, l < 6 ∧ Blk wx E 48 #[.int .i64 x, .int .i64 l, .int .i64 y] ∧ Blk wx w.heap.size 25 #[.int .i64 a, .int .i64 p, .slice A n c] ∧ Blk wx (w.heap.size + 1) 25 #[.int .i64 0, .int .i64 0, .slice none 0 0] ∧ Blk wx (w.heap.size + 1 + 1) 25 #[.int .i64 a, .int .i64 p, .slice none 0 0] ∧ Rd wx R (M + 5) ∧ Dr R w wx)
      case first =>
        have bS5 := bS4.dr hd5 (by omega)
        have bZ5 := bZ4.dr hd5 (by omega)
        have bG5 := bG4.dr hd5 (by omega)
        have bE5 := bE4.dr hd5 (by omega)
        have hw5 := hw4.trans hd5
        clear bS4 bZ4 bG4 bE4 hw4 hr4
        cases b
        · go_wp2_with fail
          go_meet
          exact ⟨0, by omega, bE5, bS5, bZ5, bG5, hr5.more (by omega), hw5⟩
        · have hl0 := hbl rfl
          have hl1 : (1 : Int) ≤ (ls.length : Int) := by omega
          clear hbl
          go_wp2_with fail
          refine (l19Rd_pick hr5 (by omega)).mono ?_
          rintro e w6 ⟨z, rfl, hz, -, hr6, hd6⟩
          have hzl := hz hl1
          have hzl' : z < ls.length := by omega
          obtain ⟨ad, l, rfl, _, _, hl, hlc⟩ := ((hrd4.dr hd5 (by omega)).dr hd6 (by omega)).nat hzl'
          have hl6' := hlm.out l (List.mem_of_getElem? hl.out)
          have bS6 := bS5.dr hd6 (by omega)
          have bZ6 := bZ5.dr hd6 (by omega)
          have bG6 := bG5.dr hd6 (by omega)
          have bE6 := bE5.dr hd6 (by omega)
          have hw6 := hw5.trans hd6
          have cE := bE6.cell
          have fE := bE6.frozen
          have hf := Frm.setCell w6 E 1 (.int .i64 (l : Nat))
          clear hz bS5 bZ5 bG5 bE5 hw5
          go_wp2_with fail
          go_meet
          exact ⟨l, hl6', by simpa using bE6.set_ 1 (.int .i64 (l : Nat)), bS6.frm hf (by omega), bZ6.frm hf (by omega), bG6.frm hf (by omega), (hr6.frm hf (fun k h1 h2 => by omega)), hw6.setNew (by dsimp only; omega) _⟩
      case rest =>
        obtain ⟨l, hl, bE, bS, bZ, bG, hrB, hdB⟩ := hcut
        clear bS4 bZ4 bG4 bE4 hw4 hr4 hd5 hr5 hlm hrd4 hl6 hbl
        obtain ⟨wB, hwB⟩ : ∃ wB, wB = wc := ⟨_, rfl⟩
        subst hwB
        have hacc : Acc w wB wB R (w.heap.size + 1 + 1) (M + 5) a p (.slice none 0 0) [] := ⟨bG, World.ownsRow_nil _ _ _ _, hrB, hdB, Frm.refl _ _, hRl, hdB.size, by omega⟩
        have hEz := bE.lt
        have hSz := bG.lt
        clear bG
        go_wp2_with fail
        go_loopw [9, 10] (fun v i wr => ∃ (b : Bool) (k : Nat), k ≤ n ∧ i = .int .i64 k ∧ v = .bool b ∧ ∃ (u : Value) (fs : List Edg), Acc w wB wr R (w.heap.size + 1 + 1) (M + 5) a p u fs ∧ fs.length + b.toNat ≤ k + 1 ∧ Hid (Few p fs)) (fun _ i _ => n - (intOf i).toNat)
        case atStart => exact ⟨b, 0, Nat.zero_le _, rfl, rfl, _, [], hacc, by cases b <;> decide, few_nil p⟩
        case round =>
          clear hacc
          obtain ⟨b, k, hk, rfl, rfl, u, fs, hacc, hlen, hfw⟩ := hrel
          have bS1 := bS.frm hacc.fr (by omega)
          have bE1 := bE.frm hacc.fr (by omega)
          have cS := bS1.cell
          have hxyl : (0 ≤ (x : Int) ∧ (x : Int) < p) ∧ (0 ≤ (l : Int) ∧ (l : Int) < 6) ∧ (0 ≤ (y : Int) ∧ (y : Int) < p) := by omega
          by_cases hlt : k < n
          · obtain ⟨b0, o0, ed, rfl, hlo, hhi, he, c0, c1, c2⟩ := (hr0.dr hacc.dr (by omega)).edge hlt
            have hedf := hide (Hfew.out ed (List.mem_of_getElem? he.out))
            go_upto_region 11 with fail
            clear cS
            go_cut [67] (fun s wx => ∃ q : Bool, s = .bool q ∧ (q = true → b = true) ∧ Ext wr wx)
            case first =>
              have cS : ∀ W, Ext wr W → ∀ q, W.cell? ⟨w.heap.size, q, none⟩ = #[Value.int .i64 a, .int .i64 p, .slice (some ⟨b0, o0, none⟩) n c][q]? := fun W hW => (bS1.ext hW).cell
              have cE : ∀ W, Ext wr W → ∀ q, W.cell? ⟨E, q, none⟩ = #[Value.int .i64 x, .int .i64 l, .int .i64 y][q]? := fun W hW => (bE1.ext hW).cell
              have C0 : ∀ W, Ext wr W → W.cell? ⟨b0, o0 + k * 3, none⟩ = some (.int .i64 ed.fr) := fun W hW => hW.cell_some c0
              have C1 : ∀ W, Ext wr W → W.cell? ⟨b0, o0 + k * 3 + 1, none⟩ = some (.int .i64 ed.le) := fun W hW => hW.cell_some c1
              have C2 : ∀ W, Ext wr W → W.cell? ⟨b0, o0 + k * 3 + 2, none⟩ = some (.int .i64 ed.to) := fun W hW => hW.cell_some c2
              have hww := Ext.refl wr
              cases b
              · go_wp2_with fail
                go_quiet (fail)
                go_wp2_with fail
                go_meet
                exact ⟨false, rfl, fun h => h, (Ext.refl _).drewN _⟩
              · go_wp2_with fail
                go_region_held3 (fun W => Ext wr W) (first | assumption | (refine Ext.drew ?_; assumption) | (refine Ext.trans ?_ (by assumption); assumption) | (refine Ext.trans ?_ (by assumption); refine Ext.drew ?_; assumption)) ((go_at_call 76; refine (spec_l2Before (a := ⟨x, l, y⟩) (b := ed)).mono ?_; rintro e w5 ⟨rfl, hx5⟩))
                go_wp2_with fail
                go_meet
                exact ⟨_, rfl, fun _ => by trivial, by assumption⟩
            case rest =>
              obtain ⟨q, rfl, hq, hxc⟩ := hcut
              replace hacc := hacc.ext hxc
              replace bE1 := bE1.ext hxc
              go_upto_if 67 with fail
              go_cut [9] (fun s9 wx => ∃ (b : Bool) (u : Value) (fs : List Edg), s9 = .bool b ∧ Acc w wB wx R (w.heap.size + 1 + 1) (M + 5) a p u fs ∧ fs.length + b.toNat ≤ k + 1 ∧ Hid (Few p fs))
              case first =>
                cases q
                · go_wp2_with fail
                  go_meet
                  exact ⟨b, u, fs, rfl, hacc, hlen, hfw⟩
                · obtain rfl := hq rfl
                  have cG := hacc.blk.cell
                  have cE := bE1.cell
                  simp only [Bool.toNat_true] at hlen
                  clear hq
                  go_wp2_with (at_builtin; refine wpList_push3 wB _ rfl _ _ _ rfl 48 _ 3 24 Tryd.underlying23 info_edge rfl (by decide) u fs.length (edgeCells fs) _ _ rfl rfl hacc.fr.size hacc.own rfl (by simp [Value.oneCell']) (by unfold maxLen; omega) (by omega) ?_; intro g cap w3 hown3 hg3 hat3 hlt3; obtain ⟨h1, h2, h3⟩ := hacc.push (e := ⟨x, l, y⟩) hown3 hg3 hat3; have h1' := h1.out)
                  go_meet
                  exact ⟨false, _, _, rfl, h3, by simp; omega, few_snoc hfw.out hxyl⟩
              case rest =>
                clear hacc hlen hfw bS1 bE1 c0 c1 c2 hxc hq
                obtain ⟨b, u, fs, rfl, hacc, hlen, hfw⟩ := hcut
                obtain ⟨wr, hwr⟩ : ∃ wr, wr = wc := ⟨_, rfl⟩
                subst hwr
                have bS1 := bS.frm hacc.fr (by omega)
                have bE1 := bE.frm hacc.fr (by omega)
                obtain ⟨c0, c1, c2⟩ := (hr0.dr hacc.dr (by omega)).edge2 he.out
                go_upto_region 14 with fail
                go_cut [83] (fun s wx => ∃ q : Bool, s = .bool q ∧ Ext wr wx)
                case first =>
                  have cS : ∀ W, Ext wr W → ∀ q, W.cell? ⟨w.heap.size, q, none⟩ = #[Value.int .i64 a, .int .i64 p, .slice (some ⟨b0, o0, none⟩) n c][q]? := fun W hW => (bS1.ext hW).cell
                  have cE : ∀ W, Ext wr W → ∀ q, W.cell? ⟨E, q, none⟩ = #[Value.int .i64 x, .int .i64 l, .int .i64 y][q]? := fun W hW => (bE1.ext hW).cell
                  have C0 : ∀ W, Ext wr W → W.cell? ⟨b0, o0 + k * 3, none⟩ = some (.int .i64 ed.fr) := fun W hW => hW.cell_some c0
                  have C1 : ∀ W, Ext wr W → W.cell? ⟨b0, o0 + k * 3 + 1, none⟩ = some (.int .i64 ed.le) := fun W hW => hW.cell_some c1
                  have C2 : ∀ W, Ext wr W → W.cell? ⟨b0, o0 + k * 3 + 2, none⟩ = some (.int .i64 ed.to) := fun W hW => hW.cell_some c2
                  have hww := Ext.refl wr
                  cases b
                  · go_wp2_with fail
                    go_quiet (fail)
                    go_wp2_with fail
                    go_meet
                    exact ⟨false, rfl, (Ext.refl _).drewN _⟩
                  · go_wp2_with fail
                    refine wp_region_ord (fun X => Ext wr X) [0, 1, 2, 3, 4, 5, 6, 7, 8, 9] (by kernel_rfl) rfl (by kernel_rfl) (by kernel_rfl) (fun _ _ _ _ _ h => h) (by first | assumption | exact (Ext.refl _).drew | (refine Ext.drew ?_; assumption)) (fun hS => ?_)
                    repeat (first | (refine seq_skip rfl rfl (by assumption) ?_; simp only [Act.put, List.setIfInBounds_toArray, List.set_cons_zero, List.set_cons_succ]) | (refine seq_read (v := ?_) rfl rfl rfl (fun X hX => ?_) (by assumption) ?_; rotate_left; (focus (go_simp <;> with_reducible rfl)); simp only [Act.put, List.setIfInBounds_toArray, List.set_cons_zero, List.set_cons_succ]))
                    have HE := eq_edge (x : Int) (l : Int) (y : Int) ed.fr ed.le ed.to
                    refine seq_read (v := .bool (((x : Int) == ed.fr) && (((l : Int) == ed.le) && ((y : Int) == ed.to)))) rfl rfl rfl (fun X hX => ?_) (by assumption) ?_
                    · go_simp
                    · clear HE
                      (try simp only [Act.put, List.setIfInBounds_toArray, List.set_cons_zero, List.set_cons_succ])
                      generalize (((x : Int) == ed.fr) && (((l : Int) == ed.le) && ((y : Int) == ed.to))) = q
                      repeat (first | (refine seq_skip rfl rfl (by assumption) ?_; simp only [Act.put, List.setIfInBounds_toArray, List.set_cons_zero, List.set_cons_succ]) | (refine seq_read (v := ?_) rfl rfl rfl (fun X hX => ?_) (by assumption) ?_; rotate_left; (focus (go_simp <;> with_reducible rfl)); simp only [Act.put, List.setIfInBounds_toArray, List.set_cons_zero, List.set_cons_succ]))
                      refine seq_nil ?_
                      go_wp2_with fail
                      go_meet
                      exact ⟨_, rfl, (Ext.refl _).drew⟩
                case rest =>
                  obtain ⟨q, rfl, hxc⟩ := hcut
                  replace hacc := hacc.ext hxc
                  replace bS1 := bS1.ext hxc
                  replace c0 := hxc.cell_some c0
                  replace c1 := hxc.cell_some c1
                  replace c2 := hxc.cell_some c2
                  clear bE1 hxc
                  go_upto_if 83 with fail
                  go_cut [9] (fun s9 wx => ∃ b' : Bool, s9 = .bool b' ∧ b'.toNat ≤ b.toNat ∧ wc = wx)
                  case first =>
                    cases q
                    · go_wp2_with fail
                      go_meet
                      exact ⟨b, rfl, Nat.le_refl _, rfl⟩
                    · go_wp2_with fail
                      go_meet
                      exact ⟨false, rfl, Nat.zero_le _, rfl⟩
                  case rest =>
                    obtain ⟨b', rfl, hbb, hwc⟩ := hcut
                    subst hwc
                    by_cases hgo : k = gone
                    · have hne : ((k : Int) != (gone : Int)) = false := by simp [hgo]
                      have Hgo := hide hgo
                      clear hgo
                      go_wp2_with fail
                      go_roundw
                      case rel => exact ⟨b', k + 1, by omega, by go_num, rfl, u, fs, hacc, by omega, hfw⟩
                      case measure => simp [intOf]; omega
                    · have hne : ((k : Int) != (gone : Int)) = true := by simp; omega
                      clear hgo
                      obtain ⟨wr, hwr⟩ : ∃ wr, wr = wc := ⟨_, rfl⟩
                      subst hwr
                      have cS : ∀ W, Ext wr W → ∀ q, W.cell? ⟨w.heap.size, q, none⟩ = #[Value.int .i64 a, .int .i64 p, .slice (some ⟨b0, o0, none⟩) n c][q]? := fun W hW => (bS1.ext hW).cell
                      have cG : ∀ W, Ext wr W → ∀ q, W.cell? ⟨w.heap.size + 1 + 1, q, none⟩ = #[Value.int .i64 a, .int .i64 p, u][q]? := fun W hW => (hacc.blk.ext hW).cell
                      have C0 : ∀ W, Ext wr W → W.cell? ⟨b0, o0 + k * 3, none⟩ = some (.int .i64 ed.fr) := fun W hW => hW.cell_some c0
                      have C1 : ∀ W, Ext wr W → W.cell? ⟨b0, o0 + k * 3 + 1, none⟩ = some (.int .i64 ed.le) := fun W hW => hW.cell_some c1
                      have C2 : ∀ W, Ext wr W → W.cell? ⟨b0, o0 + k * 3 + 2, none⟩ = some (.int .i64 ed.to) := fun W hW => hW.cell_some c2
                      go_wp2_with fail
                      refine wp_region_tail (fun X => Ext wr X) [8, 10] (Ord.of [0, 1, 2, 3, 4, 5, 6, 7, 8, 9, 10]) (by kernel_rfl) rfl (by kernel_rfl) (by kernel_rfl) (by kernel_rfl) (fun _ _ _ _ _ h => h) (by first | assumption | exact (Ext.refl _).drew | exact (Dr.refl _ _).drew | (refine Ext.drew ?_; assumption)) ?_
                      repeat (first | (refine tseq_skip rfl rfl (by assumption) ?_; simp only [Act.put, List.setIfInBounds_toArray, List.set_cons_zero, List.set_cons_succ]) | (refine tseq_pure (v := ?_) rfl rfl rfl rfl (fun X => ?_) ?_; rotate_left; (focus (go_simp <;> with_reducible rfl)); simp only [Act.put, List.setIfInBounds_toArray, List.set_cons_zero, List.set_cons_succ]) | (refine tseq_read (v := ?_) rfl rfl rfl rfl (fun X hX => ?_) ?_; rotate_left; (focus (go_simp <;> with_reducible rfl)); simp only [Act.put, List.setIfInBounds_toArray, List.set_cons_zero, List.set_cons_succ]))
                      (refine tseq_step rfl rfl rfl (fun K hK => ?_); go_simp)
                      refine hK.out _ _ ((Ext.refl _).drew.alloc _) ?_
                      (try simp only [Act.put, List.setIfInBounds_toArray, List.set_cons_zero, List.set_cons_succ])
                      (refine tseq_last rfl rfl rfl rfl (fun K hK => ?_))
                      refine wp_push wB wr.drew _ _ _ rfl 48 _ 3 24 Tryd.underlying23 info_edge rfl (by decide) u fs.length (edgeCells fs) _ _ rfl rfl hacc.fr.size hacc.own rfl (by simp [Value.oneCell']) (by unfold maxLen; omega) (by omega) ?_
                      intro g cap w3 hown3 hg3 hat3 hlt3
                      refine hK.out _ _ ?_
                      (try simp only [Act.put, List.setIfInBounds_toArray, List.set_cons_zero, List.set_cons_succ])
                      repeat (first | (refine tseq_skip rfl rfl (by assumption) ?_; simp only [Act.put, List.setIfInBounds_toArray, List.set_cons_zero, List.set_cons_succ]) | (refine tseq_pure (v := ?_) rfl rfl rfl rfl (fun X => ?_) ?_; rotate_left; (focus (go_simp <;> with_reducible rfl)); simp only [Act.put, List.setIfInBounds_toArray, List.set_cons_zero, List.set_cons_succ]) | (refine tseq_read (v := ?_) rfl rfl rfl rfl (fun X hX => ?_) ?_; rotate_left; (focus (go_simp <;> with_reducible rfl)); simp only [Act.put, List.setIfInBounds_toArray, List.set_cons_zero, List.set_cons_succ]))
                      obtain ⟨h1, h2, h3⟩ := (hacc.ext ((Ext.refl _).drew)).push (e := ed) (W' := w3) hown3 hg3 hat3
                      have h1' := h1.out
                      (refine tseq_last rfl rfl rfl rfl (fun K hK => ?_))
                      go_simp
                      refine hK.out _ _ ?_
                      refine tseq_nil ?_
                      go_wp2_with fail
                      go_roundw
                      case rel => exact ⟨b', k + 1, by omega, by go_num, rfl, _, _, h3, by simp; omega, few_snoc hfw.out hedf.out⟩
                      case measure => simp [intOf]; omega
          · obtain rfl : k = n := by omega
            go_upto_if 97 with fail
            go_cut [] (fun wx => ∃ (u : Value) (fs : List Edg), Acc w wB wx R (w.heap.size + 1 + 1) (M + 5) a p u fs ∧ fs.length ≤ k + 1 ∧ Hid (Few p fs))
            case first =>
              cases b
              · go_wp2_with fail
                go_meet
                exact ⟨u, fs, hacc, by simpa using hlen, hfw⟩
              · have cG := hacc.blk.cell
                have cE := bE1.cell
                simp only [Bool.toNat_true] at hlen
                go_wp2_with (at_builtin; refine wpList_push3 wB _ rfl _ _ _ rfl 48 _ 3 24 Tryd.underlying23 info_edge rfl (by decide) u fs.length (edgeCells fs) _ _ rfl rfl hacc.fr.size hacc.own rfl (by simp [Value.oneCell']) (by unfold maxLen; omega) (by omega) ?_; intro g cap w3 hown3 hg3 hat3 hlt3; obtain ⟨h1, h2, h3⟩ := hacc.push (e := ⟨x, l, y⟩) hown3 hg3 hat3; have h1' := h1.out)
                go_meet
                exact ⟨_, _, h3, by simp; omega, few_snoc hfw.out hxyl⟩
            case rest =>
              clear hacc hlen hfw cS bS1 bE1
              obtain ⟨u, fs, hacc, hlen, hfw⟩ := hcut
              obtain ⟨A', n', c', rfl⟩ := hacc.form
              obtain ⟨rfl, _⟩ := hacc.reads
              have hcap := own_cap hacc.own
              have cG := hacc.blk.cell
              have bz2 := bZ.frm hacc.fr (by omega)
              have cz := bz2.cell
              have hzz := bZ.lt
              have fz := bz2.frozen
              obtain ⟨f1, f2, f3⟩ := hacc.fin (Z := w.heap.size + 1) (by omega) (by omega) (.int .i64 a) (.int .i64 p) (.slice A' fs.length c')
              have Hfin := hide (show RetG R (M + 10) (L + 1) w (.returned (.agg #[.int .i64 a, .int .i64 p, .slice A' fs.length c'])) _ from ⟨⟨a, p, fs⟩, A', fs.length, c', rfl, f1, ⟨a, p, rfl, ha, rfl, hp1, hp, hfw.out⟩, by omega, f2.more (by omega), f3⟩)
              clear f1 f2 f3
              go_wp2_with fail
              exact bodyPost_ret (v := .agg #[.int .i64 a, .int .i64 p, .slice A' fs.length c']) (by simp [results, Tryd.results49, go_sem, cz]) rfl Hfin.out
end Go.Proofs.YtbifoikcmjmdeaaDoor

namespace Go.Proofs.YtbifoikcmjmdeaaDoor
open Go Go.RowKit

section
variable {P : Program} (w : World)
theorem run_onto_none (base : Nat) (t ty e : TypeId) (i : TypeInfo) (size : Nat) (ht : P.underlying t = some (.slice e)) (hi : P.info? e = some i)
    (v : Value) (n : Nat) (xs : List Value) (hown : w.ownsRow base e size v n xs) (c : Nat) : (Builtin.append_ #[t, t] ty #[v, .slice none 0 c]).run P w = .ok v w := by
  rcases hown.2 with ⟨rfl, rfl⟩ | ⟨g, cap, cur, rfl, _, _, hnc, _⟩
  · simp [Builtin.append_, run_underlying ht, sizeOf, typeInfo, hi, Builtin.lenOf, Builtin.firstCells]
  · simp [Builtin.append_, run_underlying ht, sizeOf, typeInfo, hi, Builtin.lenOf, Builtin.firstCells, hnc, storeCells]
theorem wp_onto {o : Oper} {a : Act} {K : Act → World → Prop} {Q : Exit → Act → World → Prop} (s x : Operand) (t : TypeId)
    (ho : o.op = .call { callee := .builtin .append, args := #[s, x], argTypes := #[t, t] })
    (base : Nat) (e : TypeId) (z : Value) (size bytes : Nat) (ht : P.underlying t = some (.slice e)) (hi : (P.info? e).map (fun i => (i.zero, i.size, i.bytes)) = some (some z, size, bytes)) (hzs : z.cells.size = size) (hsz : 0 < size)
    (v : Value) (n : Nat) (xs : List Value) (hs : a.eval s = v) (hown : w.ownsRow base e size v n xs)
    (lo hi' : Nat) (A : Option Addr) (m c : Nat) (news : List Value) (hx : a.eval x = .slice A m c) (hr : Reads w lo hi' size A m news) (h1 : ∀ u ∈ news, u.oneCell' = true)
    (h63 : n + m ≤ maxLen) (hbytes : (n + m) * bytes ≤ 140737488355328) (hbase : base ≤ w.heap.size)
    (h : ∀ v' w', w'.ownsRow base e size v' (n + m) (xs ++ news) → w.grownBy w' v.ownBlock → (v'.ownBlock = v.ownBlock ∨ v'.ownBlock = some w.heap.size) → K (a.put o.dst v') w') : o.wp P a w K Q := by
  obtain ⟨i, hi0, hz0, hz1, hz2⟩ := info_parts hi
  have hrun : ∃ v' w', (Builtin.append_ #[t, t] o.type #[v, .slice A m c]).run P w = .ok v' w' ∧ w'.ownsRow base e size v' (n + m) (xs ++ news) ∧ w.grownBy w' v.ownBlock ∧ (v'.ownBlock = v.ownBlock ∨ v'.ownBlock = some w.heap.size) := by
    by_cases h0 : m = 0
    · subst h0
      obtain rfl : news = [] := List.eq_nil_of_length_eq_zero (by simpa using hr.1)
      cases A with
      | none => exact ⟨v, w, run_onto_none w base t o.type e i size ht hi0 v n xs hown c, by simpa using hown, World.grownBy.refl w _, .inl rfl⟩
      | some ad =>
        obtain ⟨v', w', h2, h3, h4, _, h5⟩ := run_append_own_at (P := P) w base t o.type e i z size bytes ht hi0 hz0 hz1 hz2 hzs hsz v n xs hown ad 0 c [] (by simp) (fun j u hu => by simp at hu) h1 h63 hbytes hbase
        exact ⟨v', w', h2, h3, h4, h5⟩
    · obtain ⟨ad, rfl, _, _, hc⟩ := hr.2.2 (by omega)
      obtain ⟨v', w', h2, h3, h4, _, h5⟩ := run_append_own_at (P := P) w base t o.type e i z size bytes ht hi0 hz0 hz1 hz2 hzs hsz v n xs hown ad m c news hr.1 hc h1 h63 hbytes hbase
      exact ⟨v', w', h2, h3, h4, h5⟩
  obtain ⟨v', w', h2, h3, h4, h5⟩ := hrun
  unfold Oper.wp execOp
  simp only [ho, resolve, invoke, builtin, Sem.run_bind, Sem.run_pure, Result.andThen_ok, List.map_toArray, List.map_cons, List.map_nil, hs, hx, h2]
  exact h v' w' h3 h4 h5
theorem wpList_onto {ops : Array Oper} {rest : List Oper} {o : Oper} {a : Act} {Q : Exit → Act → World → Prop} (hgd : o.guard = none) (s x : Operand) (t : TypeId)
    (ho : o.op = .call { callee := .builtin .append, args := #[s, x], argTypes := #[t, t] })
    (base : Nat) (e : TypeId) (z : Value) (size bytes : Nat) (ht : P.underlying t = some (.slice e)) (hi : (P.info? e).map (fun i => (i.zero, i.size, i.bytes)) = some (some z, size, bytes)) (hzs : z.cells.size = size) (hsz : 0 < size)
    (v : Value) (n : Nat) (xs : List Value) (hs : a.eval s = v) (hown : w.ownsRow base e size v n xs)
    (lo hi' : Nat) (A : Option Addr) (m c : Nat) (news : List Value) (hx : a.eval x = .slice A m c) (hr : Reads w lo hi' size A m news) (h1 : ∀ u ∈ news, u.oneCell' = true)
    (h63 : n + m ≤ maxLen) (hbytes : (n + m) * bytes ≤ 140737488355328) (hbase : base ≤ w.heap.size)
    (h : ∀ v' w', w'.ownsRow base e size v' (n + m) (xs ++ news) → w.grownBy w' v.ownBlock → (v'.ownBlock = v.ownBlock ∨ v'.ownBlock = some w.heap.size) → wpList P ops Q rest (a.put o.dst v') w') : wpList P ops Q (o :: rest) a w :=
  wpList_plain hgd fun _ hK => wp_onto w s x t ho base e z size bytes ht hi hzs hsz v n xs hs hown lo hi' A m c news hx hr h1 h63 hbytes hbase fun v' w' h2 h3 h4 => hK _ _ (h v' w' h2 h3 h4)
end

theorem edgeCells_one (es : List Edg) : ∀ u ∈ edgeCells es, u.oneCell' = true := by
  induction es with
  | nil => intro u h; cases h
  | cons e r ih =>
    intro u h
    simp only [edgeCells, List.mem_cons] at h
    rcases h with rfl | rfl | rfl | h
    · rfl
    · rfl
    · rfl
    · exact ih u h
theorem edgeCells_set {es : List Edg} {k : Nat} {e : Edg} (h : es[k]? = some e) (x : Int) :
    (edgeCells es).set (k * 3) (.int .i64 x) = edgeCells (es.set k ⟨x, e.le, e.to⟩) ∧ (edgeCells es).set (k * 3 + 1) (.int .i64 x) = edgeCells (es.set k ⟨e.fr, x, e.to⟩) ∧ (edgeCells es).set (k * 3 + 2) (.int .i64 x) = edgeCells (es.set k ⟨e.fr, e.le, x⟩) := by
  induction es generalizing k with
  | nil => simp at h
  | cons a r ih =>
    cases k with
    | zero => simp at h; subst h; exact ⟨rfl, rfl, rfl⟩
    | succ k =>
      have := ih (k := k) (by simpa using h)
      have e1 : (k + 1) * 3 = k * 3 + 1 + 1 + 1 := by omega
      refine ⟨?_, ?_, ?_⟩ <;> rw [e1] <;> simp only [edgeCells, List.set_cons_succ]
      · rw [this.1]
      · rw [this.2.1]
      · rw [this.2.2]
section
variable {w0 wB W : World} {R G M : Nat} {al st : Int} {es : List Edg}
/-- A cell of the edges is turned. -/
theorem Acc.turn {g m c j : Nat} {x : Int} {fs : List Edg} (h : Acc w0 wB W R G M al st (.slice (some ⟨g, 0, none⟩) m c) es) (hm : m = es.length) (hs : (edgeCells es).set j (.int .i64 x) = edgeCells fs) (hl : fs.length = es.length) :
    Acc w0 wB (W.setCell ⟨g, j, none⟩ (.int .i64 x)) R G M al st (.slice (some ⟨g, 0, none⟩) m c) fs := by
  have hgG : g ≠ G := h.far rfl
  have hg := (h.own.lt g rfl).1
  have hR := h.hR
  have hB := h.hB
  have hf := Frm.setCell W g j (.int .i64 x)
  refine ⟨h.blk.frm hf (by omega), ?_, h.rd.frm hf (fun k h1 h2 => by omega), h.dr.setNew (by dsimp only; omega) _, ?_, h.hR, h.hB, h.hG⟩
  · have ho := h.own
    rw [← hm] at ho
    have := (ho.stored j (.int .i64 x)).1
    rw [hs] at this
    rw [hl, ← hm]
    exact this
  · exact ⟨h.fr.os, h.fr.tape, h.fr.output, by simpa [World.setCell] using h.fr.size, fun k hk hn => (Below.heap_setCell _ _ _ _ (by dsimp only; omega)).trans (h.fr.block k hk hn)⟩
end
end Go.Proofs.YtbifoikcmjmdeaaDoor
