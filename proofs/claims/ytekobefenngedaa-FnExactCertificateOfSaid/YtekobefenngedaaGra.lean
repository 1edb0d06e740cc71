/- An automaton that grows: a variable holds it, its rows and its marks lie in new memory. impl.copyAutomaton and spec.l3Copy, walked. -/
import Derived.Test.YtekobefenngedaaClone
import Derived.Test.YtekobefenngedaaSeqU
import Derived.Deep.DeepCutAuto
namespace Go.Proofs.Ytekobefenngedaa
open Go Go.RowKit
set_option maxHeartbeats 2000000

theorem fillA_frm (W : World) (Z : Nat) (u0 u1 u2 : Value) : Frm (fun k => k = Z) W (((W.setCell ⟨Z, 0, none⟩ u0).setCell ⟨Z, 1, none⟩ u1).setCell ⟨Z, 2, none⟩ u2) :=
  ((Frm.setCell W Z 0 u0).trans (Frm.setCell _ Z 1 u1)).trans (Frm.setCell _ Z 2 u2)
theorem fillA_blk {w : World} {Z : Nat} {cs : Array Value} {t : TypeId} (h : Blk w Z t cs) (hc : cs.size = 3) (u0 u1 u2 : Value) : Blk (((w.setCell ⟨Z, 0, none⟩ u0).setCell ⟨Z, 1, none⟩ u1).setCell ⟨Z, 2, none⟩ u2) Z t #[u0, u1, u2] := by
  obtain ⟨l⟩ := cs
  match l, hc with
  | [a, b, c], _ => simpa using ((h.set_ 0 u0).set_ 1 u1).set_ 2 u2
/-- A block of another type is not one's own. -/
theorem own_far {w : World} {base : Nat} {e t : TypeId} {size n G : Nat} {v : Value} {xs : List Value} {cs : Array Value} (h : w.ownsRow base e size v n xs) (hB : Blk w G t cs) (hne : e ≠ t) {b : Nat} (hv : v.ownBlock = some b) : b ≠ G := by
  rintro rfl
  rcases h.2 with ⟨rfl, _⟩ | ⟨g, cap, cur, rfl, _, hh, _⟩
  · simp [Value.ownBlock] at hv
  · have hg : g = b := by simpa [Value.ownBlock] using hv
    subst hg
    unfold Blk at hB
    rw [hh] at hB
    injection hB with hB
    injection hB with _ ht
    exact absurd ht hne
/-- The variable G holds an automaton that grows. -/
structure Gra (w0 W : World) (G : Nat) (al : Int) (v : Value) (ls : List (List Int)) (vA : Value) (acc : List Bool) : Prop where
  blk : Blk W G 29 #[.int .i64 al, v, vA]
  own : OwnLL W w0.heap.size v ls
  acc : W.ownsRow w0.heap.size 4 1 vA acc.length (bools acc)
  ext : Ext w0 W
  hG : w0.heap.size ≤ G
section
variable {w0 W W' : World} {G : Nat} {al : Int} {v vA : Value} {ls : List (List Int)} {acc : List Bool}
theorem Gra.ext_ (h : Gra w0 W G al v ls vA acc) (hb : Ext W W') : Gra w0 W' G al v ls vA acc := ⟨h.blk.ext hb, h.own.ext hb, own_ext h.acc hb, h.ext.trans hb, h.hG⟩
/-- One row more: what 'append' left, and its store into the variable. -/
theorem Gra.push {W1 : World} {rows : List Value} {row : Value} {l : List Int} {g cap : Nat} (h : Gra w0 W G al v ls vA acc) (hrows : RowsOwn W w0.heap.size rows ls) (hv : W.ownsRow w0.heap.size 50 1 v ls.length rows)
    (hx : Ext W W1) (hrow : W1.ownsRow W.heap.size 3 1 row l.length (ints l))
    (hown : W'.ownsRow w0.heap.size 50 1 (.slice (some ⟨g, 0, none⟩) (ls.length + 1) cap) (ls.length + 1) (rows ++ [row]))
    (hg : W1.grownBy W' v.ownBlock) (hat : v.ownBlock = some g ∨ g = W1.heap.size + 1) :
    Hid (W'.cell? ⟨G, 1, none⟩ = some v) ∧ W'.frozen? ⟨G, 1, none⟩ = false ∧ Gra w0 (W'.setCell ⟨G, 1, none⟩ (.slice (some ⟨g, 0, none⟩) (ls.length + 1) cap)) G al (.slice (some ⟨g, 0, none⟩) (ls.length + 1) cap) (ls ++ [l]) vA acc := by
  have hB1 := h.blk.ext hx
  have hv1 := own_ext hv hx
  have hB : Blk W' G 29 #[.int .i64 al, v, vA] := (hg.block G hB1.lt (fun e => own_far hv1 hB1 (by decide) e.symm rfl)).trans hB1
  have hgG : g ≠ G := by
    rcases hat with h1 | h1
    · exact own_far hv1 hB1 (by decide) h1
    · have := hB1.lt; omega
  have hx' : Ext w0 W' := (h.ext.trans hx).grown hg (fun k hk => (hv1.lt k hk).1)
  have hr1 := hrows.snoc hx (h.ext.size) hrow
  have hfr : Frm (fun k => v.ownBlock = some k) W1 W' := Frm.of_grown hg
  have hr2 : RowsOwn W' w0.heap.size (rows ++ [row]) (ls ++ [l]) := hr1.frm hfr (fun i r b hr hb hS => by
    obtain ⟨l', _, ho⟩ := hr1.row hr
    exact own_ne ho hv1 (by decide) hb hS)
  have hacc : W'.ownsRow w0.heap.size 4 1 vA acc.length (bools acc) := own_frm (own_ext h.acc hx) hfr (fun b hb hS => own_ne (own_ext h.acc hx) hv1 (by decide) hb hS)
  have hset := Frm.setCell W' G 1 (.slice (some ⟨g, 0, none⟩) (ls.length + 1) cap)
  refine ⟨hB.cell 1, hB.frozen 1, ⟨by simpa using hB.set_ 1 _, ⟨rows ++ [row], ?_, ?_⟩, ?_, hx'.setCell (p := ⟨G, 1, none⟩) h.hG _, h.hG⟩⟩
  · rw [List.length_append, List.length_singleton]
    exact own_frm hown hset (fun b hv hS => by
      have : g = b := by simpa [Value.ownBlock] using hv
      omega)
  · refine hr2.frm hset (fun i r b hr hb hS => ?_)
    obtain ⟨l', _, ho⟩ := hr2.row hr
    exact own_far ho hB (by decide) hb hS
  · exact own_frm hacc hset (fun b hb hS => own_far hacc hB (by decide) hb hS)
end

set_option maxRecDepth 100000 in
theorem impl_copyAutomaton {lo hi : Nat} {A : Option Addr} {n c : Nat} {A' : Option Addr} {n' c' : Nat} {a : Aut} {w : World} (h : AutAt w lo hi A n A' n' a) (hs : a.size ≤ 1048576) :
    Calls Try.prog 17 #[.agg #[.int .i64 a.al, .slice A n c, .slice A' n' c']] w (RetAut w a) := by
  have h1 : n ≤ 1048576 := by have := h.n1; unfold Aut.size at hs; omega
  have h2 : n' ≤ 1048576 := by have := h.n2; unfold Aut.size at hs; omega
  have hrow : ∀ (k : Nat) (l : List Int), a.next[k]? = some l → l.length ≤ 1048576 := fun k l hl => by
    have h1 := tot_take_succ hl
    have h2 := tot_take_le a.next (k + 1)
    unfold Aut.size at hs
    omega
  have Hrow := hide hrow
  have hL := hide h.n1
  have hL' := hide h.n2
  have HS := hide (fun W (hW : Ext w W) => h.1.ext hW)
  have HA := hide (fun W (hW : Ext w W) => h.2.2.ext hW)
  have hlen := h.1.len
  clear hrow h hs
  go_enter Try.func17, Try.ntmps17
  obtain ⟨b1, bz⟩ := ext_blk2 (Ext.refl ((w.alloc (.cells #[.int .i64 a.al, .slice A n c, .slice A' n' c'] 29)).alloc (.cells #[.int .i64 0, .slice none 0 0, .slice none 0 0] 29)))
  have hw2 : Ext w ((w.alloc (.cells #[.int .i64 a.al, .slice A n c, .slice A' n' c'] 29)).alloc (.cells #[.int .i64 0, .slice none 0 0, .slice none 0 0] 29)) := ((Ext.refl w).alloc _).alloc _
  have hsz2 : w.heap.size + 2 = ((w.alloc (.cells #[.int .i64 a.al, .slice A n c, .slice A' n' c'] 29)).alloc (.cells #[.int .i64 0, .slice none 0 0, .slice none 0 0] 29)).heap.size := by simp
  go_upto_region 1 with fail
  generalize (w.alloc (.cells #[.int .i64 a.al, .slice A n c, .slice A' n' c'] 29)).alloc (.cells #[.int .i64 0, .slice none 0 0, .slice none 0 0] 29) = w2 at *
  go_cut [3] (fun v wx => ∃ (G : Nat) (vA : Value), v = .pointer (some ⟨G, 0, none⟩) ∧ Gra w2 wx G a.al (.slice none 0 0) [] vA a.acc)
  case first =>
    have c1 := fun W (hW : Ext w2 W) => (b1.ext hW).cell
    have hww := Ext.refl w2
    refine wp_region_tailU (fun X => Ext w2 X) [7] (OrdU.app [0, 1, 2, 3] (OrdU.two 4 (OrdU.of [5, 6, 7]) 6 (OrdU.of [4, 5, 7]))) (by kernel_rfl) (by kernel_rfl) (by kernel_rfl) (by kernel_rfl) (by kernel_rfl) (fun _ _ _ _ _ h => h) (by first | assumption | exact (Ext.refl _).drew | (refine Ext.drew ?_; assumption)) ?_
    repeat (first | (refine useq_skip rfl rfl (by assumption) ?_; simp only [Act.put, List.setIfInBounds_toArray, List.set_cons_zero, List.set_cons_succ]) | (refine useq_pure (v := ?_) rfl rfl rfl rfl (fun X => ?_) ?_; rotate_left; (focus (go_simp <;> with_reducible rfl)); simp only [Act.put, List.setIfInBounds_toArray, List.set_cons_zero, List.set_cons_succ]) | (refine useq_read (v := ?_) rfl rfl rfl rfl (fun X hX => ?_) ?_; rotate_left; (focus (go_simp <;> with_reducible rfl)); simp only [Act.put, List.setIfInBounds_toArray, List.set_cons_zero, List.set_cons_succ]))
    have hx0 : Ext w2 w2.drew := hww.drew
    generalize w2.drew = wd at *
    refine useq_both rfl rfl rfl rfl (fun K hK => ?_) (fun K hK => ?_)
    · go_simp
      refine (clone_bool (HA.out _ (hw2.trans hx0)) h2).mono ?_
      rintro e w' ⟨vA', rfl, hownA, hxA⟩
      obtain ⟨BA, dA, rfl⟩ := own_form hownA
      have hx0' := hx0.trans hxA
      refine hK.out _ _ hx0' ?_
      (try simp only [Act.put, List.setIfInBounds_toArray, List.set_cons_zero, List.set_cons_succ])
      repeat (first | (refine useq_skip rfl rfl (by assumption) ?_; simp only [Act.put, List.setIfInBounds_toArray, List.set_cons_zero, List.set_cons_succ]) | (refine useq_pure (v := ?_) rfl rfl rfl rfl (fun X => ?_) ?_; rotate_left; (focus (go_simp <;> with_reducible rfl)); simp only [Act.put, List.setIfInBounds_toArray, List.set_cons_zero, List.set_cons_succ]) | (refine useq_read (v := ?_) rfl rfl rfl rfl (fun X hX => ?_) ?_; rotate_left; (focus (go_simp <;> with_reducible rfl)); simp only [Act.put, List.setIfInBounds_toArray, List.set_cons_zero, List.set_cons_succ]))
      (refine useq_step rfl rfl rfl (fun K hK => ?_); go_simp)
      have hx1 := (Ext.refl w').alloc (.cells #[.int .i64 0, .slice none 0 0, .slice none 0 0] 29)
      have hb := Blk.new w' 29 #[.int .i64 0, .slice none 0 0, .slice none 0 0]
      have hG := hx0'.size
      have hownA' := own_less (own_ext hownA hx1) hx0.size
      replace hx0' := hx0'.trans hx1
      refine hK.out _ _ hx0' ?_
      generalize w'.alloc (.cells #[.int .i64 0, .slice none 0 0, .slice none 0 0] 29) = w3 at *
      generalize w'.heap.size = G at *
      (try simp only [Act.put, List.setIfInBounds_toArray, List.set_cons_zero, List.set_cons_succ])
      repeat (first | (refine useq_skip rfl rfl (by assumption) ?_; simp only [Act.put, List.setIfInBounds_toArray, List.set_cons_zero, List.set_cons_succ]) | (refine useq_pure (v := ?_) rfl rfl rfl rfl (fun X => ?_) ?_; rotate_left; (focus (go_simp <;> with_reducible rfl)); simp only [Act.put, List.setIfInBounds_toArray, List.set_cons_zero, List.set_cons_succ]) | (refine useq_read (v := ?_) rfl rfl rfl rfl (fun X hX => ?_) ?_; rotate_left; (focus (go_simp <;> with_reducible rfl)); simp only [Act.put, List.setIfInBounds_toArray, List.set_cons_zero, List.set_cons_succ]))
      have cG := hb.cell
      have fG := hb.frozen
      (refine useq_last rfl rfl rfl rfl (fun K hK => ?_))
      go_simp
      refine hK.out _ _ ?_
      refine useq_nil ?_
      have hfin : Gra w2 (((w3.setCell ⟨G, 0, none⟩ (.int .i64 a.al)).setCell ⟨G, 1, none⟩ (.slice none 0 0)).setCell ⟨G, 2, none⟩ (.slice BA n' dA)) G a.al (.slice none 0 0) [] (.slice BA n' dA) a.acc := ⟨fillA_blk hb rfl _ _ _, ⟨[], World.ownsRow_nil _ _ _ _, RowsOwn.nil _ _⟩, by
        rw [← hL'.out]
        exact own_frm hownA' (fillA_frm w3 G _ _ _) (fun b hv hS => own_far hownA' hb (by decide) hv hS), hx0'.frm (fillA_frm w3 G _ _ _) (fun k hk e => by omega), hG⟩
      go_wp2_with fail
      go_meet
      exact ⟨G, _, rfl, hfin⟩
    · go_simp
      have hx1 := (Ext.refl wd).alloc (.cells #[.int .i64 0, .slice none 0 0, .slice none 0 0] 29)
      have hb := Blk.new wd 29 #[.int .i64 0, .slice none 0 0, .slice none 0 0]
      have hG := hx0.size
      replace hx0 := hx0.trans hx1
      refine hK.out _ _ hx0 ?_
      generalize wd.alloc (.cells #[.int .i64 0, .slice none 0 0, .slice none 0 0] 29) = w3 at *
      generalize wd.heap.size = G at *
      (try simp only [Act.put, List.setIfInBounds_toArray, List.set_cons_zero, List.set_cons_succ])
      (refine useq_step rfl rfl rfl (fun K hK => ?_); go_simp)
      refine (clone_bool (HA.out _ (hw2.trans hx0)) h2).mono ?_
      rintro e w' ⟨vA', rfl, hownA, hxA⟩
      obtain ⟨BA, dA, rfl⟩ := own_form hownA
      have hownA' := own_less hownA hx0.size
      replace hb := hb.ext hxA
      replace hx0 := hx0.trans hxA
      refine hK.out _ _ hx0 ?_
      (try simp only [Act.put, List.setIfInBounds_toArray, List.set_cons_zero, List.set_cons_succ])
      repeat (first | (refine useq_skip rfl rfl (by assumption) ?_; simp only [Act.put, List.setIfInBounds_toArray, List.set_cons_zero, List.set_cons_succ]) | (refine useq_pure (v := ?_) rfl rfl rfl rfl (fun X => ?_) ?_; rotate_left; (focus (go_simp <;> with_reducible rfl)); simp only [Act.put, List.setIfInBounds_toArray, List.set_cons_zero, List.set_cons_succ]) | (refine useq_read (v := ?_) rfl rfl rfl rfl (fun X hX => ?_) ?_; rotate_left; (focus (go_simp <;> with_reducible rfl)); simp only [Act.put, List.setIfInBounds_toArray, List.set_cons_zero, List.set_cons_succ]))
      have cG := hb.cell
      have fG := hb.frozen
      (refine useq_last rfl rfl rfl rfl (fun K hK => ?_))
      go_simp
      refine hK.out _ _ ?_
      refine useq_nil ?_
      have hfin : Gra w2 (((w'.setCell ⟨G, 0, none⟩ (.int .i64 a.al)).setCell ⟨G, 1, none⟩ (.slice none 0 0)).setCell ⟨G, 2, none⟩ (.slice BA n' dA)) G a.al (.slice none 0 0) [] (.slice BA n' dA) a.acc := ⟨fillA_blk hb rfl _ _ _, ⟨[], World.ownsRow_nil _ _ _ _, RowsOwn.nil _ _⟩, by
        rw [← hL'.out]
        exact own_frm hownA' (fillA_frm w' G _ _ _) (fun b hv hS => own_far hownA' hb (by decide) hv hS), hx0.frm (fillA_frm w' G _ _ _) (fun k hk e => by omega), hG⟩
      go_wp2_with fail
      go_meet
      exact ⟨G, _, rfl, hfin⟩
  case rest =>
    obtain ⟨G, vA, rfl, hgr⟩ := hcut
    have k1 := (b1.ext hgr.ext).cell
    go_wp2_with fail
    go_loopw [5, 15] (fun _ i wr => ∃ (k : Nat) (v : Value), k ≤ n ∧ i = .int .i64 k ∧ Gra w2 wr G a.al v (a.next.take k) vA a.acc) (fun _ i _ => n - (intOf i).toNat)
    case atStart => exact ⟨0, _, Nat.zero_le _, rfl, by simpa using hgr⟩
    case round =>
      clear hgr k1
      obtain ⟨k, v, hk, rfl, hgr⟩ := hrel
      by_cases hlt : k < n
      · obtain ⟨ad, Ak, ck, l, rfl, _, _, hl, hc0, hrk⟩ := (HS.out wr (hw2.trans hgr.ext)).row hlt
        have hll := Hrow.out k l hl.out
        have Htk := hide (show a.next.take (k + 1) = a.next.take k ++ [l] by rw [List.take_add_one, hl.out]; rfl)
        have htl := hide (show (a.next.take k).length = k by rw [List.length_take]; have := hL.out; omega)
        obtain ⟨rows, hv, hrows⟩ := hgr.own
        go_upto_region 5 with fail
        have cG : ∀ W, Ext wr W → ∀ q, W.cell? ⟨G, q, none⟩ = #[Value.int .i64 a.al, v, vA][q]? := fun W hW => (hgr.blk.ext hW).cell
        have hww := Ext.refl wr
        have Hrk := hide (fun W (hW : Ext wr W) => hrk.ext hW)
        clear hc0 hrk
        refine wp_region_tailU (fun X => Ext wr X) [5, 7] (OrdU.of [0, 1, 2, 3, 4, 5, 6, 7]) (by kernel_rfl) (by kernel_rfl) (by kernel_rfl) (by kernel_rfl) (by kernel_rfl) (fun _ _ _ _ _ h => h) (by first | assumption | exact (Ext.refl _).drew | (refine Ext.drew ?_; assumption)) ?_
        repeat (first | (refine useq_skip rfl rfl (by assumption) ?_; simp only [Act.put, List.setIfInBounds_toArray, List.set_cons_zero, List.set_cons_succ]) | (refine useq_pure (v := ?_) rfl rfl rfl rfl (fun X => ?_) ?_; rotate_left; (focus (go_simp <;> with_reducible rfl)); simp only [Act.put, List.setIfInBounds_toArray, List.set_cons_zero, List.set_cons_succ]) | (refine useq_read (v := ?_) rfl rfl rfl rfl (fun X hX => ?_) ?_; rotate_left; (focus (go_simp <;> with_reducible rfl)); simp only [Act.put, List.setIfInBounds_toArray, List.set_cons_zero, List.set_cons_succ]))
        (refine useq_step rfl rfl rfl (fun K hK => ?_); go_simp)
        refine (clone_int (Hrk.out _ hww.drew) hll).mono ?_
        rintro e w3 ⟨row, rfl, hrow, hx3⟩
        obtain ⟨BR, dR, rfl⟩ := own_form hrow
        have hww3 := hww.drew.trans hx3
        refine hK.out _ _ hww3 ?_
        (try simp only [Act.put, List.setIfInBounds_toArray, List.set_cons_zero, List.set_cons_succ])
        repeat (first | (refine useq_skip rfl rfl (by assumption) ?_; simp only [Act.put, List.setIfInBounds_toArray, List.set_cons_zero, List.set_cons_succ]) | (refine useq_pure (v := ?_) rfl rfl rfl rfl (fun X => ?_) ?_; rotate_left; (focus (go_simp <;> with_reducible rfl)); simp only [Act.put, List.setIfInBounds_toArray, List.set_cons_zero, List.set_cons_succ]) | (refine useq_read (v := ?_) rfl rfl rfl rfl (fun X hX => ?_) ?_; rotate_left; (focus (go_simp <;> with_reducible rfl)); simp only [Act.put, List.setIfInBounds_toArray, List.set_cons_zero, List.set_cons_succ]))
        (refine useq_step rfl rfl rfl (fun K hK => ?_); go_simp)
        refine hK.out _ _ (hww3.alloc _) ?_
        (try simp only [Act.put, List.setIfInBounds_toArray, List.set_cons_zero, List.set_cons_succ])
        (refine useq_last rfl rfl rfl rfl (fun K hK => ?_))
        refine wp_push w2 w3 _ _ _ rfl 50 _ 1 24 Try.underlying22 info_ints rfl (by decide) v (a.next.take k).length rows _ _ rfl rfl (hgr.ext.trans hww3).size (own_ext hv hww3) rfl (cells_slice _ _ _) (by unfold maxLen; have := htl.out; omega) (by have := htl.out; omega) ?_
        intro g5 cap5 w5 hown5 hg5 hat5 hlt5
        refine hK.out _ _ ?_
        (try simp only [Act.put, List.setIfInBounds_toArray, List.set_cons_zero, List.set_cons_succ])
        repeat (first | (refine useq_skip rfl rfl (by assumption) ?_; simp only [Act.put, List.setIfInBounds_toArray, List.set_cons_zero, List.set_cons_succ]) | (refine useq_pure (v := ?_) rfl rfl rfl rfl (fun X => ?_) ?_; rotate_left; (focus (go_simp <;> with_reducible rfl)); simp only [Act.put, List.setIfInBounds_toArray, List.set_cons_zero, List.set_cons_succ]) | (refine useq_read (v := ?_) rfl rfl rfl rfl (fun X hX => ?_) ?_; rotate_left; (focus (go_simp <;> with_reducible rfl)); simp only [Act.put, List.setIfInBounds_toArray, List.set_cons_zero, List.set_cons_succ]))
        obtain ⟨p1, p2, p3⟩ := hgr.push hrows hv hww3 hrow (W' := w5) hown5 hg5 hat5
        have p1' := p1.out
        (refine useq_last rfl rfl rfl rfl (fun K hK => ?_))
        go_simp
        refine hK.out _ _ ?_
        refine useq_nil ?_
        go_wp2_with fail
        go_roundw
        case rel => exact ⟨k + 1, _, by omega, by go_num, by rw [Htk.out]; first | exact p3 | simpa using p3⟩
        case measure => simp [intOf]; omega
      · obtain rfl : n = k := by omega
        obtain ⟨A5, c5, rfl⟩ : ∃ A5 c5, v = .slice A5 n c5 := by
          obtain ⟨rows, hv, _⟩ := hgr.own
          rw [List.take_of_length_le (by have := hL.out; omega), ← hL.out] at hv
          exact own_form hv
        obtain ⟨B5, d5, rfl⟩ := own_form hgr.acc
        have cG := hgr.blk.cell
        have hbz := bz.ext hgr.ext
        have cZ := hbz.cell
        have fZ := hbz.frozen
        have hfl := fillA_frm wr (w.heap.size + 1) (.int .i64 a.al) (.slice A5 n c5) (.slice B5 a.acc.length d5)
        have hbf := fillA_blk hbz rfl (.int .i64 a.al) (.slice A5 n c5) (.slice B5 a.acc.length d5)
        have hxf := (hw2.trans hgr.ext).frm hfl (fun k hk e => by omega)
        have hfin := hide (show RetAut w a (.returned (.agg #[.int .i64 a.al, .slice A5 n c5, .slice B5 a.acc.length d5])) (((wr.setCell ⟨w.heap.size + 1, 0, none⟩ (.int .i64 a.al)).setCell ⟨w.heap.size + 1, 1, none⟩ (.slice A5 n c5)).setCell ⟨w.heap.size + 1, 2, none⟩ (.slice B5 a.acc.length d5)) from by
          refine ⟨A5, n, c5, B5, a.acc.length, d5, rfl, ⟨?_, hL.out, ?_, rfl⟩, hxf⟩
          · have ho := hgr.own
            rw [List.take_of_length_le (by have := hL.out; omega)] at ho
            exact (ho.keep hfl (fun b h1 e => by omega)).less (by omega)
          · exact own_less (own_keep hgr.acc hfl (fun b h1 e => by omega)) (by omega))
        go_wp2_with fail
        generalize ((wr.setCell ⟨w.heap.size + 1, 0, none⟩ (.int .i64 a.al)).setCell ⟨w.heap.size + 1, 1, none⟩ (.slice A5 n c5)).setCell ⟨w.heap.size + 1, 2, none⟩ (.slice B5 a.acc.length d5) = wf at *
        have cf := hbf.cell
        exact bodyPost_ret (v := .agg #[.int .i64 a.al, .slice A5 n c5, .slice B5 a.acc.length d5]) (by simp [results, Try.results17, go_sem, cf]) rfl hfin.out
end Go.Proofs.Ytekobefenngedaa
