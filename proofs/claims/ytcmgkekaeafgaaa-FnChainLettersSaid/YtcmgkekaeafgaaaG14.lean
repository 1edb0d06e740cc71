/- spec.l1Some, spec.l3Over and spec.l8Property, walked. | spec.l8Property, walked. | Drawn automata: further steps of a variable that holds one. | spec.l3Copy, walked. | spec.l3Wrong, walked. | spec.l19Cut at commas, walked (printed from XCut). | spec.l3Parse, by its shape, walked. | spec.FormatAutomaton, by its shape alone, walked. -/
import Derived.Test.YtcmgkekaeafgaaaG13
import Derived.Test.YtcmgkekaeafgaaaG11
import Derived.Test.YtcmgkekaeafgaaaG09
import Derived.Test.YtcmgkekaeafgaaaG05
import Derived.Deep.DeepCutAuto
namespace Go.Proofs.Ytcmgkekaeafgaaa
open Go Go.RowKit
set_option maxHeartbeats 2000000

/-- A drawn automaton of few letters and states. -/
def GoodA (b : Aut) : Prop := ∃ a p : Nat, a < 64 ∧ 1 ≤ p ∧ p ≤ 16 ∧ shA a p (letters a 6).length b
theorem RetAu.mono {R M N : Nat} {sh sh' : Aut → Prop} {w w0 w' : World} {e : Ending} (h : RetAu R M sh w e w') (hd : Dr R w0 w) (hM : M ≤ N) (hs : ∀ b, sh b → sh' b) : RetAu R N sh' w0 e w' := by
  obtain ⟨b, A, n, c, A', n', c', he, ho, hsh, hr, hd'⟩ := h
  exact ⟨b, A, n, c, A', n', c', he, ho.less hd.size, hide (hs b hsh.out), hr.more hM, hd.trans hd'⟩
/-- The result's cells are filled with an automaton that was drawn. -/
theorem au_fill {R M N Z n c n' c' : Nat} {A A' : Option Addr} {b : Aut} {sh : Aut → Prop} {w w0 W : World} {cs : Array Value} {t : TypeId} (hx : Ext w w0) (ho : AutOwn W w0.heap.size A n c A' n' c' b) (hsh : sh b) (hr : Rd W R M) (hd : Dr R w0 W) (bz : Blk w0 Z t cs) (hc : cs.size = 3) (hR : R < w.heap.size) (hZ : w.heap.size ≤ Z) (hM : M ≤ N) :
    Hid (RetAu R N sh w (.returned (.agg #[.int .i64 b.al, .slice A n c, .slice A' n' c'])) (((W.setCell ⟨Z, 0, none⟩ (.int .i64 b.al)).setCell ⟨Z, 1, none⟩ (.slice A n c)).setCell ⟨Z, 2, none⟩ (.slice A' n' c'))) ∧
    Blk (((W.setCell ⟨Z, 0, none⟩ (.int .i64 b.al)).setCell ⟨Z, 1, none⟩ (.slice A n c)).setCell ⟨Z, 2, none⟩ (.slice A' n' c')) Z t #[.int .i64 b.al, .slice A n c, .slice A' n' c'] := by
  have hz := bz.lt
  have hf := fillA_frm W Z (.int .i64 b.al) (.slice A n c) (.slice A' n' c')
  refine ⟨hide ⟨b, A, n, c, A', n', c', rfl, (ho.keep hf (fun b h1 e => by omega)).less hx.size, hide hsh, (hr.more hM).frm hf (fun k hk e => by omega), ?_⟩, fillA_blk (bz.dr hd (by omega)) hc _ _ _⟩
  exact (((hx.dr.trans hd).setNew (p := ⟨Z, 0, none⟩) hZ _).setNew (p := ⟨Z, 1, none⟩) hZ _).setNew (p := ⟨Z, 2, none⟩) hZ _

theorem spec_l1Some {R M : Nat} {w : World} (h : Rd w R M) (hM : M ≤ 900000000) :
    Calls Try.prog 50 #[.pointer (some ⟨R, 0, none⟩)] w (fun e w' => ∃ x : Nat, x < 64 ∧ e = .returned (.int .i64 x) ∧ Rd w' R (M + 1) ∧ Dr R w w') := by
  go_enter Try.func50, Try.ntmps50
  go_wp2_with fail
  refine (num_lit [3, 7, 1, 5, 0, 6, 63, 2, 21] 9 #[.int .i64 3, .int .i64 7, .int .i64 1, .int .i64 5, .int .i64 0, .int .i64 6, .int .i64 63, .int .i64 2, .int .i64 21] rfl rfl (by omega) (by omega) h (by omega)).mono ?_
  rintro e w1 ⟨x, hx, rfl, hr1, hd1⟩
  obtain ⟨y, hy, rfl⟩ : ∃ y : Nat, y < 64 ∧ x = (y : Int) := ⟨x.toNat, by simp at hx; omega, by simp at hx; omega⟩
  clear hx
  go_wp2_with fail
  go_ret
  exact ⟨y, hy, rfl, hr1, ((Dr.refl R w).alloc _).trans hd1⟩
set_option maxRecDepth 100000 in
theorem spec_l3Over {R M a : Nat} {w : World} (h : Rd w R M) (hM : M ≤ 800000000) (ha : a < 64) :
    Calls Try.prog 52 #[.pointer (some ⟨R, 0, none⟩), .int .i64 a] w (RetAu R (M + 500) GoodA w) := by
  have hRl := h.lt
  go_enter Try.func52, Try.ntmps52
  have hxz := (Ext.refl w).alloc (.cells #[.int .i64 0, .slice none 0 0, .slice none 0 0] 27)
  have bz := Blk.new w 27 #[.int .i64 0, .slice none 0 0, .slice none 0 0]
  go_wp2_with fail
  generalize w.alloc (.cells #[.int .i64 0, .slice none 0 0, .slice none 0 0] 27) = w1 at *
  refine (l19Rd_pick (h.ext hxz) (by omega)).mono ?_
  rintro e w2 ⟨y, rfl, -, -, hr2, hd2⟩
  by_cases hy : y = 0
  · subst hy
    go_wp2_with fail
    refine (num_lit [3, 2, 4, 1] 4 #[.int .i64 3, .int .i64 2, .int .i64 4, .int .i64 1] rfl rfl (by omega) (by omega) hr2 (by omega)).mono ?_
    rintro e w3 ⟨x, hx, rfl, hr3, hd3⟩
    obtain ⟨p, hp1, hp2, rfl⟩ : ∃ y : Nat, 1 ≤ y ∧ y ≤ 4 ∧ x = (y : Int) := ⟨x.toNat, by simp at hx; omega, by simp at hx; omega, by simp at hx; omega⟩
    clear hx
    have hd13 := (hd2.alloc _).trans hd3
    go_wp2_with fail
    refine (spec_l3Safe hr3 (by omega) ha hp1 (by omega)).mono ?_
    intro e w4 hret
    obtain ⟨b, A, n, c, A', n', c', rfl, hown, hsh, hr4, hd4⟩ := hret.mono (N := M + 500) (sh' := GoodA) hd13 (by omega) (fun b hb => ⟨a, p, ha, hp1, by omega, hb⟩)
    obtain ⟨f1, f2⟩ := au_fill (N := M + 500) (sh := GoodA) hxz hown hsh.out hr4 hd4 bz rfl hRl (Nat.le_refl _) (Nat.le_refl _)
    have bz5 := bz.dr hd4 (by omega)
    have cZ := bz5.cell
    have fZ := bz5.frozen
    go_wp2_with fail
    have cf := f2.cell
    exact bodyPost_ret (v := .agg #[.int .i64 b.al, .slice A n c, .slice A' n' c']) (by simp [results, Try.results52, go_sem, cf]) rfl f1.out
  · have hy' : ((y : Int) == 0) = false := by simp; omega
    go_wp2_with fail
    refine (num_lit [2, 3, 1, 4, 5] 5 #[.int .i64 2, .int .i64 3, .int .i64 1, .int .i64 4, .int .i64 5] rfl rfl (by omega) (by omega) hr2 (by omega)).mono ?_
    rintro e w3 ⟨x, hx, rfl, hr3, hd3⟩
    obtain ⟨p, hp1, hp2, rfl⟩ : ∃ y : Nat, 1 ≤ y ∧ y ≤ 5 ∧ x = (y : Int) := ⟨x.toNat, by simp at hx; omega, by simp at hx; omega, by simp at hx; omega⟩
    clear hx
    have hd13 := (hd2.alloc _).trans hd3
    go_wp2_with fail
    refine (spec_l3Random hr3 (by omega) ha (by omega)).mono ?_
    intro e w4 hret
    obtain ⟨b, A, n, c, A', n', c', rfl, hown, hsh, hr4, hd4⟩ := hret.mono (N := M + 500) (sh' := GoodA) hd13 (by omega) (fun b hb => ⟨a, p, ha, hp1, by omega, hb⟩)
    obtain ⟨f1, f2⟩ := au_fill (N := M + 500) (sh := GoodA) hxz hown hsh.out hr4 hd4 bz rfl hRl (Nat.le_refl _) (Nat.le_refl _)
    have bz5 := bz.dr hd4 (by omega)
    have cZ := bz5.cell
    have fZ := bz5.frozen
    go_wp2_with fail
    have cf := f2.cell
    exact bodyPost_ret (v := .agg #[.int .i64 b.al, .slice A n c, .slice A' n' c']) (by simp [results, Try.results52, go_sem, cf]) rfl f1.out
end Go.Proofs.Ytcmgkekaeafgaaa

namespace Go.Proofs.Ytcmgkekaeafgaaa
open Go Go.RowKit
set_option maxHeartbeats 400000

theorem bits_all (y : Nat) (hy : y < 64) : bits .and .i64 (-1) (y : Int) = (y : Int) :=
  (show ∀ y : Fin 64, bits .and .i64 (-1) ((y.val : Nat) : Int) = ((y.val : Nat) : Int) by decide +kernel) ⟨y, hy⟩
set_option maxRecDepth 100000 in
theorem spec_l8Property_ {R M : Nat} {zz : Int} {w : World} (h : Rd w R M) (hM : M ≤ 700000000) (ha : (∃ a : Nat, zz = (a : Int) ∧ a < 64) ∨ zz = -1) :
    Calls Try.prog 30 #[.pointer (some ⟨R, 0, none⟩), .int .i64 zz] w (RetAu R (M + 600) GoodA w) := by
  have hRl := h.lt
  go_enter Try.func30, Try.ntmps30
  have hxz := (Ext.refl w).alloc (.cells #[.int .i64 0, .slice none 0 0, .slice none 0 0] 27)
  have bz := Blk.new w 27 #[.int .i64 0, .slice none 0 0, .slice none 0 0]
  have hsz : (w.alloc (.cells #[.int .i64 0, .slice none 0 0, .slice none 0 0] 27)).heap.size = w.heap.size + 1 := by simp
  go_wp2_with fail
  rw [← hsz]
  generalize w.alloc (.cells #[.int .i64 0, .slice none 0 0, .slice none 0 0] 27) = w1 at *
  refine (num_lit [63, 63, 5, 3, 6] 5 #[.int .i64 63, .int .i64 63, .int .i64 5, .int .i64 3, .int .i64 6] rfl rfl (by omega) (by omega) (h.ext hxz) (by omega)).mono ?_
  rintro e w2 ⟨x, hx, rfl, hr2, hd2⟩
  obtain ⟨y, hy, rfl⟩ : ∃ y : Nat, y < 64 ∧ x = (y : Int) := ⟨x.toNat, by simp at hx; omega, by simp at hx; omega⟩
  clear hx
  replace hd2 := ((Dr.refl R w1).alloc _).trans hd2
  obtain ⟨d, hand, hsm⟩ : ∃ d : Nat, bits .and .i64 zz (y : Int) = (d : Int) ∧ d < 64 := by
    rcases ha with ⟨a, rfl, ha⟩ | rfl
    · exact ⟨a &&& y, bits_and (by unfold Sm; omega) (by unfold Sm; omega), Nat.lt_of_le_of_lt Nat.and_le_left ha⟩
    · exact ⟨y, bits_all y hy, hy⟩
  go_upto_region 2 with fail
  clear hand
  go_wp2_with fail
  refine (l19Rd_pick hr2 (by omega)).mono ?_
  rintro e w3 ⟨z, rfl, -, -, hr3, hd3⟩
  replace hd3 := hd2.trans hd3
  clear hd2 hr2
  go_upto_if 13 with fail
  go_cut [5] (fun s5 wx => ∃ d : Nat, d < 64 ∧ s5 = .int .i64 (d : Nat) ∧ Rd wx R (M + 10) ∧ Dr R w1 wx)
  case first =>
    by_cases hz : z = 0
    · subst hz
      go_wp2_with fail
      refine (spec_l1Some hr3 (by omega)).mono ?_
      rintro e w4 ⟨x, hx, rfl, hr4, hd4⟩
      go_wp2_with fail
      go_meet
      exact ⟨x, hx, rfl, hr4.more (by omega), hd3.trans hd4⟩
    · have hz' : ((z : Int) == 0) = false := by simp; omega
      go_wp2_with fail
      go_meet
      exact ⟨d, hsm, rfl, hr3.more (by omega), hd3⟩
  case rest =>
    clear hr3 hd3 hsm
    obtain ⟨d, hd, rfl, hr3, hd3⟩ := hcut
    go_wp2_with fail
    refine (l19Rd_pick hr3 (by omega)).mono ?_
    rintro e w4 ⟨y, rfl, -, -, hr4, hd4⟩
    replace hd4 := hd3.trans hd4
    by_cases hy : 0 < y
    · have hy' : ((y : Int) > 0) := by omega
      go_wp2_with fail
      refine (num_lit [3, 2, 4, 1] 4 #[.int .i64 3, .int .i64 2, .int .i64 4, .int .i64 1] rfl rfl (by omega) (by omega) hr4 (by omega)).mono ?_
      rintro e w5 ⟨x, hx, rfl, hr5, hd5⟩
      obtain ⟨p, hp1, hp2, rfl⟩ : ∃ y : Nat, 1 ≤ y ∧ y ≤ 4 ∧ x = (y : Int) := ⟨x.toNat, by simp at hx; omega, by simp at hx; omega, by simp at hx; omega⟩
      clear hx
      have hd15 := (hd4.alloc _).trans hd5
      go_wp2_with fail
      refine (spec_l3Safe hr5 (by omega) hd hp1 (by omega)).mono ?_
      intro e w6 hret
      obtain ⟨b, A, n, c, A', n', c', rfl, hown, hsh, hr6, hd6⟩ := hret.mono (N := M + 600) (sh' := GoodA) hd15 (by omega) (fun b hb => ⟨d, p, hd, hp1, by omega, hb⟩)
      obtain ⟨f1, f2⟩ := au_fill (N := M + 600) (sh := GoodA) hxz hown hsh.out hr6 hd6 bz rfl hRl (Nat.le_refl _) (Nat.le_refl _)
      have bz5 := bz.dr hd6 (by omega)
      have cZ := bz5.cell
      have fZ := bz5.frozen
      go_wp2_with fail
      have cf := f2.cell
      exact bodyPost_ret (v := .agg #[.int .i64 b.al, .slice A n c, .slice A' n' c']) (by simp [results, Try.results30, go_sem, cf]) rfl f1.out
    · have hy' : ¬ ((y : Int) > 0) := by omega
      go_wp2_with fail
      refine (spec_l3Over hr4 (by omega) hd).mono ?_
      intro e w6 hret
      obtain ⟨b, A, n, c, A', n', c', rfl, hown, hsh, hr6, hd6⟩ := hret.mono (N := M + 600) (sh' := GoodA) hd4 (by omega) (fun b hb => hb)
      obtain ⟨f1, f2⟩ := au_fill (N := M + 600) (sh := GoodA) hxz hown hsh.out hr6 hd6 bz rfl hRl (Nat.le_refl _) (Nat.le_refl _)
      have bz5 := bz.dr hd6 (by omega)
      have cZ := bz5.cell
      have fZ := bz5.frozen
      go_wp2_with fail
      have cf := f2.cell
      exact bodyPost_ret (v := .agg #[.int .i64 b.al, .slice A n c, .slice A' n' c']) (by simp [results, Try.results30, go_sem, cf]) rfl f1.out
theorem spec_l8Property {R M a : Nat} {w : World} (h : Rd w R M) (hM : M ≤ 700000000) (ha : a < 64) :
    Calls Try.prog 30 #[.pointer (some ⟨R, 0, none⟩), .int .i64 a] w (RetAu R (M + 600) GoodA w) := spec_l8Property_ h hM (.inl ⟨a, rfl, ha⟩)
end Go.Proofs.Ytcmgkekaeafgaaa

namespace Go.Proofs.Ytcmgkekaeafgaaa
open Go Go.RowKit
set_option maxHeartbeats 2000000

section
variable {w0 W W' : World} {R G M N : Nat} {al : Int} {v vA : Value} {rows : List Value} {ls : List (List Int)} {acc : List Bool}
theorem AccA.setAl (h : AccA w0 W R G M al v rows ls vA acc) (x : Int) : AccA w0 (W.setCell ⟨G, 0, none⟩ (.int .i64 x)) R G M x v rows ls vA acc := by
  have hRG := h.hR; have hGG := h.hG
  have hf := Frm.setCell W G 0 (.int .i64 x)
  refine ⟨by simpa using h.blk.set_ 0 _, own_frm h.nx hf (fun b hb hS => own_far h.nx h.blk (by decide) hb hS), h.rows.frm hf (fun i r b hr hb hS => ?_), own_frm h.acc hf (fun b hb hS => own_far h.acc h.blk (by decide) hb hS), h.rd.frm hf (fun k hk e => by omega), h.dr.setNew (p := ⟨G, 0, none⟩) hGG _, hRG, hGG⟩
  obtain ⟨l', _, ho⟩ := h.rows.row hr
  exact own_far ho h.blk (by decide) hb hS
/-- No rows any more. -/
theorem AccA.setNext (h : AccA w0 W R G M al v rows ls vA acc) {v' : Value} (ho : W.ownsRow w0.heap.size 52 1 v' 0 []) : AccA w0 (W.setCell ⟨G, 1, none⟩ v') R G M al v' [] [] vA acc := by
  have hRG := h.hR; have hGG := h.hG
  have hf := Frm.setCell W G 1 v'
  exact ⟨by simpa using h.blk.set_ 1 _, own_frm ho hf (fun b hb hS => own_far ho h.blk (by decide) hb hS), RowsOwn.nil _ _, own_frm h.acc hf (fun b hb hS => own_far h.acc h.blk (by decide) hb hS), h.rd.frm hf (fun k hk e => by omega), h.dr.setNew (p := ⟨G, 1, none⟩) hGG _, hRG, hGG⟩
/-- No marks any more. -/
theorem AccA.setMarks (h : AccA w0 W R G M al v rows ls vA acc) {v' : Value} (ho : W.ownsRow w0.heap.size 4 1 v' 0 []) : AccA w0 (W.setCell ⟨G, 2, none⟩ v') R G M al v rows ls v' [] := by
  have hRG := h.hR; have hGG := h.hG
  have hf := Frm.setCell W G 2 v'
  refine ⟨by simpa using h.blk.set_ 2 _, own_frm h.nx hf (fun b hb hS => own_far h.nx h.blk (by decide) hb hS), h.rows.frm hf (fun i r b hr hb hS => ?_), own_frm ho hf (fun b hb hS => own_far ho h.blk (by decide) hb hS), h.rd.frm hf (fun k hk e => by omega), h.dr.setNew (p := ⟨G, 2, none⟩) hGG _, hRG, hGG⟩
  obtain ⟨l', _, ho⟩ := h.rows.row hr
  exact own_far ho h.blk (by decide) hb hS
/-- A row grows by one entry. -/
theorem AccA.growRow {i : Nat} {row : Value} {l : List Int} {x : Int} {g cap gN cN nN : Nat} (h : AccA w0 W R G M al (.slice (some ⟨gN, 0, none⟩) nN cN) rows ls vA acc) (hn : nN = ls.length) (hr : rows[i]? = some row) (hl : ls[i]? = some l)
    (hown : W'.ownsRow w0.heap.size 3 1 (.slice (some ⟨g, 0, none⟩) (l.length + 1) cap) (l.length + 1) (ints l ++ [.int .i64 x])) (hg : W.grownBy W' row.ownBlock) (hat : row.ownBlock = some g ∨ g = W.heap.size + 1) :
    (∀ u, W.cell? ⟨G, u, none⟩ = W'.cell? ⟨G, u, none⟩) ∧ Hid (W'.cell? ⟨gN, i, none⟩ = some row) ∧ W'.frozen? ⟨gN, i, none⟩ = false ∧
    AccA w0 (W'.setCell ⟨gN, i, none⟩ (.slice (some ⟨g, 0, none⟩) (l.length + 1) cap)) R G M al (.slice (some ⟨gN, 0, none⟩) nN cN) (rows.set i (.slice (some ⟨g, 0, none⟩) (l.length + 1) cap)) (ls.set i (l ++ [x])) vA acc := by
  subst hn
  have hRG := h.hR; have hGG := h.hG
  have hi : i < ls.length := (List.getElem?_eq_some_iff.1 hl).1
  have ho := h.rows.2.1 i _ l hr hl
  have hfr : Frm (fun k => row.ownBlock = some k) W W' := Frm.of_grown hg
  obtain ⟨hdr, hrd⟩ := h.grown ho hg
  have hB : Blk W' G 27 #[.int .i64 al, .slice (some ⟨gN, 0, none⟩) ls.length cN, vA] := h.blk.frm hfr (fun e => own_far ho h.blk (by decide) e rfl)
  have hnx : W'.ownsRow w0.heap.size 52 1 (.slice (some ⟨gN, 0, none⟩) ls.length cN) ls.length rows := own_frm h.nx hfr (fun b hb hS => own_ne h.nx ho (by decide) hb hS)
  have hacc : W'.ownsRow w0.heap.size 4 1 vA acc.length (bools acc) := own_frm h.acc hfr (fun b hb hS => own_ne h.acc ho (by decide) hb hS)
  have hgN := (hnx.lt gN rfl).1
  have hlen := h.rows.1
  have fresh : ∀ (j : Nat) (r : Value) (b : Nat), j ≠ i → rows[j]? = some r → r.ownBlock = some b → b ≠ g := fun j r b hji hj hb e => by
    subst e
    rcases hat with h1 | h1
    · exact h.rows.2.2 j i r row b hj hr hji hb h1
    · have := h.low j r b hj hb
      omega
  have hrows : RowsOwn W' w0.heap.size (rows.set i (.slice (some ⟨g, 0, none⟩) (l.length + 1) cap)) (ls.set i (l ++ [x])) := by
    refine ⟨by simp [hlen], fun j r m hj hm => ?_, fun j j' r r' b hj hj' hne hb => ?_⟩
    · by_cases hji : i = j
      · subst hji
        rw [List.getElem?_set_self (by omega)] at hj
        rw [List.getElem?_set_self hi] at hm
        obtain rfl := Option.some.inj hj
        obtain rfl := Option.some.inj hm
        simpa [ints] using hown
      · rw [List.getElem?_set_ne hji] at hj hm
        exact own_frm (h.rows.2.1 j r m hj hm) hfr (fun b hb hS => h.rows.2.2 j i r row b hj hr (fun e => hji e.symm) hb hS)
    · by_cases hji : i = j
      · subst hji
        rw [List.getElem?_set_self (by omega)] at hj
        obtain rfl := Option.some.inj hj
        rw [List.getElem?_set_ne hne] at hj'
        have hbg : g = b := by simpa [Value.ownBlock] using hb
        subst hbg
        exact fun hc => fresh j' r' _ (fun e => hne e.symm) hj' hc rfl
      · rw [List.getElem?_set_ne hji] at hj
        by_cases hji' : i = j'
        · subst hji'
          rw [List.getElem?_set_self (by omega)] at hj'
          obtain rfl := Option.some.inj hj'
          intro hc
          have hbg : g = b := by simpa [Value.ownBlock] using hc
          exact fresh j r b (fun e => hji e.symm) hj hb hbg.symm
        · rw [List.getElem?_set_ne hji'] at hj'
          exact h.rows.2.2 j j' r r' b hj hj' hne hb
  have hset := Frm.setCell W' gN i (.slice (some ⟨g, 0, none⟩) (l.length + 1) cap)
  refine ⟨fun u => by rw [h.blk.cell, hB.cell], hide (by rw [hnx.cellAt i (by omega), hr]), hnx.frozenAt i, ⟨hB.frm hset (fun e => own_far hnx hB (by decide) rfl e.symm), ?_, ?_, own_frm hacc hset (fun b hb hS => ?_), hrd.frm hset (fun k hk e => by omega), hdr.setNew (p := ⟨gN, i, none⟩) hgN _, hRG, hGG⟩⟩
  · rw [List.length_set]
    exact (hnx.stored i _).1
  · refine hrows.frm hset (fun j r b hj hb hS => ?_)
    obtain ⟨l', _, ho'⟩ := hrows.row hj
    subst hS
    exact own_ne ho' hnx (by decide) hb rfl
  · subst hS
    exact own_ne hacc hnx (by decide) hb rfl
end
/-- A bounded automaton. -/
def BdL (L : Nat) (ls : List (List Int)) (acc : List Bool) : Prop := ls.length ≤ L ∧ acc.length ≤ L ∧ ∀ l ∈ ls, l.length ≤ L
theorem BdL.more {L K : Nat} {ls : List (List Int)} {acc : List Bool} (h : BdL L ls acc) (hK : L ≤ K) : BdL K ls acc := ⟨Nat.le_trans h.1 hK, Nat.le_trans h.2.1 hK, fun l hl => Nat.le_trans (h.2.2 l hl) hK⟩
def BdA (L : Nat) (b : Aut) : Prop := BdL L b.next b.acc
theorem BdA.of {b : Aut} (h : GoodA b) : BdA 16 b := by
  obtain ⟨a, p, ha, hp1, hp, h1, h2, h3, h4⟩ := h
  exact ⟨by omega, by omega, fun l hl => by have := h4 l hl; have := letters_length a 6; omega⟩
theorem tot_le {L : Nat} : ∀ ls : List (List Int), (∀ l ∈ ls, l.length ≤ L) → tot ls ≤ ls.length * L
  | [], _ => by simp [tot]
  | l :: r, h => by
    have := tot_le r (fun x hx => h x (by simp [hx]))
    have := h l (by simp)
    rw [tot_cons, List.length_cons, Nat.add_mul]
    omega
theorem BdA.size {L : Nat} {b : Aut} (h : BdA L b) (hL : L ≤ 200) : b.size ≤ 1048576 := by
  have h1 := tot_le b.next h.2.2
  have h2 : b.next.length * L ≤ 200 * 200 := Nat.mul_le_mul (Nat.le_trans h.1 hL) hL
  have h3 := h.1; have h4 := h.2.1
  unfold Aut.size
  omega
end Go.Proofs.Ytcmgkekaeafgaaa

namespace Go.Proofs.Ytcmgkekaeafgaaa
open Go Go.RowKit
set_option maxHeartbeats 2000000

set_option maxRecDepth 100000 in
theorem spec_l3Copy {lo hi : Nat} {A : Option Addr} {n c : Nat} {A' : Option Addr} {n' c' : Nat} {a : Aut} {w : World} (h : AutAt w lo hi A n A' n' a) (hs : a.size ≤ 1048576) :
    Calls Try.prog 33 #[.agg #[.int .i64 a.al, .slice A n c, .slice A' n' c']] w (RetAut w a) := by
  have h1 : n ≤ 1048576 := by have := h.n1; unfold Aut.size at hs; omega
  have h2 : n' ≤ 1048576 := by have := h.n2; unfold Aut.size at hs; omega
  have hrow : ∀ (k : Nat) (l : List Int), a.next[k]? = some l → l.length ≤ 1048576 := fun k l hl => by
    have h1 := tot_take_succ hl
    have h2 := tot_take_le a.next (k + 1)
    unfold Aut.size at hs
    omega
  have Hrow := hide hrow
  have hL := hide h.n1
  have hL' := hide h.n2
  have HS := hide (fun W (hW : Ext w W) => h.1.ext hW)
  have HA := hide (fun W (hW : Ext w W) => h.2.2.ext hW)
  have hlen := h.1.len
  clear hrow h hs
  go_enter Try.func33, Try.ntmps33
  obtain ⟨b1, bz⟩ := ext_blk2 (Ext.refl ((w.alloc (.cells #[.int .i64 a.al, .slice A n c, .slice A' n' c'] 27)).alloc (.cells #[.int .i64 0, .slice none 0 0, .slice none 0 0] 27)))
  have hw2 : Ext w ((w.alloc (.cells #[.int .i64 a.al, .slice A n c, .slice A' n' c'] 27)).alloc (.cells #[.int .i64 0, .slice none 0 0, .slice none 0 0] 27)) := ((Ext.refl w).alloc _).alloc _
  have hsz2 : w.heap.size + 2 = ((w.alloc (.cells #[.int .i64 a.al, .slice A n c, .slice A' n' c'] 27)).alloc (.cells #[.int .i64 0, .slice none 0 0, .slice none 0 0] 27)).heap.size := by simp
  go_upto_region 1 with fail
  generalize (w.alloc (.cells #[.int .i64 a.al, .slice A n c, .slice A' n' c'] 27)).alloc (.cells #[.int .i64 0, .slice none 0 0, .slice none 0 0] 27) = w2 at *
  go_cut [3] (fun v wx => ∃ (G : Nat) (vA : Value), v = .pointer (some ⟨G, 0, none⟩) ∧ Gra w2 wx G a.al (.slice none 0 0) [] vA a.acc)
  case first =>
    have c1 := fun W (hW : Ext w2 W) => (b1.ext hW).cell
    have hww := Ext.refl w2
    refine wp_region_tailU (fun X => Ext w2 X) [8] (OrdU.app [0, 1, 3, 4] (OrdU.two 2 (OrdU.two 5 (OrdU.of [6, 7, 8]) 7 (OrdU.of [5, 6, 8])) 7 (OrdU.of [2, 5, 6, 8]))) (by kernel_rfl) (by kernel_rfl) (by kernel_rfl) (by kernel_rfl) (by kernel_rfl) (fun _ _ _ _ _ h => h) (by first | assumption | exact (Ext.refl _).drew | (refine Ext.drew ?_; assumption)) ?_
    repeat (first | (refine useq_skip rfl rfl (by assumption) ?_; simp only [Act.put, List.setIfInBounds_toArray, List.set_cons_zero, List.set_cons_succ]) | (refine useq_pure (v := ?_) rfl rfl rfl rfl (fun X => ?_) ?_; rotate_left; (focus (go_simp <;> with_reducible rfl)); simp only [Act.put, List.setIfInBounds_toArray, List.set_cons_zero, List.set_cons_succ]) | (refine useq_read (v := ?_) rfl rfl rfl rfl (fun X hX => ?_) ?_; rotate_left; (focus (go_simp <;> with_reducible rfl)); simp only [Act.put, List.setIfInBounds_toArray, List.set_cons_zero, List.set_cons_succ]))
    have hx0 : Ext w2 w2.drew := hww.drew
    generalize w2.drew = wd at *
    refine useq_both rfl rfl rfl rfl (fun K hK => ?_) (fun K hK => ?_)
    · go_simp
      have hm := World.ownsRow_made (base := w2.heap.size) (e := 4) (size := 1) wd #[] 0 hx0.size (Nat.zero_le _) rfl
      have hx1 := (Ext.refl wd).alloc (.cells #[] 4)
      replace hx0 := hx0.trans hx1
      refine hK.out _ _ hx0 ?_
      generalize wd.alloc (.cells #[] 4) = wm at *
      generalize wd.heap.size = M at *
      (try simp only [Act.put, List.setIfInBounds_toArray, List.set_cons_zero, List.set_cons_succ])
      repeat (first | (refine useq_skip rfl rfl (by assumption) ?_; simp only [Act.put, List.setIfInBounds_toArray, List.set_cons_zero, List.set_cons_succ]) | (refine useq_pure (v := ?_) rfl rfl rfl rfl (fun X => ?_) ?_; rotate_left; (focus (go_simp <;> with_reducible rfl)); simp only [Act.put, List.setIfInBounds_toArray, List.set_cons_zero, List.set_cons_succ]) | (refine useq_read (v := ?_) rfl rfl rfl rfl (fun X hX => ?_) ?_; rotate_left; (focus (go_simp <;> with_reducible rfl)); simp only [Act.put, List.setIfInBounds_toArray, List.set_cons_zero, List.set_cons_succ]))
      clear hK
      refine useq_both rfl rfl rfl rfl (fun K hK => ?_) (fun K hK => ?_)
      · skip
        refine wp_onto wm _ _ 25 rfl w2.heap.size 4 _ 1 1 Try.underlying25 info_bool rfl (by decide) (.slice (some ⟨M, 0, none⟩) 0 0) 0 [] rfl hm _ _ A' n' c' (bools a.acc) rfl (HA.out _ (hw2.trans hx0)) (bools_one _) (by unfold maxLen; omega) (by omega) hx0.size ?_
        intro vA w4 hownA hgA hatA
        rw [Nat.zero_add, List.nil_append] at hownA
        obtain ⟨BA, dA, rfl⟩ := own_form hownA
        have hxA : Ext w2 w4 := hx0.grown hgA (fun k hk => (hm.lt k hk).1)
        replace hx0 := hxA
        refine hK.out _ _ hx0 ?_
        (try simp only [Act.put, List.setIfInBounds_toArray, List.set_cons_zero, List.set_cons_succ])
        repeat (first | (refine useq_skip rfl rfl (by assumption) ?_; simp only [Act.put, List.setIfInBounds_toArray, List.set_cons_zero, List.set_cons_succ]) | (refine useq_pure (v := ?_) rfl rfl rfl rfl (fun X => ?_) ?_; rotate_left; (focus (go_simp <;> with_reducible rfl)); simp only [Act.put, List.setIfInBounds_toArray, List.set_cons_zero, List.set_cons_succ]) | (refine useq_read (v := ?_) rfl rfl rfl rfl (fun X hX => ?_) ?_; rotate_left; (focus (go_simp <;> with_reducible rfl)); simp only [Act.put, List.setIfInBounds_toArray, List.set_cons_zero, List.set_cons_succ]))
        (refine useq_step rfl rfl rfl (fun K hK => ?_); go_simp)
        have hx1 := (Ext.refl w4).alloc (.cells #[.int .i64 0, .slice none 0 0, .slice none 0 0] 27)
        have hb := Blk.new w4 27 #[.int .i64 0, .slice none 0 0, .slice none 0 0]
        have hG := hx0.size
        replace hownA := own_ext hownA hx1
        replace hx0 := hx0.trans hx1
        refine hK.out _ _ hx0 ?_
        generalize w4.alloc (.cells #[.int .i64 0, .slice none 0 0, .slice none 0 0] 27) = wg at *
        generalize w4.heap.size = G at *
        (try simp only [Act.put, List.setIfInBounds_toArray, List.set_cons_zero, List.set_cons_succ])
        repeat (first | (refine useq_skip rfl rfl (by assumption) ?_; simp only [Act.put, List.setIfInBounds_toArray, List.set_cons_zero, List.set_cons_succ]) | (refine useq_pure (v := ?_) rfl rfl rfl rfl (fun X => ?_) ?_; rotate_left; (focus (go_simp <;> with_reducible rfl)); simp only [Act.put, List.setIfInBounds_toArray, List.set_cons_zero, List.set_cons_succ]) | (refine useq_read (v := ?_) rfl rfl rfl rfl (fun X hX => ?_) ?_; rotate_left; (focus (go_simp <;> with_reducible rfl)); simp only [Act.put, List.setIfInBounds_toArray, List.set_cons_zero, List.set_cons_succ]))
        have cG := hb.cell
        have fG := hb.frozen
        (refine useq_last rfl rfl rfl rfl (fun K hK => ?_))
        go_simp
        refine hK.out _ _ ?_
        refine useq_nil ?_
        have hfin : Gra w2 (((wg.setCell ⟨G, 0, none⟩ (.int .i64 a.al)).setCell ⟨G, 1, none⟩ (.slice none 0 0)).setCell ⟨G, 2, none⟩ (.slice BA n' dA)) G a.al (.slice none 0 0) [] (.slice BA n' dA) a.acc := ⟨fillA_blk hb rfl _ _ _, ⟨[], World.ownsRow_nil _ _ _ _, RowsOwn.nil _ _⟩, by
          rw [← hL'.out]
          exact own_frm hownA (fillA_frm wg G _ _ _) (fun b hv hS => own_far hownA hb (by decide) hv hS), hx0.frm (fillA_frm wg G _ _ _) (fun k hk e => by omega), hG⟩
        go_wp2_with fail
        go_meet
        exact ⟨G, _, rfl, hfin⟩
      · go_simp
        have hx1 := (Ext.refl wm).alloc (.cells #[.int .i64 0, .slice none 0 0, .slice none 0 0] 27)
        have hb := Blk.new wm 27 #[.int .i64 0, .slice none 0 0, .slice none 0 0]
        have hG := hx0.size
        replace hm := own_ext hm hx1
        replace hx0 := hx0.trans hx1
        refine hK.out _ _ hx0 ?_
        generalize wm.alloc (.cells #[.int .i64 0, .slice none 0 0, .slice none 0 0] 27) = wg at *
        generalize wm.heap.size = G at *
        (try simp only [Act.put, List.setIfInBounds_toArray, List.set_cons_zero, List.set_cons_succ])
        repeat (first | (refine useq_skip rfl rfl (by assumption) ?_; simp only [Act.put, List.setIfInBounds_toArray, List.set_cons_zero, List.set_cons_succ]) | (refine useq_pure (v := ?_) rfl rfl rfl rfl (fun X => ?_) ?_; rotate_left; (focus (go_simp <;> with_reducible rfl)); simp only [Act.put, List.setIfInBounds_toArray, List.set_cons_zero, List.set_cons_succ]) | (refine useq_read (v := ?_) rfl rfl rfl rfl (fun X hX => ?_) ?_; rotate_left; (focus (go_simp <;> with_reducible rfl)); simp only [Act.put, List.setIfInBounds_toArray, List.set_cons_zero, List.set_cons_succ]))
        refine useq_step rfl rfl rfl (fun K hK => ?_)
        refine wp_onto wg _ _ 25 rfl w2.heap.size 4 _ 1 1 Try.underlying25 info_bool rfl (by decide) (.slice (some ⟨M, 0, none⟩) 0 0) 0 [] rfl hm _ _ A' n' c' (bools a.acc) rfl (HA.out _ (hw2.trans hx0)) (bools_one _) (by unfold maxLen; omega) (by omega) hx0.size ?_
        intro vA w4 hownA hgA hatA
        rw [Nat.zero_add, List.nil_append] at hownA
        obtain ⟨BA, dA, rfl⟩ := own_form hownA
        have hxA : Ext w2 w4 := hx0.grown hgA (fun k hk => (hm.lt k hk).1)
        have hb : Blk w4 G 27 #[.int .i64 0, .slice none 0 0, .slice none 0 0] := (hgA.block G hb.lt (fun e => own_far hm hb (by decide) e.symm rfl)).trans hb
        replace hx0 := hxA
        refine hK.out _ _ hx0 ?_
        (try simp only [Act.put, List.setIfInBounds_toArray, List.set_cons_zero, List.set_cons_succ])
        repeat (first | (refine useq_skip rfl rfl (by assumption) ?_; simp only [Act.put, List.setIfInBounds_toArray, List.set_cons_zero, List.set_cons_succ]) | (refine useq_pure (v := ?_) rfl rfl rfl rfl (fun X => ?_) ?_; rotate_left; (focus (go_simp <;> with_reducible rfl)); simp only [Act.put, List.setIfInBounds_toArray, List.set_cons_zero, List.set_cons_succ]) | (refine useq_read (v := ?_) rfl rfl rfl rfl (fun X hX => ?_) ?_; rotate_left; (focus (go_simp <;> with_reducible rfl)); simp only [Act.put, List.setIfInBounds_toArray, List.set_cons_zero, List.set_cons_succ]))
        have cG := hb.cell
        have fG := hb.frozen
        (refine useq_last rfl rfl rfl rfl (fun K hK => ?_))
        go_simp
        refine hK.out _ _ ?_
        refine useq_nil ?_
        have hfin : Gra w2 (((w4.setCell ⟨G, 0, none⟩ (.int .i64 a.al)).setCell ⟨G, 1, none⟩ (.slice none 0 0)).setCell ⟨G, 2, none⟩ (.slice BA n' dA)) G a.al (.slice none 0 0) [] (.slice BA n' dA) a.acc := ⟨fillA_blk hb rfl _ _ _, ⟨[], World.ownsRow_nil _ _ _ _, RowsOwn.nil _ _⟩, by
          rw [← hL'.out]
          exact own_frm hownA (fillA_frm w4 G _ _ _) (fun b hv hS => own_far hownA hb (by decide) hv hS), hx0.frm (fillA_frm w4 G _ _ _) (fun k hk e => by omega), hG⟩
        go_wp2_with fail
        go_meet
        exact ⟨G, _, rfl, hfin⟩
    · go_simp
      have hx1 := (Ext.refl wd).alloc (.cells #[.int .i64 0, .slice none 0 0, .slice none 0 0] 27)
      have hb := Blk.new wd 27 #[.int .i64 0, .slice none 0 0, .slice none 0 0]
      have hG := hx0.size
      replace hx0 := hx0.trans hx1
      refine hK.out _ _ hx0 ?_
      generalize wd.alloc (.cells #[.int .i64 0, .slice none 0 0, .slice none 0 0] 27) = wg at *
      generalize wd.heap.size = G at *
      (try simp only [Act.put, List.setIfInBounds_toArray, List.set_cons_zero, List.set_cons_succ])
      repeat (first | (refine useq_skip rfl rfl (by assumption) ?_; simp only [Act.put, List.setIfInBounds_toArray, List.set_cons_zero, List.set_cons_succ]) | (refine useq_pure (v := ?_) rfl rfl rfl rfl (fun X => ?_) ?_; rotate_left; (focus (go_simp <;> with_reducible rfl)); simp only [Act.put, List.setIfInBounds_toArray, List.set_cons_zero, List.set_cons_succ]) | (refine useq_read (v := ?_) rfl rfl rfl rfl (fun X hX => ?_) ?_; rotate_left; (focus (go_simp <;> with_reducible rfl)); simp only [Act.put, List.setIfInBounds_toArray, List.set_cons_zero, List.set_cons_succ]))
      (refine useq_step rfl rfl rfl (fun K hK => ?_); go_simp)
      have hm := World.ownsRow_made (base := w2.heap.size) (e := 4) (size := 1) wg #[] 0 hx0.size (Nat.zero_le _) rfl
      have hx1 := (Ext.refl wg).alloc (.cells #[] 4)
      replace hb := hb.ext hx1
      replace hx0 := hx0.trans hx1
      refine hK.out _ _ hx0 ?_
      generalize wg.alloc (.cells #[] 4) = wm at *
      generalize wg.heap.size = M at *
      (try simp only [Act.put, List.setIfInBounds_toArray, List.set_cons_zero, List.set_cons_succ])
      repeat (first | (refine useq_skip rfl rfl (by assumption) ?_; simp only [Act.put, List.setIfInBounds_toArray, List.set_cons_zero, List.set_cons_succ]) | (refine useq_pure (v := ?_) rfl rfl rfl rfl (fun X => ?_) ?_; rotate_left; (focus (go_simp <;> with_reducible rfl)); simp only [Act.put, List.setIfInBounds_toArray, List.set_cons_zero, List.set_cons_succ]) | (refine useq_read (v := ?_) rfl rfl rfl rfl (fun X hX => ?_) ?_; rotate_left; (focus (go_simp <;> with_reducible rfl)); simp only [Act.put, List.setIfInBounds_toArray, List.set_cons_zero, List.set_cons_succ]))
      refine useq_step rfl rfl rfl (fun K hK => ?_)
      refine wp_onto wm _ _ 25 rfl w2.heap.size 4 _ 1 1 Try.underlying25 info_bool rfl (by decide) (.slice (some ⟨M, 0, none⟩) 0 0) 0 [] rfl hm _ _ A' n' c' (bools a.acc) rfl (HA.out _ (hw2.trans hx0)) (bools_one _) (by unfold maxLen; omega) (by omega) hx0.size ?_
      intro vA w4 hownA hgA hatA
      rw [Nat.zero_add, List.nil_append] at hownA
      obtain ⟨BA, dA, rfl⟩ := own_form hownA
      have hxA : Ext w2 w4 := hx0.grown hgA (fun k hk => (hm.lt k hk).1)
      have hb : Blk w4 G 27 #[.int .i64 0, .slice none 0 0, .slice none 0 0] := (hgA.block G hb.lt (fun e => own_far hm hb (by decide) e.symm rfl)).trans hb
      replace hx0 := hxA
      refine hK.out _ _ hx0 ?_
      (try simp only [Act.put, List.setIfInBounds_toArray, List.set_cons_zero, List.set_cons_succ])
      repeat (first | (refine useq_skip rfl rfl (by assumption) ?_; simp only [Act.put, List.setIfInBounds_toArray, List.set_cons_zero, List.set_cons_succ]) | (refine useq_pure (v := ?_) rfl rfl rfl rfl (fun X => ?_) ?_; rotate_left; (focus (go_simp <;> with_reducible rfl)); simp only [Act.put, List.setIfInBounds_toArray, List.set_cons_zero, List.set_cons_succ]) | (refine useq_read (v := ?_) rfl rfl rfl rfl (fun X hX => ?_) ?_; rotate_left; (focus (go_simp <;> with_reducible rfl)); simp only [Act.put, List.setIfInBounds_toArray, List.set_cons_zero, List.set_cons_succ]))
      have cG := hb.cell
      have fG := hb.frozen
      (refine useq_last rfl rfl rfl rfl (fun K hK => ?_))
      go_simp
      refine hK.out _ _ ?_
      refine useq_nil ?_
      have hfin : Gra w2 (((w4.setCell ⟨G, 0, none⟩ (.int .i64 a.al)).setCell ⟨G, 1, none⟩ (.slice none 0 0)).setCell ⟨G, 2, none⟩ (.slice BA n' dA)) G a.al (.slice none 0 0) [] (.slice BA n' dA) a.acc := ⟨fillA_blk hb rfl _ _ _, ⟨[], World.ownsRow_nil _ _ _ _, RowsOwn.nil _ _⟩, by
        rw [← hL'.out]
        exact own_frm hownA (fillA_frm w4 G _ _ _) (fun b hv hS => own_far hownA hb (by decide) hv hS), hx0.frm (fillA_frm w4 G _ _ _) (fun k hk e => by omega), hG⟩
      go_wp2_with fail
      go_meet
      exact ⟨G, _, rfl, hfin⟩
  case rest =>
    obtain ⟨G, vA, rfl, hgr⟩ := hcut
    have k1 := (b1.ext hgr.ext).cell
    go_wp2_with fail
    go_loopw [4] (fun i wr => ∃ (k : Nat) (v : Value), k ≤ n ∧ i = .int .i64 k ∧ Gra w2 wr G a.al v (a.next.take k) vA a.acc) (fun i _ => n - (intOf i).toNat)
    case atStart => exact ⟨0, _, Nat.zero_le _, rfl, by simpa using hgr⟩
    case round =>
      clear hgr k1
      obtain ⟨k, v, hk, rfl, hgr⟩ := hrel
      by_cases hlt : k < n
      · obtain ⟨ad, Ak, ck, l, rfl, _, _, hl, hc0, hrk⟩ := (HS.out wr (hw2.trans hgr.ext)).row hlt
        have hll := Hrow.out k l hl.out
        have Htk := hide (show a.next.take (k + 1) = a.next.take k ++ [l] by rw [List.take_add_one, hl.out]; rfl)
        have htl := hide (show (a.next.take k).length = k by rw [List.length_take]; have := hL.out; omega)
        obtain ⟨rows, hv, hrows⟩ := hgr.own
        have k1 := (b1.ext hgr.ext).cell
        go_upto_region 5 with fail
        clear k1
        have cG : ∀ W, Ext wr W → ∀ q, W.cell? ⟨G, q, none⟩ = #[Value.int .i64 a.al, v, vA][q]? := fun W hW => (hgr.blk.ext hW).cell
        have hww := Ext.refl wr
        have Hrk := hide (fun W (hW : Ext wr W) => hrk.ext hW)
        have C1 : ∀ W, Ext wr W → ∀ q, W.cell? ⟨w.heap.size, q, none⟩ = #[Value.int .i64 a.al, .slice (some ad) n c, .slice A' n' c'][q]? := fun W hW => ((b1.ext hgr.ext).ext hW).cell
        have Cr : ∀ W, Ext wr W → W.cell? (ad.add k) = some (.slice Ak l.length ck) := fun W hW => hW.cell_some hc0
        have hkn : (k : Int) < (n : Int) := by omega
        clear hc0 hrk
        refine wp_region_tailU (fun X => Ext wr X) [10, 12] (OrdU.of [0, 1, 3, 4, 5, 6, 7, 2, 8, 9, 10, 11, 12]) (by kernel_rfl) (by kernel_rfl) (by kernel_rfl) (by kernel_rfl) (by kernel_rfl) (fun _ _ _ _ _ h => h) (by first | assumption | exact (Ext.refl _).drew | (refine Ext.drew ?_; assumption)) ?_
        repeat (first | (refine useq_skip rfl rfl (by assumption) ?_; simp only [Act.put, List.setIfInBounds_toArray, List.set_cons_zero, List.set_cons_succ]) | (refine useq_pure (v := ?_) rfl rfl rfl rfl (fun X => ?_) ?_; rotate_left; (focus (go_simp <;> with_reducible rfl)); simp only [Act.put, List.setIfInBounds_toArray, List.set_cons_zero, List.set_cons_succ]) | (refine useq_read (v := ?_) rfl rfl rfl rfl (fun X hX => ?_) ?_; rotate_left; (focus (go_simp <;> with_reducible rfl)); simp only [Act.put, List.setIfInBounds_toArray, List.set_cons_zero, List.set_cons_succ]))
        have hx0 : Ext wr wr.drew := hww.drew
        generalize wr.drew = wd at *
        (refine useq_step rfl rfl rfl (fun K hK => ?_); go_simp)
        have hm := World.ownsRow_made (base := wr.heap.size) (e := 3) (size := 1) wd #[] 0 hx0.size (Nat.zero_le _) rfl
        have hx1 := (Ext.refl wd).alloc (.cells #[] 3)
        replace hx0 := hx0.trans hx1
        refine hK.out _ _ hx0 ?_
        generalize wd.alloc (.cells #[] 3) = wm at *
        generalize wd.heap.size = M at *
        (try simp only [Act.put, List.setIfInBounds_toArray, List.set_cons_zero, List.set_cons_succ])
        repeat (first | (refine useq_skip rfl rfl (by assumption) ?_; simp only [Act.put, List.setIfInBounds_toArray, List.set_cons_zero, List.set_cons_succ]) | (refine useq_pure (v := ?_) rfl rfl rfl rfl (fun X => ?_) ?_; rotate_left; (focus (go_simp <;> with_reducible rfl)); simp only [Act.put, List.setIfInBounds_toArray, List.set_cons_zero, List.set_cons_succ]) | (refine useq_read (v := ?_) rfl rfl rfl rfl (fun X hX => ?_) ?_; rotate_left; (focus (go_simp <;> with_reducible rfl)); simp only [Act.put, List.setIfInBounds_toArray, List.set_cons_zero, List.set_cons_succ]))
        refine useq_step rfl rfl rfl (fun K hK => ?_)
        refine wp_onto wm _ _ 52 rfl wr.heap.size 3 _ 1 8 Try.underlying52 info_int rfl (by decide) (.slice (some ⟨M, 0, none⟩) 0 0) 0 [] rfl hm _ _ Ak l.length ck (ints l) rfl (Hrk.out _ hx0) (ints_one _) (by unfold maxLen; omega) (by omega) hx0.size ?_
        intro vR w3 hrow hgR hatR
        rw [Nat.zero_add, List.nil_append] at hrow
        obtain ⟨BR, dR, rfl⟩ := own_form hrow
        have hww3 : Ext wr w3 := hx0.grown hgR (fun k hk => (hm.lt k hk).1)
        refine hK.out _ _ hww3 ?_
        (try simp only [Act.put, List.setIfInBounds_toArray, List.set_cons_zero, List.set_cons_succ])
        repeat (first | (refine useq_skip rfl rfl (by assumption) ?_; simp only [Act.put, List.setIfInBounds_toArray, List.set_cons_zero, List.set_cons_succ]) | (refine useq_pure (v := ?_) rfl rfl rfl rfl (fun X => ?_) ?_; rotate_left; (focus (go_simp <;> with_reducible rfl)); simp only [Act.put, List.setIfInBounds_toArray, List.set_cons_zero, List.set_cons_succ]) | (refine useq_read (v := ?_) rfl rfl rfl rfl (fun X hX => ?_) ?_; rotate_left; (focus (go_simp <;> with_reducible rfl)); simp only [Act.put, List.setIfInBounds_toArray, List.set_cons_zero, List.set_cons_succ]))
        (refine useq_step rfl rfl rfl (fun K hK => ?_); go_simp)
        refine hK.out _ _ (hww3.alloc _) ?_
        (try simp only [Act.put, List.setIfInBounds_toArray, List.set_cons_zero, List.set_cons_succ])
        (refine useq_last rfl rfl rfl rfl (fun K hK => ?_))
        refine wp_push w2 w3 _ _ _ rfl 52 _ 1 24 Try.underlying24 info_ints rfl (by decide) v (a.next.take k).length rows _ _ rfl rfl (hgr.ext.trans hww3).size (own_ext hv hww3) rfl (cells_slice _ _ _) (by unfold maxLen; have := htl.out; omega) (by have := htl.out; omega) ?_
        intro g5 cap5 w5 hown5 hg5 hat5 hlt5
        refine hK.out _ _ ?_
        (try simp only [Act.put, List.setIfInBounds_toArray, List.set_cons_zero, List.set_cons_succ])
        repeat (first | (refine useq_skip rfl rfl (by assumption) ?_; simp only [Act.put, List.setIfInBounds_toArray, List.set_cons_zero, List.set_cons_succ]) | (refine useq_pure (v := ?_) rfl rfl rfl rfl (fun X => ?_) ?_; rotate_left; (focus (go_simp <;> with_reducible rfl)); simp only [Act.put, List.setIfInBounds_toArray, List.set_cons_zero, List.set_cons_succ]) | (refine useq_read (v := ?_) rfl rfl rfl rfl (fun X hX => ?_) ?_; rotate_left; (focus (go_simp <;> with_reducible rfl)); simp only [Act.put, List.setIfInBounds_toArray, List.set_cons_zero, List.set_cons_succ]))
        obtain ⟨p1, p2, p3⟩ := hgr.push hrows hv hww3 hrow (W' := w5) hown5 hg5 hat5
        have p1' := p1.out
        (refine useq_last rfl rfl rfl rfl (fun K hK => ?_))
        go_simp
        refine hK.out _ _ ?_
        refine useq_nil ?_
        go_wp2_with fail
        go_roundw
        case rel => exact ⟨k + 1, _, by omega, by go_num, by rw [Htk.out]; first | exact p3 | simpa using p3⟩
        case measure => simp [intOf]; omega
      · obtain rfl : n = k := by omega
        obtain ⟨A5, c5, rfl⟩ : ∃ A5 c5, v = .slice A5 n c5 := by
          obtain ⟨rows, hv, _⟩ := hgr.own
          rw [List.take_of_length_le (by have := hL.out; omega), ← hL.out] at hv
          exact own_form hv
        obtain ⟨B5, d5, rfl⟩ := own_form hgr.acc
        have k1 := (b1.ext hgr.ext).cell
        have cG := hgr.blk.cell
        have hbz := bz.ext hgr.ext
        have cZ := hbz.cell
        have fZ := hbz.frozen
        have hfl := fillA_frm wr (w.heap.size + 1) (.int .i64 a.al) (.slice A5 n c5) (.slice B5 a.acc.length d5)
        have hbf := fillA_blk hbz rfl (.int .i64 a.al) (.slice A5 n c5) (.slice B5 a.acc.length d5)
        have hxf := (hw2.trans hgr.ext).frm hfl (fun k hk e => by omega)
        have hfin := hide (show RetAut w a (.returned (.agg #[.int .i64 a.al, .slice A5 n c5, .slice B5 a.acc.length d5])) (((wr.setCell ⟨w.heap.size + 1, 0, none⟩ (.int .i64 a.al)).setCell ⟨w.heap.size + 1, 1, none⟩ (.slice A5 n c5)).setCell ⟨w.heap.size + 1, 2, none⟩ (.slice B5 a.acc.length d5)) from by
          refine ⟨A5, n, c5, B5, a.acc.length, d5, rfl, ⟨?_, hL.out, ?_, rfl⟩, hxf⟩
          · have ho := hgr.own
            rw [List.take_of_length_le (by have := hL.out; omega)] at ho
            exact (ho.keep hfl (fun b h1 e => by omega)).less (by omega)
          · exact own_less (own_keep hgr.acc hfl (fun b h1 e => by omega)) (by omega))
        go_wp2_with fail
        generalize ((wr.setCell ⟨w.heap.size + 1, 0, none⟩ (.int .i64 a.al)).setCell ⟨w.heap.size + 1, 1, none⟩ (.slice A5 n c5)).setCell ⟨w.heap.size + 1, 2, none⟩ (.slice B5 a.acc.length d5) = wf at *
        have cf := hbf.cell
        exact bodyPost_ret (v := .agg #[.int .i64 a.al, .slice A5 n c5, .slice B5 a.acc.length d5]) (by simp [results, Try.results33, go_sem, cf]) rfl hfin.out
end Go.Proofs.Ytcmgkekaeafgaaa

namespace Go.Proofs.Ytcmgkekaeafgaaa
open Go Go.RowKit
set_option maxHeartbeats 4000000

/-- The length of the second field of what the variable G holds. -/
def lenAt (W : World) (G : Nat) : Nat := match W.cell? ⟨G, 1, none⟩ with | some (.slice _ n _) => n | _ => 0
theorem AccA.lenAt {w0 W : World} {R G M n c : Nat} {A : Option Addr} {al : Int} {vA : Value} {rows : List Value} {ls : List (List Int)} {acc : List Bool} (h : AccA w0 W R G M al (.slice A n c) rows ls vA acc) : Go.Proofs.Ytcmgkekaeafgaaa.lenAt W G = n := by
  unfold Go.Proofs.Ytcmgkekaeafgaaa.lenAt
  rw [h.blk.cell 1]
  rfl
set_option maxRecDepth 100000 in
theorem spec_l3Wrong {R M L : Nat} {A : Option Addr} {n c : Nat} {A' : Option Addr} {n' c' : Nat} {b : Aut} {w : World} (h : Rd w R M) (hM : M ≤ 900000000) (ho : AutOwn w (R + 1) A n c A' n' c' b) (hb : BdA L b) (hL : L ≤ 100) :
    Calls Try.prog 18 #[.pointer (some ⟨R, 0, none⟩), .agg #[.int .i64 b.al, .slice A n c, .slice A' n' c']] w (RetAu R (M + 10) (BdA (L + 13)) w) := by
  have hRl := h.lt
  have hsz := hb.size (by omega)
  go_enter Try.func18, Try.ntmps18
  have hx0 := (Ext.refl w).alloc (.cells #[.int .i64 b.al, .slice A n c, .slice A' n' c'] 27)
  have b0 := Blk.new w 27 #[.int .i64 b.al, .slice A n c, .slice A' n' c']
  have hs0 : (w.alloc (.cells #[.int .i64 b.al, .slice A n c, .slice A' n' c'] 27)).heap.size = w.heap.size + 1 := by simp
  have hx1 := hx0.alloc (.cells #[.int .i64 0, .slice none 0 0, .slice none 0 0] 27)
  have bz := Blk.new (w.alloc (.cells #[.int .i64 b.al, .slice A n c, .slice A' n' c'] 27)) 27 #[.int .i64 0, .slice none 0 0, .slice none 0 0]
  replace b0 := b0.ext ((Ext.refl _).alloc (.cells #[.int .i64 0, .slice none 0 0, .slice none 0 0] 27))
  rw [hs0] at bz
  have c0 := b0.cell
  go_upto_region 1 with fail
  generalize (w.alloc (.cells #[.int .i64 b.al, .slice A n c, .slice A' n' c'] 27)).alloc (.cells #[.int .i64 0, .slice none 0 0, .slice none 0 0] 27) = w1 at *
  have hz1 := bz.lt
  go_wp2_with fail
  refine (spec_l3Copy (ho.ext hx1).reads hsz).mono ?_
  rintro e w2 ⟨B, m, d, B', m', d', rfl, hown, hx2⟩
  obtain ⟨rows, hacc⟩ := AccA.of (R := R) (M := M) hown (h.ext (hx1.trans hx2)) hx2.dr (by omega)
  have hG := hx2.size
  have hm : m = b.next.length := hown.2.1
  have hmL : m ≤ 100 := by have := hb.1; omega
  have Hm := hide hm
  have Hb := hide hb
  clear hown ho hm hb hsz
  go_upto_region 2 with fail
  generalize w2.alloc (.cells #[.int .i64 b.al, .slice B m d, .slice B' m' d'] 27) = w3 at *
  generalize w2.heap.size = G at *
  have cG := hacc.blk.cell
  go_wp2_with fail
  refine (l19Rd_pick hacc.rd (by omega)).mono ?_
  rintro e w4 ⟨k, rfl, hk1, -, hr4, hd4⟩
  replace hacc := hacc.drawn hd4 hr4
  have Hk := hide hk1
  clear hd4 hr4 cG hk1
  go_wp2_with fail
  refine (l19Rd_pick hacc.rd (by omega)).mono ?_
  rintro e w5 ⟨y, rfl, -, -, hr5, hd5⟩
  replace hacc := hacc.drawn hd5 hr5
  clear hd5 hr5
  go_upto_block 0 with fail
  go_cut [] (fun wx => ∃ (al : Int) (v : Value) (rows : List Value) (ls : List (List Int)) (vA : Value) (acc : List Bool), AccA w1 wx R G (M + 10) al v rows ls vA acc ∧ Hid (BdL (L + 13) ls acc))
  case first =>
    have hcases : y = 0 ∨ y = 1 ∨ y = 2 ∨ y = 3 ∨ y = 4 ∨ y = 5 ∨ 6 ≤ y := by omega
    rcases hcases with hy | hy | hy | hy | hy | hy | hy
    · subst hy
      have hy0 : True := trivial
      go_wp2_with fail
      refine (num_lit [64, (-1), 1, 63, 0] 5 #[.int .i64 64, .int .i64 (-1), .int .i64 1, .int .i64 63, .int .i64 0] rfl rfl (by omega) (by omega) hacc.rd (by omega)).mono ?_
      rintro e w6 ⟨x, -, rfl, hr6, hd6⟩
      replace hacc := (hacc.ext ((Ext.refl _).alloc _)).drawn hd6 hr6
      have cG := hacc.blk.cell
      have fG := hacc.blk.frozen
      go_wp2_with fail
      go_meet
      exact ⟨_, _, _, _, _, _, (hacc.setAl x).more (by omega), hide (Hb.out.more (by omega))⟩
    · subst hy
      have hy0 : True := trivial
      have cG := hacc.blk.cell
      have hs1 := hacc.dr.size
      have hal : b.acc.length ≤ 100 := by have := Hb.out.2.1; omega
      go_wp2_with (at_builtin; refine wpList_push3 w1 w5 rfl _ _ _ rfl 4 _ 1 1 Try.underlying25 info_bool rfl (by decide) (.slice B' m' d') b.acc.length (bools b.acc) _ _ rfl rfl hs1 hacc.acc rfl (by simp [Value.oneCell']) (by unfold maxLen; omega) (by omega) ?_; intro g6 cap6 w6 hown6 hg6 hat6 hlt6; obtain ⟨q1, q2, q3⟩ := hacc.pushAcc (x := true) hown6 hg6 hat6; have q1' := q1.out)
      go_meet
      exact ⟨_, _, _, _, _, _, q3.more (by omega), hide ⟨by have := Hb.out.1; omega, by have := Hb.out.2.1; simp; omega, fun l hl => by have := Hb.out.2.2 l hl; omega⟩⟩
    · subst hy
      have hy0 : True := trivial
      by_cases hn0 : 0 < m
      · have hk := Hk.out (by omega)
        have hkm : k < b.next.length := by have := Hm.out; omega
        obtain ⟨l, hl⟩ : ∃ l, b.next[k]? = some l := ⟨_, List.getElem?_eq_getElem hkm⟩
        obtain ⟨gN, rfl, hgN, -⟩ := own_some' (show w5.ownsRow w1.heap.size 52 1 (.slice B m d) m rows from by have := hacc.nx; rw [← Hm.out] at this; exact this) hn0
        obtain ⟨Ar, cr, hr, hcell, hor⟩ := hacc.row hl Hm.out
        have hll : l.length ≤ 100 := by have := Hb.out.2.2 l (List.mem_of_getElem? hl); omega
        have HL := hide hl
        have HR := hide hr
        have hs1 := hacc.dr.size
        have cG : ∀ W, Frm (fun b => (Value.slice Ar l.length cr).ownBlock = some b) w5 W → ∀ q, W.cell? ⟨G, q, none⟩ = #[Value.int .i64 b.al, .slice (some ⟨gN, 0, none⟩) m d, .slice B' m' d'][q]? := fun W hW => (hacc.blk.frm hW (fun e => own_far hor hacc.blk (by decide) e rfl)).cell
        have cN : ∀ W, Frm (fun b => (Value.slice Ar l.length cr).ownBlock = some b) w5 W → W.cell? ⟨gN, k, none⟩ = some (.slice Ar l.length cr) := fun W hW => by
          have hx : W.ownsRow w1.heap.size 52 1 (.slice (some ⟨gN, 0, none⟩) m d) b.next.length rows := own_frm hacc.nx hW (fun b hb hS => own_ne hacc.nx hor (by decide) hb hS)
          rw [← Hm.out] at hx
          rw [hx.cellAt k (by omega), HR.out]
        have h00 : Frm (fun b => (Value.slice Ar l.length cr).ownBlock = some b) w5 w5.drew := (Ext.refl w5).drew.toFrm
        clear hl hr hcell hkm
        go_wp2_with fail
        refine wp_region_tail (fun X => Frm (fun b => (Value.slice Ar l.length cr).ownBlock = some b) w5 X) [11] (Ord.of [0, 1, 2, 3, 4, 5, 6, 7, 8, 9, 10, 11]) (by kernel_rfl) rfl (by kernel_rfl) (by kernel_rfl) (by kernel_rfl) (fun _ _ _ _ _ h => h) (by first | assumption | exact (Ext.refl _).drew | exact (Dr.refl _ _).drew | (refine Ext.drew ?_; assumption)) ?_
        repeat (first | (refine tseq_skip rfl rfl (by assumption) ?_; simp only [Act.put, List.setIfInBounds_toArray, List.set_cons_zero, List.set_cons_succ]) | (refine tseq_pure (v := ?_) rfl rfl rfl rfl (fun X => ?_) ?_; rotate_left; (focus (go_simp <;> with_reducible rfl)); simp only [Act.put, List.setIfInBounds_toArray, List.set_cons_zero, List.set_cons_succ]) | (refine tseq_read (v := ?_) rfl rfl rfl rfl (fun X hX => ?_) ?_; rotate_left; (focus (go_simp <;> with_reducible rfl)); simp only [Act.put, List.setIfInBounds_toArray, List.set_cons_zero, List.set_cons_succ]))
        (refine tseq_step rfl rfl rfl (fun K hK => ?_); go_simp)
        have hxd := (Ext.refl w5).drew
        refine hK.out _ _ (hxd.alloc _).toFrm ?_
        (try simp only [Act.put, List.setIfInBounds_toArray, List.set_cons_zero, List.set_cons_succ])
        refine tseq_step rfl rfl rfl (fun K hK => ?_)
        refine wp_push w1 w5.drew _ _ _ rfl 3 _ 1 8 Try.underlying52 info_int rfl (by decide) (.slice Ar l.length cr) l.length (ints l) _ _ rfl rfl hs1 (own_ext hor hxd) rfl (by simp [Value.oneCell']) (by unfold maxLen; omega) (by omega) ?_
        intro g6 cap6 w6 hown6 hg6 hat6 hlt6
        obtain ⟨q1, q2, q3, q4⟩ := (hacc.ext hxd).growRow (x := 0) Hm.out HR.out HL.out hown6 hg6 hat6
        have q2' := q2.out
        refine hK.out _ _ (hxd.toFrm.trans (Frm.of_grown hg6)) ?_
        (try simp only [Act.put, List.setIfInBounds_toArray, List.set_cons_zero, List.set_cons_succ])
        repeat (first | (refine tseq_skip rfl rfl (by assumption) ?_; simp only [Act.put, List.setIfInBounds_toArray, List.set_cons_zero, List.set_cons_succ]) | (refine tseq_pure (v := ?_) rfl rfl rfl rfl (fun X => ?_) ?_; rotate_left; (focus (go_simp <;> with_reducible rfl)); simp only [Act.put, List.setIfInBounds_toArray, List.set_cons_zero, List.set_cons_succ]) | (refine tseq_read (v := ?_) rfl rfl rfl rfl (fun X hX => ?_) ?_; rotate_left; (focus (go_simp <;> with_reducible rfl)); simp only [Act.put, List.setIfInBounds_toArray, List.set_cons_zero, List.set_cons_succ]))
        (refine tseq_last rfl rfl rfl rfl (fun K hK => ?_))
        go_simp
        refine hK.out _ _ ?_
        refine tseq_nil ?_
        go_wp2_with fail
        go_meet
        refine ⟨_, _, _, _, _, _, q4.more (by omega), hide ⟨by have := Hb.out.1; rw [List.length_set]; omega, by have := Hb.out.2.1; omega, fun l' hl' => ?_⟩⟩
        rcases List.mem_or_eq_of_mem_set hl' with h1 | h1
        · have := Hb.out.2.2 l' h1; omega
        · have := Hb.out.2.2 l (List.mem_of_getElem? HL.out)
          rw [h1]; simp; omega
      · have hn1 : m = 0 := by omega
        clear hn0
        have cG := hacc.blk.cell
        go_wp2_with fail
        go_meet
        exact ⟨_, _, _, _, _, _, hacc.more (by omega), hide (Hb.out.more (by omega))⟩
    · subst hy
      have hy0 : True := trivial
      by_cases hn0 : 0 < m
      · have hk := Hk.out (by omega)
        have hkm : k < b.next.length := by have := Hm.out; omega
        obtain ⟨l, hl⟩ : ∃ l, b.next[k]? = some l := ⟨_, List.getElem?_eq_getElem hkm⟩
        obtain ⟨gN, rfl, hgN, -⟩ := own_some' (show w5.ownsRow w1.heap.size 52 1 (.slice B m d) m rows from by have := hacc.nx; rw [← Hm.out] at this; exact this) hn0
        obtain ⟨Ar, cr, hr, hcell, hor⟩ := hacc.row hl Hm.out
        have hll : l.length ≤ 100 := by have := Hb.out.2.2 l (List.mem_of_getElem? hl); omega
        have HL := hide hl
        have HR := hide hr
        have Hbl := hide (Hb.out.2.2 l (List.mem_of_getElem? hl))
        clear hl hr hkm
        have cG := hacc.blk.cell
        by_cases hl0 : 0 < l.length
        · obtain ⟨gr, rfl, -, -⟩ := own_some' hor hl0
          go_wp2_with fail
          refine (l19Rd_pick (n := l.length) hacc.rd (by omega)).mono ?_
          rintro e w6 ⟨j, rfl, hj1, -, hr6, hd6⟩
          have hjl := hj1 (by omega)
          replace hacc := hacc.drawn hd6 hr6
          have hRG := hacc.hR
          have cN : ∀ W, Dr R w6 W → W.cell? ⟨gN, k, none⟩ = some (.slice (some ⟨gr, 0, none⟩) l.length cr) := fun W hW => (hd6.trans hW).cell_some hcell (by simp; omega)
          have hwr : IntKind.i64.wrap ((m : Int) - 1) = (m : Int) - 1 := by rw [IntKind.wrap_i64]; omega
          clear cG hj1 hr6 hd6 hcell hor
          have cG : ∀ W, Dr R w6 W → ∀ q, W.cell? ⟨G, q, none⟩ = #[Value.int .i64 b.al, .slice (some ⟨gN, 0, none⟩) m d, .slice B' m' d'][q]? := fun W hW => (hacc.blk.dr hW (by have := hacc.hG; omega)).cell
          go_wp2_with fail
          refine wp_region_tail (fun X => Dr R w6 X) [13] (Ord.of [0, 1, 2, 3, 4, 5, 6, 7, 8, 9, 10, 11, 12, 13]) (by kernel_rfl) rfl (by kernel_rfl) (by kernel_rfl) (by kernel_rfl) (fun _ _ _ _ _ h => h) (by first | assumption | exact (Ext.refl _).drew | exact (Dr.refl _ _).drew | (refine Ext.drew ?_; assumption)) ?_
          repeat (first | (refine tseq_skip rfl rfl (by assumption) ?_; simp only [Act.put, List.setIfInBounds_toArray, List.set_cons_zero, List.set_cons_succ]) | (refine tseq_pure (v := ?_) rfl rfl rfl rfl (fun X => ?_) ?_; rotate_left; (focus (go_simp <;> with_reducible rfl)); simp only [Act.put, List.setIfInBounds_toArray, List.set_cons_zero, List.set_cons_succ]) | (refine tseq_read (v := ?_) rfl rfl rfl rfl (fun X hX => ?_) ?_; rotate_left; (focus (go_simp <;> with_reducible rfl)); simp only [Act.put, List.setIfInBounds_toArray, List.set_cons_zero, List.set_cons_succ]))
          (refine tseq_step rfl rfl rfl (fun K hK => ?_); go_simp)
          refine hK.out _ _ ((Dr.refl R w6).drew.alloc _) ?_
          (try simp only [Act.put, List.setIfInBounds_toArray, List.set_cons_zero, List.set_cons_succ])
          (refine tseq_step rfl rfl rfl (fun K hK => ?_); go_simp)
          refine (num_lit (w := w6.drew) [(-1), m, (m : Int) - 1, 0] 4 #[.int .i64 (-1), .int .i64 m, .int .i64 ((m : Int) - 1), .int .i64 0] rfl rfl (by omega) (by omega) (hacc.rd.ext (Ext.refl _).drew) (by omega)).mono ?_
          rintro e w7 ⟨x, -, rfl, hr7, hd7⟩
          have hd67 : Dr R w6 w7 := ((Dr.refl R w6).drew.alloc _).trans hd7
          have hacc7 := hacc.drawn hd67 hr7
          refine hK.out _ _ hd67 ?_
          (try simp only [Act.put, List.setIfInBounds_toArray, List.set_cons_zero, List.set_cons_succ])
          repeat (first | (refine tseq_skip rfl rfl (by assumption) ?_; simp only [Act.put, List.setIfInBounds_toArray, List.set_cons_zero, List.set_cons_succ]) | (refine tseq_pure (v := ?_) rfl rfl rfl rfl (fun X => ?_) ?_; rotate_left; (focus (go_simp <;> with_reducible rfl)); simp only [Act.put, List.setIfInBounds_toArray, List.set_cons_zero, List.set_cons_succ]) | (refine tseq_read (v := ?_) rfl rfl rfl rfl (fun X hX => ?_) ?_; rotate_left; (focus (go_simp <;> with_reducible rfl)); simp only [Act.put, List.setIfInBounds_toArray, List.set_cons_zero, List.set_cons_succ]))
          have hown := hacc7.rows.2.1 k _ l HR.out HL.out
          obtain ⟨o0, c0⟩ := own_cell hown j (by omega)
          have f0 := hown.frozenAt j
          have hst := hacc7.setRow (k := j) (x := x) HR.out HL.out rfl
          (refine tseq_last rfl rfl rfl rfl (fun K hK => ?_))
          go_simp
          refine hK.out _ _ ?_
          refine tseq_nil ?_
          go_wp2_with fail
          go_meet
          refine ⟨_, _, _, _, _, _, hst.more (by omega), hide ⟨by have := Hb.out.1; rw [List.length_set]; omega, by have := Hb.out.2.1; omega, fun l' hl' => ?_⟩⟩
          rcases List.mem_or_eq_of_mem_set hl' with h1 | h1
          · have := Hb.out.2.2 l' h1; omega
          · rw [h1]; simp; have := Hbl.out; omega
        · have hl1 : l.length = 0 := by omega
          have hl2 : ¬ ((l.length : Int) > 0) := by omega
          go_wp2_with fail
          go_meet
          exact ⟨_, _, _, _, _, _, hacc.more (by omega), hide (Hb.out.more (by omega))⟩
      · have hn1 : m = 0 := by omega
        clear hn0
        have cG := hacc.blk.cell
        go_wp2_with fail
        go_meet
        exact ⟨_, _, _, _, _, _, hacc.more (by omega), hide (Hb.out.more (by omega))⟩
    · subst hy
      have hy0 : True := trivial
      have hs1 := hacc.dr.size
      have hacc1 := hacc.ext ((Ext.refl w5).alloc (.cells #[] 52))
      have hn1 := World.ownsRow_lit (base := w1.heap.size) (e := 52) (size := 1) w5 #[] 0 hs1 (by unfold maxLen; omega) rfl
      have cG := hacc1.blk.cell
      have fG := hacc1.blk.frozen
      go_upto_region 18 with fail
      replace hacc1 := hacc1.setNext hn1
      clear hacc cG fG hn1
      generalize (w5.alloc (.cells #[] 52)).setCell ⟨G, 1, none⟩ (.slice (some ⟨w5.heap.size, 0, none⟩) 0 0) = w6 at *
      have hs6 := hacc1.dr.size
      have hacc2 := hacc1.ext ((Ext.refl w6).alloc (.cells #[] 4))
      have hn2 := World.ownsRow_lit (base := w1.heap.size) (e := 4) (size := 1) w6 #[] 0 hs6 (by unfold maxLen; omega) rfl
      have cG := hacc2.blk.cell
      have fG := hacc2.blk.frozen
      go_wp2_with fail
      go_meet
      exact ⟨_, _, _, _, _, _, (hacc2.setMarks hn2).more (by omega), hide ⟨by simp, by simp, fun l hl => by simp at hl⟩⟩
    · subst hy
      have hy0 : True := trivial
      by_cases hn0 : 0 < m
      · have hn0' : ((m : Int) > 0) := by omega
        have hml : m = b.next.length := Hm.out
        have hlm : m ≤ L := by have := Hb.out.1; omega
        have hst : ∃ (i : Nat) (v : Value) (rows : List Value) (ls : List (List Int)) (vA : Value) (acc : List Bool), i ≤ 13 ∧ AccA w1 w5 R G (M + 2) b.al v rows ls vA acc ∧ Hid (ls.length = m + i) ∧ Hid (i = 0 ∨ m + i ≤ 13) ∧ Hid (acc.length ≤ L + i) ∧ Hid (∀ l ∈ ls, l.length ≤ L) :=
          ⟨0, _, _, _, _, _, by omega, hacc, hide hml.symm, hide (.inl rfl), hide Hb.out.2.1, hide Hb.out.2.2⟩
        clear hml hacc
        go_wp2_with fail
        go_loopw [] (fun wr => ∃ (i : Nat) (v : Value) (rows : List Value) (ls : List (List Int)) (vA : Value) (acc : List Bool), i ≤ 13 ∧ AccA w1 wr R G (M + 2) b.al v rows ls vA acc ∧ Hid (ls.length = m + i) ∧ Hid (i = 0 ∨ m + i ≤ 13) ∧ Hid (acc.length ≤ L + i) ∧ Hid (∀ l ∈ ls, l.length ≤ L)) (fun wr => 200 - lenAt wr G)
        case atStart => exact hst
        case round =>
          clear hst
          obtain ⟨i, v, rows, ls, vA, acc, hi, hacc, hln, him, hal, hlL⟩ := hrel
          obtain ⟨gN, cN, rfl, hgN⟩ : ∃ g c, v = .slice (some ⟨g, 0, none⟩) (m + i) c ∧ w1.heap.size ≤ g := by
            obtain ⟨A9, c9, rfl⟩ := own_form hacc.nx
            obtain ⟨g, rfl, hg, -⟩ := own_some' hacc.nx (by have := hln.out; omega)
            exact ⟨g, c9, by rw [hln.out], hg⟩
          have hmes := hide hacc.lenAt
          by_cases hlt : m + i ≤ 12
          · have hlt' : ((m + i : Nat) : Int) ≤ 12 := by omega
            have h0l : 0 < ls.length := by have := hln.out; omega
            obtain ⟨l, hl⟩ : ∃ l, ls[0]? = some l := ⟨_, List.getElem?_eq_getElem h0l⟩
            obtain ⟨Ar, cr, hr, hcell, hor⟩ := hacc.row hl hln.out.symm
            have hll : l.length ≤ L := hlL.out l (List.mem_of_getElem? hl)
            have Hll := hide hll
            have hlow := hide hacc.low
            have hs1 := hacc.dr.size
            have hrdl := Reads.of_own hor
            have Hrd := hide (fun W (hW : Ext wr W) => hrdl.ext hW)
            have cG : ∀ W, Ext wr W → ∀ q, W.cell? ⟨G, q, none⟩ = #[Value.int .i64 b.al, .slice (some ⟨gN, 0, none⟩) (m + i) cN, vA][q]? := fun W hW => (hacc.blk.ext hW).cell
            have cNx : ∀ W, Ext wr W → W.cell? ⟨gN, 0, none⟩ = some (.slice Ar l.length cr) := fun W hW => hW.cell_some hcell
            have hww := Ext.refl wr
            have h0i : (0 : Int) < ((m + i : Nat) : Int) := by omega
            have h0j : 0 < (m : Int) + (i : Int) := by omega
            clear hl hr hcell hor hrdl h0l
            go_upto_region 21 with fail
            refine wp_region_tailU (fun X => Ext wr X) [9, 11] (OrdU.of [0, 1, 3, 4, 5, 6, 2, 7, 8, 9, 10, 11]) (by kernel_rfl) (by kernel_rfl) (by kernel_rfl) (by kernel_rfl) (by kernel_rfl) (fun _ _ _ _ _ h => h) (by first | assumption | exact (Ext.refl _).drew | (refine Ext.drew ?_; assumption)) ?_
            repeat (first | (refine useq_skip rfl rfl (by assumption) ?_; simp only [Act.put, List.setIfInBounds_toArray, List.set_cons_zero, List.set_cons_succ]) | (refine useq_pure (v := ?_) rfl rfl rfl rfl (fun X => ?_) ?_; rotate_left; (focus (go_simp <;> with_reducible rfl)); simp only [Act.put, List.setIfInBounds_toArray, List.set_cons_zero, List.set_cons_succ]) | (refine useq_read (v := ?_) rfl rfl rfl rfl (fun X hX => ?_) ?_; rotate_left; (focus (go_simp <;> with_reducible rfl)); simp only [Act.put, List.setIfInBounds_toArray, List.set_cons_zero, List.set_cons_succ]))
            have hx0 : Ext wr wr.drew := hww.drew
            generalize wr.drew = wd at *
            (refine useq_step rfl rfl rfl (fun K hK => ?_); go_simp)
            have hm := World.ownsRow_made (base := wr.heap.size) (e := 3) (size := 1) wd #[] 0 hx0.size (Nat.zero_le _) rfl
            have hx1 := (Ext.refl wd).alloc (.cells #[] 3)
            replace hx0 := hx0.trans hx1
            refine hK.out _ _ hx0 ?_
            generalize wd.alloc (.cells #[] 3) = wm at *
            generalize wd.heap.size = MM at *
            (try simp only [Act.put, List.setIfInBounds_toArray, List.set_cons_zero, List.set_cons_succ])
            repeat (first | (refine useq_skip rfl rfl (by assumption) ?_; simp only [Act.put, List.setIfInBounds_toArray, List.set_cons_zero, List.set_cons_succ]) | (refine useq_pure (v := ?_) rfl rfl rfl rfl (fun X => ?_) ?_; rotate_left; (focus (go_simp <;> with_reducible rfl)); simp only [Act.put, List.setIfInBounds_toArray, List.set_cons_zero, List.set_cons_succ]) | (refine useq_read (v := ?_) rfl rfl rfl rfl (fun X hX => ?_) ?_; rotate_left; (focus (go_simp <;> with_reducible rfl)); simp only [Act.put, List.setIfInBounds_toArray, List.set_cons_zero, List.set_cons_succ]))
            refine useq_step rfl rfl rfl (fun K hK => ?_)
            refine wp_onto wm _ _ 52 rfl wr.heap.size 3 _ 1 8 Try.underlying52 info_int rfl (by decide) (.slice (some ⟨MM, 0, none⟩) 0 0) 0 [] rfl hm _ _ Ar l.length cr (ints l) rfl (Hrd.out _ hx0) (ints_one _) (by unfold maxLen; omega) (by omega) hx0.size ?_
            intro vR w6 hrow hgR hatR
            rw [Nat.zero_add, List.nil_append] at hrow
            obtain ⟨BR, dR, rfl⟩ := own_form hrow
            have hww3 : Ext wr w6 := hx0.grown hgR (fun k hk => (hm.lt k hk).1)
            refine hK.out _ _ hww3 ?_
            (try simp only [Act.put, List.setIfInBounds_toArray, List.set_cons_zero, List.set_cons_succ])
            repeat (first | (refine useq_skip rfl rfl (by assumption) ?_; simp only [Act.put, List.setIfInBounds_toArray, List.set_cons_zero, List.set_cons_succ]) | (refine useq_pure (v := ?_) rfl rfl rfl rfl (fun X => ?_) ?_; rotate_left; (focus (go_simp <;> with_reducible rfl)); simp only [Act.put, List.setIfInBounds_toArray, List.set_cons_zero, List.set_cons_succ]) | (refine useq_read (v := ?_) rfl rfl rfl rfl (fun X hX => ?_) ?_; rotate_left; (focus (go_simp <;> with_reducible rfl)); simp only [Act.put, List.setIfInBounds_toArray, List.set_cons_zero, List.set_cons_succ]))
            (refine useq_step rfl rfl rfl (fun K hK => ?_); go_simp)
            refine hK.out _ _ (hww3.alloc _) ?_
            (try simp only [Act.put, List.setIfInBounds_toArray, List.set_cons_zero, List.set_cons_succ])
            (refine useq_last rfl rfl rfl rfl (fun K hK => ?_))
            have hacc6 := hacc.ext hww3
            have hnx6 := hacc6.nx
            rw [hln.out] at hnx6
            refine wp_push w1 w6 _ _ _ rfl 52 _ 1 24 Try.underlying24 info_ints rfl (by decide) (.slice (some ⟨gN, 0, none⟩) (m + i) cN) (m + i) rows _ _ rfl rfl hacc6.dr.size hnx6 rfl (cells_slice _ _ _) (by unfold maxLen; omega) (by omega) ?_
            intro g7 cap7 w7 hown7 hg7 hat7 hlt7
            refine hK.out _ _ ?_
            (try simp only [Act.put, List.setIfInBounds_toArray, List.set_cons_zero, List.set_cons_succ])
            repeat (first | (refine useq_skip rfl rfl (by assumption) ?_; simp only [Act.put, List.setIfInBounds_toArray, List.set_cons_zero, List.set_cons_succ]) | (refine useq_pure (v := ?_) rfl rfl rfl rfl (fun X => ?_) ?_; rotate_left; (focus (go_simp <;> with_reducible rfl)); simp only [Act.put, List.setIfInBounds_toArray, List.set_cons_zero, List.set_cons_succ]) | (refine useq_read (v := ?_) rfl rfl rfl rfl (fun X hX => ?_) ?_; rotate_left; (focus (go_simp <;> with_reducible rfl)); simp only [Act.put, List.setIfInBounds_toArray, List.set_cons_zero, List.set_cons_succ]))
            obtain ⟨p1, p2, p3⟩ := hacc6.pushRow (l := l) (W' := w7) (g := g7) (cap := cap7) hlow.out hs1 hrow (by rw [hln.out]; exact hown7) hg7 hat7
            have p1' := p1.out
            rw [hln.out] at p3
            (refine useq_last rfl rfl rfl rfl (fun K hK => ?_))
            go_simp
            refine hK.out _ _ ?_
            refine useq_nil ?_
            generalize w7.setCell ⟨G, 1, none⟩ (.slice (some ⟨g7, 0, none⟩) (m + i + 1) cap7) = w8 at *
            have cG8 := p3.blk.cell
            have hs8 := p3.dr.size
            have hal' := hal.out
            clear p1 p1' p2 cG cNx hown7 hg7 hat7 hacc6 hacc hnx6
            go_wp2_with (at_builtin; refine wpList_push3 w1 w8 rfl _ _ _ rfl 4 _ 1 1 Try.underlying25 info_bool rfl (by decide) vA acc.length (bools acc) _ _ rfl rfl hs8 p3.acc rfl (by simp [Value.oneCell']) (by unfold maxLen; omega) (by omega) ?_; intro g9 cap9 w9 hown9 hg9 hat9 hlt9; obtain ⟨q1, q2, q3⟩ := p3.pushAcc (x := false) hown9 hg9 hat9; have q1' := q1.out)
            go_roundw
            case rel => exact ⟨i + 1, by omega, _, _, ls ++ [l], _, acc ++ [false], q3, hide (by have := hln.out; simp; omega), hide (by omega), hide (by simp; omega), hide (fun l' hl' => by
              rcases List.mem_append.1 hl' with h1 | h1
              · exact hlL.out l' h1
              · rw [List.mem_singleton.1 h1]; exact Hll.out)⟩
            case measure => have h1 := q3.lenAt; have h2 := hmes.out; omega
          · have hlt' : ¬ (((m + i : Nat) : Int) ≤ 12) := by omega
            have cG := hacc.blk.cell
            go_wp2_with fail
            go_meet
            exact ⟨_, _, _, _, _, _, hacc.more (by omega), hide ⟨by have := hln.out; have := him.out; omega, by have := hal.out; omega, fun l' hl' => by have := hlL.out l' hl'; omega⟩⟩
      · have hn1 : m = 0 := by omega
        clear hn0
        have cG := hacc.blk.cell
        have hst := hacc
        clear hacc
        go_wp2_with fail
        go_loopw [] (fun wr => AccA w1 wr R G (M + 1 + 1) b.al (.slice B m d) rows b.next (.slice B' m' d') b.acc) (fun wr => 0)
        case atStart => exact hst
        case round =>
          clear hst cG
          have cG := hrel.blk.cell
          go_wp2_with fail
          go_meet
          exact ⟨_, _, _, _, _, _, hrel.more (by omega), hide (Hb.out.more (by omega))⟩
    · have h0' : ((y : Int) == 0) = false := by simp; omega
      have h1' : ((y : Int) == 1) = false := by simp; omega
      have h2' : ((y : Int) == 2) = false := by simp; omega
      have h3' : ((y : Int) == 3) = false := by simp; omega
      have h4' : ((y : Int) == 4) = false := by simp; omega
      have h5' : ((y : Int) == 5) = false := by simp; omega
      go_wp2_with fail
      go_meet
      exact ⟨_, _, _, _, _, _, hacc.more (by omega), hide (Hb.out.more (by omega))⟩
  case rest =>
    clear hacc
    obtain ⟨al, v, rows, ls, vA, acc, hacc, hbd⟩ := hcut
    obtain ⟨A5, c5, rfl⟩ := own_form hacc.nx
    obtain ⟨B5, d5, rfl⟩ := own_form hacc.acc
    obtain ⟨f1, f2⟩ := hacc.fin (N := M + 10) (sh := BdA (L + 13)) hx1 bz rfl hRl (by omega) hz1 (by omega) hbd.out
    have bz5 := bz.dr hacc.dr (by omega)
    have cG := hacc.blk.cell
    have cZ := bz5.cell
    have fZ := bz5.frozen
    go_wp2_with fail
    have cf := f2.cell
    exact bodyPost_ret (v := .agg #[.int .i64 al, .slice A5 ls.length c5, .slice B5 acc.length d5]) (by simp [results, Try.results18, go_sem, cf]) rfl f1.out
end Go.Proofs.Ytcmgkekaeafgaaa

namespace Go.Proofs.Ytcmgkekaeafgaaa
open Go Go.RowKit
set_option maxHeartbeats 2000000

theorem spec_l19CutC {s : ByteArray} {w : World} (hs : s.size ≤ 1000000) :
    Calls Try.prog 42 #[.string s, .int .u8 44] w (RetStrs s.size (s.size + 1) w) := by
  go_enter Try.func42, Try.ntmps42
  go_wp2_with fail
  go_loopw [5, 6, 7] (fun v f i wr => ∃ (k m : Nat) (l : List ByteArray), k ≤ s.size + 1 ∧ i = .int .i64 k ∧ m ≤ k ∧ f = .int .i64 m ∧ l.length ≤ k ∧ wr.ownsRow w.heap.size 9 1 v l.length (strs l) ∧ Hid (∀ x ∈ l, x.size ≤ s.size) ∧ Ext w wr) (fun _ _ i _ => s.size + 1 - (intOf i).toNat)
  case atStart => exact ⟨0, 0, [], Nat.zero_le _, rfl, Nat.le_refl _, rfl, Nat.le_refl _, World.ownsRow_lit w #[] 0 (Nat.le_refl _) (by unfold maxLen; omega) rfl, (fun x hx => by cases hx), (Ext.refl _).alloc _⟩
  case round =>
    obtain ⟨k, m, l, hk, rfl, hm, rfl, hl, hown, hlx, hext⟩ := hrel
    by_cases hle : k ≤ s.size
    · have hle' : (k : Int) ≤ (s.size : Int) := by omega
      have hm' : (m : Int) ≤ (k : Int) := by omega
      have hex := hide (show (s.extract m k).size ≤ s.size by rw [ByteArray.size_extract]; omega)
      have hall := hide (show ∀ x ∈ l ++ [s.extract m k], x.size ≤ s.size from fun x hx => by
        rcases List.mem_append.1 hx with h1 | h1
        · exact hlx.out x h1
        · rw [List.mem_singleton.1 h1]; exact hex.out)
      by_cases he : k = s.size
      · have heq : ((k : Int) == (s.size : Int)) = true := by simp [he]
        have He := hide he
        clear he
        go_wp2_with (at_builtin; refine wpList_push w wr rfl _ _ _ rfl 9 _ 1 16 Try.underlying56 info_str rfl (by decide) u5 _ _ _ _ rfl rfl hext hown rfl (cells_str _) (by unfold maxLen; omega) (by omega) ?_; intro v' w1 hext1 hown1 hg1 hat1)
        go_roundw
        case rel => exact ⟨k + 1, k + 1, l ++ [s.extract m k], by omega, by go_num, by omega, by go_num, by simp; omega, by simpa [strs] using hown1, hall.out, by assumption⟩
        case measure => simp [intOf]; omega
      · have heq : ((k : Int) == (s.size : Int)) = false := by rw [beq_eq_false_iff_ne]; omega
        have hlt : k < s.size := by omega
        have hb := byte_lt s k hlt
        cases hc : ((s[k].toNat : Int) == 44)
        · go_wp2_with fail
          go_roundw
          case rel => exact ⟨k + 1, m, l, by omega, by go_num, by omega, rfl, by omega, hown, hlx, hext⟩
          case measure => simp [intOf]; omega
        · go_wp2_with (at_builtin; refine wpList_push w wr rfl _ _ _ rfl 9 _ 1 16 Try.underlying56 info_str rfl (by decide) u5 _ _ _ _ rfl rfl hext hown rfl (cells_str _) (by unfold maxLen; omega) (by omega) ?_; intro v' w1 hext1 hown1 hg1 hat1)
          go_roundw
          case rel => exact ⟨k + 1, k + 1, l ++ [s.extract m k], by omega, by go_num, by omega, by go_num, by simp; omega, by simpa [strs] using hown1, hall.out, by assumption⟩
          case measure => simp [intOf]; omega
    · obtain rfl : k = s.size + 1 := by omega
      obtain ⟨A, c, rfl⟩ := own_form hown
      go_wp2_with fail
      go_ret
      exact ⟨A, _, c, l, rfl, rfl, hown, hlx.out, by omega, hext⟩

end Go.Proofs.Ytcmgkekaeafgaaa

namespace Go.Proofs.Ytcmgkekaeafgaaa
open Go Go.RowKit
set_option maxHeartbeats 400000

/-- Numbers and whether they are any. -/
def RetIntsS (N : Nat) (w : World) (e : Ending) (w' : World) : Prop := ∃ (A : Option Addr) (n c : Nat) (l : List Int) (ok : Bool), e = .returned (.tuple #[.slice A n c, .bool ok]) ∧ n = l.length ∧ w'.ownsRow w.heap.size 3 1 (.slice A n c) n (ints l) ∧ n ≤ N ∧ Ext w w'
theorem spec_l3Parse {s : ByteArray} {w : World} (hs : s.size ≤ 1000) :
    Calls Try.prog 48 #[.string s] w (RetIntsS (s.size + 1) w) := by
  have h0 := World.ownsRow_lit (base := w.heap.size) (e := 3) (size := 1) w #[] 0 (Nat.le_refl _) (by unfold maxLen; omega) rfl
  have hx1 := (Ext.refl w).alloc (.cells #[] 3)
  go_enter Try.func48, Try.ntmps48
  go_upto_region 2 with fail
  obtain ⟨K, hK⟩ : ∃ K, Hid (K = w.heap.size) := ⟨_, hide rfl⟩
  rw [← hK.out] at h0 ⊢
  generalize w.alloc (.cells #[] 3) = w1 at *
  cases he : s.toList.isEmpty
  · go_wp2_with fail
    refine (spec_l19CutC (s := s) (by omega)).mono ?_
    rintro e w2 ⟨B, m, d, l, rfl, hml, hown2, hlx, hm, hx2⟩
    have hw2 := hx1.trans hx2
    have h02 := own_ext h0 hx2
    have Hlx := hide hlx
    have Hml := hide hml
    have hm1 : m ≤ s.size + 1 := hm
    clear hlx hml h0 he hm
    go_wp2_with fail
    go_loopw [4, 6] (fun v iv wr => ∃ (k : Nat) (ls : List Int), k ≤ m ∧ iv = .int .i64 (k : Nat) ∧ wr.ownsRow K 3 1 v k (ints ls) ∧ Hid (ls.length = k) ∧ wr.ownsRow w1.heap.size 9 1 (.slice B m d) m (strs l) ∧ Ext w wr) (fun _ iv _ => m - (intOf iv).toNat)
    case atStart => exact ⟨0, [], Nat.zero_le _, rfl, h02, hide rfl, hown2, hw2⟩
    case round =>
      clear h02 hown2 hw2 hx2
      obtain ⟨k, ls, hk, rfl, hv, hll, hstr, hw⟩ := hrel
      obtain ⟨A5, c5, rfl⟩ := own_form hv
      by_cases hlt : k < m
      · obtain ⟨gB, rfl, -, -⟩ := own_some' hstr (by omega)
        obtain ⟨ad, xk, hae, -, -, hxk, hck⟩ := (Reads.of_own hstr).str hlt
        obtain rfl := Option.some.inj hae
        rw [addr_lit, Nat.zero_add] at hck
        have hbk := hide (Hlx.out xk (List.mem_of_getElem? hxk.out))
        go_wp2_with fail
        refine (spec_l19Num (s := xk) (by have := hbk.out; omega)).mono ?_
        rintro e w3 ⟨x, ok, rfl, rfl⟩
        cases ok
        · go_wp2_with fail
          exact bodyPost_ret (v := .tuple #[.slice none 0 0, .bool false]) (by simp [results, Try.results48, go_sem]) rfl ⟨none, 0, 0, [], false, rfl, rfl, World.ownsRow_nil _ _ _ _, by omega, hw⟩
        · have hsz := hw.size
          go_wp2_with (at_builtin; refine wpList_push3 w wr rfl _ _ _ rfl 3 _ 1 8 Try.underlying52 info_int rfl (by decide) (.slice A5 k c5) k (ints ls) _ _ rfl rfl hsz (by rw [← hK.out]; exact hv) rfl (by simp [Value.oneCell']) (by unfold maxLen; omega) (by omega) ?_; intro g5 cap5 w5 hown5 hg5 hat5 hlt5)
          go_roundw
          case rel => exact ⟨k + 1, ls ++ [x], by omega, by go_num, by rw [hK.out]; simpa [ints] using hown5, hide (by have := hll.out; simp; omega), own_frm hstr (Frm.of_grown hg5) (fun b hb hS => own_ne hstr hv (by decide) hb hS), hw.grown hg5 (fun j hj => by have := (hv.lt j hj).1; have := hK.out; omega)⟩
          case measure => simp [intOf]; omega
      · obtain rfl : k = m := by omega
        go_wp2_with fail
        exact bodyPost_ret (v := .tuple #[.slice A5 k c5, .bool true]) (by simp [results, Try.results48, go_sem]) rfl ⟨A5, k, c5, ls, true, rfl, hll.out.symm, by rw [← hK.out]; exact hv, hm1, hw⟩
  · go_wp2_with fail
    exact bodyPost_ret (v := .tuple #[.slice (some ⟨K, 0, none⟩) 0 0, .bool true]) (by simp [results, Try.results48, go_sem]) rfl ⟨some ⟨w.heap.size, 0, none⟩, 0, 0, [], true, by rw [hK.out], rfl, by rw [hK.out] at h0; exact h0, by omega, hx1⟩
end Go.Proofs.Ytcmgkekaeafgaaa

namespace Go.Proofs.Ytcmgkekaeafgaaa
open Go Go.RowKit
set_option maxHeartbeats 2000000

/-- What a valid automaton is like. -/
theorem autValid_few {a : Aut} (h : autValid a = true) : ∃ al : Nat, a.al = al ∧ al < 64 ∧ 1 ≤ a.next.length ∧ a.next.length ≤ 12 ∧ a.acc.length = a.next.length ∧ ∀ l ∈ a.next, l.length = (letters al 6).length ∧ ∀ q ∈ l, 0 ≤ q ∧ q < a.next.length := by
  simp only [autValid, Bool.and_eq_true, decide_eq_true_eq, List.all_eq_true, rowB] at h
  obtain ⟨h1, h2, h3, h4⟩ := h
  refine ⟨a.al.toNat, by omega, by omega, h2.1, h2.2, h3, fun l hl => ⟨(h4 l hl).1, fun q hq => (h4 l hl).2 q hq⟩⟩
/-- A text; empty, if the automaton is not valid. -/
def RetFmtA (a : Aut) (w : World) (e : Ending) (w' : World) : Prop := ∃ t : ByteArray, e = .returned (.string t) ∧ (autValid a = false → t.size = 0) ∧ Ext w w'

set_option maxRecDepth 100000 in
theorem spec_FormatAutomaton {lo hi : Nat} {A : Option Addr} {n c : Nat} {A' : Option Addr} {n' c' : Nat} {a : Aut} {w : World} (h : AutAt w lo hi A n A' n' a) :
    Calls Try.prog 49 #[.agg #[.int .i64 a.al, .slice A n c, .slice A' n' c']] w (RetFmtA a w) := by
  have HV := hide (fun W (hW : Ext w W) => spec_AutomatonValid lo hi A n c A' n' c' a W ⟨h.1.ext hW, h.2.1, h.2.2.ext hW⟩)
  cases h1 : autValid a
  · have H1 := hide h1
    clear h1 h
    go_enter Try.func49, Try.ntmps49
    go_wp2_with (go_at_call 25; refine (HV.out _ ((Ext.refl _).alloc _)).mono ?_; rw [H1.out]; rintro e w1 ⟨rfl, hx⟩)
    go_ret
    exact ⟨_, rfl, fun _ => rfl, ((Ext.refl _).alloc _).trans hx⟩
  · obtain ⟨al, ha, ha2, hn1, hn2, hac, hrows⟩ := autValid_few h1
    have H1 := hide h1
    have Hn := hide h.n1
    have Hn' := hide h.n2
    have Ha := hide ha
    have Hrows := hide hrows
    have HS := hide (fun W (hW : Ext w W) => h.1.ext hW)
    have HB := hide (fun W (hW : Ext w W) => h.2.2.ext hW)
    have e1 : n = n' := by have := h.n1; have := h.n2; omega
    subst e1
    have hnn : n ≤ 12 := by have := h.n1; omega
    clear h1 ha hn1 hn2 hac hrows h
    go_enter Try.func49, Try.ntmps49
    go_wp2_with fail
    refine (HV.out _ ((Ext.refl _).alloc _)).mono ?_
    rw [H1.out]
    rintro e w1 ⟨rfl, hx⟩
    have b1 := ext_blk1 hx
    rw [Ha.out] at b1
    have hw1 := ((Ext.refl w).alloc _).trans hx
    have cb : ∀ W, Ext w1 W → ∀ q, W.cell? ⟨w.heap.size, q, none⟩ = #[Value.int .i64 al, .slice A n c, .slice A' n c'][q]? := fun W hW => (b1.ext hW).cell
    have hr1 := Ext.refl w1
    clear hx
    go_wp2_with fail
    refine (spec_FormatAlphabet ha2).mono ?_
    rintro e w2 ⟨t2, rfl, ht2, hx2⟩
    go_wp2_with fail
    go_loopw [3, 4] (fun v i wr => ∃ (k : Nat) (t : ByteArray), k ≤ n ∧ i = .int .i64 k ∧ v = .string t ∧ t.size ≤ 20 + 100 * k ∧ Ext w1 wr) (fun _ i _ => n - (intOf i).toNat)
    case atStart => exact ⟨0, t2, Nat.zero_le _, rfl, rfl, by omega, hx2⟩
    case round =>
      clear hx2 ht2 hr1
      obtain ⟨k, t, hk, rfl, rfl, ht, hext⟩ := hrel
      have cb0 := cb wr hext
      by_cases hlt : k < n
      · obtain ⟨ad, Ak, ck, l, rfl, _, _, hl, hc0, hrk⟩ := (HS.out wr (hw1.trans hext)).row hlt
        obtain ⟨ad', x, rfl, _, _, -, hb0⟩ := (HB.out wr (hw1.trans hext)).bool hlt
        have hq := hide (Hrows.out l (List.mem_of_getElem? hl.out))
        have hl6 : l.length ≤ 6 := by have := hq.out.1; have := letters_length al 6; omega
        have Hrk := hide (fun W (hW : Ext wr W) => hrk.ext hW)
        have Hcr := hide (fun W (hW : Ext wr W) => hW.cell_some hc0)
        have Hcb := hide (fun W (hW : Ext wr W) => cb W (hext.trans hW))
        have hww := Ext.refl wr
        clear hrk
        go_upto_if 24 with fail
        go_cut [5] (fun s5 wx => ∃ m : ByteArray, s5 = .string m ∧ m.size = 2 ∧ Ext wr wx)
        case first =>
          cases x
          · go_wp2_with fail
            go_meet
            exact ⟨{ data := #[32, 45] }, rfl, rfl, hww⟩
          · go_wp2_with fail
            go_meet
            exact ⟨{ data := #[32, 43] }, rfl, rfl, hww⟩
        case rest =>
          clear hc0 hb0 cb0 hww
          obtain ⟨m, rfl, hm2, hwc⟩ := hcut
          obtain ⟨wK, hwK⟩ : ∃ wK, wK = wr := ⟨_, rfl⟩
          rw [← hwK] at Hrk Hcr Hcb hwc hext
          clear hwK
          have q0 : ¬ 9223372036854775807 < t.size + m.size := by omega
          have hsz : (t ++ m).size = t.size + 2 := by rw [ByteArray.size_append, hm2]
          go_upto_region 11 with fail
          generalize t ++ m = t1 at *
          clear q0
          go_wp2_with fail
          go_loopw [3, 6] (fun v jv wr => ∃ (j : Nat) (t : ByteArray), j ≤ l.length ∧ jv = .int .i64 j ∧ v = .string t ∧ t.size ≤ 22 + 100 * k + 10 * j ∧ Ext wK wr) (fun _ jv _ => l.length - (intOf jv).toNat)
          case atStart => exact ⟨0, t1, Nat.zero_le _, rfl, rfl, by omega, hwc⟩
          case round =>
            clear hwc
            obtain ⟨j, t2, hj, rfl, rfl, ht2, hwx⟩ := hrel
            have cb0 := Hcb.out wr hwx
            have hc0 := Hcr.out wr hwx
            by_cases hjl : j < l.length
            · obtain ⟨ad2, q, rfl, -, -, hql, hcq⟩ := (Hrk.out wr hwx).int hjl
              obtain ⟨hq0, hq1⟩ := hq.out.2 q (List.mem_of_getElem? hql.out)
              obtain ⟨u, rfl⟩ : ∃ u : Nat, q = u := ⟨q.toNat, by omega⟩
              have hu : u < 100 := by have := Hn.out; omega
              clear hq0 hq1
              go_upto_if 39 with fail
              go_cut [3] (fun s3 wx => ∃ m : ByteArray, s3 = .string m ∧ m.size ≤ t2.size + 1 ∧ wx = wr)
              case first =>
                by_cases hj0 : 0 < j
                · have hj0' : ((j : Int) > 0) := by omega
                  have q1 : ¬ 9223372036854775807 < t2.size + 1 := by omega
                  go_wp2_with fail
                  go_meet
                  exact ⟨_, rfl, by rw [ByteArray.size_append]; exact Nat.le_refl _, rfl⟩
                · have hj0' : ¬ ((j : Int) > 0) := by omega
                  go_wp2_with fail
                  go_meet
                  exact ⟨t2, rfl, by omega, rfl⟩
              case rest =>
                obtain ⟨m3, rfl, hm3, rfl⟩ := hcut
                go_wp2_with fail
                refine (spec_l19Dec (n := u) hu).mono ?_
                rintro e w4 ⟨t4, rfl, ht4, hx4⟩
                have q2 : ¬ 9223372036854775807 < m3.size + t4.size := by omega
                go_wp2_with fail
                go_roundw
                case rel => exact ⟨j + 1, _, by omega, by go_num, rfl, by rw [ByteArray.size_append]; omega, hwx.trans hx4⟩
                case measure => simp [intOf]; omega
            · obtain rfl : j = l.length := by omega
              go_wp2_with fail
              go_roundw
              case rel => exact ⟨k + 1, t2, by omega, by go_num, rfl, by omega, hext.trans hwx⟩
              case measure => simp [intOf]; omega
      · obtain rfl : n = k := by omega
        go_wp2_with fail
        go_ret
        have hv := H1.out
        exact ⟨t, rfl, fun h => absurd (hv.symm.trans h) (by decide), hw1.trans hext⟩
end Go.Proofs.Ytcmgkekaeafgaaa
