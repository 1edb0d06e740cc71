/- spec.ParseSystem, by its shape alone, walked. | spec.l2Big, walked. | spec.l2Texts, spec.l2Draw, walked. | spec.l6Change, walked. | 'append(s, xs...)': a slice that came in is appended to one of the call's own; an element of edges is turned. It holds of every program, without conditions. | spec.l2Wrong, walked. | spec.l15Split, walked. | Two variables that hold systems which were drawn. They hold of every program, without conditions. -/
import Derived.Test.YtcmgkekaeafgaaaG09
import Derived.Laws.Strings
import Derived.Deep.DeepCutAuto
import Derived.Laws.StructEq
import Derived.Test.YtcmgkekaeafgaaaG05
import Derived.Deep.AppendLies
import Derived.Deep.CutBlock
import Derived.Test.YtcmgkekaeafgaaaG03
namespace Go.Proofs.Ytcmgkekaeafgaaa
open Go Go.RowKit
set_option maxHeartbeats 4000000

theorem wpList_push2 {P : Program} (wb w : World) {ops : Array Oper} {rest : List Oper} {o : Oper} {a : Act} {Q : Exit → Act → World → Prop} (hgd : o.guard = none) (s x : Operand) (t : TypeId)
    (ho : o.op = .call { callee := .builtin .append, args := #[s, x], argTypes := #[t, t] })
    (e : TypeId) (z : Value) (size bytes : Nat) (ht : P.underlying t = some (.slice e)) (hi : (P.info? e).map (fun i => (i.zero, i.size, i.bytes)) = some (some z, size, bytes)) (hzs : z.cells.size = size) (hsz : 0 < size)
    (v : Value) (n : Nat) (xs : List Value) (us : Array Value) (e' : TypeId) (hs : a.eval s = v) (hx : a.eval x = .slice (some ⟨w.heap.size, 0, none⟩) 1 1)
    (hext : wb.heap.size ≤ w.heap.size) (hown : w.ownsRow wb.heap.size e size v n xs) (hus : us.size = size) (h1 : ∀ u ∈ us.toList, u.oneCell' = true)
    (h63 : n + 1 ≤ maxLen) (hbytes : (n + 1) * bytes ≤ 140737488355328)
    (h : ∀ g cap w', w'.ownsRow wb.heap.size e size (.slice (some ⟨g, 0, none⟩) (n + 1) cap) (n + 1) (xs ++ us.toList) → w.grownBy w' v.ownBlock → (v.ownBlock = some g ∨ g = w.heap.size + 1) → g < w'.heap.size → wpList P ops Q rest (a.put o.dst (.slice (some ⟨g, 0, none⟩) (n + 1) cap)) w') :
    wpList P ops Q (o :: rest) a (w.alloc (.cells us e')) :=
  wpList_plain hgd fun _ hK => wp_push wb w s x t ho e z size bytes ht hi hzs hsz v n xs us e' hs hx hext hown hus h1 h63 hbytes fun g cap w' h2 h3 h4 h5 => hK _ _ (h g cap w' h2 h3 h4 h5)
theorem Reads.str {w : World} {lo hi n k : Nat} {A : Option Addr} {l : List ByteArray} (h : Reads w lo hi 1 A n (strs l)) (hk : k < n) : ∃ ad x, A = some ad ∧ lo ≤ ad.block ∧ ad.block < hi ∧ Hid (l[k]? = some x) ∧ w.cell? (ad.add k) = some (.string x) := by
  obtain ⟨ad, u, e, h1, h2, hu, hc⟩ := h.one hk
  have := hu.out
  simp only [strs, List.getElem?_map, Option.map_eq_some_iff] at this
  obtain ⟨x, hx, rfl⟩ := this
  exact ⟨ad, x, e, h1, h2, hx, hc⟩
theorem valid_good {s : Sys} (h : sysValid s = true) : Good s := by
  obtain ⟨p, hp, hp1, hp2, hf⟩ := valid_few h
  obtain ⟨a, ha, ha2⟩ := valid_al h
  exact ⟨a, p, ha, ha2, hp, hp1, hp2, hf⟩
theorem Acc.fillRD {w0 wB W : World} {R G M Z : Nat} {al st : Int} {v : Value} {es : List Edg} (h : Acc w0 wB W R G M al st v es) (hZ : w0.heap.size ≤ Z) (u0 u1 u2 : Value) :
    Rd (((W.setCell ⟨Z, 0, none⟩ u0).setCell ⟨Z, 1, none⟩ u1).setCell ⟨Z, 2, none⟩ u2) R M ∧ Dr R w0 (((W.setCell ⟨Z, 0, none⟩ u0).setCell ⟨Z, 1, none⟩ u1).setCell ⟨Z, 2, none⟩ u2) :=
  ⟨h.rd.frm (frm_fill W Z u0 u1 u2) (fun k h1 h2 => by have := h.hR; omega), ((h.dr.setNew (p := ⟨Z, 0, none⟩) hZ u0).setNew (p := ⟨Z, 1, none⟩) hZ u1).setNew (p := ⟨Z, 2, none⟩) hZ u2⟩
theorem str_empty {t x : ByteArray} (h : t.toList = x.toList) (h0 : t.size = 0) : x.size = 0 := by
  have h1 := congrArg List.length h
  rw [ByteArray.toList_eq, ByteArray.toList_eq] at h1
  have e1 : t.data.toList.length = t.size := rfl
  have e2 : x.data.toList.length = x.size := rfl
  omega
/-- A system that is Good, or has no state. -/
def Fair (s : Sys) : Prop := ∃ a p : Nat, s.al = a ∧ a < 64 ∧ s.st = p ∧ p ≤ 16 ∧ Few (p + 1) s.edges
theorem Good.fair {s : Sys} (h : Good s) : Fair s := by
  obtain ⟨a, p, h1, h2, h3, _, h5, h6⟩ := h
  exact ⟨a, p, h1, h2, h3, h5, fun e he => by have := h6 e he; omega⟩
theorem fair_zero : Fair ⟨0, 0, []⟩ := ⟨0, 0, rfl, by omega, rfl, by omega, fun e he => by cases he⟩
/-- A system and whether it is one. -/
def RetParse (R M L : Nat) (w : World) (e : Ending) (w' : World) : Prop :=
  ∃ (s : Sys) (A : Option Addr) (n c : Nat) (ok : Bool), e = .returned (.tuple #[.agg #[.int .i64 s.al, .int .i64 s.st, .slice A n c], .bool ok]) ∧ SysIn w' R A n s ∧ ((ok = true → Good s) ∧ Fair s) ∧ (n ≤ L ∧ n ≤ c) ∧ Rd w' R M ∧ Dr R w w'
theorem ret_none {R M L : Nat} {w w' : World} (h : Rd w' R M) (hd : Dr R w w') : RetParse R M L w (.returned (.tuple #[.agg #[.int .i64 0, .int .i64 0, .slice none 0 0], .bool false])) w' :=
  ⟨⟨0, 0, []⟩, none, 0, 0, false, rfl, ⟨rfl, by omega, fun h0 => by omega⟩, ⟨(fun h => by cases h), fair_zero⟩, ⟨Nat.zero_le _, Nat.le_refl _⟩, h, hd⟩

set_option maxRecDepth 100000 in
theorem spec_ParseSystem {R M : Nat} {x : ByteArray} {w : World} (h : Rd w R M) (hx : x.size ≤ 1000) :
    Calls Try.prog 27 #[.string x] w (RetParse R M 1001 w) := by
  have hRl := h.lt
  go_enter Try.func27, Try.ntmps27
  go_wp2_with fail
  refine (spec_l19Cut (s := x) (by omega)).mono ?_
  rintro e w1 ⟨B, m, d, l, rfl, hml, hown1, hlx, hm, hx1⟩
  have bz1 := ext_blk1 hx1
  have hzz := bz1.lt
  have hw1 := ((Ext.refl w).alloc _).trans hx1
  have hrd := (Reads.of_own hown1).more (lo' := w.heap.size + 1) (hi' := w1.heap.size) (by simp) (Nat.le_refl _)
  have Hlx := hide hlx
  have Hml := hide hml
  clear hown1 hlx hml hx1
  have cz := bz1.cell
  have fz := bz1.frozen
  have hfill := hide (fun (W : World) (hW : Ext w1 W) (u0 u1 u2 : Value) => (⟨(h.ext (hw1.trans hW)).frm (frm_fill W w.heap.size u0 u1 u2) (fun k hk hS => by omega), (((hw1.trans hW).dr.setNew (R := R) (p := ⟨w.heap.size, 0, none⟩) (Nat.le_refl _) u0).setNew (p := ⟨w.heap.size, 1, none⟩) (Nat.le_refl _) u1).setNew (p := ⟨w.heap.size, 2, none⟩) (Nat.le_refl _) u2⟩ : Rd (((W.setCell ⟨w.heap.size, 0, none⟩ u0).setCell ⟨w.heap.size, 1, none⟩ u1).setCell ⟨w.heap.size, 2, none⟩ u2) R M ∧ Dr R w (((W.setCell ⟨w.heap.size, 0, none⟩ u0).setCell ⟨w.heap.size, 1, none⟩ u1).setCell ⟨w.heap.size, 2, none⟩ u2)))
  by_cases hm2 : m < 2
  · go_wp2_with fail
    obtain ⟨g1, g2⟩ := hfill.out w1 (Ext.refl _) (.int .i64 0) (.int .i64 0) (.slice none 0 0)
    exact bodyPost_ret (v := .tuple #[.agg #[.int .i64 0, .int .i64 0, .slice none 0 0], .bool false]) (by simp [results, Try.results27, go_sem, cz]) rfl (ret_none g1 g2)
  · obtain ⟨ad, x0, rfl, hlo, hhi, hx0, hc0⟩ := hrd.str (k := 0) (by omega)
    obtain ⟨b, o, rfl⟩ : ∃ b o, ad = ⟨b, o, none⟩ := ⟨_, _, addr_spot hc0⟩
    rw [addr_lit, Nat.add_zero] at hc0
    obtain ⟨ad', x1, hae, _, _, hx1, hc1⟩ := hrd.str (k := 1) (by omega)
    obtain rfl := Option.some.inj hae
    rw [addr_lit] at hc1
    have hm2' : (2 : Int) ≤ (m : Int) := by omega
    have hb1 := hide (Hlx.out x1 (List.mem_of_getElem? hx1.out))
    go_wp2_with fail
    refine (spec_ParseAlphabet (x := x0)).mono ?_
    rintro e w2 ⟨a, ok1, rfl, ha, hx2⟩
    have hc12 := hx2.cell_some hc1
    have bz2 := bz1.ext hx2
    have cz2 := bz2.cell
    have fz2 := bz2.frozen
    go_wp2_with fail
    refine (spec_l19Num (s := x1) (by have := hb1.out; omega)).mono ?_
    rintro e w2' ⟨st, ok2, rfl, rfl⟩
    obtain ⟨g1, g2⟩ := hfill.out w2 hx2 (.int .i64 0) (.int .i64 0) (.slice none 0 0)
    have Hnone := hide (ret_none (L := 1001) g1 g2)
    clear g1 g2
    cases ok1
    · go_wp2_with fail
      exact bodyPost_ret (v := .tuple #[.agg #[.int .i64 0, .int .i64 0, .slice none 0 0], .bool false]) (by simp [results, Try.results27, go_sem, cz2]) rfl Hnone.out
    · cases ok2
      · go_wp2_with fail
        exact bodyPost_ret (v := .tuple #[.agg #[.int .i64 0, .int .i64 0, .slice none 0 0], .bool false]) (by simp [results, Try.results27, go_sem, cz2]) rfl Hnone.out
      · have bG := Blk.new w2 35 #[.int .i64 a, .int .i64 st, .slice none 0 0]
        have hx3 := (Ext.refl w2).alloc (.cells #[.int .i64 a, .int .i64 st, .slice none 0 0] 35)
        have hz3 : w2.heap.size < (w2.alloc (.cells #[.int .i64 a, .int .i64 st, .slice none 0 0] 35)).heap.size := by simp
        have hz12 := hx2.size
        have hz01 := hw1.size
        have hw2 := hw1.trans hx2
        clear hc0 hc1 hc12 cz fz cz2 fz2
        go_wp2_with fail
        generalize w2.alloc (.cells #[.int .i64 a, .int .i64 st, .slice none 0 0] 35) = w3 at *
        have hw3 := hw2.trans hx3
        have hrd3 := (hrd.ext hx2).ext hx3
        have bz3 := bz2.ext hx3
        have hacc : Acc w w3 w3 R w2.heap.size M a st (.slice none 0 0) [] := ⟨bG, World.ownsRow_nil _ _ _ _, h.ext hw3, hw3.dr, Frm.refl _ _, hRl, hw3.size, by omega⟩
        go_loopw [10] (fun i wr => ∃ (k : Nat) (v : Value) (es : List Edg), 2 ≤ k ∧ k ≤ m ∧ i = .int .i64 k ∧ Acc w w3 wr R w2.heap.size M a st v es ∧ es.length ≤ k) (fun i _ => m - (intOf i).toNat)
        case atStart => exact ⟨2, _, [], Nat.le_refl _, by omega, rfl, hacc, Nat.zero_le _⟩
        case round =>
          clear hacc
          obtain ⟨k, v, es, hk2, hk, rfl, hacc, hel⟩ := hrel
          have hG := hacc.blk.cell
          have hbz := bz3.frm hacc.fr (by omega)
          have hbzc := hbz.cell
          have hbzf := hbz.frozen
          have hrdk := hacc.old hrd3 (by omega)
          by_cases hlt : k < m
          · obtain ⟨ad, xk, hae, _, _, hxk, hck⟩ := hrdk.str hlt
            obtain rfl := Option.some.inj hae
            rw [addr_lit] at hck
            have hbk := hide (Hlx.out xk (List.mem_of_getElem? hxk.out))
            clear hbzc hbzf
            go_wp2_with fail
            refine (spec_l2Parse (s := xk) (by have := hbk.out; omega)).mono ?_
            rintro e w4 ⟨ed, ok3, rfl, hx4⟩
            have hacc4 := hacc.ext (hx4.alloc (.cells #[.int .i64 ed.fr, .int .i64 ed.le, .int .i64 ed.to] 65))
            have bed := Blk.new w4 65 #[.int .i64 ed.fr, .int .i64 ed.le, .int .i64 ed.to]
            have hbz4 := hbz.ext (hx4.alloc (.cells #[.int .i64 ed.fr, .int .i64 ed.le, .int .i64 ed.to] 65))
            clear hG
            cases ok3
            · have hz4 := hbz4.cell
              have hzf := hbz4.frozen
              go_wp2_with fail
              generalize w4.alloc (.cells #[.int .i64 ed.fr, .int .i64 ed.le, .int .i64 ed.to] 65) = wq at *
              obtain ⟨g1, g2⟩ := hacc4.fillRD (Z := w.heap.size) (Nat.le_refl _) (.int .i64 0) (.int .i64 0) (.slice none 0 0)
              exact bodyPost_ret (v := .tuple #[.agg #[.int .i64 0, .int .i64 0, .slice none 0 0], .bool false]) (by simp [results, Try.results27, go_sem, hz4]) rfl (ret_none g1 g2)
            · have hG4 := hacc4.blk.cell
              go_wp2_with (at_builtin; refine wpList_push2 w3 (w4.alloc (.cells #[.int .i64 ed.fr, .int .i64 ed.le, .int .i64 ed.to] 65)) rfl _ _ _ rfl 65 _ 3 24 Try.underlying33 info_edge rfl (by decide) v es.length (edgeCells es) _ _ rfl (by first | rfl | simp [go_sem]) hacc4.fr.size hacc4.own rfl (by simp [Value.oneCell']) (by unfold maxLen; omega) (by omega) ?_; intro g cap w5 hown5 hg5 hat5 hlt5; obtain ⟨h1, h2, h3⟩ := hacc4.push (e := ed) (W' := w5) hown5 hg5 hat5; have h1' := h1.out)
              go_roundw
              case rel => exact ⟨k + 1, _, _, by omega, by omega, by go_num, h3, by simp; omega⟩
              case measure => simp [intOf]; omega
          · obtain rfl : m = k := by omega
            obtain ⟨A, n, c, rfl⟩ := hacc.form
            obtain ⟨rfl, hsys⟩ := hacc.reads
            clear hbzc hbzf
            go_wp2_with fail
            refine (spec_FormatSystem (s := ⟨a, st, es⟩) hsys (by omega)).mono ?_
            rintro e w4 ⟨tx, rfl, htx, hx4⟩
            have hacc4 := hacc.ext hx4
            have hbz4 := hbz.ext hx4
            have hz4 := hbz4.cell
            have hzf := hbz4.frozen
            have hG4 := hacc4.blk.cell
            cases hne : tx.toList == x.toList
            · go_wp2_with fail
              obtain ⟨g1, g2⟩ := hacc4.fillRD (Z := w.heap.size) (Nat.le_refl _) (.int .i64 0) (.int .i64 0) (.slice none 0 0)
              exact bodyPost_ret (v := .tuple #[.agg #[.int .i64 0, .int .i64 0, .slice none 0 0], .bool false]) (by simp [results, Try.results27, go_sem, hz4]) rfl (ret_none g1 g2)
            · have hval : sysValid (⟨a, st, es⟩ : Sys) = true := by
                cases hv : sysValid (⟨a, st, es⟩ : Sys)
                · exfalso
                  have h0 := htx hv
                  have hxe : x.size = 0 := str_empty (by simpa using hne) h0
                  omega
                · rfl
              have hgood := valid_good hval
              have hcap := own_cap hacc4.own
              obtain ⟨g1, g2, g3⟩ := hacc4.fin (Z := w.heap.size) (Nat.le_refl _) (by omega) (.int .i64 a) (.int .i64 st) (.slice A es.length c)
              have Hfin := hide (show RetParse R M 1001 w (.returned (.tuple #[.agg #[.int .i64 a, .int .i64 st, .slice A es.length c], .bool true])) _ from ⟨⟨a, st, es⟩, A, es.length, c, true, rfl, g1, ⟨fun _ => hgood, hgood.fair⟩, by omega, g2, g3⟩)
              clear g1 g2 g3 hgood hval
              go_wp2_with fail
              exact bodyPost_ret (v := .tuple #[.agg #[.int .i64 a, .int .i64 st, .slice A es.length c], .bool true]) (by simp [results, Try.results27, go_sem, hz4]) rfl Hfin.out
end Go.Proofs.Ytcmgkekaeafgaaa

namespace Go.Proofs.Ytcmgkekaeafgaaa
open Go Go.RowKit
set_option maxHeartbeats 2000000

/-- A system that was drawn, with an edge at least. -/
def RetG1 (R M L : Nat) (w : World) (e : Ending) (w' : World) : Prop :=
  ∃ (s : Sys) (A : Option Addr) (n c : Nat), e = .returned (.agg #[.int .i64 s.al, .int .i64 s.st, .slice A n c]) ∧ SysIn w' R A n s ∧ Good s ∧ n ≤ L ∧ (1 ≤ n ∧ n ≤ c) ∧ Rd w' R M ∧ Dr R w w'
end Go.Proofs.Ytcmgkekaeafgaaa

namespace Go.Proofs.Ytcmgkekaeafgaaa
open Go Go.RowKit
set_option maxHeartbeats 4000000

def strOf : Value → ByteArray
  | .string s => s
  | _ => ⟨#[]⟩
/-- Some texts, none long. -/
def RetTexts (L : Nat) (w : World) (e : Ending) (w' : World) : Prop := ∃ (A : Option Addr) (n c : Nat) (l : List ByteArray), e = .returned (.slice A n c) ∧ 0 < n ∧ w'.ownsRow w.heap.size 9 1 (.slice A n c) n (strs l) ∧ (∀ x ∈ l, x.size ≤ L) ∧ Ext w w'
theorem texts_lit (w : World) {us : Array Value} {n : Nat} (hu : strs (us.toList.map strOf) = us.toList) (hn : us.size = n) (h : n ≤ 1000) : (w.alloc (.cells us 9)).ownsRow w.heap.size 9 1 (.slice (some ⟨w.heap.size, 0, none⟩) n n) n (strs (us.toList.map strOf)) := by
  rw [hu]
  exact World.ownsRow_lit w us n (Nat.le_refl _) (by unfold maxLen; omega) (by simpa using hn)
theorem reads_ints {w w' : World} {us : Array Value} {n : Nat} {e : TypeId} (l : List Int) (hu : us.toList = ints l) (hn : us.size = n) (hx : Ext (w.alloc (.cells us e)) w') (h63 : n ≤ 1000) : Reads w' w.heap.size (w.heap.size + 1) 1 (some ⟨w.heap.size, 0, none⟩) n (ints l) :=
  ⟨by rw [← hu]; simpa using hn, by omega, fun _ => ⟨_, rfl, Nat.le_refl _, by simp, fun j u hj => by
    have := (ext_blk1 hx).cell j
    rw [addr_lit, Nat.zero_add, this]
    rw [← hu] at hj
    simpa using hj⟩⟩

theorem num_lit {R M : Nat} {w : World} (l : List Int) (n : Nat) (us : Array Value) (hu : us.toList = ints l) (hn : us.size = n) (h0 : 0 < n) (h63 : n ≤ 1000) (h : Rd w R M) (hM : M ≤ 1000000000) :
    Calls Try.prog 32 #[.pointer (some ⟨R, 0, none⟩), .slice (some ⟨w.heap.size, 0, none⟩) n n] (w.alloc (.cells us 3)) (RetNum R M l (w.alloc (.cells us 3))) :=
  l19Rd_num (h.ext ((Ext.refl _).alloc _)) hM (reads_ints l hu hn (Ext.refl _) h63) h.lt h0
/-- The result's cells are filled with a system that was drawn. -/
theorem ret_fill {R M L n c Z : Nat} {A : Option Addr} {s : Sys} {w W : World} {cs : Array Value} (hs : SysIn W R A n s) (hg : Good s) (hn : n ≤ L ∧ n ≤ c) (hr : Rd W R M) (hd : Dr R w W) (hB : Blk W Z 35 cs) (hR : R < w.heap.size) (hZ : w.heap.size ≤ Z) :
    RetG R M L w (.returned (.agg #[.int .i64 s.al, .int .i64 s.st, .slice A n c])) (((W.setCell ⟨Z, 0, none⟩ (.int .i64 s.al)).setCell ⟨Z, 1, none⟩ (.int .i64 s.st)).setCell ⟨Z, 2, none⟩ (.slice A n c)) := by
  have hf := frm_fill W Z (.int .i64 s.al) (.int .i64 s.st) (.slice A n c)
  exact ⟨s, A, n, c, rfl, hs.far hB (by decide) hf, hg, hn, hr.frm hf (fun k h1 h2 => by omega), ((hd.setNew (p := ⟨Z, 0, none⟩) hZ _).setNew (p := ⟨Z, 1, none⟩) hZ _).setNew (p := ⟨Z, 2, none⟩) hZ _⟩
end Go.Proofs.Ytcmgkekaeafgaaa

namespace Go.Proofs.Ytcmgkekaeafgaaa
open Go Go.RowKit
set_option maxHeartbeats 4000000

theorem eq_edge (a b c d e f : Int) (w : World) : (Op.equalIn 10000 65 (.agg #[.int .i64 a, .int .i64 b, .int .i64 c]) (.agg #[.int .i64 d, .int .i64 e, .int .i64 f])).run Try.prog w = .ok (a == d && (b == e && c == f)) w := by
  have u3 := Try.underlying3
  have a3 := Try.isAgg3
  have z3 := Try.sizeOf3
  have hS : Try.prog.underlying 65 = some (.struct (Try.prog.fieldsOf 65)) := by kernel_rfl
  have hp : Try.prog.stoodInHeld 65 = false := by kernel_rfl
  rw [show (10000 : Nat) = 9999 + 1 from rfl, run_equalIn_agg w 9999 65 _ _ hS hp]
  simp only [Program.fieldsOf, Try.underlying65]
  go_simp
  by_cases h1 : a = d <;> by_cases h2 : b = e <;> by_cases h3 : c = f <;> simp [h1, h2, h3]
theorem e_filled {R M M' E x y p : Nat} {w2 w4 : World} (hb : Blk w4 E 65 #[.int .i64 0, .int .i64 0, .int .i64 0]) (hr : Rd w4 R M') (hd : Dr R w2 w4) (hE : w2.heap.size ≤ E) (hR : R < w2.heap.size) (hx : 1 ≤ (p : Int) → (x : Int) < p) (hy : 1 ≤ (p : Int) → (y : Int) < p) (hp : 1 ≤ p) (hM : M' ≤ M) :
    ∃ E' x' y' : Nat, Value.pointer (some ⟨E, 0, none⟩) = .pointer (some ⟨E', 0, none⟩) ∧ x' < p ∧ y' < p ∧ w2.heap.size ≤ E' ∧ Blk (((w4.setCell ⟨E, 0, none⟩ (.int .i64 x)).setCell ⟨E, 1, none⟩ (.int .i64 0)).setCell ⟨E, 2, none⟩ (.int .i64 y)) E' 65 #[.int .i64 x', .int .i64 0, .int .i64 y'] ∧ Rd (((w4.setCell ⟨E, 0, none⟩ (.int .i64 x)).setCell ⟨E, 1, none⟩ (.int .i64 0)).setCell ⟨E, 2, none⟩ (.int .i64 y)) R M ∧ Dr R w2 (((w4.setCell ⟨E, 0, none⟩ (.int .i64 x)).setCell ⟨E, 1, none⟩ (.int .i64 0)).setCell ⟨E, 2, none⟩ (.int .i64 y)) := by
  have hf := frm_fill w4 E (.int .i64 x) (.int .i64 0) (.int .i64 y)
  refine ⟨E, x, y, rfl, by omega, by omega, hE, by simpa using ((hb.set_ 0 (.int .i64 x)).set_ 1 (.int .i64 0)).set_ 2 (.int .i64 y), (hr.frm hf (fun k h1 h2 => by omega)).more hM, ?_⟩
  exact ((hd.setNew (p := ⟨E, 0, none⟩) hE _).setNew (p := ⟨E, 1, none⟩) hE _).setNew (p := ⟨E, 2, none⟩) hE _

set_option maxRecDepth 100000 in
theorem spec_l6Change_ {R M n c L a p : Nat} {A : Option Addr} {es : List Edg} {w : World} (h : Rd w R M) (hM : M ≤ 900000000) (hs : SysIn w R A n ⟨a, p, es⟩) (ha : a < 64) (hp1 : 1 ≤ p) (hp : p ≤ 16) (hfew : Few p es) (hn : n ≤ L) (hL : L ≤ 100000) :
    Calls Try.prog 28 #[.pointer (some ⟨R, 0, none⟩), .agg #[.int .i64 a, .int .i64 p, .slice A n c]] w (RetG R (M + 10) (L + 1) w) := by
  have hRl := h.lt
  have hr0 := hs.at_.2
  have hen := hide hs.1
  have Hfew := hide hfew
  have hsm : Sm a := by unfold Sm; omega
  have hx1 : Ext w (((w.alloc (.cells #[.int .i64 a, .int .i64 p, .slice A n c] 35)).alloc (.cells #[.int .i64 0, .int .i64 0, .slice none 0 0] 35)).alloc (.cells #[.int .i64 a, .int .i64 p, .slice none 0 0] 35)) := (((Ext.refl _).alloc _).alloc _).alloc _
  obtain ⟨bS, bZ, bG⟩ := ext_blk3 (Ext.refl (((w.alloc (.cells #[.int .i64 a, .int .i64 p, .slice A n c] 35)).alloc (.cells #[.int .i64 0, .int .i64 0, .slice none 0 0] 35)).alloc (.cells #[.int .i64 a, .int .i64 p, .slice none 0 0] 35)))
  have HbS := hide bS
  have HbZ := hide bZ
  have HbG := hide bG
  have Hx1 := hide hx1
  clear bS bZ bG hx1 hs hfew
  go_enter Try.func28, Try.ntmps28
  go_wp2_with fail
  generalize ((w.alloc (.cells #[.int .i64 a, .int .i64 p, .slice A n c] 35)).alloc (.cells #[.int .i64 0, .int .i64 0, .slice none 0 0] 35)).alloc (.cells #[.int .i64 a, .int .i64 p, .slice none 0 0] 35) = w1 at *
  refine (l19Rd_pick (h.ext Hx1.out) (by omega)).mono ?_
  rintro e w2 ⟨gone, rfl, -, -, hr2, hd2⟩
  have hz1 := HbG.out.lt
  have bS2 := HbS.out.dr hd2 (by omega)
  have bZ2 := HbZ.out.dr hd2 (by omega)
  have bG2 := HbG.out.dr hd2 (by omega)
  have hw2 := Hx1.out.dr.trans hd2
  have cS : ∀ W, Dr R w2 W → ∀ q, W.cell? ⟨w.heap.size, q, none⟩ = #[Value.int .i64 a, .int .i64 p, .slice A n c][q]? := fun W hW => (bS2.dr hW (by omega)).cell
  go_upto_region 3 with fail
  go_cut [7] (fun s7 wx => ∃ E x y : Nat, s7 = .pointer (some ⟨E, 0, none⟩) ∧ x < p ∧ y < p ∧ w2.heap.size ≤ E ∧ Blk wx E 65 #[.int .i64 x, .int .i64 0, .int .i64 y] ∧ Rd wx R (M + 3) ∧ Dr R w2 wx)
  case first =>
    refine wp_region_tail (fun X => Dr R w2 X) [10] (Ord.app [0, 1, 2, 4, 5, 6] (Ord.two 3 (Ord.two 7 (Ord.of [8, 9, 10]) 9 (Ord.of [7, 8, 10])) 9 (Ord.of [3, 7, 8, 10]))) (by kernel_rfl) rfl (by kernel_rfl) (by kernel_rfl) (by kernel_rfl) (fun _ _ _ _ _ h => h) (by first | assumption | exact (Ext.refl _).drew | exact (Dr.refl _ _).drew | (refine Ext.drew ?_; assumption)) ?_
    repeat (first | (refine tseq_skip rfl rfl (by assumption) ?_; simp only [Act.put, List.setIfInBounds_toArray, List.set_cons_zero, List.set_cons_succ]) | (refine tseq_pure (v := ?_) rfl rfl rfl rfl (fun X => ?_) ?_; rotate_left; (focus (go_simp <;> with_reducible rfl)); simp only [Act.put, List.setIfInBounds_toArray, List.set_cons_zero, List.set_cons_succ]) | (refine tseq_read (v := ?_) rfl rfl rfl rfl (fun X hX => ?_) ?_; rotate_left; (focus (go_simp <;> with_reducible rfl)); simp only [Act.put, List.setIfInBounds_toArray, List.set_cons_zero, List.set_cons_succ]))
    refine tseq_both rfl rfl rfl rfl (fun K hK => ?_) (fun K hK => ?_)
    · go_simp
      refine (l19Rd_pick (n := p) (hr2.ext ((Ext.refl _).drew)) (by omega)).mono ?_
      rintro e w3 ⟨x, rfl, hx, _, hr3, hd3⟩
      have hd23 : Dr R w2 w3 := ((Dr.refl R w2).drew).trans hd3
      refine hK.out _ _ hd23 ?_
      (try simp only [Act.put, List.setIfInBounds_toArray, List.set_cons_zero, List.set_cons_succ])
      refine tseq_both rfl rfl rfl rfl (fun K hK => ?_) (fun K hK => ?_)
      · go_simp
        refine (l19Rd_pick (n := p) hr3 (by omega)).mono ?_
        rintro e w4 ⟨y, rfl, hy, _, hr4, hd4⟩
        have hd24 := hd23.trans hd4
        refine hK.out _ _ hd24 ?_
        (try simp only [Act.put, List.setIfInBounds_toArray, List.set_cons_zero, List.set_cons_succ])
        repeat (first | (refine tseq_skip rfl rfl (by assumption) ?_; simp only [Act.put, List.setIfInBounds_toArray, List.set_cons_zero, List.set_cons_succ]) | (refine tseq_pure (v := ?_) rfl rfl rfl rfl (fun X => ?_) ?_; rotate_left; (focus (go_simp <;> with_reducible rfl)); simp only [Act.put, List.setIfInBounds_toArray, List.set_cons_zero, List.set_cons_succ]) | (refine tseq_read (v := ?_) rfl rfl rfl rfl (fun X hX => ?_) ?_; rotate_left; (focus (go_simp <;> with_reducible rfl)); simp only [Act.put, List.setIfInBounds_toArray, List.set_cons_zero, List.set_cons_succ]))
        (refine tseq_step rfl rfl rfl (fun K hK => ?_); go_simp)
        refine hK.out _ _ (hd24.alloc _) ?_
        (try simp only [Act.put, List.setIfInBounds_toArray, List.set_cons_zero, List.set_cons_succ])
        repeat (first | (refine tseq_skip rfl rfl (by assumption) ?_; simp only [Act.put, List.setIfInBounds_toArray, List.set_cons_zero, List.set_cons_succ]) | (refine tseq_pure (v := ?_) rfl rfl rfl rfl (fun X => ?_) ?_; rotate_left; (focus (go_simp <;> with_reducible rfl)); simp only [Act.put, List.setIfInBounds_toArray, List.set_cons_zero, List.set_cons_succ]) | (refine tseq_read (v := ?_) rfl rfl rfl rfl (fun X hX => ?_) ?_; rotate_left; (focus (go_simp <;> with_reducible rfl)); simp only [Act.put, List.setIfInBounds_toArray, List.set_cons_zero, List.set_cons_succ]))
        (refine tseq_last rfl rfl rfl rfl (fun K hK => ?_))
        go_simp
        refine hK.out _ _ ?_
        refine tseq_nil ?_
        go_wp2_with fail
        go_meet
        exact ⟨w4.heap.size, x, y, rfl, by omega, by omega, hd24.size, Blk.new _ _ _, hr4.ext ((Ext.refl _).alloc _), hd24.alloc _⟩
      · go_simp
        have hx3 := (Ext.refl w3).alloc (.cells #[.int .i64 0, .int .i64 0, .int .i64 0] 65)
        have hb3 := Blk.new w3 65 #[.int .i64 0, .int .i64 0, .int .i64 0]
        have hd23' := hd23.ext hx3
        have hr3' := hr3.ext hx3
        have hRw := hr3.lt
        refine hK.out _ _ hd23' ?_
        generalize w3.alloc (.cells #[.int .i64 0, .int .i64 0, .int .i64 0] 65) = w3' at *
        (try simp only [Act.put, List.setIfInBounds_toArray, List.set_cons_zero, List.set_cons_succ])
        (refine tseq_step rfl rfl rfl (fun K hK => ?_); go_simp)
        refine (l19Rd_pick (n := p) hr3' (by omega)).mono ?_
        rintro e w4 ⟨y, rfl, hy, _, hr4, hd4⟩
        have hd24 := hd23'.trans hd4
        have hb4 := hb3.dr hd4 (by omega)
        refine hK.out _ _ hd24 ?_
        (try simp only [Act.put, List.setIfInBounds_toArray, List.set_cons_zero, List.set_cons_succ])
        repeat (first | (refine tseq_skip rfl rfl (by assumption) ?_; simp only [Act.put, List.setIfInBounds_toArray, List.set_cons_zero, List.set_cons_succ]) | (refine tseq_pure (v := ?_) rfl rfl rfl rfl (fun X => ?_) ?_; rotate_left; (focus (go_simp <;> with_reducible rfl)); simp only [Act.put, List.setIfInBounds_toArray, List.set_cons_zero, List.set_cons_succ]) | (refine tseq_read (v := ?_) rfl rfl rfl rfl (fun X hX => ?_) ?_; rotate_left; (focus (go_simp <;> with_reducible rfl)); simp only [Act.put, List.setIfInBounds_toArray, List.set_cons_zero, List.set_cons_succ]))
        have cE := hb4.cell
        have fE := hb4.frozen
        (refine tseq_last rfl rfl rfl rfl (fun K hK => ?_))
        go_simp
        refine hK.out _ _ ?_
        refine tseq_nil ?_
        go_wp2_with fail
        go_meet
        exact e_filled hb4 hr4 hd24 hd23.size hr2.lt hx hy hp1 (by omega)
    · go_simp
      have hx2 := ((Ext.refl w2).alloc (.cells #[.int .i64 0, .int .i64 0, .int .i64 0] 65)).drew
      have hb2 : Blk (w2.alloc (.cells #[.int .i64 0, .int .i64 0, .int .i64 0] 65)).drew w2.heap.size 65 #[.int .i64 0, .int .i64 0, .int .i64 0] := Blk.new w2 _ _
      have hr2' := hr2.ext hx2
      have hRw := hr2.lt
      have hd22 : Dr R w2 (w2.alloc (.cells #[.int .i64 0, .int .i64 0, .int .i64 0] 65)).drew := hx2.dr
      refine hK.out _ _ hd22 ?_
      generalize (w2.alloc (.cells #[.int .i64 0, .int .i64 0, .int .i64 0] 65)).drew = w2' at *
      (try simp only [Act.put, List.setIfInBounds_toArray, List.set_cons_zero, List.set_cons_succ])
      (refine tseq_step rfl rfl rfl (fun K hK => ?_); go_simp)
      refine (l19Rd_pick (n := p) hr2' (by omega)).mono ?_
      rintro e w3 ⟨x, rfl, hx, _, hr3, hd3⟩
      have hd23 := hd22.trans hd3
      have hb3 := hb2.dr hd3 (by omega)
      refine hK.out _ _ hd23 ?_
      (try simp only [Act.put, List.setIfInBounds_toArray, List.set_cons_zero, List.set_cons_succ])
      (refine tseq_step rfl rfl rfl (fun K hK => ?_); go_simp)
      refine (l19Rd_pick (n := p) hr3 (by omega)).mono ?_
      rintro e w4 ⟨y, rfl, hy, _, hr4, hd4⟩
      have hd24 := hd23.trans hd4
      have hb4 := hb3.dr hd4 (by omega)
      refine hK.out _ _ hd24 ?_
      (try simp only [Act.put, List.setIfInBounds_toArray, List.set_cons_zero, List.set_cons_succ])
      repeat (first | (refine tseq_skip rfl rfl (by assumption) ?_; simp only [Act.put, List.setIfInBounds_toArray, List.set_cons_zero, List.set_cons_succ]) | (refine tseq_pure (v := ?_) rfl rfl rfl rfl (fun X => ?_) ?_; rotate_left; (focus (go_simp <;> with_reducible rfl)); simp only [Act.put, List.setIfInBounds_toArray, List.set_cons_zero, List.set_cons_succ]) | (refine tseq_read (v := ?_) rfl rfl rfl rfl (fun X hX => ?_) ?_; rotate_left; (focus (go_simp <;> with_reducible rfl)); simp only [Act.put, List.setIfInBounds_toArray, List.set_cons_zero, List.set_cons_succ]))
      have cE := hb4.cell
      have fE := hb4.frozen
      (refine tseq_last rfl rfl rfl rfl (fun K hK => ?_))
      go_simp
      refine hK.out _ _ ?_
      refine tseq_nil ?_
      go_wp2_with fail
      go_meet
      exact e_filled hb4 hr4 hd24 (Nat.le_refl _) hRw hx hy hp1 (by omega)
  case rest =>
    obtain ⟨E, x, y, rfl, hx, hy, hE, hbE, hr3, hd3⟩ := hcut
    have hw3 := hw2.trans hd3
    have bS3 := bS2.dr hd3 (by omega)
    have bZ3 := bZ2.dr hd3 (by omega)
    have bG3 := bG2.dr hd3 (by omega)
    have hz2 := bG2.lt
    clear cS
    have cS := bS3.cell
    go_wp2_with fail
    refine (spec_l1Letters a hsm _).mono ?_
    rintro e w4 ⟨B, d, rfl, hown4, hx4⟩
    have hw4 := hw3.ext hx4
    have bS4 := bS3.ext hx4
    have bZ4 := bZ3.ext hx4
    have bG4 := bG3.ext hx4
    have bE4 := hbE.ext hx4
    have hr4 := hr3.ext hx4
    have hE3 := hbE.lt
    have hl6 := letters_length a 6
    have hlm := hide (fun k (hk : k ∈ letters a 6) => (mem_letters.1 hk).1)
    have hrd4 := (Reads.of_own hown4)
    have hz23 := hd3.size
    have hz34 := hx4.size
    have hRz := hr2.lt
    clear cS hown4 hx4 bS3 bZ3 bG3 hbE hr3 hw3 HbS HbZ HbG Hx1 bS2 bZ2 bG2 hw2 hr2
    generalize letters a 6 = ls at *
    go_upto_region 5 with fail
    go_cut [9] (fun s9 wx => ∃ b : Bool, s9 = .bool b ∧ (b = true → 0 < ls.length) ∧ Rd wx R (M + 4) ∧ Dr R w4 wx)
    case first =>
      by_cases hl : 0 < ls.length
      · go_wp2_with fail
        refine (l19Rd_pick hr4 (by omega)).mono ?_
        rintro e w5 ⟨z, rfl, -, -, hr5, hd5⟩
        go_wp2_with fail
        go_meet
        exact ⟨_, rfl, fun _ => hl, hr5, hd5⟩
      · go_wp2_with fail
        go_meet
        exact ⟨false, rfl, fun h => by (first | cases h | omega), hr4.more (by omega), Dr.refl _ _⟩
    case rest =>
      obtain ⟨b, rfl, hbl, hr5, hd5⟩ := hcut
      go_upto_if 42 with fail
      go_cut [] (fun wx => ∃ l : Nat, l < 6 ∧ Blk wx E 65 #[.int .i64 x, .int .i64 l, .int .i64 y] ∧ Blk wx w.heap.size 35 #[.int .i64 a, .int .i64 p, .slice A n c] ∧ Blk wx (w.heap.size + 1) 35 #[.int .i64 0, .int .i64 0, .slice none 0 0] ∧ Blk wx (w.heap.size + 1 + 1) 35 #[.int .i64 a, .int .i64 p, .slice none 0 0] ∧ Rd wx R (M + 5) ∧ Dr R w wx)
      case first =>
        have bS5 := bS4.dr hd5 (by omega)
        have bZ5 := bZ4.dr hd5 (by omega)
        have bG5 := bG4.dr hd5 (by omega)
        have bE5 := bE4.dr hd5 (by omega)
        have hw5 := hw4.trans hd5
        clear bS4 bZ4 bG4 bE4 hw4 hr4
        cases b
        · go_wp2_with fail
          go_meet
          exact ⟨0, by omega, bE5, bS5, bZ5, bG5, hr5.more (by omega), hw5⟩
        · have hl0 := hbl rfl
          have hl1 : (1 : Int) ≤ (ls.length : Int) := by omega
          clear hbl
          go_wp2_with fail
          refine (l19Rd_pick hr5 (by omega)).mono ?_
          rintro e w6 ⟨z, rfl, hz, -, hr6, hd6⟩
          have hzl := hz hl1
          have hzl' : z < ls.length := by omega
          obtain ⟨ad, l, rfl, _, _, hl, hlc⟩ := ((hrd4.dr hd5 (by omega)).dr hd6 (by omega)).nat hzl'
          have hl6' := hlm.out l (List.mem_of_getElem? hl.out)
          have bS6 := bS5.dr hd6 (by omega)
          have bZ6 := bZ5.dr hd6 (by omega)
          have bG6 := bG5.dr hd6 (by omega)
          have bE6 := bE5.dr hd6 (by omega)
          have hw6 := hw5.trans hd6
          have cE := bE6.cell
          have fE := bE6.frozen
          have hf := Frm.setCell w6 E 1 (.int .i64 (l : Nat))
          clear hz bS5 bZ5 bG5 bE5 hw5
          go_wp2_with fail
          go_meet
          exact ⟨l, hl6', by simpa using bE6.set_ 1 (.int .i64 (l : Nat)), bS6.frm hf (by omega), bZ6.frm hf (by omega), bG6.frm hf (by omega), (hr6.frm hf (fun k h1 h2 => by omega)), hw6.setNew (by dsimp only; omega) _⟩
      case rest =>
        obtain ⟨l, hl, bE, bS, bZ, bG, hrB, hdB⟩ := hcut
        clear bS4 bZ4 bG4 bE4 hw4 hr4 hd5 hr5 hlm hrd4 hl6 hbl
        obtain ⟨wB, hwB⟩ : ∃ wB, wB = wc := ⟨_, rfl⟩
        subst hwB
        have hacc : Acc w wB wB R (w.heap.size + 1 + 1) (M + 5) a p (.slice none 0 0) [] := ⟨bG, World.ownsRow_nil _ _ _ _, hrB, hdB, Frm.refl _ _, hRl, hdB.size, by omega⟩
        have hEz := bE.lt
        have hSz := bG.lt
        clear bG
        go_wp2_with fail
        go_loopw [9, 10] (fun v i wr => ∃ (b : Bool) (k : Nat), k ≤ n ∧ i = .int .i64 k ∧ v = .bool b ∧ ∃ (u : Value) (fs : List Edg), Acc w wB wr R (w.heap.size + 1 + 1) (M + 5) a p u fs ∧ fs.length + b.toNat ≤ k + 1 ∧ Hid (Few p fs)) (fun _ i _ => n - (intOf i).toNat)
        case atStart => exact ⟨b, 0, Nat.zero_le _, rfl, rfl, _, [], hacc, by cases b <;> decide, few_nil p⟩
        case round =>
          clear hacc
          obtain ⟨b, k, hk, rfl, rfl, u, fs, hacc, hlen, hfw⟩ := hrel
          have bS1 := bS.frm hacc.fr (by omega)
          have bE1 := bE.frm hacc.fr (by omega)
          have cS := bS1.cell
          have hxyl : (0 ≤ (x : Int) ∧ (x : Int) < p) ∧ (0 ≤ (l : Int) ∧ (l : Int) < 6) ∧ (0 ≤ (y : Int) ∧ (y : Int) < p) := by omega
          by_cases hlt : k < n
          · obtain ⟨b0, o0, ed, rfl, hlo, hhi, he, c0, c1, c2⟩ := (hr0.dr hacc.dr (by omega)).edge hlt
            have hedf := hide (Hfew.out ed (List.mem_of_getElem? he.out))
            go_upto_region 11 with fail
            clear cS
            go_cut [67] (fun s wx => ∃ q : Bool, s = .bool q ∧ (q = true → b = true) ∧ Ext wr wx)
            case first =>
              have cS : ∀ W, Ext wr W → ∀ q, W.cell? ⟨w.heap.size, q, none⟩ = #[Value.int .i64 a, .int .i64 p, .slice (some ⟨b0, o0, none⟩) n c][q]? := fun W hW => (bS1.ext hW).cell
              have cE : ∀ W, Ext wr W → ∀ q, W.cell? ⟨E, q, none⟩ = #[Value.int .i64 x, .int .i64 l, .int .i64 y][q]? := fun W hW => (bE1.ext hW).cell
              have C0 : ∀ W, Ext wr W → W.cell? ⟨b0, o0 + k * 3, none⟩ = some (.int .i64 ed.fr) := fun W hW => hW.cell_some c0
              have C1 : ∀ W, Ext wr W → W.cell? ⟨b0, o0 + k * 3 + 1, none⟩ = some (.int .i64 ed.le) := fun W hW => hW.cell_some c1
              have C2 : ∀ W, Ext wr W → W.cell? ⟨b0, o0 + k * 3 + 2, none⟩ = some (.int .i64 ed.to) := fun W hW => hW.cell_some c2
              have hww := Ext.refl wr
              cases b
              · go_wp2_with fail
                go_quiet (fail)
                go_wp2_with fail
                go_meet
                exact ⟨false, rfl, fun h => h, (Ext.refl _).drewN _⟩
              · go_wp2_with fail
                go_region_held3 (fun W => Ext wr W) (first | assumption | (refine Ext.drew ?_; assumption) | (refine Ext.trans ?_ (by assumption); assumption) | (refine Ext.trans ?_ (by assumption); refine Ext.drew ?_; assumption)) ((go_at_call 47; refine (spec_l2Before (a := ⟨x, l, y⟩) (b := ed)).mono ?_; rintro e w5 ⟨rfl, hx5⟩))
                go_wp2_with fail
                go_meet
                exact ⟨_, rfl, fun _ => by trivial, by assumption⟩
            case rest =>
              obtain ⟨q, rfl, hq, hxc⟩ := hcut
              replace hacc := hacc.ext hxc
              replace bE1 := bE1.ext hxc
              go_upto_if 67 with fail
              go_cut [9] (fun s9 wx => ∃ (b : Bool) (u : Value) (fs : List Edg), s9 = .bool b ∧ Acc w wB wx R (w.heap.size + 1 + 1) (M + 5) a p u fs ∧ fs.length + b.toNat ≤ k + 1 ∧ Hid (Few p fs))
              case first =>
                cases q
                · go_wp2_with fail
                  go_meet
                  exact ⟨b, u, fs, rfl, hacc, hlen, hfw⟩
                · obtain rfl := hq rfl
                  have cG := hacc.blk.cell
                  have cE := bE1.cell
                  simp only [Bool.toNat_true] at hlen
                  clear hq
                  go_wp2_with (at_builtin; refine wpList_push3 wB _ rfl _ _ _ rfl 65 _ 3 24 Try.underlying33 info_edge rfl (by decide) u fs.length (edgeCells fs) _ _ rfl rfl hacc.fr.size hacc.own rfl (by simp [Value.oneCell']) (by unfold maxLen; omega) (by omega) ?_; intro g cap w3 hown3 hg3 hat3 hlt3; obtain ⟨h1, h2, h3⟩ := hacc.push (e := ⟨x, l, y⟩) hown3 hg3 hat3; have h1' := h1.out)
                  go_meet
                  exact ⟨false, _, _, rfl, h3, by simp; omega, few_snoc hfw.out hxyl⟩
              case rest =>
                clear hacc hlen hfw bS1 bE1 c0 c1 c2 hxc hq
                obtain ⟨b, u, fs, rfl, hacc, hlen, hfw⟩ := hcut
                obtain ⟨wr, hwr⟩ : ∃ wr, wr = wc := ⟨_, rfl⟩
                subst hwr
                have bS1 := bS.frm hacc.fr (by omega)
                have bE1 := bE.frm hacc.fr (by omega)
                obtain ⟨c0, c1, c2⟩ := (hr0.dr hacc.dr (by omega)).edge2 he.out
                go_upto_region 14 with fail
                go_cut [83] (fun s wx => ∃ q : Bool, s = .bool q ∧ Ext wr wx)
                case first =>
                  have cS : ∀ W, Ext wr W → ∀ q, W.cell? ⟨w.heap.size, q, none⟩ = #[Value.int .i64 a, .int .i64 p, .slice (some ⟨b0, o0, none⟩) n c][q]? := fun W hW => (bS1.ext hW).cell
                  have cE : ∀ W, Ext wr W → ∀ q, W.cell? ⟨E, q, none⟩ = #[Value.int .i64 x, .int .i64 l, .int .i64 y][q]? := fun W hW => (bE1.ext hW).cell
                  have C0 : ∀ W, Ext wr W → W.cell? ⟨b0, o0 + k * 3, none⟩ = some (.int .i64 ed.fr) := fun W hW => hW.cell_some c0
                  have C1 : ∀ W, Ext wr W → W.cell? ⟨b0, o0 + k * 3 + 1, none⟩ = some (.int .i64 ed.le) := fun W hW => hW.cell_some c1
                  have C2 : ∀ W, Ext wr W → W.cell? ⟨b0, o0 + k * 3 + 2, none⟩ = some (.int .i64 ed.to) := fun W hW => hW.cell_some c2
                  have hww := Ext.refl wr
                  cases b
                  · go_wp2_with fail
                    go_quiet (fail)
                    go_wp2_with fail
                    go_meet
                    exact ⟨false, rfl, (Ext.refl _).drewN _⟩
                  · go_wp2_with fail
                    refine wp_region_ord (fun X => Ext wr X) [0, 1, 2, 3, 4, 5, 6, 7, 8, 9] (by kernel_rfl) rfl (by kernel_rfl) (by kernel_rfl) (fun _ _ _ _ _ h => h) (by first | assumption | exact (Ext.refl _).drew | (refine Ext.drew ?_; assumption)) (fun hS => ?_)
                    repeat (first | (refine seq_skip rfl rfl (by assumption) ?_; simp only [Act.put, List.setIfInBounds_toArray, List.set_cons_zero, List.set_cons_succ]) | (refine seq_read (v := ?_) rfl rfl rfl (fun X hX => ?_) (by assumption) ?_; rotate_left; (focus (go_simp <;> with_reducible rfl)); simp only [Act.put, List.setIfInBounds_toArray, List.set_cons_zero, List.set_cons_succ]))
                    have HE := eq_edge (x : Int) (l : Int) (y : Int) ed.fr ed.le ed.to
                    refine seq_read (v := .bool (((x : Int) == ed.fr) && (((l : Int) == ed.le) && ((y : Int) == ed.to)))) rfl rfl rfl (fun X hX => ?_) (by assumption) ?_
                    · go_simp
                    · clear HE
                      (try simp only [Act.put, List.setIfInBounds_toArray, List.set_cons_zero, List.set_cons_succ])
                      generalize (((x : Int) == ed.fr) && (((l : Int) == ed.le) && ((y : Int) == ed.to))) = q
                      repeat (first | (refine seq_skip rfl rfl (by assumption) ?_; simp only [Act.put, List.setIfInBounds_toArray, List.set_cons_zero, List.set_cons_succ]) | (refine seq_read (v := ?_) rfl rfl rfl (fun X hX => ?_) (by assumption) ?_; rotate_left; (focus (go_simp <;> with_reducible rfl)); simp only [Act.put, List.setIfInBounds_toArray, List.set_cons_zero, List.set_cons_succ]))
                      refine seq_nil ?_
                      go_wp2_with fail
                      go_meet
                      exact ⟨_, rfl, (Ext.refl _).drew⟩
                case rest =>
                  obtain ⟨q, rfl, hxc⟩ := hcut
                  replace hacc := hacc.ext hxc
                  replace bS1 := bS1.ext hxc
                  replace c0 := hxc.cell_some c0
                  replace c1 := hxc.cell_some c1
                  replace c2 := hxc.cell_some c2
                  clear bE1 hxc
                  go_upto_if 83 with fail
                  go_cut [9] (fun s9 wx => ∃ b' : Bool, s9 = .bool b' ∧ b'.toNat ≤ b.toNat ∧ wc = wx)
                  case first =>
                    cases q
                    · go_wp2_with fail
                      go_meet
                      exact ⟨b, rfl, Nat.le_refl _, rfl⟩
                    · go_wp2_with fail
                      go_meet
                      exact ⟨false, rfl, Nat.zero_le _, rfl⟩
                  case rest =>
                    obtain ⟨b', rfl, hbb, hwc⟩ := hcut
                    subst hwc
                    by_cases hgo : k = gone
                    · have hne : ((k : Int) != (gone : Int)) = false := by simp [hgo]
                      have Hgo := hide hgo
                      clear hgo
                      go_wp2_with fail
                      go_roundw
                      case rel => exact ⟨b', k + 1, by omega, by go_num, rfl, u, fs, hacc, by omega, hfw⟩
                      case measure => simp [intOf]; omega
                    · have hne : ((k : Int) != (gone : Int)) = true := by simp; omega
                      clear hgo
                      obtain ⟨wr, hwr⟩ : ∃ wr, wr = wc := ⟨_, rfl⟩
                      subst hwr
                      have cS : ∀ W, Ext wr W → ∀ q, W.cell? ⟨w.heap.size, q, none⟩ = #[Value.int .i64 a, .int .i64 p, .slice (some ⟨b0, o0, none⟩) n c][q]? := fun W hW => (bS1.ext hW).cell
                      have cG : ∀ W, Ext wr W → ∀ q, W.cell? ⟨w.heap.size + 1 + 1, q, none⟩ = #[Value.int .i64 a, .int .i64 p, u][q]? := fun W hW => (hacc.blk.ext hW).cell
                      have C0 : ∀ W, Ext wr W → W.cell? ⟨b0, o0 + k * 3, none⟩ = some (.int .i64 ed.fr) := fun W hW => hW.cell_some c0
                      have C1 : ∀ W, Ext wr W → W.cell? ⟨b0, o0 + k * 3 + 1, none⟩ = some (.int .i64 ed.le) := fun W hW => hW.cell_some c1
                      have C2 : ∀ W, Ext wr W → W.cell? ⟨b0, o0 + k * 3 + 2, none⟩ = some (.int .i64 ed.to) := fun W hW => hW.cell_some c2
                      go_wp2_with fail
                      refine wp_region_tail (fun X => Ext wr X) [8, 10] (Ord.of [0, 1, 2, 3, 4, 5, 6, 7, 8, 9, 10]) (by kernel_rfl) rfl (by kernel_rfl) (by kernel_rfl) (by kernel_rfl) (fun _ _ _ _ _ h => h) (by first | assumption | exact (Ext.refl _).drew | exact (Dr.refl _ _).drew | (refine Ext.drew ?_; assumption)) ?_
                      repeat (first | (refine tseq_skip rfl rfl (by assumption) ?_; simp only [Act.put, List.setIfInBounds_toArray, List.set_cons_zero, List.set_cons_succ]) | (refine tseq_pure (v := ?_) rfl rfl rfl rfl (fun X => ?_) ?_; rotate_left; (focus (go_simp <;> with_reducible rfl)); simp only [Act.put, List.setIfInBounds_toArray, List.set_cons_zero, List.set_cons_succ]) | (refine tseq_read (v := ?_) rfl rfl rfl rfl (fun X hX => ?_) ?_; rotate_left; (focus (go_simp <;> with_reducible rfl)); simp only [Act.put, List.setIfInBounds_toArray, List.set_cons_zero, List.set_cons_succ]))
                      (refine tseq_step rfl rfl rfl (fun K hK => ?_); go_simp)
                      refine hK.out _ _ ((Ext.refl _).drew.alloc _) ?_
                      (try simp only [Act.put, List.setIfInBounds_toArray, List.set_cons_zero, List.set_cons_succ])
                      (refine tseq_last rfl rfl rfl rfl (fun K hK => ?_))
                      refine wp_push wB wr.drew _ _ _ rfl 65 _ 3 24 Try.underlying33 info_edge rfl (by decide) u fs.length (edgeCells fs) _ _ rfl rfl hacc.fr.size hacc.own rfl (by simp [Value.oneCell']) (by unfold maxLen; omega) (by omega) ?_
                      intro g cap w3 hown3 hg3 hat3 hlt3
                      refine hK.out _ _ ?_
                      (try simp only [Act.put, List.setIfInBounds_toArray, List.set_cons_zero, List.set_cons_succ])
                      repeat (first | (refine tseq_skip rfl rfl (by assumption) ?_; simp only [Act.put, List.setIfInBounds_toArray, List.set_cons_zero, List.set_cons_succ]) | (refine tseq_pure (v := ?_) rfl rfl rfl rfl (fun X => ?_) ?_; rotate_left; (focus (go_simp <;> with_reducible rfl)); simp only [Act.put, List.setIfInBounds_toArray, List.set_cons_zero, List.set_cons_succ]) | (refine tseq_read (v := ?_) rfl rfl rfl rfl (fun X hX => ?_) ?_; rotate_left; (focus (go_simp <;> with_reducible rfl)); simp only [Act.put, List.setIfInBounds_toArray, List.set_cons_zero, List.set_cons_succ]))
                      obtain ⟨h1, h2, h3⟩ := (hacc.ext ((Ext.refl _).drew)).push (e := ed) (W' := w3) hown3 hg3 hat3
                      have h1' := h1.out
                      (refine tseq_last rfl rfl rfl rfl (fun K hK => ?_))
                      go_simp
                      refine hK.out _ _ ?_
                      refine tseq_nil ?_
                      go_wp2_with fail
                      go_roundw
                      case rel => exact ⟨b', k + 1, by omega, by go_num, rfl, _, _, h3, by simp; omega, few_snoc hfw.out hedf.out⟩
                      case measure => simp [intOf]; omega
          · obtain rfl : k = n := by omega
            go_upto_if 97 with fail
            go_cut [] (fun wx => ∃ (u : Value) (fs : List Edg), Acc w wB wx R (w.heap.size + 1 + 1) (M + 5) a p u fs ∧ fs.length ≤ k + 1 ∧ Hid (Few p fs))
            case first =>
              cases b
              · go_wp2_with fail
                go_meet
                exact ⟨u, fs, hacc, by simpa using hlen, hfw⟩
              · have cG := hacc.blk.cell
                have cE := bE1.cell
                simp only [Bool.toNat_true] at hlen
                go_wp2_with (at_builtin; refine wpList_push3 wB _ rfl _ _ _ rfl 65 _ 3 24 Try.underlying33 info_edge rfl (by decide) u fs.length (edgeCells fs) _ _ rfl rfl hacc.fr.size hacc.own rfl (by simp [Value.oneCell']) (by unfold maxLen; omega) (by omega) ?_; intro g cap w3 hown3 hg3 hat3 hlt3; obtain ⟨h1, h2, h3⟩ := hacc.push (e := ⟨x, l, y⟩) hown3 hg3 hat3; have h1' := h1.out)
                go_meet
                exact ⟨_, _, h3, by simp; omega, few_snoc hfw.out hxyl⟩
            case rest =>
              clear hacc hlen hfw cS bS1 bE1
              obtain ⟨u, fs, hacc, hlen, hfw⟩ := hcut
              obtain ⟨A', n', c', rfl⟩ := hacc.form
              obtain ⟨rfl, _⟩ := hacc.reads
              have hcap := own_cap hacc.own
              have cG := hacc.blk.cell
              have bz2 := bZ.frm hacc.fr (by omega)
              have cz := bz2.cell
              have hzz := bZ.lt
              have fz := bz2.frozen
              obtain ⟨f1, f2, f3⟩ := hacc.fin (Z := w.heap.size + 1) (by omega) (by omega) (.int .i64 a) (.int .i64 p) (.slice A' fs.length c')
              have Hfin := hide (show RetG R (M + 10) (L + 1) w (.returned (.agg #[.int .i64 a, .int .i64 p, .slice A' fs.length c'])) _ from ⟨⟨a, p, fs⟩, A', fs.length, c', rfl, f1, ⟨a, p, rfl, ha, rfl, hp1, hp, hfw.out⟩, by omega, f2.more (by omega), f3⟩)
              clear f1 f2 f3
              go_wp2_with fail
              exact bodyPost_ret (v := .agg #[.int .i64 a, .int .i64 p, .slice A' fs.length c']) (by simp [results, Try.results28, go_sem, cz]) rfl Hfin.out
end Go.Proofs.Ytcmgkekaeafgaaa

namespace Go.Proofs.Ytcmgkekaeafgaaa
open Go Go.RowKit

theorem edgeCells_one (es : List Edg) : ∀ u ∈ edgeCells es, u.oneCell' = true := by
  induction es with
  | nil => intro u h; cases h
  | cons e r ih =>
    intro u h
    simp only [edgeCells, List.mem_cons] at h
    rcases h with rfl | rfl | rfl | h
    · rfl
    · rfl
    · rfl
    · exact ih u h
theorem edgeCells_set {es : List Edg} {k : Nat} {e : Edg} (h : es[k]? = some e) (x : Int) :
    (edgeCells es).set (k * 3) (.int .i64 x) = edgeCells (es.set k ⟨x, e.le, e.to⟩) ∧ (edgeCells es).set (k * 3 + 1) (.int .i64 x) = edgeCells (es.set k ⟨e.fr, x, e.to⟩) ∧ (edgeCells es).set (k * 3 + 2) (.int .i64 x) = edgeCells (es.set k ⟨e.fr, e.le, x⟩) := by
  induction es generalizing k with
  | nil => simp at h
  | cons a r ih =>
    cases k with
    | zero => simp at h; subst h; exact ⟨rfl, rfl, rfl⟩
    | succ k =>
      have := ih (k := k) (by simpa using h)
      have e1 : (k + 1) * 3 = k * 3 + 1 + 1 + 1 := by omega
      refine ⟨?_, ?_, ?_⟩ <;> rw [e1] <;> simp only [edgeCells, List.set_cons_succ]
      · rw [this.1]
      · rw [this.2.1]
      · rw [this.2.2]
section
variable {w0 wB W : World} {R G M : Nat} {al st : Int} {es : List Edg}
/-- A cell of the edges is turned. -/
theorem Acc.turn {g m c j : Nat} {x : Int} {fs : List Edg} (h : Acc w0 wB W R G M al st (.slice (some ⟨g, 0, none⟩) m c) es) (hm : m = es.length) (hs : (edgeCells es).set j (.int .i64 x) = edgeCells fs) (hl : fs.length = es.length) :
    Acc w0 wB (W.setCell ⟨g, j, none⟩ (.int .i64 x)) R G M al st (.slice (some ⟨g, 0, none⟩) m c) fs := by
  have hgG : g ≠ G := h.far rfl
  have hg := (h.own.lt g rfl).1
  have hR := h.hR
  have hB := h.hB
  have hf := Frm.setCell W g j (.int .i64 x)
  refine ⟨h.blk.frm hf (by omega), ?_, h.rd.frm hf (fun k h1 h2 => by omega), h.dr.setNew (by dsimp only; omega) _, ?_, h.hR, h.hB, h.hG⟩
  · have ho := h.own
    rw [← hm] at ho
    have := (ho.stored j (.int .i64 x)).1
    rw [hs] at this
    rw [hl, ← hm]
    exact this
  · exact ⟨h.fr.os, h.fr.tape, h.fr.output, by simpa [World.setCell] using h.fr.size, fun k hk hn => (Below.heap_setCell _ _ _ _ (by dsimp only; omega)).trans (h.fr.block k hk hn)⟩
end
end Go.Proofs.Ytcmgkekaeafgaaa

namespace Go.Proofs.Ytcmgkekaeafgaaa
open Go Go.RowKit
set_option maxHeartbeats 4000000

/-- The copy of a system behind a new variable. -/
theorem wrong_acc {R M G : Nat} {al st : Int} {es : List Edg} {w w1 W : World} {v : Value} (hr : Rd w R M) (hx : Ext w w1) (hR : R < w.heap.size) (hxW : Ext w1 W) (hown : W.ownsRow w1.heap.size 65 3 v es.length (edgeCells es)) (hG : w1.heap.size ≤ G) (hB : Blk W G 35 #[.int .i64 al, .int .i64 st, v]) :
    Acc w w1 W R G M al st v es :=
  ⟨hB, hown, hr.ext (hx.trans hxW), (hx.trans hxW).dr, hxW.toFrm, hR, hx.size, Nat.le_trans hx.size hG⟩
theorem edge_lit (w : World) : (w.alloc (.cells #[] 65)).drew.ownsRow w.heap.size 65 3 (.slice (some ⟨w.heap.size, 0, none⟩) 0 0) 0 [] :=
  World.ownsRow_lit w #[] 0 (Nat.le_refl _) (by unfold maxLen; omega) rfl
theorem edge_own {W : World} {base n : Nat} {v : Value} {es : List Edg} (hn : n = es.length) (h : W.ownsRow base 65 3 v n (edgeCells es)) : W.ownsRow base 65 3 v es.length (edgeCells es) := by
  subst hn
  exact h
theorem wrong_filled {R M G : Nat} {al st : Int} {es : List Edg} {w w1 W : World} {v : Value} (hr : Rd w R M) (hx : Ext w w1) (hR : R < w.heap.size) (hxW : Ext w1 W) (hown : W.ownsRow w1.heap.size 65 3 v es.length (edgeCells es)) (hB : Blk W G 35 #[.int .i64 0, .int .i64 0, .slice none 0 0]) (hG : w1.heap.size ≤ G) :
    ∃ (G' : Nat) (v' : Value), Value.pointer (some ⟨G, 0, none⟩) = .pointer (some ⟨G', 0, none⟩) ∧ w1.heap.size ≤ G' ∧ Acc w w1 (((W.setCell ⟨G, 0, none⟩ (.int .i64 al)).setCell ⟨G, 1, none⟩ (.int .i64 st)).setCell ⟨G, 2, none⟩ v) R G' M al st v' es := by
  have hf := frm_fill W G (.int .i64 al) (.int .i64 st) v
  have hne : ∀ b, v.ownBlock = some b → b ≠ G := by
    rintro b hv rfl
    rcases hown.2 with ⟨rfl, _⟩ | ⟨g, cap, cur, rfl, _, hh, _⟩
    · simp [Value.ownBlock] at hv
    · have hg : g = b := by simpa [Value.ownBlock] using hv
      subst hg
      unfold Blk at hB
      rw [hh] at hB
      injection hB with hB
      injection hB with _ ht
      exact absurd ht (by decide)
  refine ⟨G, v, rfl, hG, wrong_acc hr hx hR ?_ (own_frm hown hf (fun b hv hS => hne b hv hS)) hG (by simpa using ((hB.set_ 0 (.int .i64 al)).set_ 1 (.int .i64 st)).set_ 2 v)⟩
  exact ((hxW.setCell (p := ⟨G, 0, none⟩) hG _).setCell (p := ⟨G, 1, none⟩) hG _).setCell (p := ⟨G, 2, none⟩) hG _
theorem acc_some {w0 wB W : World} {R G M : Nat} {al st : Int} {A : Option Addr} {n c : Nat} {es : List Edg} (h : Acc w0 wB W R G M al st (.slice A n c) es) (hn : 0 < n) : ∃ g, A = some ⟨g, 0, none⟩ := by
  rcases h.own.2 with ⟨hv, h0⟩ | ⟨g, cap, cur, hv, _⟩
  · injection hv with _ h2 _; omega
  · injection hv with h1
    exact ⟨g, h1⟩
set_option maxRecDepth 100000 in
theorem spec_l2Wrong {R M n c L : Nat} {A : Option Addr} {s : Sys} {w : World} (h : Rd w R M) (hM : M ≤ 900000000) (hs : SysIn w R A n s) (hn : n ≤ L) (hL : L ≤ 100000) :
    Calls Try.prog 17 #[.pointer (some ⟨R, 0, none⟩), .agg #[.int .i64 s.al, .int .i64 s.st, .slice A n c]] w (RetA R (M + 10) (L + 1) w) := by
  have hRl := h.lt
  have hr0 := hs.at_.2
  have hen := hide hs.1
  obtain ⟨al, st, es⟩ := s
  simp only at hr0 hen ⊢
  have hx1 : Ext w ((w.alloc (.cells #[.int .i64 al, .int .i64 st, .slice A n c] 35)).alloc (.cells #[.int .i64 0, .int .i64 0, .slice none 0 0] 35)) := ((Ext.refl _).alloc _).alloc _
  obtain ⟨bS, bZ⟩ := ext_blk2 (Ext.refl ((w.alloc (.cells #[.int .i64 al, .int .i64 st, .slice A n c] 35)).alloc (.cells #[.int .i64 0, .int .i64 0, .slice none 0 0] 35)))
  have hsz : ((w.alloc (.cells #[.int .i64 al, .int .i64 st, .slice A n c] 35)).alloc (.cells #[.int .i64 0, .int .i64 0, .slice none 0 0] 35)).heap.size = w.heap.size + 2 := by simp
  have HbS := hide bS
  have HbZ := hide bZ
  have Hx1 := hide hx1
  have Hsz := hide hsz
  clear bS bZ hx1 hsz hs
  go_enter Try.func17, Try.ntmps17
  go_wp2_with fail
  generalize (w.alloc (.cells #[.int .i64 al, .int .i64 st, .slice A n c] 35)).alloc (.cells #[.int .i64 0, .int .i64 0, .slice none 0 0] 35) = w1 at *
  have hz1 : w.heap.size + 2 ≤ w1.heap.size := by rw [Hsz.out]; exact Nat.le_refl _
  go_upto_region 1 with fail
  go_cut [5] (fun s5 wx => ∃ (G : Nat) (v : Value), s5 = .pointer (some ⟨G, 0, none⟩) ∧ w1.heap.size ≤ G ∧ Acc w w1 wx R G M al st v es)
  case first =>
    have cS : ∀ W, Ext w1 W → ∀ q, W.cell? ⟨w.heap.size, q, none⟩ = #[Value.int .i64 al, .int .i64 st, .slice A n c][q]? := fun W hW => (HbS.out.ext hW).cell
    refine wp_region_tail (fun X => Ext w1 X) [10] (Ord.app [0, 1, 2, 3, 5, 6] (Ord.two 4 (Ord.two 7 (Ord.of [8, 9, 10]) 9 (Ord.of [7, 8, 10])) 9 (Ord.of [4, 7, 8, 10]))) (by kernel_rfl) rfl (by kernel_rfl) (by kernel_rfl) (by kernel_rfl) (fun _ _ _ _ _ h => h) (by first | assumption | exact (Ext.refl _).drew | exact (Dr.refl _ _).drew | (refine Ext.drew ?_; assumption)) ?_
    repeat (first | (refine tseq_skip rfl rfl (by assumption) ?_; simp only [Act.put, List.setIfInBounds_toArray, List.set_cons_zero, List.set_cons_succ]) | (refine tseq_pure (v := ?_) rfl rfl rfl rfl (fun X => ?_) ?_; rotate_left; (focus (go_simp <;> with_reducible rfl)); simp only [Act.put, List.setIfInBounds_toArray, List.set_cons_zero, List.set_cons_succ]) | (refine tseq_read (v := ?_) rfl rfl rfl rfl (fun X hX => ?_) ?_; rotate_left; (focus (go_simp <;> with_reducible rfl)); simp only [Act.put, List.setIfInBounds_toArray, List.set_cons_zero, List.set_cons_succ]))
    refine tseq_both rfl rfl rfl rfl (fun K hK => ?_) (fun K hK => ?_)
    · go_simp
      have hx2 : Ext w1 (w1.alloc (.cells #[] 65)).drew := ((Ext.refl w1).alloc _).drew
      have hown : (w1.alloc (.cells #[] 65)).drew.ownsRow w1.heap.size 65 3 (.slice (some ⟨w1.heap.size, 0, none⟩) 0 0) 0 [] := edge_lit w1
      have hz2 : (w1.alloc (.cells #[] 65)).drew.heap.size = w1.heap.size + 1 := by simp
      refine hK.out _ _ hx2 ?_
      (try simp only [Act.put, List.setIfInBounds_toArray, List.set_cons_zero, List.set_cons_succ])
      generalize (w1.alloc (.cells #[] 65)).drew = w2 at *
      refine tseq_both rfl rfl rfl rfl (fun K hK => ?_) (fun K hK => ?_)
      · refine wp_onto _ _ _ _ rfl w1.heap.size 65 _ 3 24 Try.underlying33 info_edge rfl (by decide) (.slice (some ⟨w1.heap.size, 0, none⟩) 0 0) 0 [] rfl hown (R + 1) w.heap.size A n c (edgeCells es) rfl (hr0.ext (Hx1.out.trans hx2)) (edgeCells_one es) (by unfold maxLen; omega) (by omega) hx2.size ?_
        intro v w3 hown3 hg3 hat3
        rw [Nat.zero_add, List.nil_append] at hown3
        obtain ⟨A3, c3, rfl⟩ := own_form hown3
        have hx3 : Ext w1 w3 := hx2.grown hg3 (fun k hk => by simp [Value.ownBlock] at hk; omega)
        refine hK.out _ _ hx3 ?_
        (try simp only [Act.put, List.setIfInBounds_toArray, List.set_cons_zero, List.set_cons_succ])
        repeat (first | (refine tseq_skip rfl rfl (by assumption) ?_; simp only [Act.put, List.setIfInBounds_toArray, List.set_cons_zero, List.set_cons_succ]) | (refine tseq_pure (v := ?_) rfl rfl rfl rfl (fun X => ?_) ?_; rotate_left; (focus (go_simp <;> with_reducible rfl)); simp only [Act.put, List.setIfInBounds_toArray, List.set_cons_zero, List.set_cons_succ]) | (refine tseq_read (v := ?_) rfl rfl rfl rfl (fun X hX => ?_) ?_; rotate_left; (focus (go_simp <;> with_reducible rfl)); simp only [Act.put, List.setIfInBounds_toArray, List.set_cons_zero, List.set_cons_succ]))
        (refine tseq_step rfl rfl rfl (fun K hK => ?_); go_simp)
        refine hK.out _ _ (hx3.alloc _) ?_
        (try simp only [Act.put, List.setIfInBounds_toArray, List.set_cons_zero, List.set_cons_succ])
        repeat (first | (refine tseq_skip rfl rfl (by assumption) ?_; simp only [Act.put, List.setIfInBounds_toArray, List.set_cons_zero, List.set_cons_succ]) | (refine tseq_pure (v := ?_) rfl rfl rfl rfl (fun X => ?_) ?_; rotate_left; (focus (go_simp <;> with_reducible rfl)); simp only [Act.put, List.setIfInBounds_toArray, List.set_cons_zero, List.set_cons_succ]) | (refine tseq_read (v := ?_) rfl rfl rfl rfl (fun X hX => ?_) ?_; rotate_left; (focus (go_simp <;> with_reducible rfl)); simp only [Act.put, List.setIfInBounds_toArray, List.set_cons_zero, List.set_cons_succ]))
        (refine tseq_last rfl rfl rfl rfl (fun K hK => ?_))
        go_simp
        refine hK.out _ _ ?_
        refine tseq_nil ?_
        go_wp2_with fail
        go_meet
        exact ⟨w3.heap.size, .slice A3 n c3, rfl, hx3.size, wrong_acc h Hx1.out hRl (hx3.alloc _) (own_ext (edge_own hen.out hown3) ((Ext.refl _).alloc _)) hx3.size (Blk.new _ _ _)⟩
      · go_simp
        have hx3 := hx2.alloc (.cells #[.int .i64 0, .int .i64 0, .slice none 0 0] 35)
        have hx23 := (Ext.refl w2).alloc (.cells #[.int .i64 0, .int .i64 0, .slice none 0 0] 35)
        have hb3 := Blk.new w2 35 #[.int .i64 0, .int .i64 0, .slice none 0 0]
        replace hown := own_ext hown hx23
        refine hK.out _ _ hx3 ?_
        generalize w2.alloc (.cells #[.int .i64 0, .int .i64 0, .slice none 0 0] 35) = w2' at *
        rw [hz2] at hb3
        have hx2 := hx3
        (try simp only [Act.put, List.setIfInBounds_toArray, List.set_cons_zero, List.set_cons_succ])
        refine tseq_step rfl rfl rfl (fun K hK => ?_)
        refine wp_onto _ _ _ _ rfl w1.heap.size 65 _ 3 24 Try.underlying33 info_edge rfl (by decide) (.slice (some ⟨w1.heap.size, 0, none⟩) 0 0) 0 [] rfl hown (R + 1) w.heap.size A n c (edgeCells es) rfl (hr0.ext (Hx1.out.trans hx2)) (edgeCells_one es) (by unfold maxLen; omega) (by omega) hx2.size ?_
        intro v w3 hown3 hg3 hat3
        rw [Nat.zero_add, List.nil_append] at hown3
        obtain ⟨A3, c3, rfl⟩ := own_form hown3
        have hx3 : Ext w1 w3 := hx2.grown hg3 (fun k hk => by simp [Value.ownBlock] at hk; omega)
        have hb4 : Blk w3 (w1.heap.size + 1) 35 #[.int .i64 0, .int .i64 0, .slice none 0 0] := hb3.frm (Frm.of_grown hg3) (by simp [Value.ownBlock])
        refine hK.out _ _ hx3 ?_
        (try simp only [Act.put, List.setIfInBounds_toArray, List.set_cons_zero, List.set_cons_succ])
        repeat (first | (refine tseq_skip rfl rfl (by assumption) ?_; simp only [Act.put, List.setIfInBounds_toArray, List.set_cons_zero, List.set_cons_succ]) | (refine tseq_pure (v := ?_) rfl rfl rfl rfl (fun X => ?_) ?_; rotate_left; (focus (go_simp <;> with_reducible rfl)); simp only [Act.put, List.setIfInBounds_toArray, List.set_cons_zero, List.set_cons_succ]) | (refine tseq_read (v := ?_) rfl rfl rfl rfl (fun X hX => ?_) ?_; rotate_left; (focus (go_simp <;> with_reducible rfl)); simp only [Act.put, List.setIfInBounds_toArray, List.set_cons_zero, List.set_cons_succ]))
        have cE := hb4.cell
        have fE := hb4.frozen
        (refine tseq_last rfl rfl rfl rfl (fun K hK => ?_))
        go_simp
        refine hK.out _ _ ?_
        refine tseq_nil ?_
        go_wp2_with fail
        go_meet
        exact wrong_filled h Hx1.out hRl hx3 (edge_own hen.out hown3) hb4 (by omega)
    · go_simp
      have hx2 : Ext w1 (w1.alloc (.cells #[.int .i64 0, .int .i64 0, .slice none 0 0] 35)).drew := ((Ext.refl w1).alloc _).drew
      have hb2 : Blk (w1.alloc (.cells #[.int .i64 0, .int .i64 0, .slice none 0 0] 35)).drew w1.heap.size 35 #[.int .i64 0, .int .i64 0, .slice none 0 0] := Blk.new w1 _ _
      have hz2 : (w1.alloc (.cells #[.int .i64 0, .int .i64 0, .slice none 0 0] 35)).drew.heap.size = w1.heap.size + 1 := by simp
      refine hK.out _ _ hx2 ?_
      (try simp only [Act.put, List.setIfInBounds_toArray, List.set_cons_zero, List.set_cons_succ])
      generalize (w1.alloc (.cells #[.int .i64 0, .int .i64 0, .slice none 0 0] 35)).drew = w2 at *
      (refine tseq_step rfl rfl rfl (fun K hK => ?_); go_simp)
      have hx3 := hx2.alloc (.cells #[] 65)
      have hown : (w2.alloc (.cells #[] 65)).ownsRow w1.heap.size 65 3 (.slice (some ⟨w1.heap.size + 1, 0, none⟩) 0 0) 0 [] := by
        rw [← hz2]
        exact World.ownsRow_lit w2 #[] 0 hx2.size (by unfold maxLen; omega) rfl
      have hb3 := hb2.ext ((Ext.refl w2).alloc (.cells #[] 65))
      refine hK.out _ _ hx3 ?_
      generalize w2.alloc (.cells #[] 65) = w3 at *
      (try simp only [Act.put, List.setIfInBounds_toArray, List.set_cons_zero, List.set_cons_succ])
      refine tseq_step rfl rfl rfl (fun K hK => ?_)
      refine wp_onto _ _ _ _ rfl w1.heap.size 65 _ 3 24 Try.underlying33 info_edge rfl (by decide) (.slice (some ⟨w1.heap.size + 1, 0, none⟩) 0 0) 0 [] rfl hown (R + 1) w.heap.size A n c (edgeCells es) rfl (hr0.ext (Hx1.out.trans hx3)) (edgeCells_one es) (by unfold maxLen; omega) (by omega) hx3.size ?_
      intro v w4 hown4 hg4 hat4
      rw [Nat.zero_add, List.nil_append] at hown4
      obtain ⟨A4, c4, rfl⟩ := own_form hown4
      have hx4 : Ext w1 w4 := hx3.grown hg4 (fun k hk => by simp [Value.ownBlock] at hk; omega)
      have hb4 : Blk w4 w1.heap.size 35 #[.int .i64 0, .int .i64 0, .slice none 0 0] := hb3.frm (Frm.of_grown hg4) (by simp [Value.ownBlock])
      refine hK.out _ _ hx4 ?_
      (try simp only [Act.put, List.setIfInBounds_toArray, List.set_cons_zero, List.set_cons_succ])
      repeat (first | (refine tseq_skip rfl rfl (by assumption) ?_; simp only [Act.put, List.setIfInBounds_toArray, List.set_cons_zero, List.set_cons_succ]) | (refine tseq_pure (v := ?_) rfl rfl rfl rfl (fun X => ?_) ?_; rotate_left; (focus (go_simp <;> with_reducible rfl)); simp only [Act.put, List.setIfInBounds_toArray, List.set_cons_zero, List.set_cons_succ]) | (refine tseq_read (v := ?_) rfl rfl rfl rfl (fun X hX => ?_) ?_; rotate_left; (focus (go_simp <;> with_reducible rfl)); simp only [Act.put, List.setIfInBounds_toArray, List.set_cons_zero, List.set_cons_succ]))
      have cE := hb4.cell
      have fE := hb4.frozen
      (refine tseq_last rfl rfl rfl rfl (fun K hK => ?_))
      go_simp
      refine hK.out _ _ ?_
      refine tseq_nil ?_
      go_wp2_with fail
      go_meet
      exact wrong_filled h Hx1.out hRl hx4 (edge_own hen.out hown4) hb4 (Nat.le_refl _)
  case rest =>
    obtain ⟨G, v, rfl, hGw, hacc⟩ := hcut
    obtain ⟨A1, n1, c1, rfl⟩ := hacc.form
    obtain ⟨rfl, hsa⟩ := hacc.reads
    have hGz := hacc.hG
    have cG := hacc.blk.cell
    have hln := hsa.2.len
    clear hsa
    have hnL : es.length ≤ L := by have := hen.out; omega
    have HnL := hide hnL
    go_wp2_with fail
    refine (l19Rd_pick (n := es.length) hacc.rd (by omega)).mono ?_
    rintro e w3 ⟨k, rfl, hk1, hk0, hr3, hd3⟩
    replace hacc := hacc.drawn hd3 hr3
    clear hd3 hr3 cG
    have Hk := hide hk1
    clear hk1 hk0
    go_wp2_with fail
    refine (l19Rd_pick (n := 30) hacc.rd (by omega)).mono ?_
    rintro e w4 ⟨y, rfl, -, -, hr4, hd4⟩
    replace hacc := hacc.drawn hd4 hr4
    clear hd4 hr4
    go_upto_block 0 with fail
    go_cut [] (fun wx => ∃ (al st : Int) (v : Value) (fs : List Edg), Acc w w1 wx R G (M + 10) al st v fs ∧ fs.length ≤ L + 1)
    case first =>
      have Hen := hide hln
      clear hln
      have hcases : y = 0 ∨ y = 1 ∨ y = 2 ∨ y = 3 ∨ y = 4 ∨ y = 5 ∨ y = 6 ∨ 7 ≤ y := by omega
      rcases hcases with hy | hy | hy | hy | hy | hy | hy | hy
      · subst hy
        have hy0 : True := trivial
        go_wp2_with fail
        refine (num_lit [64, (-1), 1, 63] 4 #[.int .i64 64, .int .i64 (-1), .int .i64 1, .int .i64 63] rfl rfl (by omega) (by omega) hacc.rd (by omega)).mono ?_
        rintro e w5 ⟨x, -, rfl, hr5, hd5⟩
        replace hacc := (hacc.ext ((Ext.refl _).alloc _)).drawn hd5 hr5
        have cG := hacc.blk.cell
        have fG := hacc.blk.frozen
        go_wp2_with fail
        go_meet
        exact ⟨_, _, _, es, (hacc.setAl x).more (by omega), by have := HnL.out; omega⟩
      · subst hy
        have hy0 : True := trivial
        go_wp2_with fail
        refine (num_lit [0, 17, (-1), 16, 1] 5 #[.int .i64 0, .int .i64 17, .int .i64 (-1), .int .i64 16, .int .i64 1] rfl rfl (by omega) (by omega) hacc.rd (by omega)).mono ?_
        rintro e w5 ⟨x, -, rfl, hr5, hd5⟩
        replace hacc := (hacc.ext ((Ext.refl _).alloc _)).drawn hd5 hr5
        have cG := hacc.blk.cell
        have fG := hacc.blk.frozen
        go_wp2_with fail
        go_meet
        exact ⟨_, _, _, es, (hacc.setSt x).more (by omega), by have := HnL.out; omega⟩
      · subst hy
        by_cases hn0 : 0 < es.length
        · have hk := Hk.out (by omega)
          have hkl : k < es.length := by omega
          obtain ⟨g, rfl⟩ := acc_some hacc hn0
          have hne0 : es.length ≠ 0 := by omega
          have hG1 : R < w1.heap.size := by have := hacc.hR; have := hacc.hB; omega
          have cG : ∀ W, Dr R w4 W → ∀ q, W.cell? ⟨G, q, none⟩ = #[Value.int .i64 al, .int .i64 st, .slice (some ⟨g, 0, none⟩) es.length c1][q]? := fun W hW => (hacc.blk.dr hW (by have := hacc.hG; omega)).cell
          clear hk hne0
          go_wp2_with fail
          refine wp_region_tail (fun X => Dr R w4 X) [8] (Ord.of [0, 1, 2, 3, 4, 5, 6, 7, 8]) (by kernel_rfl) rfl (by kernel_rfl) (by kernel_rfl) (by kernel_rfl) (fun _ _ _ _ _ h => h) (by first | assumption | exact (Ext.refl _).drew | exact (Dr.refl _ _).drew | (refine Ext.drew ?_; assumption)) ?_
          repeat (first | (refine tseq_skip rfl rfl (by assumption) ?_; simp only [Act.put, List.setIfInBounds_toArray, List.set_cons_zero, List.set_cons_succ]) | (refine tseq_pure (v := ?_) rfl rfl rfl rfl (fun X => ?_) ?_; rotate_left; (focus (go_simp <;> with_reducible rfl)); simp only [Act.put, List.setIfInBounds_toArray, List.set_cons_zero, List.set_cons_succ]) | (refine tseq_read (v := ?_) rfl rfl rfl rfl (fun X hX => ?_) ?_; rotate_left; (focus (go_simp <;> with_reducible rfl)); simp only [Act.put, List.setIfInBounds_toArray, List.set_cons_zero, List.set_cons_succ]))
          (refine tseq_step rfl rfl rfl (fun K hK => ?_); go_simp)
          refine hK.out _ _ ((Dr.refl R w4).drew.alloc _) ?_
          (try simp only [Act.put, List.setIfInBounds_toArray, List.set_cons_zero, List.set_cons_succ])
          repeat (first | (refine tseq_skip rfl rfl (by assumption) ?_; simp only [Act.put, List.setIfInBounds_toArray, List.set_cons_zero, List.set_cons_succ]) | (refine tseq_pure (v := ?_) rfl rfl rfl rfl (fun X => ?_) ?_; rotate_left; (focus (go_simp <;> with_reducible rfl)); simp only [Act.put, List.setIfInBounds_toArray, List.set_cons_zero, List.set_cons_succ]) | (refine tseq_read (v := ?_) rfl rfl rfl rfl (fun X hX => ?_) ?_; rotate_left; (focus (go_simp <;> with_reducible rfl)); simp only [Act.put, List.setIfInBounds_toArray, List.set_cons_zero, List.set_cons_succ]))
          (refine tseq_step rfl rfl rfl (fun K hK => ?_); go_simp)
          refine (num_lit (w := w4.drew) [(-1), 16, 0, 2] 4 #[.int .i64 (-1), .int .i64 16, .int .i64 0, .int .i64 2] rfl rfl (by omega) (by omega) (hacc.rd.ext (Ext.refl _).drew) (by omega)).mono ?_
          rintro e w5 ⟨x, -, rfl, hr5, hd5⟩
          have hd45 : Dr R w4 w5 := ((Dr.refl R w4).drew.alloc _).trans hd5
          have hacc5 := hacc.drawn hd45 hr5
          refine hK.out _ _ hd45 ?_
          (try simp only [Act.put, List.setIfInBounds_toArray, List.set_cons_zero, List.set_cons_succ])
          repeat (first | (refine tseq_skip rfl rfl (by assumption) ?_; simp only [Act.put, List.setIfInBounds_toArray, List.set_cons_zero, List.set_cons_succ]) | (refine tseq_pure (v := ?_) rfl rfl rfl rfl (fun X => ?_) ?_; rotate_left; (focus (go_simp <;> with_reducible rfl)); simp only [Act.put, List.setIfInBounds_toArray, List.set_cons_zero, List.set_cons_succ]) | (refine tseq_read (v := ?_) rfl rfl rfl rfl (fun X hX => ?_) ?_; rotate_left; (focus (go_simp <;> with_reducible rfl)); simp only [Act.put, List.setIfInBounds_toArray, List.set_cons_zero, List.set_cons_succ]))
          have hown := hacc5.own
          obtain ⟨o0, c0⟩ := own_cell hown (k * 3) (by omega)
          have f0 := hown.frozenAt (k * 3)
          have hst := hacc5.turn rfl (edgeCells_set (List.getElem?_eq_getElem hkl) x).1 (by simp)
          (refine tseq_last rfl rfl rfl rfl (fun K hK => ?_))
          go_simp
          refine hK.out _ _ ?_
          refine tseq_nil ?_
          go_wp2_with fail
          go_meet
          exact ⟨_, _, _, _, hst.more (by omega), by have := HnL.out; simp; omega⟩
        · have hn1 : es.length = 0 := by omega
          clear hn0
          go_wp2_with fail
          go_meet
          exact ⟨_, _, _, es, hacc.more (by omega), by have := HnL.out; omega⟩
      · subst hy
        by_cases hn0 : 0 < es.length
        · have hk := Hk.out (by omega)
          have hkl : k < es.length := by omega
          obtain ⟨g, rfl⟩ := acc_some hacc hn0
          have hne0 : es.length ≠ 0 := by omega
          have hG1 : R < w1.heap.size := by have := hacc.hR; have := hacc.hB; omega
          have cG : ∀ W, Dr R w4 W → ∀ q, W.cell? ⟨G, q, none⟩ = #[Value.int .i64 al, .int .i64 st, .slice (some ⟨g, 0, none⟩) es.length c1][q]? := fun W hW => (hacc.blk.dr hW (by have := hacc.hG; omega)).cell
          clear hk hne0
          go_wp2_with fail
          refine wp_region_tail (fun X => Dr R w4 X) [8] (Ord.of [0, 1, 2, 3, 4, 5, 6, 7, 8]) (by kernel_rfl) rfl (by kernel_rfl) (by kernel_rfl) (by kernel_rfl) (fun _ _ _ _ _ h => h) (by first | assumption | exact (Ext.refl _).drew | exact (Dr.refl _ _).drew | (refine Ext.drew ?_; assumption)) ?_
          repeat (first | (refine tseq_skip rfl rfl (by assumption) ?_; simp only [Act.put, List.setIfInBounds_toArray, List.set_cons_zero, List.set_cons_succ]) | (refine tseq_pure (v := ?_) rfl rfl rfl rfl (fun X => ?_) ?_; rotate_left; (focus (go_simp <;> with_reducible rfl)); simp only [Act.put, List.setIfInBounds_toArray, List.set_cons_zero, List.set_cons_succ]) | (refine tseq_read (v := ?_) rfl rfl rfl rfl (fun X hX => ?_) ?_; rotate_left; (focus (go_simp <;> with_reducible rfl)); simp only [Act.put, List.setIfInBounds_toArray, List.set_cons_zero, List.set_cons_succ]))
          (refine tseq_step rfl rfl rfl (fun K hK => ?_); go_simp)
          refine hK.out _ _ ((Dr.refl R w4).drew.alloc _) ?_
          (try simp only [Act.put, List.setIfInBounds_toArray, List.set_cons_zero, List.set_cons_succ])
          repeat (first | (refine tseq_skip rfl rfl (by assumption) ?_; simp only [Act.put, List.setIfInBounds_toArray, List.set_cons_zero, List.set_cons_succ]) | (refine tseq_pure (v := ?_) rfl rfl rfl rfl (fun X => ?_) ?_; rotate_left; (focus (go_simp <;> with_reducible rfl)); simp only [Act.put, List.setIfInBounds_toArray, List.set_cons_zero, List.set_cons_succ]) | (refine tseq_read (v := ?_) rfl rfl rfl rfl (fun X hX => ?_) ?_; rotate_left; (focus (go_simp <;> with_reducible rfl)); simp only [Act.put, List.setIfInBounds_toArray, List.set_cons_zero, List.set_cons_succ]))
          (refine tseq_step rfl rfl rfl (fun K hK => ?_); go_simp)
          refine (num_lit (w := w4.drew) [(-1), 16, 0, 3] 4 #[.int .i64 (-1), .int .i64 16, .int .i64 0, .int .i64 3] rfl rfl (by omega) (by omega) (hacc.rd.ext (Ext.refl _).drew) (by omega)).mono ?_
          rintro e w5 ⟨x, -, rfl, hr5, hd5⟩
          have hd45 : Dr R w4 w5 := ((Dr.refl R w4).drew.alloc _).trans hd5
          have hacc5 := hacc.drawn hd45 hr5
          refine hK.out _ _ hd45 ?_
          (try simp only [Act.put, List.setIfInBounds_toArray, List.set_cons_zero, List.set_cons_succ])
          repeat (first | (refine tseq_skip rfl rfl (by assumption) ?_; simp only [Act.put, List.setIfInBounds_toArray, List.set_cons_zero, List.set_cons_succ]) | (refine tseq_pure (v := ?_) rfl rfl rfl rfl (fun X => ?_) ?_; rotate_left; (focus (go_simp <;> with_reducible rfl)); simp only [Act.put, List.setIfInBounds_toArray, List.set_cons_zero, List.set_cons_succ]) | (refine tseq_read (v := ?_) rfl rfl rfl rfl (fun X hX => ?_) ?_; rotate_left; (focus (go_simp <;> with_reducible rfl)); simp only [Act.put, List.setIfInBounds_toArray, List.set_cons_zero, List.set_cons_succ]))
          have hown := hacc5.own
          obtain ⟨o0, c0⟩ := own_cell hown (k * 3 + 2) (by omega)
          have f0 := hown.frozenAt (k * 3 + 2)
          have hst := hacc5.turn rfl (edgeCells_set (List.getElem?_eq_getElem hkl) x).2.2 (by simp)
          (refine tseq_last rfl rfl rfl rfl (fun K hK => ?_))
          go_simp
          refine hK.out _ _ ?_
          refine tseq_nil ?_
          go_wp2_with fail
          go_meet
          exact ⟨_, _, _, _, hst.more (by omega), by have := HnL.out; simp; omega⟩
        · have hn1 : es.length = 0 := by omega
          clear hn0
          go_wp2_with fail
          go_meet
          exact ⟨_, _, _, es, hacc.more (by omega), by have := HnL.out; omega⟩
      · subst hy
        by_cases hn0 : 0 < es.length
        · have hk := Hk.out (by omega)
          have hkl : k < es.length := by omega
          obtain ⟨g, rfl⟩ := acc_some hacc hn0
          have hne0 : es.length ≠ 0 := by omega
          have hG1 : R < w1.heap.size := by have := hacc.hR; have := hacc.hB; omega
          have cG : ∀ W, Dr R w4 W → ∀ q, W.cell? ⟨G, q, none⟩ = #[Value.int .i64 al, .int .i64 st, .slice (some ⟨g, 0, none⟩) es.length c1][q]? := fun W hW => (hacc.blk.dr hW (by have := hacc.hG; omega)).cell
          clear hk hne0
          go_wp2_with fail
          refine wp_region_tail (fun X => Dr R w4 X) [8] (Ord.of [0, 1, 2, 3, 4, 5, 6, 7, 8]) (by kernel_rfl) rfl (by kernel_rfl) (by kernel_rfl) (by kernel_rfl) (fun _ _ _ _ _ h => h) (by first | assumption | exact (Ext.refl _).drew | exact (Dr.refl _ _).drew | (refine Ext.drew ?_; assumption)) ?_
          repeat (first | (refine tseq_skip rfl rfl (by assumption) ?_; simp only [Act.put, List.setIfInBounds_toArray, List.set_cons_zero, List.set_cons_succ]) | (refine tseq_pure (v := ?_) rfl rfl rfl rfl (fun X => ?_) ?_; rotate_left; (focus (go_simp <;> with_reducible rfl)); simp only [Act.put, List.setIfInBounds_toArray, List.set_cons_zero, List.set_cons_succ]) | (refine tseq_read (v := ?_) rfl rfl rfl rfl (fun X hX => ?_) ?_; rotate_left; (focus (go_simp <;> with_reducible rfl)); simp only [Act.put, List.setIfInBounds_toArray, List.set_cons_zero, List.set_cons_succ]))
          (refine tseq_step rfl rfl rfl (fun K hK => ?_); go_simp)
          refine hK.out _ _ ((Dr.refl R w4).drew.alloc _) ?_
          (try simp only [Act.put, List.setIfInBounds_toArray, List.set_cons_zero, List.set_cons_succ])
          repeat (first | (refine tseq_skip rfl rfl (by assumption) ?_; simp only [Act.put, List.setIfInBounds_toArray, List.set_cons_zero, List.set_cons_succ]) | (refine tseq_pure (v := ?_) rfl rfl rfl rfl (fun X => ?_) ?_; rotate_left; (focus (go_simp <;> with_reducible rfl)); simp only [Act.put, List.setIfInBounds_toArray, List.set_cons_zero, List.set_cons_succ]) | (refine tseq_read (v := ?_) rfl rfl rfl rfl (fun X hX => ?_) ?_; rotate_left; (focus (go_simp <;> with_reducible rfl)); simp only [Act.put, List.setIfInBounds_toArray, List.set_cons_zero, List.set_cons_succ]))
          (refine tseq_step rfl rfl rfl (fun K hK => ?_); go_simp)
          refine (num_lit (w := w4.drew) [(-1), 6, 70, 5, 0] 5 #[.int .i64 (-1), .int .i64 6, .int .i64 70, .int .i64 5, .int .i64 0] rfl rfl (by omega) (by omega) (hacc.rd.ext (Ext.refl _).drew) (by omega)).mono ?_
          rintro e w5 ⟨x, -, rfl, hr5, hd5⟩
          have hd45 : Dr R w4 w5 := ((Dr.refl R w4).drew.alloc _).trans hd5
          have hacc5 := hacc.drawn hd45 hr5
          refine hK.out _ _ hd45 ?_
          (try simp only [Act.put, List.setIfInBounds_toArray, List.set_cons_zero, List.set_cons_succ])
          repeat (first | (refine tseq_skip rfl rfl (by assumption) ?_; simp only [Act.put, List.setIfInBounds_toArray, List.set_cons_zero, List.set_cons_succ]) | (refine tseq_pure (v := ?_) rfl rfl rfl rfl (fun X => ?_) ?_; rotate_left; (focus (go_simp <;> with_reducible rfl)); simp only [Act.put, List.setIfInBounds_toArray, List.set_cons_zero, List.set_cons_succ]) | (refine tseq_read (v := ?_) rfl rfl rfl rfl (fun X hX => ?_) ?_; rotate_left; (focus (go_simp <;> with_reducible rfl)); simp only [Act.put, List.setIfInBounds_toArray, List.set_cons_zero, List.set_cons_succ]))
          have hown := hacc5.own
          obtain ⟨o0, c0⟩ := own_cell hown (k * 3 + 1) (by omega)
          have f0 := hown.frozenAt (k * 3 + 1)
          have hst := hacc5.turn rfl (edgeCells_set (List.getElem?_eq_getElem hkl) x).2.1 (by simp)
          (refine tseq_last rfl rfl rfl rfl (fun K hK => ?_))
          go_simp
          refine hK.out _ _ ?_
          refine tseq_nil ?_
          go_wp2_with fail
          go_meet
          exact ⟨_, _, _, _, hst.more (by omega), by have := HnL.out; simp; omega⟩
        · have hn1 : es.length = 0 := by omega
          clear hn0
          go_wp2_with fail
          go_meet
          exact ⟨_, _, _, es, hacc.more (by omega), by have := HnL.out; omega⟩
      · subst hy
        by_cases hn0 : 0 < es.length
        · have hk := Hk.out (by omega)
          have hkl : k < es.length := by omega
          obtain ⟨g, rfl⟩ := acc_some hacc hn0
          have hne0 : es.length ≠ 0 := by omega
          have hown := hacc.own
          have hE := hide (List.getElem?_eq_getElem hkl)
          obtain ⟨ed, hed⟩ : ∃ ed, Hid (es[k]? = some ed) := ⟨_, hE.out⟩
          obtain ⟨d0, d1, d2⟩ := edgeCells_get hed.out
          have cG : ∀ W, Ext w4 W → ∀ q, W.cell? ⟨G, q, none⟩ = #[Value.int .i64 al, .int .i64 st, .slice (some ⟨g, 0, none⟩) es.length c1][q]? := fun W hW => (hacc.blk.ext hW).cell
          have C0 : ∀ W, Ext w4 W → W.cell? ⟨g, k * 3, none⟩ = some (.int .i64 ed.fr) := fun W hW => hW.cell_some (by rw [hown.cellAt _ (by omega)]; exact d0)
          have C1 : ∀ W, Ext w4 W → W.cell? ⟨g, k * 3 + 1, none⟩ = some (.int .i64 ed.le) := fun W hW => hW.cell_some (by rw [hown.cellAt _ (by omega)]; exact d1)
          have C2 : ∀ W, Ext w4 W → W.cell? ⟨g, k * 3 + 2, none⟩ = some (.int .i64 ed.to) := fun W hW => hW.cell_some (by rw [hown.cellAt _ (by omega)]; exact d2)
          clear hk hne0 d0 d1 d2
          go_wp2_with fail
          refine wp_region_tail (fun X => Ext w4 X) [8, 10] (Ord.of [0, 1, 2, 3, 4, 5, 6, 7, 8, 9, 10]) (by kernel_rfl) rfl (by kernel_rfl) (by kernel_rfl) (by kernel_rfl) (fun _ _ _ _ _ h => h) (by first | assumption | exact (Ext.refl _).drew | exact (Dr.refl _ _).drew | (refine Ext.drew ?_; assumption)) ?_
          repeat (first | (refine tseq_skip rfl rfl (by assumption) ?_; simp only [Act.put, List.setIfInBounds_toArray, List.set_cons_zero, List.set_cons_succ]) | (refine tseq_pure (v := ?_) rfl rfl rfl rfl (fun X => ?_) ?_; rotate_left; (focus (go_simp <;> with_reducible rfl)); simp only [Act.put, List.setIfInBounds_toArray, List.set_cons_zero, List.set_cons_succ]) | (refine tseq_read (v := ?_) rfl rfl rfl rfl (fun X hX => ?_) ?_; rotate_left; (focus (go_simp <;> with_reducible rfl)); simp only [Act.put, List.setIfInBounds_toArray, List.set_cons_zero, List.set_cons_succ]))
          (refine tseq_step rfl rfl rfl (fun K hK => ?_); go_simp)
          refine hK.out _ _ ((Ext.refl _).drew.alloc _) ?_
          (try simp only [Act.put, List.setIfInBounds_toArray, List.set_cons_zero, List.set_cons_succ])
          (refine tseq_last rfl rfl rfl rfl (fun K hK => ?_))
          refine wp_push w1 w4.drew _ _ _ rfl 65 _ 3 24 Try.underlying33 info_edge rfl (by decide) (.slice (some ⟨g, 0, none⟩) es.length c1) es.length (edgeCells es) _ _ rfl rfl hacc.fr.size hown rfl (by simp [Value.oneCell']) (by unfold maxLen; omega) (by omega) ?_
          intro g5 cap5 w5 hown5 hg5 hat5 hlt5
          refine hK.out _ _ ?_
          (try simp only [Act.put, List.setIfInBounds_toArray, List.set_cons_zero, List.set_cons_succ])
          repeat (first | (refine tseq_skip rfl rfl (by assumption) ?_; simp only [Act.put, List.setIfInBounds_toArray, List.set_cons_zero, List.set_cons_succ]) | (refine tseq_pure (v := ?_) rfl rfl rfl rfl (fun X => ?_) ?_; rotate_left; (focus (go_simp <;> with_reducible rfl)); simp only [Act.put, List.setIfInBounds_toArray, List.set_cons_zero, List.set_cons_succ]) | (refine tseq_read (v := ?_) rfl rfl rfl rfl (fun X hX => ?_) ?_; rotate_left; (focus (go_simp <;> with_reducible rfl)); simp only [Act.put, List.setIfInBounds_toArray, List.set_cons_zero, List.set_cons_succ]))
          obtain ⟨h1, h2, h3⟩ := (hacc.ext ((Ext.refl _).drew)).push (e := ed) (W' := w5) hown5 hg5 hat5
          have h1' := h1.out
          (refine tseq_last rfl rfl rfl rfl (fun K hK => ?_))
          go_simp
          refine hK.out _ _ ?_
          refine tseq_nil ?_
          go_wp2_with fail
          go_meet
          exact ⟨_, _, _, _, h3.more (by omega), by have := HnL.out; simp; omega⟩
        · have hn1 : es.length = 0 := by omega
          clear hn0
          go_wp2_with fail
          go_meet
          exact ⟨_, _, _, es, hacc.more (by omega), by have := HnL.out; omega⟩
      · subst hy
        have hG1 : R < w1.heap.size := by have := hacc.hR; have := hacc.hB; omega
        have cG : ∀ W, Dr R w4 W → ∀ q, W.cell? ⟨G, q, none⟩ = #[Value.int .i64 al, .int .i64 st, .slice A1 es.length c1][q]? := fun W hW => (hacc.blk.dr hW (by have := hacc.hG; omega)).cell
        go_wp2_with fail
        refine wp_region_tail (fun X => Dr R w4 X) [10, 12] (Ord.of [0, 1, 2, 4, 6, 3, 5, 7, 8, 9, 10, 11, 12]) (by kernel_rfl) rfl (by kernel_rfl) (by kernel_rfl) (by kernel_rfl) (fun _ _ _ _ _ h => h) (by first | assumption | exact (Ext.refl _).drew | exact (Dr.refl _ _).drew | (refine Ext.drew ?_; assumption)) ?_
        repeat (first | (refine tseq_skip rfl rfl (by assumption) ?_; simp only [Act.put, List.setIfInBounds_toArray, List.set_cons_zero, List.set_cons_succ]) | (refine tseq_pure (v := ?_) rfl rfl rfl rfl (fun X => ?_) ?_; rotate_left; (focus (go_simp <;> with_reducible rfl)); simp only [Act.put, List.setIfInBounds_toArray, List.set_cons_zero, List.set_cons_succ]) | (refine tseq_read (v := ?_) rfl rfl rfl rfl (fun X hX => ?_) ?_; rotate_left; (focus (go_simp <;> with_reducible rfl)); simp only [Act.put, List.setIfInBounds_toArray, List.set_cons_zero, List.set_cons_succ]))
        (refine tseq_step rfl rfl rfl (fun K hK => ?_); go_simp)
        refine (l19Rd_pick (n := 4) (hacc.rd.ext (Ext.refl _).drew) (by omega)).mono ?_
        rintro e w5 ⟨x, rfl, -, -, hr5, hd5⟩
        replace hd5 := ((Dr.refl R w4).drew).trans hd5
        refine hK.out _ _ hd5 ?_
        (try simp only [Act.put, List.setIfInBounds_toArray, List.set_cons_zero, List.set_cons_succ])
        repeat (first | (refine tseq_skip rfl rfl (by assumption) ?_; simp only [Act.put, List.setIfInBounds_toArray, List.set_cons_zero, List.set_cons_succ]) | (refine tseq_pure (v := ?_) rfl rfl rfl rfl (fun X => ?_) ?_; rotate_left; (focus (go_simp <;> with_reducible rfl)); simp only [Act.put, List.setIfInBounds_toArray, List.set_cons_zero, List.set_cons_succ]) | (refine tseq_read (v := ?_) rfl rfl rfl rfl (fun X hX => ?_) ?_; rotate_left; (focus (go_simp <;> with_reducible rfl)); simp only [Act.put, List.setIfInBounds_toArray, List.set_cons_zero, List.set_cons_succ]))
        (refine tseq_step rfl rfl rfl (fun K hK => ?_); go_simp)
        refine (l19Rd_pick (n := 3) hr5 (by omega)).mono ?_
        rintro e w6 ⟨z, rfl, -, -, hr6, hd6⟩
        replace hd6 := hd5.trans hd6
        refine hK.out _ _ hd6 ?_
        (try simp only [Act.put, List.setIfInBounds_toArray, List.set_cons_zero, List.set_cons_succ])
        repeat (first | (refine tseq_skip rfl rfl (by assumption) ?_; simp only [Act.put, List.setIfInBounds_toArray, List.set_cons_zero, List.set_cons_succ]) | (refine tseq_pure (v := ?_) rfl rfl rfl rfl (fun X => ?_) ?_; rotate_left; (focus (go_simp <;> with_reducible rfl)); simp only [Act.put, List.setIfInBounds_toArray, List.set_cons_zero, List.set_cons_succ]) | (refine tseq_read (v := ?_) rfl rfl rfl rfl (fun X hX => ?_) ?_; rotate_left; (focus (go_simp <;> with_reducible rfl)); simp only [Act.put, List.setIfInBounds_toArray, List.set_cons_zero, List.set_cons_succ]))
        (refine tseq_step rfl rfl rfl (fun K hK => ?_); go_simp)
        refine (l19Rd_pick (n := 4) hr6 (by omega)).mono ?_
        rintro e w7 ⟨u, rfl, -, -, hr7, hd7⟩
        replace hd7 := hd6.trans hd7
        refine hK.out _ _ hd7 ?_
        have hacc7 := hacc.drawn hd7 hr7
        (try simp only [Act.put, List.setIfInBounds_toArray, List.set_cons_zero, List.set_cons_succ])
        repeat (first | (refine tseq_skip rfl rfl (by assumption) ?_; simp only [Act.put, List.setIfInBounds_toArray, List.set_cons_zero, List.set_cons_succ]) | (refine tseq_pure (v := ?_) rfl rfl rfl rfl (fun X => ?_) ?_; rotate_left; (focus (go_simp <;> with_reducible rfl)); simp only [Act.put, List.setIfInBounds_toArray, List.set_cons_zero, List.set_cons_succ]) | (refine tseq_read (v := ?_) rfl rfl rfl rfl (fun X hX => ?_) ?_; rotate_left; (focus (go_simp <;> with_reducible rfl)); simp only [Act.put, List.setIfInBounds_toArray, List.set_cons_zero, List.set_cons_succ]))
        (refine tseq_step rfl rfl rfl (fun K hK => ?_); go_simp)
        refine hK.out _ _ (hd7.alloc _) ?_
        (try simp only [Act.put, List.setIfInBounds_toArray, List.set_cons_zero, List.set_cons_succ])
        (refine tseq_last rfl rfl rfl rfl (fun K hK => ?_))
        refine wp_push w1 w7 _ _ _ rfl 65 _ 3 24 Try.underlying33 info_edge rfl (by decide) (.slice A1 es.length c1) es.length (edgeCells es) _ _ rfl rfl hacc7.fr.size hacc7.own rfl (by simp [Value.oneCell']) (by unfold maxLen; have := HnL.out; omega) (by have := HnL.out; omega) ?_
        intro g8 cap8 w8 hown8 hg8 hat8 hlt8
        refine hK.out _ _ ?_
        (try simp only [Act.put, List.setIfInBounds_toArray, List.set_cons_zero, List.set_cons_succ])
        repeat (first | (refine tseq_skip rfl rfl (by assumption) ?_; simp only [Act.put, List.setIfInBounds_toArray, List.set_cons_zero, List.set_cons_succ]) | (refine tseq_pure (v := ?_) rfl rfl rfl rfl (fun X => ?_) ?_; rotate_left; (focus (go_simp <;> with_reducible rfl)); simp only [Act.put, List.setIfInBounds_toArray, List.set_cons_zero, List.set_cons_succ]) | (refine tseq_read (v := ?_) rfl rfl rfl rfl (fun X hX => ?_) ?_; rotate_left; (focus (go_simp <;> with_reducible rfl)); simp only [Act.put, List.setIfInBounds_toArray, List.set_cons_zero, List.set_cons_succ]))
        obtain ⟨h1, h2, h3⟩ := hacc7.push (e := ⟨x, z, u⟩) (W' := w8) hown8 hg8 hat8
        have h1' := h1.out
        (refine tseq_last rfl rfl rfl rfl (fun K hK => ?_))
        go_simp
        refine hK.out _ _ ?_
        refine tseq_nil ?_
        go_wp2_with fail
        go_meet
        exact ⟨_, _, _, _, h3.more (by omega), by have := HnL.out; simp; omega⟩
      · have h0 : ((y : Int) == 0) = false := by simp; omega
        have h1 : ((y : Int) == 1) = false := by simp; omega
        have h2 : ((y : Int) == 2) = false := by simp; omega
        have h3 : ((y : Int) == 3) = false := by simp; omega
        have h4 : ((y : Int) == 4) = false := by simp; omega
        have h5 : ((y : Int) == 5) = false := by simp; omega
        have h6 : ((y : Int) == 6) = false := by simp; omega
        clear hy
        go_wp2_with fail
        go_meet
        exact ⟨_, _, _, es, hacc.more (by omega), by have := HnL.out; omega⟩
    case rest =>
      clear hacc
      obtain ⟨al', st', v', fs, hacc, hlen⟩ := hcut
      obtain ⟨A', n', c', rfl⟩ := hacc.form
      obtain ⟨rfl, _⟩ := hacc.reads
      have cG := hacc.blk.cell
      have bz2 := HbZ.out.frm hacc.fr (by omega)
      have cz := bz2.cell
      have hzz := HbZ.out.lt
      have fz := bz2.frozen
      obtain ⟨f1, f2, f3⟩ := hacc.fin (Z := w.heap.size + 1) (by omega) (by omega) (.int .i64 al') (.int .i64 st') (.slice A' fs.length c')
      have Hfin := hide (show RetA R (M + 10) (L + 1) w (.returned (.agg #[.int .i64 al', .int .i64 st', .slice A' fs.length c'])) _ from ⟨⟨al', st', fs⟩, A', fs.length, c', rfl, f1, ⟨hlen, own_cap hacc.own⟩, f2, f3⟩)
      clear f1 f2 f3
      go_wp2_with fail
      exact bodyPost_ret (v := .agg #[.int .i64 al', .int .i64 st', .slice A' fs.length c']) (by simp [results, Try.results17, go_sem, cz]) rfl Hfin.out
end Go.Proofs.Ytcmgkekaeafgaaa

namespace Go.Proofs.Ytcmgkekaeafgaaa
open Go Go.RowKit
set_option maxHeartbeats 4000000

theorem few_more {p q : Nat} {es : List Edg} (h : Few p es) (hq : p ≤ q) : Few q es := fun e he => by
  have := h e he
  omega
end Go.Proofs.Ytcmgkekaeafgaaa

namespace Go.Proofs.Ytcmgkekaeafgaaa
open Go Go.RowKit
set_option maxHeartbeats 4000000

/-- The cells of a system. -/
abbrev sysCells (s : Sys) (A : Option Addr) (n c : Nat) : Array Value := #[.int .i64 s.al, .int .i64 s.st, .slice A n c]
/-- The variables G and H hold the systems s and t; the first two blocks behind w0 are the results. -/
structure Two (w0 W : World) (R G H M : Nat) (s : Sys) (A : Option Addr) (n c : Nat) (t : Sys) (B : Option Addr) (m d : Nat) : Prop where
  z1 : Blk W w0.heap.size 35 #[.int .i64 0, .int .i64 0, .slice none 0 0]
  z2 : Blk W (w0.heap.size + 1) 35 #[.int .i64 0, .int .i64 0, .slice none 0 0]
  va : Blk W G 35 #[.int .i64 s.al, .int .i64 s.st, .slice A n c]
  ia : SysIn W R A n s
  vb : Blk W H 35 #[.int .i64 t.al, .int .i64 t.st, .slice B m d]
  ib : SysIn W R B m t
  rd : Rd W R M
  dr : Dr R w0 W
  hR : R < w0.heap.size
  hG : w0.heap.size + 2 ≤ G
  hH : G < H
section
variable {w0 W W' : World} {R G H M N : Nat} {s t : Sys} {A B : Option Addr} {n c m d : Nat}
theorem Two.ext (h : Two w0 W R G H M s A n c t B m d) (hx : Ext W W') : Two w0 W' R G H M s A n c t B m d :=
  ⟨h.z1.ext hx, h.z2.ext hx, h.va.ext hx, h.ia.ext hx, h.vb.ext hx, h.ib.ext hx, h.rd.ext hx, h.dr.ext hx, h.hR, h.hG, h.hH⟩
theorem Two.more (h : Two w0 W R G H M s A n c t B m d) (hM : M ≤ N) : Two w0 W R G H N s A n c t B m d := { h with rd := h.rd.more hM }
theorem Two.drawn (h : Two w0 W R G H M s A n c t B m d) (hd : Dr R W W') (hr : Rd W' R N) : Two w0 W' R G H N s A n c t B m d :=
  ⟨h.z1.dr hd (by have := h.hR; omega), h.z2.dr hd (by have := h.hR; omega), h.va.dr hd (by have := h.hR; have := h.hG; omega), h.ia.dr hd, h.vb.dr hd (by have := h.hR; have := h.hG; have := h.hH; omega), h.ib.dr hd, hr, h.dr.trans hd, h.hR, h.hG, h.hH⟩
theorem blk_fill {w : World} {Z : Nat} {cs : Array Value} {t : TypeId} (h : Blk w Z t cs) (hc : cs.size = 3) (u0 u1 u2 : Value) : Blk (((w.setCell ⟨Z, 0, none⟩ u0).setCell ⟨Z, 1, none⟩ u1).setCell ⟨Z, 2, none⟩ u2) Z t #[u0, u1, u2] := by
  obtain ⟨l⟩ := cs
  match l, hc with
  | [a, b, c], _ => simpa using ((h.set_ 0 u0).set_ 1 u1).set_ 2 u2
/-- The first variable is set. -/
theorem Two.setA {s' : Sys} {A' : Option Addr} {n' c' : Nat} (h : Two w0 W R G H M s A n c t B m d) (hs : SysIn W R A' n' s') :
    Two w0 (((W.setCell ⟨G, 0, none⟩ (.int .i64 s'.al)).setCell ⟨G, 1, none⟩ (.int .i64 s'.st)).setCell ⟨G, 2, none⟩ (.slice A' n' c')) R G H M s' A' n' c' t B m d := by
  have hf := frm_fill W G (.int .i64 s'.al) (.int .i64 s'.st) (.slice A' n' c')
  have h1 := h.hR; have h2 := h.hG; have h3 := h.hH
  exact ⟨h.z1.frm hf (by omega), h.z2.frm hf (by omega), blk_fill h.va rfl _ _ _, hs.far h.va (by decide) hf, h.vb.frm hf (by omega), h.ib.far h.va (by decide) hf, h.rd.frm hf (fun k a b => by omega),
    ((h.dr.setNew (p := ⟨G, 0, none⟩) (by dsimp only; omega) _).setNew (p := ⟨G, 1, none⟩) (by dsimp only; omega) _).setNew (p := ⟨G, 2, none⟩) (by dsimp only; omega) _, h1, h2, h3⟩
theorem Two.setB {t' : Sys} {B' : Option Addr} {m' d' : Nat} (h : Two w0 W R G H M s A n c t B m d) (hs : SysIn W R B' m' t') :
    Two w0 (((W.setCell ⟨H, 0, none⟩ (.int .i64 t'.al)).setCell ⟨H, 1, none⟩ (.int .i64 t'.st)).setCell ⟨H, 2, none⟩ (.slice B' m' d')) R G H M s A n c t' B' m' d' := by
  have hf := frm_fill W H (.int .i64 t'.al) (.int .i64 t'.st) (.slice B' m' d')
  have h1 := h.hR; have h2 := h.hG; have h3 := h.hH
  exact ⟨h.z1.frm hf (by omega), h.z2.frm hf (by omega), h.va.frm hf (by omega), h.ia.far h.vb (by decide) hf, blk_fill h.vb rfl _ _ _, hs.far h.vb (by decide) hf, h.rd.frm hf (fun k a b => by omega),
    ((h.dr.setNew (p := ⟨H, 0, none⟩) (by dsimp only; omega) _).setNew (p := ⟨H, 1, none⟩) (by dsimp only; omega) _).setNew (p := ⟨H, 2, none⟩) (by dsimp only; omega) _, h1, h2, h3⟩
end
/-- Two systems that were drawn, of whatever values. -/
def RetP (R M L : Nat) (w : World) (e : Ending) (w' : World) : Prop :=
  ∃ (s : Sys) (A : Option Addr) (n c : Nat) (t : Sys) (B : Option Addr) (m d : Nat), e = .returned (.tuple #[.agg #[.int .i64 s.al, .int .i64 s.st, .slice A n c], .agg #[.int .i64 t.al, .int .i64 t.st, .slice B m d]]) ∧
    SysIn w' R A n s ∧ SysIn w' R B m t ∧ (n ≤ L ∧ n ≤ c) ∧ (m ≤ L ∧ m ≤ d) ∧ Rd w' R M ∧ Dr R w w'
/-- Both are handed back. -/
theorem Two.fin {w0 W : World} {R G H M L : Nat} {s t : Sys} {A B : Option Addr} {n c m d : Nat} (h : Two w0 W R G H M s A n c t B m d) (hn : n ≤ L ∧ n ≤ c) (hm : m ≤ L ∧ m ≤ d) :
    RetP R M L w0 (.returned (.tuple #[.agg #[.int .i64 s.al, .int .i64 s.st, .slice A n c], .agg #[.int .i64 t.al, .int .i64 t.st, .slice B m d]]))
      (((((((W.setCell ⟨w0.heap.size, 0, none⟩ (.int .i64 s.al)).setCell ⟨w0.heap.size, 1, none⟩ (.int .i64 s.st)).setCell ⟨w0.heap.size, 2, none⟩ (.slice A n c))).setCell ⟨w0.heap.size + 1, 0, none⟩ (.int .i64 t.al)).setCell ⟨w0.heap.size + 1, 1, none⟩ (.int .i64 t.st)).setCell ⟨w0.heap.size + 1, 2, none⟩ (.slice B m d)) := by
  have h1 := h.hR
  have hf := frm_fill W w0.heap.size (.int .i64 s.al) (.int .i64 s.st) (.slice A n c)
  have z2 := h.z2.frm hf (by omega)
  have ia := h.ia.far h.z1 (by decide) hf
  have ib := h.ib.far h.z1 (by decide) hf
  have rd := h.rd.frm hf (fun k a b => by omega)
  have dr := ((h.dr.setNew (p := ⟨w0.heap.size, 0, none⟩) (Nat.le_refl _) (.int .i64 s.al)).setNew (p := ⟨w0.heap.size, 1, none⟩) (Nat.le_refl _) (.int .i64 s.st)).setNew (p := ⟨w0.heap.size, 2, none⟩) (Nat.le_refl _) (.slice A n c)
  generalize ((W.setCell ⟨w0.heap.size, 0, none⟩ (.int .i64 s.al)).setCell ⟨w0.heap.size, 1, none⟩ (.int .i64 s.st)).setCell ⟨w0.heap.size, 2, none⟩ (.slice A n c) = W1 at *
  have hf := frm_fill W1 (w0.heap.size + 1) (.int .i64 t.al) (.int .i64 t.st) (.slice B m d)
  exact ⟨s, A, n, c, t, B, m, d, rfl, ia.far z2 (by decide) hf, ib.far z2 (by decide) hf, hn, hm, rd.frm hf (fun k a b => by omega),
    ((dr.setNew (p := ⟨w0.heap.size + 1, 0, none⟩) (Nat.le_succ _) _).setNew (p := ⟨w0.heap.size + 1, 1, none⟩) (Nat.le_succ _) _).setNew (p := ⟨w0.heap.size + 1, 2, none⟩) (Nat.le_succ _) _⟩
theorem spec_l6Change {R M n c L : Nat} {A : Option Addr} {s : Sys} {w : World} (h : Rd w R M) (hM : M ≤ 900000000) (hs : SysIn w R A n s) (hg : Good s) (hn : n ≤ L) (hL : L ≤ 100000) :
    Calls Try.prog 28 #[.pointer (some ⟨R, 0, none⟩), .agg #[.int .i64 s.al, .int .i64 s.st, .slice A n c]] w (RetG R (M + 10) (L + 1) w) := by
  obtain ⟨al, st, es⟩ := s
  obtain ⟨a, p, h1, h2, h3, h4, h5, h6⟩ := hg
  simp only at h1 h3 h6
  subst h1; subst h3
  exact spec_l6Change_ h hM hs h2 h4 h5 h6 hn hL
end Go.Proofs.Ytcmgkekaeafgaaa
