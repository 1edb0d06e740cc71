/- spec.l19Cut at blanks hands back one string at the least (printed from XCut). | spec.ParseAutomaton, by its shape, walked. | spec.l14Texts, walked: lists of texts. | spec.l14Draw, by its shape (NOT DONE: the branch over texts is lacking). | spec.l14Any, by its shape. | spec.DrawChainLetters, by its shape. | Plain: products of systems and automata as numbers; the nodes to which a letter leads. No program in sight. | Plain: traces of one system that are none of another; simulation keeps traces, and determinism makes it inclusion. No program in sight. -/
import Derived.Test.YtcmgkekaeafgaaaG09
import Derived.Test.YtcmgkekaeafgaaaG14
import Derived.Test.YtcmgkekaeafgaaaG13
import Derived.Test.YtcmgkekaeafgaaaG07
import Derived.Test.YtcmgkekaeafgaaaG11
import Derived.Test.YtcmgkekaeafgaaaG12
import Derived.Test.YtcmgkekaeafgaaaG04
import Derived.Test.YtcmgkekaeafgaaaG05
import Derived.Test.YtcmgkekaeafgaaaG10
import Derived.Test.YtcmgkekaeafgaaaG08
namespace Go.Proofs.Ytcmgkekaeafgaaa
open Go Go.RowKit
set_option maxHeartbeats 2000000

/-- Strings, one at the least. -/
def RetStrs1 (L N : Nat) (w : World) (e : Ending) (w' : World) : Prop := ∃ (A : Option Addr) (n c : Nat) (l : List ByteArray), e = .returned (.slice A n c) ∧ n = l.length ∧ 0 < n ∧ w'.ownsRow w.heap.size 9 1 (.slice A n c) n (strs l) ∧ (∀ x ∈ l, x.size ≤ L) ∧ n ≤ N ∧ Ext w w'
theorem spec_l19Cut1 {s : ByteArray} {w : World} (hs : s.size ≤ 1000000) :
    Calls Try.prog 42 #[.string s, .int .u8 32] w (RetStrs1 s.size (s.size + 1) w) := by
  go_enter Try.func42, Try.ntmps42
  go_wp2_with fail
  go_loopw [5, 6, 7] (fun v f i wr => ∃ (k m : Nat) (l : List ByteArray), k ≤ s.size + 1 ∧ i = .int .i64 k ∧ m ≤ k ∧ f = .int .i64 m ∧ l.length ≤ k ∧ wr.ownsRow w.heap.size 9 1 v l.length (strs l) ∧ Hid (∀ x ∈ l, x.size ≤ s.size) ∧ Ext w wr ∧ Hid (s.size < k → 0 < l.length)) (fun _ _ i _ => s.size + 1 - (intOf i).toNat)
  case atStart => exact ⟨0, 0, [], Nat.zero_le _, rfl, Nat.le_refl _, rfl, Nat.le_refl _, World.ownsRow_lit w #[] 0 (Nat.le_refl _) (by unfold maxLen; omega) rfl, (fun x hx => by cases hx), (Ext.refl _).alloc _, hide (fun hh => absurd hh (by omega))⟩
  case round =>
    obtain ⟨k, m, l, hk, rfl, hm, rfl, hl, hown, hlx, hext, hpos⟩ := hrel
    by_cases hle : k ≤ s.size
    · have hle' : (k : Int) ≤ (s.size : Int) := by omega
      have hm' : (m : Int) ≤ (k : Int) := by omega
      have hex := hide (show (s.extract m k).size ≤ s.size by rw [ByteArray.size_extract]; omega)
      have hall := hide (show ∀ x ∈ l ++ [s.extract m k], x.size ≤ s.size from fun x hx => by
        rcases List.mem_append.1 hx with h1 | h1
        · exact hlx.out x h1
        · rw [List.mem_singleton.1 h1]; exact hex.out)
      by_cases he : k = s.size
      · have heq : ((k : Int) == (s.size : Int)) = true := by simp [he]
        have He := hide he
        clear he
        go_wp2_with (at_builtin; refine wpList_push w wr rfl _ _ _ rfl 9 _ 1 16 Try.underlying56 info_str rfl (by decide) u5 _ _ _ _ rfl rfl hext hown rfl (cells_str _) (by unfold maxLen; omega) (by omega) ?_; intro v' w1 hext1 hown1 hg1 hat1)
        go_roundw
        case rel => exact ⟨k + 1, k + 1, l ++ [s.extract m k], by omega, by go_num, by omega, by go_num, by simp; omega, by simpa [strs] using hown1, hall.out, by assumption, hide (fun _ => by simp)⟩
        case measure => simp [intOf]; omega
      · have heq : ((k : Int) == (s.size : Int)) = false := by rw [beq_eq_false_iff_ne]; omega
        have hlt : k < s.size := by omega
        have hb := byte_lt s k hlt
        cases hc : ((s[k].toNat : Int) == 32)
        · go_wp2_with fail
          go_roundw
          case rel => exact ⟨k + 1, m, l, by omega, by go_num, by omega, rfl, by omega, hown, hlx, hext, hide (fun hh => absurd hh (by omega))⟩
          case measure => simp [intOf]; omega
        · go_wp2_with (at_builtin; refine wpList_push w wr rfl _ _ _ rfl 9 _ 1 16 Try.underlying56 info_str rfl (by decide) u5 _ _ _ _ rfl rfl hext hown rfl (cells_str _) (by unfold maxLen; omega) (by omega) ?_; intro v' w1 hext1 hown1 hg1 hat1)
          go_roundw
          case rel => exact ⟨k + 1, k + 1, l ++ [s.extract m k], by omega, by go_num, by omega, by go_num, by simp; omega, by simpa [strs] using hown1, hall.out, by assumption, hide (fun _ => by simp)⟩
          case measure => simp [intOf]; omega
    · obtain rfl : k = s.size + 1 := by omega
      obtain ⟨A, c, rfl⟩ := own_form hown
      go_wp2_with fail
      go_ret
      exact ⟨A, _, c, l, rfl, rfl, hpos.out (by omega), hown, hlx.out, by omega, hext⟩

end Go.Proofs.Ytcmgkekaeafgaaa

namespace Go.Proofs.Ytcmgkekaeafgaaa
open Go Go.RowKit
set_option maxHeartbeats 4000000

/-- An automaton and whether it is one. -/
def RetParA (R M L : Nat) (w : World) (e : Ending) (w' : World) : Prop :=
  ∃ (b : Aut) (A : Option Addr) (n c : Nat) (A' : Option Addr) (n' c' : Nat) (ok : Bool), e = .returned (.tuple #[.agg #[.int .i64 b.al, .slice A n c, .slice A' n' c'], .bool ok]) ∧ AutOwn w' w.heap.size A n c A' n' c' b ∧ Hid (BdA L b) ∧ Rd w' R M ∧ Dr R w w'
/-- Nothing is handed back. -/
theorem ret_noA {R M L Z : Nat} {w W : World} (hR : R < w.heap.size) (h : Rd W R M) (hd : Dr R w W) (hZ : w.heap.size ≤ Z) :
    Hid (RetParA R M L w (.returned (.tuple #[.agg #[.int .i64 0, .slice none 0 0, .slice none 0 0], .bool false])) (((W.setCell ⟨Z, 0, none⟩ (.int .i64 0)).setCell ⟨Z, 1, none⟩ (.slice none 0 0)).setCell ⟨Z, 2, none⟩ (.slice none 0 0))) :=
  hide ⟨⟨0, [], []⟩, none, 0, 0, none, 0, 0, false, rfl, ⟨⟨[], World.ownsRow_nil _ _ _ _, RowsOwn.nil _ _⟩, rfl, World.ownsRow_nil _ _ _ _, rfl⟩, hide ⟨Nat.zero_le _, Nat.zero_le _, fun l hl => by simp at hl⟩, h.frm (fillA_frm W Z _ _ _) (fun k hk e => by omega), ((hd.setNew (p := ⟨Z, 0, none⟩) hZ _).setNew (p := ⟨Z, 1, none⟩) hZ _).setNew (p := ⟨Z, 2, none⟩) hZ _⟩

set_option maxRecDepth 100000 in
theorem spec_ParseAutomaton {R M : Nat} {x : ByteArray} {w : World} (h : Rd w R M) (hx : x.size ≤ 1000) :
    Calls Try.prog 29 #[.string x] w (RetParA R M (x.size + 1) w) := by
  have hRl := h.lt
  go_enter Try.func29, Try.ntmps29
  have hx0 := (Ext.refl w).alloc (.cells #[.int .i64 0, .slice none 0 0, .slice none 0 0] 27)
  have bz := Blk.new w 27 #[.int .i64 0, .slice none 0 0, .slice none 0 0]
  have hz0 := bz.lt
  go_wp2_with fail
  generalize w.alloc (.cells #[.int .i64 0, .slice none 0 0, .slice none 0 0] 27) = w0 at *
  refine (spec_l19Cut1 (s := x) (by omega)).mono ?_
  rintro e w1 ⟨B, m, d, l, rfl, hml, hm0, hown1, hlx, hm, hx1⟩
  have Hlx := hide hlx
  have Hml := hide hml
  have hmx : m ≤ 1001 := by omega
  clear hlx hml
  obtain ⟨gB, rfl, hgB, -⟩ := own_some' hown1 hm0
  obtain ⟨ad, x0, hae, -, -, hx0', hc0⟩ := (Reads.of_own hown1).str (k := 0) hm0
  obtain rfl := Option.some.inj hae
  rw [addr_lit, Nat.add_zero] at hc0
  have hm0' : (0 : Int) < (m : Int) := by omega
  go_wp2_with fail
  refine (spec_ParseAlphabet (x := x0)).mono ?_
  rintro e w2 ⟨al, ok1, rfl, ha, hx2⟩
  have hw2 := hx1.trans hx2
  have bz2 := bz.ext hw2
  have cz2 := bz2.cell
  have fz2 := bz2.frozen
  have hno := ret_noA (L := x.size + 1) (M := M) (Z := w.heap.size) hRl (h.ext (hx0.trans hw2)) (hx0.trans hw2).dr (Nat.le_refl _)
  cases ok1
  · go_wp2_with fail
    have hfb := fillA_blk bz2 rfl (.int .i64 0) (.slice none 0 0) (.slice none 0 0)
    have cf := hfb.cell
    exact bodyPost_ret (v := .tuple #[.agg #[.int .i64 0, .slice none 0 0, .slice none 0 0], .bool false]) (by simp [results, Try.results29, go_sem, cf]) rfl hno.out
  · have bG := Blk.new w2 27 #[.int .i64 al, .slice none 0 0, .slice none 0 0]
    have hx3 := (Ext.refl w2).alloc (.cells #[.int .i64 al, .slice none 0 0, .slice none 0 0] 27)
    have hs2 := hw2.size
    have hown2 := own_ext hown1 hx2
    have hcx := hide (show ∀ W, Ext w2 W → Ext w W from fun W hW => (hx0.trans hw2).trans hW)
    go_upto_region 6 with fail
    have hown3 := own_ext hown2 hx3
    have hacc : AccA w0 (w2.alloc (.cells #[.int .i64 al, .slice none 0 0, .slice none 0 0] 27)) R w2.heap.size M al (.slice none 0 0) [] [] (.slice none 0 0) [] := ⟨bG, World.ownsRow_nil _ _ _ _, RowsOwn.nil _ _, World.ownsRow_nil _ _ _ _, (h.ext (hx0.trans hw2)).ext hx3, (hw2.trans hx3).dr, by omega, hs2⟩
    generalize w2.alloc (.cells #[.int .i64 al, .slice none 0 0, .slice none 0 0] 27) = w3 at *
    generalize w2.heap.size = G at *
    clear hno cz2 fz2 hc0 hown2
    go_wp2_with fail
    go_loopw [8] (fun iv wr => ∃ (i : Nat) (v : Value) (rows : List Value) (ls : List (List Int)) (vA : Value) (acc : List Bool), 1 ≤ i ∧ i ≤ m ∧ iv = .int .i64 (i : Nat) ∧ AccA w0 wr R G M al v rows ls vA acc ∧ Hid (ls.length ≤ i - 1) ∧ Hid (acc.length = ls.length) ∧ Hid (∀ l ∈ ls, l.length ≤ x.size + 1) ∧ wr.ownsRow w0.heap.size 9 1 (.slice (some ⟨gB, 0, none⟩) m d) m (strs l)) (fun iv _ => m - (intOf iv).toNat)
    case atStart => exact ⟨1, _, _, [], _, [], Nat.le_refl _, hm0, rfl, hacc, hide (Nat.zero_le _), hide rfl, hide (fun l hl => by simp at hl), hown3⟩
    case round =>
      clear hacc hown3
      obtain ⟨i, v, rows, ls, vA, acc, hi1, hi, rfl, hacc, hln, hal, hlx, hstr⟩ := hrel
      have hno := ret_noA (L := x.size + 1) (M := M) (Z := w.heap.size) hRl hacc.rd (hx0.dr.trans hacc.dr) (Nat.le_refl _)
      have bz3 := bz.dr hacc.dr (by omega)
      by_cases hlt : i < m
      · obtain ⟨ad, xk, hae, -, -, hxk, hck⟩ := (Reads.of_own hstr).str hlt
        obtain rfl := Option.some.inj hae
        rw [addr_lit, Nat.zero_add] at hck
        have hbk := Hlx.out xk (List.mem_of_getElem? hxk.out)
        cases he : xk.toList.isEmpty
        · have h1k : 1 ≤ xk.size := by
            rcases Nat.eq_zero_or_pos xk.size with h0 | h0
            · rw [ByteArray.toList_eq] at he
              have e2 : xk.data.toList.length = xk.size := rfl
              rw [List.eq_nil_of_length_eq_zero (e2.trans h0)] at he
              cases he
            · exact h0
          have h1k' : (1 : Int) ≤ (xk.size : Int) := by omega
          have hex : (xk.extract 1 xk.size).size ≤ x.size := by rw [ByteArray.size_extract]; omega
          go_wp2_with fail
          refine (spec_l3Parse (s := xk.extract 1 xk.size) (by omega)).mono ?_
          rintro e w4 ⟨Ar, nr, cr, lr, ok, rfl, hnr, hor, hnb, hx4⟩
          cases ok
          · have hno4 := ret_noA (L := x.size + 1) (M := M) (Z := w.heap.size) hRl (hacc.rd.ext hx4) ((hx0.dr.trans hacc.dr).ext hx4) (Nat.le_refl _)
            have bz4 := bz3.ext hx4
            have cz := bz4.cell
            have fz := bz4.frozen
            go_wp2_with fail
            have hfb := fillA_blk bz4 rfl (.int .i64 0) (.slice none 0 0) (.slice none 0 0)
            have cf := hfb.cell
            exact bodyPost_ret (v := .tuple #[.agg #[.int .i64 0, .slice none 0 0, .slice none 0 0], .bool false]) (by simp [results, Try.results29, go_sem, cf]) rfl hno4.out
          · subst hnr
            have hlow := hide hacc.low
            have hs1 := hide hacc.dr.size
            have hacc4 := hacc.ext hx4
            have hstr4 := own_ext hstr hx4
            have cG := hacc4.blk.cell
            have hs4 := hacc4.dr.size
            have hlm : ls.length ≤ 1001 := by have := hln.out; omega
            have Hxk := hide hxk.out
            have hno' := hno
            clear hacc hstr hck hno hno'
            go_upto_region 15 with (at_builtin; refine wpList_push3 w0 w4 rfl _ _ _ rfl 52 _ 1 24 Try.underlying24 info_ints rfl (by decide) v ls.length rows _ _ rfl rfl hs4 hacc4.nx rfl (cells_slice _ _ _) (by unfold maxLen; omega) (by omega) ?_; intro g5 cap5 w6 hown6 hg6 hat6 hlt6; obtain ⟨q1, q2, q3⟩ := hacc4.pushRow hlow.out hs1.out hor hown6 hg6 hat6; have q1' := q1.out; have hstr6 := (own_frm hstr4 (Frm.of_grown hg6) (fun b hb hS => own_ne hstr4 hacc4.nx (by decide) hb hS)))
            have hstr7 := own_frm hstr6 (Frm.setCell w6 G 1 (.slice (some ⟨g5, 0, none⟩) (ls.length + 1) cap5)) (fun b hb hS => by
              have hB6 : Blk w6 G 27 #[.int .i64 al, v, vA] := (hg6.block G hacc4.blk.lt (fun e => own_far hacc4.nx hacc4.blk (by decide) e.symm rfl)).trans hacc4.blk
              exact own_far hstr6 hB6 (by decide) hb hS)
            have hln7 := hide (show (ls ++ [lr]).length ≤ i by have := hln.out; simp; omega)
            have hal7 := hide (show acc.length + 1 = (ls ++ [lr]).length by have := hal.out; simp; omega)
            have hlx7 := hide (show ∀ l' ∈ ls ++ [lr], l'.length ≤ x.size + 1 from fun l' hl' => by
              rcases List.mem_append.1 hl' with h1 | h1
              · exact hlx.out l' h1
              · rw [List.mem_singleton.1 h1]; omega)
            clear q1 q1' q2 hown6 hg6 hat6 hlt6 hstr6 hstr4 hacc4 cG hln hal hlx hor
            generalize ls ++ [lr] = ls7 at *
            generalize rows ++ [.slice Ar lr.length cr] = rows7 at *
            generalize w6.setCell ⟨G, 1, none⟩ (.slice (some ⟨g5, 0, none⟩) (ls.length + 1) cap5) = w7 at *
            generalize Value.slice (some ⟨g5, 0, none⟩) (ls.length + 1) cap5 = v7 at *
            obtain ⟨ad7, xk7, hae7, -, -, hxk7, hck7⟩ := (Reads.of_own hstr7).str hlt
            obtain rfl := Option.some.inj hae7
            rw [addr_lit, Nat.zero_add] at hck7
            obtain rfl : xk7 = xk := Option.some.inj (hxk7.out.symm.trans Hxk.out)
            have cG : ∀ W, Ext w7 W → ∀ q, W.cell? ⟨G, q, none⟩ = #[Value.int .i64 al, v7, vA][q]? := fun W hW => (q3.blk.ext hW).cell
            have cS : ∀ W, Ext w7 W → W.cell? ⟨gB, i, none⟩ = some (.string xk7) := fun W hW => hW.cell_some hck7
            have h0k : 0 < xk7.size := by omega
            have h0k' : (0 : Int) < (xk7.size : Int) := by omega
            have hb0 := byte_lt xk7 0 h0k
            obtain ⟨bb, hbb⟩ : ∃ bb, ((xk7[0].toNat : Int) == 43) = bb := ⟨_, rfl⟩
            have hww := Ext.refl w7
            clear hck7 hxk7 Hxk
            refine wp_region_tailU (fun X => Ext w7 X) [9, 11] (OrdU.of [0, 1, 2, 3, 4, 5, 6, 7, 8, 9, 10, 11]) (by kernel_rfl) (by kernel_rfl) (by kernel_rfl) (by kernel_rfl) (by kernel_rfl) (fun _ _ _ _ _ h => h) (by first | assumption | exact (Ext.refl _).drew | (refine Ext.drew ?_; assumption)) ?_
            repeat (first | (refine useq_skip rfl rfl (by assumption) ?_; simp only [Act.put, List.setIfInBounds_toArray, List.set_cons_zero, List.set_cons_succ]) | (refine useq_pure (v := ?_) rfl rfl rfl rfl (fun X => ?_) ?_; rotate_left; (focus (go_simp <;> with_reducible rfl)); simp only [Act.put, List.setIfInBounds_toArray, List.set_cons_zero, List.set_cons_succ]) | (refine useq_read (v := ?_) rfl rfl rfl rfl (fun X hX => ?_) ?_; rotate_left; (focus (go_simp <;> with_reducible rfl)); simp only [Act.put, List.setIfInBounds_toArray, List.set_cons_zero, List.set_cons_succ]))
            have hxd := hww.drew
            (refine useq_step rfl rfl rfl (fun K hK => ?_); go_simp)
            refine hK.out _ _ (hxd.alloc _) ?_
            (try simp only [Act.put, List.setIfInBounds_toArray, List.set_cons_zero, List.set_cons_succ])
            (refine useq_last rfl rfl rfl rfl (fun K hK => ?_))
            have hs7 := q3.dr.size
            have q3d := q3.ext hxd
            have hal8 : acc.length ≤ 1001 := by have := hal7.out; have := hln7.out; omega
            have hstr8 := own_ext hstr7 hxd
            refine wp_push w0 w7.drew _ _ _ rfl 4 _ 1 1 Try.underlying25 info_bool rfl (by decide) vA acc.length (bools acc) _ _ rfl rfl q3d.dr.size q3d.acc rfl (by simp [Value.oneCell']) (by unfold maxLen; omega) (by omega) ?_
            intro g8 cap8 w8 hown8 hg8 hat8 hlt8
            refine hK.out _ _ ?_
            (try simp only [Act.put, List.setIfInBounds_toArray, List.set_cons_zero, List.set_cons_succ])
            repeat (first | (refine useq_skip rfl rfl (by assumption) ?_; simp only [Act.put, List.setIfInBounds_toArray, List.set_cons_zero, List.set_cons_succ]) | (refine useq_pure (v := ?_) rfl rfl rfl rfl (fun X => ?_) ?_; rotate_left; (focus (go_simp <;> with_reducible rfl)); simp only [Act.put, List.setIfInBounds_toArray, List.set_cons_zero, List.set_cons_succ]) | (refine useq_read (v := ?_) rfl rfl rfl rfl (fun X hX => ?_) ?_; rotate_left; (focus (go_simp <;> with_reducible rfl)); simp only [Act.put, List.setIfInBounds_toArray, List.set_cons_zero, List.set_cons_succ]))
            obtain ⟨p1, p2, p3⟩ := q3d.pushAcc (x := bb) (W' := w8) hown8 hg8 hat8
            have p1' := p1.out
            have hstr9 := own_frm hstr8 (Frm.of_grown hg8) (fun b hb hS => own_ne hstr8 q3d.acc (by decide) hb hS)
            have hstr10 := own_frm hstr9 (Frm.setCell w8 G 2 (.slice (some ⟨g8, 0, none⟩) (acc.length + 1) cap8)) (fun b hb hS => by
              have hB8 : Blk w8 G 27 #[.int .i64 al, v7, vA] := (hg8.block G q3d.blk.lt (fun e => own_far q3d.acc q3d.blk (by decide) e.symm rfl)).trans q3d.blk
              exact own_far hstr9 hB8 (by decide) hb hS)
            (refine useq_last rfl rfl rfl rfl (fun K hK => ?_))
            go_simp
            refine hK.out _ _ ?_
            refine useq_nil ?_
            go_wp2_with fail
            go_roundw
            case rel => exact ⟨i + 1, _, _, ls7, _, acc ++ [bb], by omega, by omega, by go_num, p3, hide (by have := hln7.out; omega), hide (by have := hal7.out; simp; omega), hlx7, hstr10⟩
            case measure => simp [intOf]; omega
        · have cz := bz3.cell
          have fz := bz3.frozen
          go_wp2_with fail
          have hfb := fillA_blk bz3 rfl (.int .i64 0) (.slice none 0 0) (.slice none 0 0)
          have cf := hfb.cell
          exact bodyPost_ret (v := .tuple #[.agg #[.int .i64 0, .slice none 0 0, .slice none 0 0], .bool false]) (by simp [results, Try.results29, go_sem, cf]) rfl hno.out
      · obtain ⟨A5, c5, rfl⟩ := own_form hacc.nx
        obtain ⟨B5, d5, rfl⟩ := own_form hacc.acc
        have hat : AutAt wr w0.heap.size wr.heap.size A5 ls.length B5 acc.length (⟨al, ls, acc⟩ : Aut) := ⟨OwnLL.reads ⟨rows, hacc.nx, hacc.rows⟩ rfl, rfl, Reads.of_own hacc.acc⟩
        have cG := hacc.blk.cell
        clear hno
        go_wp2_with fail
        refine (spec_FormatAutomaton (a := ⟨al, ls, acc⟩) hat).mono ?_
        rintro e w4 ⟨tx, rfl, -, hx4⟩
        have hacc4 := hacc.ext hx4
        have hno4 := ret_noA (L := x.size + 1) (M := M) (Z := w.heap.size) hRl (hacc.rd.ext hx4) ((hx0.dr.trans hacc.dr).ext hx4) (Nat.le_refl _)
        have bz4 := bz3.ext hx4
        have cz := bz4.cell
        have fz := bz4.frozen
        have cG4 := hacc4.blk.cell
        clear cG
        cases hne : tx.toList == x.toList
        · go_wp2_with fail
          have hfb := fillA_blk bz4 rfl (.int .i64 0) (.slice none 0 0) (.slice none 0 0)
          have cf := hfb.cell
          exact bodyPost_ret (v := .tuple #[.agg #[.int .i64 0, .slice none 0 0, .slice none 0 0], .bool false]) (by simp [results, Try.results29, go_sem, cf]) rfl hno4.out
        · obtain ⟨f1, f2⟩ := hacc4.fin (N := M) (sh := BdA (x.size + 1)) hx0 bz rfl hRl (Nat.le_refl _) hz0 (Nat.le_refl _) ⟨by have := hln.out; show ls.length ≤ _; omega, by have := hln.out; have := hal.out; show acc.length ≤ _; omega, hlx.out⟩
          go_wp2_with fail
          have cf := f2.cell
          obtain ⟨b, A6, n6, c6, A7, n7, c7, he, ho6, hsh6, hr6, hd6⟩ := f1.out
          exact bodyPost_ret (v := .tuple #[.agg #[.int .i64 al, .slice A5 ls.length c5, .slice B5 acc.length d5], .bool true]) (by simp [results, Try.results29, go_sem, cf]) rfl ⟨b, A6, n6, c6, A7, n7, c7, true, by injection he with he; rw [he], ho6, hsh6, hr6, hd6⟩
end Go.Proofs.Ytcmgkekaeafgaaa

namespace Go.Proofs.Ytcmgkekaeafgaaa
open Go Go.RowKit
set_option maxHeartbeats 2000000

/-- A list of lists of four short texts. -/
def TextsAt (W : World) (base g n : Nat) : Prop :=
  ∀ k < n, ∃ (b : Nat) (l : List ByteArray), W.cell? ⟨g, k, none⟩ = some (.slice (some ⟨b, 0, none⟩) 4 4) ∧ l.length = 4 ∧ (∀ x ∈ l, x.size ≤ 40) ∧ W.ownsRow base 9 1 (.slice (some ⟨b, 0, none⟩) 4 4) 4 (strs l)
def RetTLL (w : World) (e : Ending) (w' : World) : Prop := ∃ g, e = .returned (.slice (some ⟨g, 0, none⟩) 5 5) ∧ w.heap.size ≤ g ∧ TextsAt w' w.heap.size g 5 ∧ Ext w w'
theorem TextsAt.ext {W W' : World} {base g n : Nat} (h : TextsAt W base g n) (hx : Ext W W') : TextsAt W' base g n := fun k hk => by
  obtain ⟨b, l, hc, h1, h2, ho⟩ := h k hk
  exact ⟨b, l, hx.cell_some hc, h1, h2, own_ext ho hx⟩
theorem lit5 (w : World) {u1 u2 u3 u4 u5 : Array Value}
    (h1 : strs (u1.toList.map strOf) = u1.toList) (h2 : strs (u2.toList.map strOf) = u2.toList) (h3 : strs (u3.toList.map strOf) = u3.toList) (h4 : strs (u4.toList.map strOf) = u4.toList) (h5 : strs (u5.toList.map strOf) = u5.toList)
    (k1 : u1.size = 4) (k2 : u2.size = 4) (k3 : u3.size = 4) (k4 : u4.size = 4) (k5 : u5.size = 4)
    (b1 : ∀ x ∈ u1.toList.map strOf, x.size ≤ 40) (b2 : ∀ x ∈ u2.toList.map strOf, x.size ≤ 40) (b3 : ∀ x ∈ u3.toList.map strOf, x.size ≤ 40) (b4 : ∀ x ∈ u4.toList.map strOf, x.size ≤ 40) (b5 : ∀ x ∈ u5.toList.map strOf, x.size ≤ 40) :
    RetTLL w (.returned (.slice (some ⟨w.heap.size + 5, 0, none⟩) 5 5)) ((((((w.alloc (.cells u1 9)).alloc (.cells u2 9)).alloc (.cells u3 9)).alloc (.cells u4 9)).alloc (.cells u5 9)).alloc (.cells #[.slice (some ⟨w.heap.size, 0, none⟩) 4 4, .slice (some ⟨w.heap.size + 1, 0, none⟩) 4 4, .slice (some ⟨w.heap.size + 2, 0, none⟩) 4 4, .slice (some ⟨w.heap.size + 3, 0, none⟩) 4 4, .slice (some ⟨w.heap.size + 4, 0, none⟩) 4 4] 56)) := by
  have o1 := texts_lit w h1 k1 (by omega)
  have x1 := (Ext.refl w).alloc (.cells u1 9)
  have s1 : (w.alloc (.cells u1 9)).heap.size = w.heap.size + 1 := by simp
  generalize w.alloc (.cells u1 9) = w1 at *
  have o2 := texts_lit w1 h2 k2 (by omega)
  have x2 := (Ext.refl w1).alloc (.cells u2 9)
  have s2 : (w1.alloc (.cells u2 9)).heap.size = w.heap.size + 2 := by simp [s1]
  rw [s1] at o2
  generalize w1.alloc (.cells u2 9) = w2 at *
  have o3 := texts_lit w2 h3 k3 (by omega)
  have x3 := (Ext.refl w2).alloc (.cells u3 9)
  have s3 : (w2.alloc (.cells u3 9)).heap.size = w.heap.size + 3 := by simp [s2]
  rw [s2] at o3
  generalize w2.alloc (.cells u3 9) = w3 at *
  have o4 := texts_lit w3 h4 k4 (by omega)
  have x4 := (Ext.refl w3).alloc (.cells u4 9)
  have s4 : (w3.alloc (.cells u4 9)).heap.size = w.heap.size + 4 := by simp [s3]
  rw [s3] at o4
  generalize w3.alloc (.cells u4 9) = w4 at *
  have o5 := texts_lit w4 h5 k5 (by omega)
  have x5 := (Ext.refl w4).alloc (.cells u5 9)
  have s5 : (w4.alloc (.cells u5 9)).heap.size = w.heap.size + 5 := by simp [s4]
  rw [s4] at o5
  generalize w4.alloc (.cells u5 9) = w5 at *
  have bl := Blk.new w5 56 #[.slice (some ⟨w.heap.size, 0, none⟩) 4 4, .slice (some ⟨w.heap.size + 1, 0, none⟩) 4 4, .slice (some ⟨w.heap.size + 2, 0, none⟩) 4 4, .slice (some ⟨w.heap.size + 3, 0, none⟩) 4 4, .slice (some ⟨w.heap.size + 4, 0, none⟩) 4 4]
  have x6 := (Ext.refl w5).alloc (.cells #[.slice (some ⟨w.heap.size, 0, none⟩) 4 4, .slice (some ⟨w.heap.size + 1, 0, none⟩) 4 4, .slice (some ⟨w.heap.size + 2, 0, none⟩) 4 4, .slice (some ⟨w.heap.size + 3, 0, none⟩) 4 4, .slice (some ⟨w.heap.size + 4, 0, none⟩) 4 4] 56)
  rw [s5] at bl
  generalize w5.alloc (.cells #[.slice (some ⟨w.heap.size, 0, none⟩) 4 4, .slice (some ⟨w.heap.size + 1, 0, none⟩) 4 4, .slice (some ⟨w.heap.size + 2, 0, none⟩) 4 4, .slice (some ⟨w.heap.size + 3, 0, none⟩) 4 4, .slice (some ⟨w.heap.size + 4, 0, none⟩) 4 4] 56) = w6 at *
  refine ⟨_, rfl, by omega, fun k hk => ?_, ((((x1.trans x2).trans x3).trans x4).trans x5).trans x6⟩
  have hk' : k = 0 ∨ k = 1 ∨ k = 2 ∨ k = 3 ∨ k = 4 := by omega
  rcases hk' with rfl | rfl | rfl | rfl | rfl
  · exact ⟨_, _, bl.cell 0, by simp [k1], b1, own_ext o1 ((((x2.trans x3).trans x4).trans x5).trans x6)⟩
  · exact ⟨_, _, bl.cell 1, by simp [k2], b2, own_less (own_ext o2 (((x3.trans x4).trans x5).trans x6)) (by omega)⟩
  · exact ⟨_, _, bl.cell 2, by simp [k3], b3, own_less (own_ext o3 ((x4.trans x5).trans x6)) (by omega)⟩
  · exact ⟨_, _, bl.cell 3, by simp [k4], b4, own_less (own_ext o4 (x5.trans x6)) (by omega)⟩
  · exact ⟨_, _, bl.cell 4, by simp [k5], b5, own_less (own_ext o5 x6) (by omega)⟩
set_option maxRecDepth 100000 in
theorem spec_l14Texts {w : World} : Calls Try.prog 26 #[] w (RetTLL w) := by
  go_enter Try.func26, Try.ntmps26
  go_wp2_with fail
  go_ret
  exact lit5 w rfl rfl rfl rfl rfl rfl rfl rfl rfl rfl (by decide +kernel) (by decide +kernel) (by decide +kernel) (by decide +kernel) (by decide +kernel)
end Go.Proofs.Ytcmgkekaeafgaaa

namespace Go.Proofs.Ytcmgkekaeafgaaa
open Go Go.RowKit
set_option maxHeartbeats 4000000

/-- Three systems and an automaton that were drawn. -/
def RetL14 (R M : Nat) (w : World) (e : Ending) (w' : World) : Prop :=
  ∃ (l : List Ent) (g c : Nat) (b : Aut) (A : Option Addr) (n c1 : Nat) (A' : Option Addr) (n' c2 : Nat), l.length = 3 ∧ e = .returned (.tuple #[.slice (some ⟨g, 0, none⟩) 3 c, .agg #[.int .i64 b.al, .slice A n c1, .slice A' n' c2]]) ∧ Sld w w' R M (.slice (some ⟨g, 0, none⟩) 3 c) l ∧ AutOwn w' (R + 1) A n c1 A' n' c2 b ∧ Hid (BdA 50 b) ∧ Hid (∀ e ∈ l, e.n ≤ 40000)
theorem union_le14 {ss : List Sys} (h : areParts ss = true) : unionA ss ≤ 63 := by
  have hv : ∀ s ∈ ss, sysValid s = true := by
    unfold areParts at h
    simp only [Bool.and_eq_true, List.all_eq_true] at h
    exact h.2.2
  have : ∀ n, unionA (ss.take n) ≤ 63 := by
    intro n
    induction n with
    | zero => simp [unionA]
    | succ n ih =>
      rcases Nat.lt_or_ge n ss.length with h1 | h1
      · rw [unionA_succ (List.getElem?_eq_getElem h1)]
        have := sysValid_al (hv _ (List.getElem_mem h1))
        have := Nat.or_lt_two_pow (n := 6) (x := unionA (ss.take n)) (y := ss[n].al.toNat) (by omega) (by omega)
        omega
      · rw [List.take_of_length_le (by omega)]
        rw [List.take_of_length_le h1] at ih
        exact ih
  have h2 := this ss.length
  rwa [List.take_length] at h2
theorem partsA_cases (ss : List Sys) : (∃ a : Nat, partsA ss = (a : Int) ∧ a < 64) ∨ partsA ss = -1 := by
  unfold partsA
  cases h : areParts ss
  · exact .inr rfl
  · exact .inl ⟨unionA ss, rfl, by have := union_le14 h; omega⟩
theorem Sld.box {w0 W : World} {R M gb : Nat} {v : Value} {l : List Ent} {cs : Array Value} (h : Sld w0 W R M v l) (hB : Blk W gb 35 cs) (hv : ∀ b, v.ownBlock = some b → b ≠ gb) (hg : w0.heap.size ≤ gb) (u0 u1 u2 : Value) :
    Sld w0 (((W.setCell ⟨gb, 0, none⟩ u0).setCell ⟨gb, 1, none⟩ u1).setCell ⟨gb, 2, none⟩ u2) R M v l := by
  have hRw := h.hR
  have hf := frm_fill W gb u0 u1 u2
  exact ⟨own_frm h.own hf (fun b hb e => hv b hb e), fun e he => ⟨(h.ent e he).1.far hB (by decide) hf, (h.ent e he).2⟩, h.rd.frm hf (fun k hk e => by omega), ((h.dr.setNew (p := ⟨gb, 0, none⟩) hg _).setNew (p := ⟨gb, 1, none⟩) hg _).setNew (p := ⟨gb, 2, none⟩) hg _, hRw⟩
theorem fin14 {w W : World} {R M N Z K g c : Nat} {l : List Ent} {b : Aut} {A A' : Option Addr} {n c1 n' c2 : Nat} {cs : Array Value} (hl : l.length = 3) (hs : Sld w W R M (.slice (some ⟨g, 0, none⟩) 3 c) l) (ho : AutOwn W K A n c1 A' n' c2 b) (hK : R + 1 ≤ K) (hZK : Z < K) (hb : BdA 50 b) (hle : ∀ e ∈ l, e.n ≤ 40000) (bz : Blk W Z 27 cs) (hc : cs.size = 3) (hZ : w.heap.size ≤ Z) (hM : M ≤ N) :
    Hid (RetL14 R N w (.returned (.tuple #[.slice (some ⟨g, 0, none⟩) 3 c, .agg #[.int .i64 b.al, .slice A n c1, .slice A' n' c2]])) (((W.setCell ⟨Z, 0, none⟩ (.int .i64 b.al)).setCell ⟨Z, 1, none⟩ (.slice A n c1)).setCell ⟨Z, 2, none⟩ (.slice A' n' c2))) ∧
    Blk (((W.setCell ⟨Z, 0, none⟩ (.int .i64 b.al)).setCell ⟨Z, 1, none⟩ (.slice A n c1)).setCell ⟨Z, 2, none⟩ (.slice A' n' c2)) Z 27 #[.int .i64 b.al, .slice A n c1, .slice A' n' c2] := by
  have hRw := hs.hR
  have hf := fillA_frm W Z (.int .i64 b.al) (.slice A n c1) (.slice A' n' c2)
  refine ⟨hide ⟨l, g, c, b, A, n, c1, A', n', c2, hl, rfl, ⟨own_frm hs.own hf (fun k hv e => own_far hs.own bz (by decide) hv e), fun e he => ⟨(hs.ent e he).1.far bz (by decide) hf, (hs.ent e he).2⟩, (hs.rd.more hM).frm hf (fun k hk e => by omega), ?_, hRw⟩, (ho.keep hf (fun k h1 e => by omega)).less hK, hide hb, hide hle⟩, fillA_blk bz hc _ _ _⟩
  exact ((hs.dr.setNew (p := ⟨Z, 0, none⟩) hZ _).setNew (p := ⟨Z, 1, none⟩) hZ _).setNew (p := ⟨Z, 2, none⟩) hZ _
set_option maxRecDepth 100000 in
theorem spec_l14Draw {R M : Nat} {w : World} (h : Rd w R M) (hM : M ≤ 600000000) :
    Calls Try.prog 14 #[.pointer (some ⟨R, 0, none⟩)] w (RetL14 R (M + 100000) w) := by
  have hRl := h.lt
  have hxz := (Ext.refl w).alloc (.cells #[.int .i64 0, .slice none 0 0, .slice none 0 0] 27)
  have bz := Blk.new w 27 #[.int .i64 0, .slice none 0 0, .slice none 0 0]
  go_enter Try.func14, Try.ntmps14
  go_wp2_with fail
  have hsz : (w.alloc (.cells #[.int .i64 0, .slice none 0 0, .slice none 0 0] 27)).heap.size = w.heap.size + 1 := by simp
  generalize w.alloc (.cells #[.int .i64 0, .slice none 0 0, .slice none 0 0] 27) = w1 at *
  refine (l19Rd_pick (h.ext hxz) (by omega)).mono ?_
  rintro e w2 ⟨z, rfl, -, -, hr2, hd2⟩
  have hw2 := hxz.dr.trans hd2
  have bz2 := bz.dr hd2 (by omega)
  by_cases hz : z = 0
  · subst hz
    have hz2 := hw2.size
    go_wp2_with fail
    refine (spec_l14Texts).mono ?_
    rintro e w3 ⟨g, rfl, hg, hT, hx3⟩
    have hw3 := hw2.ext hx3
    have bz3 := bz2.ext hx3
    have hg2 := hx3.size
    have hzz := bz2.lt
    go_wp2_with fail
    refine (l19Rd_pick (hr2.ext hx3) (by omega)).mono ?_
    rintro e w4 ⟨j, rfl, hj, -, hr4, hd4⟩
    have hj5 : j < 5 := by have := hj (by omega); omega
    have hw4 := hw3.trans hd4
    have bz4 := bz3.dr hd4 (by omega)
    obtain ⟨bt, lt, hct, hl4, hs4, hot⟩ := hT j hj5
    have ct4 := hd4.cell_some hct (by dsimp only; omega)
    have hot4 := own_keep hot hd4 (fun b h1 e => by omega)
    have hj5' : (j : Int) < 5 := by omega
    have hsl0 := Sld.nil (w0 := w) hr4 hw4 hRl
    have hx5 := (Ext.refl w4).alloc (.cells #[] 35)
    have hot5 := own_ext hot4 hx5
    have bz5 := bz4.ext hx5
    clear hj hT hct hot
    go_upto_region 5 with fail
    generalize hg4 : w4.heap.size = g4 at *
    generalize w4.alloc (.cells #[] 35) = w5 at *
    go_wp2_with fail
    go_loopw [6, 7] (fun v i wr => ∃ (k : Nat) (vl : Value) (l : List Ent), k ≤ 3 ∧ vl = v ∧ i = .int .i64 k ∧ Hid (l.length = k) ∧ Hid (∀ e ∈ l, e.n ≤ 40000) ∧ Sld w wr R (M + 2 + 20 * k) vl l ∧ Blk wr w.heap.size 27 #[.int .i64 0, .slice none 0 0, .slice none 0 0] ∧ wr.ownsRow w2.heap.size 9 1 (.slice (some ⟨bt, 0, none⟩) 4 4) 4 (strs lt)) (fun _ i _ => 3 - (intOf i).toNat)
    case atStart => exact ⟨0, _, [], Nat.zero_le _, rfl, rfl, rfl, hide (fun _ h => by simp at h), hsl0.more (by omega), bz5, hot5⟩
    case round =>
      clear hsl0 bz5 hot5 hx5 ct4
      obtain ⟨k, vl, l, hk, rfl, rfl, hlk, hle, hsl, bzr, hotr⟩ := hrel
      by_cases hlt : k < 3
      · obtain ⟨ad, x, e1, _, _, hx, cx⟩ := (Reads.of_own hotr).str (show k < 4 by omega)
        obtain rfl := Option.some.inj e1
        have hxs := hs4 x (List.mem_of_getElem? hx.out)
        rw [addr_lit, Nat.zero_add] at cx
        have hzr := bzr.lt
        go_wp2_with fail
        refine (spec_ParseSystem hsl.rd (by omega)).mono ?_
        rintro e wa ⟨s, A1, n1, c1, ok, rfl, hs1, ⟨-, hf1⟩, hn1, hr1, hd1⟩
        have hxb := (Ext.refl wa).alloc (.cells #[.int .i64 s.al, .int .i64 s.st, .slice A1 n1 c1] 35)
        have bs := Blk.new wa 35 #[.int .i64 s.al, .int .i64 s.st, .slice A1 n1 c1]
        have hslb := (hsl.drawn hd1 hr1).ext hxb
        have bzb := (bzr.dr hd1 (by omega)).ext hxb
        have hotb := own_ext (own_keep hotr hd1 (fun b h1 e => by omega)) hxb
        have hsb := hs1.ext hxb
        have hzb := bzb.lt
        have hvb : ∀ b, vl.ownBlock = some b → b ≠ wa.heap.size := fun b hb => by have := (hsl.own.lt b hb).2; have := hd1.size; omega
        have hgw := (hsl.drawn hd1 hr1).dr.size
        have hd1s := hd1.size
        go_upto_region 9 with fail
        generalize hgb : wa.heap.size = gb at *
        generalize wa.alloc (.cells #[.int .i64 s.al, .int .i64 s.st, .slice A1 n1 c1] 35) = wb at *
        go_wp2_with fail
        refine (l19Rd_pick hslb.rd (by omega)).mono ?_
        rintro e wc ⟨q, rfl, -, -, hrc, hdc⟩
        have hslc := hslb.drawn hdc hrc
        have bsc := bs.dr hdc (by omega)
        have bzc := bzb.dr hdc (by omega)
        have hotc := own_keep hotb hdc (fun b h1 e => by omega)
        have hsc := hsb.dr hdc
        clear bs bzb hotb hsb hslb hotr bzr cx hxb
        go_upto_if 39 with fail
        go_cut [] (fun wx => ∃ en : Ent, Blk wx gb 35 #[.int .i64 en.s.al, .int .i64 en.s.st, .slice en.A en.n en.c] ∧ en.ok wx R ∧ en.n ≤ 40000 ∧ Sld w wx R (M + 2 + 20 * k + 15) vl l ∧ Blk wx w.heap.size 27 #[.int .i64 0, .slice none 0 0, .slice none 0 0] ∧ wx.ownsRow w2.heap.size 9 1 (.slice (some ⟨bt, 0, none⟩) 4 4) 4 (strs lt))
        case first =>
          by_cases hq : q = 0
          · subst hq
            have cs := bsc.cell
            go_wp2_with fail
            refine (spec_l6ChangeF hslc.rd (by omega) hsc hf1 hn1.1 (by omega)).mono ?_
            rintro e wd ⟨s2, A2, n2, c2, rfl, hs2, hn2, hrd, hdd⟩
            have bsd := bsc.dr hdd (by omega)
            have csd := bsd.cell
            have fsd := bsd.frozen
            have hsld := (hslc.drawn hdd hrd).box bsd hvb (by omega) (.int .i64 s2.al) (.int .i64 s2.st) (.slice A2 n2 c2)
            have hfd := frm_fill wd gb (.int .i64 s2.al) (.int .i64 s2.st) (.slice A2 n2 c2)
            have hotd := own_keep hotc hdd (fun b h1 e => by omega)
            go_wp2_with fail
            go_meet
            exact ⟨⟨s2, A2, n2, c2⟩, blk_fill bsd rfl _ _ _, ⟨hs2.far bsd (by decide) hfd, by dsimp only; omega, by dsimp only; omega⟩, by dsimp only; omega, hsld.more (by omega), (bzc.dr hdd (by omega)).frm hfd (by omega), own_frm hotd hfd (fun b hb e => own_far hotd bsd (by decide) hb e)⟩
          · have hq' : ((q : Int) == 0) = false := by simp; omega
            go_wp2_with fail
            go_meet
            exact ⟨⟨s, A1, n1, c1⟩, bsc, ⟨hsc, by dsimp only; omega, by dsimp only; omega⟩, by dsimp only; omega, hslc.more (by omega), bzc, hotc⟩
        case rest =>
          clear hslc bsc bzc hotc hsc
          obtain ⟨en, bsr, hen, henn, hslr, bzr, hotr⟩ := hcut
          have csr := bsr.cell
          have hkl := hlk.out
          go_wp2_with (at_builtin; refine wpList_push2 w _ rfl _ _ _ rfl 35 _ 3 40 Try.underlying23 info_sys rfl (by decide) vl l.length (entC l) _ _ rfl rfl hslr.dr.size hslr.own rfl (by simp [Value.oneCell']) (by unfold maxLen; omega) (by omega) ?_; intro g5 cap5 w5' hown5 hg5 hat5 hlt5)
          have hp5 := hslr.push hen hown5 hg5
          rw [hkl] at hp5
          go_roundw
          case rel => exact ⟨k + 1, _, l ++ [en], by omega, rfl, by go_num, by unfold Hid; rw [List.length_append, hkl]; rfl, hide (fun e he => by rcases List.mem_append.1 he with h1 | h1; exact hle.out e h1; rw [List.mem_singleton] at h1; subst h1; exact henn), hp5.more (show M + 2 + 20 * k + 15 ≤ M + 2 + 20 * (k + 1) by omega), (hg5.block _ bzr.lt (fun e => own_far hslr.own bzr (by decide) e.symm rfl)).trans bzr, own_frm hotr (Frm.of_grown hg5) (fun b hb hS => own_ne hotr hslr.own (by decide) hb hS)⟩
          case measure => simp [intOf]; omega
      · have hk3 : k = 3 := by omega
        subst hk3
        obtain ⟨g, cg, rfl⟩ : ∃ g cg, vl = .slice (some ⟨g, 0, none⟩) 3 cg := by
          have ho := hsl.own.2
          rw [hlk.out] at ho
          rcases ho with ⟨_, h0⟩ | ⟨g, cap, cur, h1, _⟩
          · omega
          · exact ⟨g, cap, h1⟩
        obtain ⟨ad, x, e1, _, _, hx, cx⟩ := (Reads.of_own hotr).str (show 3 < 4 by omega)
        obtain rfl := Option.some.inj e1
        have hxs := hs4 x (List.mem_of_getElem? hx.out)
        rw [addr_lit, Nat.zero_add] at cx
        have hzr := bzr.lt
        go_wp2_with fail
        refine (spec_ParseAutomaton hsl.rd (by omega)).mono ?_
        rintro e wa ⟨b, A1, n1, c1, A2, n2, c2, ok, rfl, hb1, hbd, hra, hda⟩
        have hrg := hsl.dr.size
        have hxb := (Ext.refl wa).alloc (.cells #[.int .i64 b.al, .slice A1 n1 c1, .slice A2 n2 c2] 27)
        have bb := Blk.new wa 27 #[.int .i64 b.al, .slice A1 n1 c1, .slice A2 n2 c2]
        have hslb := (hsl.drawn hda hra).ext hxb
        have bzb := (bzr.dr hda (by omega)).ext hxb
        have hbb := hb1.ext hxb
        clear hb1 hotr bzr cx
        go_upto_region 13 with fail
        generalize hgb : wa.heap.size = gb at *
        generalize wa.alloc (.cells #[.int .i64 b.al, .slice A1 n1 c1, .slice A2 n2 c2] 27) = wb at *
        have cB : ∀ W, Ext wb W → ∀ q, W.cell? ⟨gb, q, none⟩ = #[Value.int .i64 b.al, .slice A1 n1 c1, .slice A2 n2 c2][q]? := fun W hW => (bb.ext hW).cell
        have cz := bzb.cell
        have fz := bzb.frozen
        have hS0 : Ext wb wb.drew := (Ext.refl _).drew
        obtain ⟨-, f2⟩ := fin14 (N := M + 100000) hlk.out hslb hbb (by omega) (by omega) (BdL.more hbd.out (by omega)) hle.out bzb rfl (Nat.le_refl _) (by omega)
        obtain ⟨f1, -⟩ := fin14 (N := M + 100000) hlk.out (hslb.ext hS0) (hbb.ext hS0) (by omega) (by omega) (BdL.more hbd.out (by omega)) hle.out (bzb.ext hS0) rfl (Nat.le_refl _) (by omega)
        go_wp2_with fail
        refine wp_region_tail (fun X => Ext wb X) [3] (Ord.of [0, 1, 2, 3]) (by kernel_rfl) rfl (by kernel_rfl) (by kernel_rfl) (by kernel_rfl) (fun _ _ _ _ _ h => h) (by first | assumption | exact (Ext.refl _).drew | exact (Dr.refl _ _).drew | (refine Ext.drew ?_; assumption)) ?_
        repeat (first | (refine tseq_skip rfl rfl (by assumption) ?_; simp only [Act.put, List.setIfInBounds_toArray, List.set_cons_zero, List.set_cons_succ]) | (refine tseq_pure (v := ?_) rfl rfl rfl rfl (fun X => ?_) ?_; rotate_left; (focus (go_simp <;> with_reducible rfl)); simp only [Act.put, List.setIfInBounds_toArray, List.set_cons_zero, List.set_cons_succ]) | (refine tseq_read (v := ?_) rfl rfl rfl rfl (fun X hX => ?_) ?_; rotate_left; (focus (go_simp <;> with_reducible rfl)); simp only [Act.put, List.setIfInBounds_toArray, List.set_cons_zero, List.set_cons_succ]))
        (refine tseq_last rfl rfl rfl rfl (fun K hK => ?_))
        go_simp
        refine hK.out _ _ ?_
        refine tseq_nil ?_
        go_wp2_with fail
        have cf := f2.cell
        exact bodyPost_ret (v := .tuple #[.slice (some ⟨g, 0, none⟩) 3 cg, .agg #[.int .i64 b.al, .slice A1 n1 c1, .slice A2 n2 c2]]) (by simp [results, Try.results14, go_sem, cf]) rfl f1.out
  · have hz' : ((z : Int) == 0) = false := by simp; omega
    go_wp2_with fail
    refine (spec_l2Small hr2 (by omega)).mono ?_
    rintro e w3 ⟨s, A3, n3, c3, rfl, hs3, -, hn3, hr3, hd3⟩
    go_wp2_with fail
    refine (spec_l2Small hr3 (by omega)).mono ?_
    rintro e w4 ⟨t, A4, n4, c4, rfl, hs4, -, hn4, hr4, hd4⟩
    go_wp2_with fail
    refine (spec_l2Small hr4 (by omega)).mono ?_
    rintro e w5 ⟨u, A5, n5, c5, rfl, hs5, -, hn5, hr5, hd5⟩
    have hw5 := ((hw2.trans hd3).trans hd4).trans hd5
    have bz5 := ((bz2.dr hd3 (by omega)).dr hd4 (by omega)).dr hd5 (by omega)
    have hsl := Sld.three (w0 := w) (a := ⟨s, A3, n3, c3⟩) (b := ⟨t, A4, n4, c4⟩) (c := ⟨u, A5, n5, c5⟩) hr5 hw5 hRl ⟨(hs3.dr hd4).dr hd5, by dsimp only; omega, by dsimp only; omega⟩ ⟨hs4.dr hd5, by dsimp only; omega, by dsimp only; omega⟩ ⟨hs5, by dsimp only; omega, by dsimp only; omega⟩
    dsimp only at hsl
    have hx6 := (Ext.refl w5).alloc (.cells #[.int .i64 s.al, .int .i64 s.st, .slice A3 n3 c3, .int .i64 t.al, .int .i64 t.st, .slice A4 n4 c4, .int .i64 u.al, .int .i64 u.st, .slice A5 n5 c5] 35)
    have bz6 := bz5.ext hx6
    have hz6 := bz5.lt
    generalize hg6 : w5.heap.size = g6 at *
    go_upto_region 15 with fail
    generalize w5.alloc (.cells #[.int .i64 s.al, .int .i64 s.st, .slice A3 n3 c3, .int .i64 t.al, .int .i64 t.st, .slice A4 n4 c4, .int .i64 u.al, .int .i64 u.st, .slice A5 n5 c5] 35) = w6 at *
    have hA := partsA_cases [s, t, u]
    have hsl6 := hsl.sl rfl
    have hz2 := hw5.size
    go_wp2_with (first
      | (go_at_call 24; refine (spec_PartsAlphabet hsl6).mono ?_; rintro e w7 ⟨rfl, hx7⟩; have hsl7 := hsl.ext hx7; have bz7 := bz6.ext hx7; have hz7 := bz7.lt; have hr7 := hsl7.dr.size)
      | (go_at_call 30; refine (spec_l8Property_ hsl7.rd (by omega) hA).mono ?_; rintro e w8 ⟨b, A8, n8, d8, A9, n9, d9, rfl, ho8, hg8, hr8, hd8⟩; have bz8 := bz7.dr hd8 (by omega); have cz8 := bz8.cell; have fz8 := bz8.frozen; have hsl8 := hsl7.drawn hd8 hr8))
    obtain ⟨f1, f2⟩ := fin14 (N := M + 100000) rfl hsl8 ho8 (by omega) (by omega) ((BdA.of hg8.out).more (by omega)) (fun e he => by simp only [List.mem_cons, List.not_mem_nil, or_false] at he; rcases he with rfl | rfl | rfl <;> (dsimp only; omega)) bz8 rfl (Nat.le_refl _) (by omega)
    have cf := f2.cell
    exact bodyPost_ret (v := .tuple #[.slice (some ⟨g6, 0, none⟩) 3 3, .agg #[.int .i64 b.al, .slice A8 n8 d8, .slice A9 n9 d9]]) (by simp [results, Try.results14, go_sem, cf]) rfl f1.out
end Go.Proofs.Ytcmgkekaeafgaaa

namespace Go.Proofs.Ytcmgkekaeafgaaa
open Go Go.RowKit
set_option maxHeartbeats 4000000

theorem entC_take (l : List Ent) (k : Nat) : entC (l.take k) = (entC l).take (k * 3) := by
  induction l generalizing k with
  | nil => simp [entC]
  | cons e r ih =>
    cases k with
    | zero => simp [entC]
    | succ k =>
      show e.cs ++ entC (r.take k) = (e.cs ++ entC r).take ((k + 1) * 3)
      rw [ih, List.take_append, show e.cs.length = 3 by rfl, show (k + 1) * 3 - 3 = k * 3 by omega, List.take_of_length_le (show e.cs.length ≤ (k + 1) * 3 by rw [show e.cs.length = 3 by rfl]; omega)]
section
variable {w0 W : World} {R M g n c : Nat} {l : List Ent}
/-- The front of a list. -/
theorem Sld.take {k : Nat} (h : Sld w0 W R M (.slice (some ⟨g, 0, none⟩) n c) l) (hn : n = l.length) (hk : k ≤ n) : Sld w0 W R M (.slice (some ⟨g, 0, none⟩) k c) (l.take k) := by
  subst hn
  have hl : (l.take k).length = k := by rw [List.length_take]; omega
  refine ⟨?_, fun e he => h.ent e (List.mem_of_mem_take he), h.rd, h.dr, h.hR⟩
  have ho := h.own
  rw [hl, entC_take]
  refine ⟨by rw [List.length_take, entC_length]; omega, .inr ?_⟩
  rcases ho.2 with ⟨h1, _⟩ | ⟨g', cap, cur, h1, h2, h3, h4, h5, h6, h7⟩
  · simp at h1
  · injection h1 with h1 h8 h9
    injection h1 with h1
    injection h1 with h1
    subst h1; subst h9
    refine ⟨g, c, cur, rfl, h2, h3, by omega, h5, h6, ?_⟩
    rw [← h7, List.take_take, Nat.min_eq_left (by omega)]
theorem Sld.cap (h : Sld w0 W R M (.slice (some ⟨g, 0, none⟩) n c) l) (hn : n = l.length) : n ≤ c := by
  subst hn
  rcases h.own.2 with ⟨h1, _⟩ | ⟨g', cap, cur, h1, h2, h3, h4, _⟩
  · simp at h1
  · injection h1 with h1 h8 h9
    omega
/-- The second entry is written. -/
theorem Sld.set1 {e : Ent} (h : Sld w0 W R M (.slice (some ⟨g, 0, none⟩) n c) l) (hn : n = l.length) (h2 : 2 ≤ n) (he : e.ok W R) :
    Sld w0 (((W.setCell ⟨g, 3, none⟩ (.int .i64 e.s.al)).setCell ⟨g, 4, none⟩ (.int .i64 e.s.st)).setCell ⟨g, 5, none⟩ (.slice e.A e.n e.c)) R M (.slice (some ⟨g, 0, none⟩) n c) (l.set 1 e) := by
  subst hn
  have hg := (h.own.lt g rfl).1
  have hRw := h.hR
  have hf : Frm (fun k => k = g) W (((W.setCell ⟨g, 3, none⟩ (.int .i64 e.s.al)).setCell ⟨g, 4, none⟩ (.int .i64 e.s.st)).setCell ⟨g, 5, none⟩ (.slice e.A e.n e.c)) :=
    ((Frm.setCell W g 3 _).trans (Frm.setCell _ g 4 _)).trans (Frm.setCell _ g 5 _)
  have hfs : ∀ x : Ent, x.ok W R → x.ok (((W.setCell ⟨g, 3, none⟩ (.int .i64 e.s.al)).setCell ⟨g, 4, none⟩ (.int .i64 e.s.st)).setCell ⟨g, 5, none⟩ (.slice e.A e.n e.c)) R := fun x hx =>
    ⟨hx.1.frm hf (fun k hk _ => by subst hk; exact own_sys h.own rfl), hx.2⟩
  refine ⟨?_, fun x hx => ?_, h.rd.frm hf (fun k hk e => by omega), ((h.dr.setNew (p := ⟨g, 3, none⟩) hg _).setNew (p := ⟨g, 4, none⟩) hg _).setNew (p := ⟨g, 5, none⟩) hg _, hRw⟩
  · have h3 := (((h.own.stored 3 (.int .i64 e.s.al)).1.stored 4 (.int .i64 e.s.st)).1.stored 5 (.slice e.A e.n e.c)).1
    rw [List.length_set]
    have hes : (((entC l).set 3 (.int .i64 e.s.al)).set 4 (.int .i64 e.s.st)).set 5 (.slice e.A e.n e.c) = entC (l.set 1 e) := by
      match l, h2 with
      | a :: b :: r, _ => rfl
    rw [← hes]
    exact h3
  · rcases List.mem_or_eq_of_mem_set hx with hx | hx
    · exact hfs x (h.ent x hx)
    · subst hx; exact hfs _ he
/-- The cells of an entry. -/
theorem Sld.at_ {i : Nat} {e : Ent} (h : Sld w0 W R M (.slice (some ⟨g, 0, none⟩) n c) l) (hn : n = l.length) (he : l[i]? = some e) :
    W.cell? ⟨g, i * 3, none⟩ = some (.int .i64 e.s.al) ∧ W.cell? ⟨g, i * 3 + 1, none⟩ = some (.int .i64 e.s.st) ∧ W.cell? ⟨g, i * 3 + 2, none⟩ = some (.slice e.A e.n e.c) := by
  subst hn
  have hi := (List.getElem?_eq_some_iff.1 he).1
  obtain ⟨h1, h2, h3⟩ := entC_get he
  exact ⟨(h.own.cellAt (i * 3) (by omega)).trans h1, (h.own.cellAt (i * 3 + 1) (by omega)).trans h2, (h.own.cellAt (i * 3 + 2) (by omega)).trans h3⟩
end
/-- Systems and an automaton that were drawn, some of which may not be valid. -/
def RetL14A (R M : Nat) (w : World) (e : Ending) (w' : World) : Prop :=
  ∃ (l : List Ent) (k g c : Nat) (b : Aut) (A : Option Addr) (n c1 : Nat) (A' : Option Addr) (n' c2 : Nat), Hid (k = l.length) ∧ k ≤ 4 ∧ e = .returned (.tuple #[.slice (some ⟨g, 0, none⟩) k c, .agg #[.int .i64 b.al, .slice A n c1, .slice A' n' c2]]) ∧ Sld w w' R M (.slice (some ⟨g, 0, none⟩) k c) l ∧ AutOwn w' (R + 1) A n c1 A' n' c2 b ∧ Hid (BdA 100 b)
theorem own_typ {w : World} {base : Nat} {e : TypeId} {size n b : Nat} {v : Value} {xs : List Value} (h : w.ownsRow base e size v n xs) (hb : v.ownBlock = some b) : ∃ cur, w.heap[b]? = some (.cells cur e (0, 0)) := by
  rcases h.2 with ⟨rfl, _⟩ | ⟨g, cap, cur, rfl, _, hh, _⟩
  · simp [Value.ownBlock] at hb
  · have : g = b := by simpa [Value.ownBlock] using hb
    subst this
    exact ⟨cur, hh⟩
/-- Blocks of other types have turned. -/
theorem AutOwn.frmT {S : Nat → Prop} {w w' : World} {base : Nat} {A : Option Addr} {n c : Nat} {A' : Option Addr} {n' c' : Nat} {a : Aut} (h : AutOwn w base A n c A' n' c' a) (hb : Frm S w w')
    (hS : ∀ k, S k → ∀ cs t, w.heap[k]? = some (.cells cs t (0, 0)) → t ≠ 3 ∧ t ≠ 52 ∧ t ≠ 4) : AutOwn w' base A n c A' n' c' a := by
  obtain ⟨⟨rows, h1, h2⟩, h3, h4, h5⟩ := h
  refine ⟨⟨rows, own_frm h1 hb (fun b hv hs => ?_), h2.frm hb (fun i r b hr hb hs => ?_)⟩, h3, own_frm h4 hb (fun b hv hs => ?_), h5⟩
  · obtain ⟨cs, hc⟩ := own_typ h1 hv
    exact (hS b hs cs _ hc).2.1 rfl
  · obtain ⟨l', _, ho⟩ := h2.row hr
    obtain ⟨cs, hc⟩ := own_typ ho hb
    exact (hS b hs cs _ hc).1 rfl
  · obtain ⟨cs, hc⟩ := own_typ h4 hv
    exact (hS b hs cs _ hc).2.2 rfl
theorem AutOwn.farT {w w' : World} {base G : Nat} {A : Option Addr} {n c : Nat} {A' : Option Addr} {n' c' : Nat} {a : Aut} {cs : Array Value} {t : TypeId} (h : AutOwn w base A n c A' n' c' a) (hB : Blk w G t cs) (hf : Frm (fun k => k = G) w w') (ht : t ≠ 3 ∧ t ≠ 52 ∧ t ≠ 4) : AutOwn w' base A n c A' n' c' a :=
  h.frmT hf (fun k hk cs' t' hh => by
    subst hk
    unfold Blk at hB
    rw [hB] at hh
    injection hh with hh
    injection hh with _ h2
    subst h2
    exact ht)
theorem AutOwn.farR {w w' : World} {base b1 size k : Nat} {e : TypeId} {v : Value} {xs : List Value} {A : Option Addr} {n c : Nat} {A' : Option Addr} {n' c' : Nat} {a : Aut} (h : AutOwn w base A n c A' n' c' a) (ho : w.ownsRow b1 e size v k xs) (hf : Frm (fun k => v.ownBlock = some k) w w') (ht : e ≠ 3 ∧ e ≠ 52 ∧ e ≠ 4) : AutOwn w' base A n c A' n' c' a :=
  h.frmT hf (fun k hk cs' t' hh => by
    obtain ⟨cs, hc⟩ := own_typ ho hk
    rw [hc] at hh
    injection hh with hh
    injection hh with _ h2
    subst h2
    exact ht)
/-- The variables of l14Any. -/
structure L14S (w0 W : World) (R G M g k c : Nat) (l : List Ent) (b : Aut) (A : Option Addr) (n c1 : Nat) (A' : Option Addr) (n' c2 : Nat) : Prop where
  sld : Sld w0 W R M (.slice (some ⟨g, 0, none⟩) k c) l
  len : Hid (k = l.length)
  blk : Blk W (G) 27 #[.int .i64 b.al, .slice A n c1, .slice A' n' c2]
  own : AutOwn W (R + 1) A n c1 A' n' c2 b
  bd : Hid (BdA 100 b)
  z : Blk W w0.heap.size 27 #[.int .i64 0, .slice none 0 0, .slice none 0 0]
  hG : w0.heap.size < G
section
variable {w0 W W' : World} {R G M N g k c : Nat} {l : List Ent} {b : Aut} {A : Option Addr} {n c1 : Nat} {A' : Option Addr} {n' c2 : Nat}
theorem L14S.drawn (h : L14S w0 W R G M g k c l b A n c1 A' n' c2) (hd : Dr R W W') (hr : Rd W' R N) : L14S w0 W' R G N g k c l b A n c1 A' n' c2 :=
  have hR := h.sld.hR
  ⟨h.sld.drawn hd hr, h.len, h.blk.dr hd (by have := h.hG; omega), h.own.keep hd (fun b h1 e => by omega), h.bd, h.z.dr hd (by omega), h.hG⟩
theorem L14S.more (h : L14S w0 W R G M g k c l b A n c1 A' n' c2) (hM : M ≤ N) : L14S w0 W R G N g k c l b A n c1 A' n' c2 := { h with sld := h.sld.more hM }
theorem L14S.far (h : L14S w0 W R G M g k c l b A n c1 A' n' c2) : g ≠ w0.heap.size ∧ g ≠ G := ⟨own_far h.sld.own h.z (by decide) rfl, own_far h.sld.own h.blk (by decide) rfl⟩
/-- The automaton's variable is written. -/
theorem L14S.setP {b1 : Aut} {A1 : Option Addr} {n1 d1 : Nat} {A2 : Option Addr} {n2 d2 : Nat} (h : L14S w0 W R G M g k c l b A n c1 A' n' c2) (ho : AutOwn W (R + 1) A1 n1 d1 A2 n2 d2 b1) (hb : BdA 100 b1) :
    L14S w0 (((W.setCell ⟨G, 0, none⟩ (.int .i64 b1.al)).setCell ⟨G, 1, none⟩ (.slice A1 n1 d1)).setCell ⟨G, 2, none⟩ (.slice A2 n2 d2)) R G M g k c l b1 A1 n1 d1 A2 n2 d2 := by
  have hRw := h.sld.hR; have hGG := h.hG
  have hf := fillA_frm W (G) (.int .i64 b1.al) (.slice A1 n1 d1) (.slice A2 n2 d2)
  refine ⟨⟨own_frm h.sld.own hf (fun k hv e => own_far h.sld.own h.blk (by decide) hv e), fun e he => ⟨(h.sld.ent e he).1.far h.blk (by decide) hf, (h.sld.ent e he).2⟩, h.sld.rd.frm hf (fun k hk e => by omega), ?_, hRw⟩, h.len, fillA_blk h.blk rfl _ _ _, ho.farT h.blk hf (by decide), hide hb, h.z.frm hf (by omega), hGG⟩
  exact ((h.sld.dr.setNew (p := ⟨G, 0, none⟩) (Nat.le_of_lt h.hG) _).setNew (p := ⟨G, 1, none⟩) (Nat.le_of_lt h.hG) _).setNew (p := ⟨G, 2, none⟩) (Nat.le_of_lt h.hG) _
/-- The second system is written. -/
theorem L14S.set1 {e : Ent} (h : L14S w0 W R G M g k c l b A n c1 A' n' c2) (h2 : 2 ≤ k) (he : e.ok W R) :
    L14S w0 (((W.setCell ⟨g, 3, none⟩ (.int .i64 e.s.al)).setCell ⟨g, 4, none⟩ (.int .i64 e.s.st)).setCell ⟨g, 5, none⟩ (.slice e.A e.n e.c)) R G M g k c (l.set 1 e) b A n c1 A' n' c2 := by
  obtain ⟨f1, f2⟩ := h.far
  have hf : Frm (fun k' => (Value.slice (some ⟨g, 0, none⟩) k c).ownBlock = some k') W (((W.setCell ⟨g, 3, none⟩ (.int .i64 e.s.al)).setCell ⟨g, 4, none⟩ (.int .i64 e.s.st)).setCell ⟨g, 5, none⟩ (.slice e.A e.n e.c)) :=
    (((Frm.setCell W g 3 _).trans (Frm.setCell _ g 4 _)).trans (Frm.setCell _ g 5 _)).mono (fun k _ hk => by subst hk; rfl)
  refine ⟨h.sld.set1 h.len.out h2 he, hide (by rw [List.length_set]; exact h.len.out), h.blk.frm hf (fun e => by simp [Value.ownBlock] at e; exact f2 e), h.own.farR h.sld.own hf (by decide), h.bd, h.z.frm hf (fun e => by simp [Value.ownBlock] at e; exact f1 e), h.hG⟩
/-- What is handed back. -/
theorem L14S.fin (h : L14S w0 W R G M g k c l b A n c1 A' n' c2) (hk : k ≤ 4) (hM : M ≤ N) :
    Hid (RetL14A R N w0 (.returned (.tuple #[.slice (some ⟨g, 0, none⟩) k c, .agg #[.int .i64 b.al, .slice A n c1, .slice A' n' c2]])) (((W.setCell ⟨w0.heap.size, 0, none⟩ (.int .i64 b.al)).setCell ⟨w0.heap.size, 1, none⟩ (.slice A n c1)).setCell ⟨w0.heap.size, 2, none⟩ (.slice A' n' c2))) ∧
    Blk (((W.setCell ⟨w0.heap.size, 0, none⟩ (.int .i64 b.al)).setCell ⟨w0.heap.size, 1, none⟩ (.slice A n c1)).setCell ⟨w0.heap.size, 2, none⟩ (.slice A' n' c2)) w0.heap.size 27 #[.int .i64 b.al, .slice A n c1, .slice A' n' c2] := by
  have hRw := h.sld.hR; have hGG := h.hG
  have hf := fillA_frm W w0.heap.size (.int .i64 b.al) (.slice A n c1) (.slice A' n' c2)
  refine ⟨hide ⟨l, k, g, c, b, A, n, c1, A', n', c2, h.len, hk, rfl, ⟨own_frm h.sld.own hf (fun k hv e => own_far h.sld.own h.z (by decide) hv e), fun e he => ⟨(h.sld.ent e he).1.far h.z (by decide) hf, (h.sld.ent e he).2⟩, (h.sld.rd.more hM).frm hf (fun k hk e => by omega), ?_, hRw⟩, h.own.farT h.z hf (by decide), h.bd⟩, fillA_blk h.z rfl _ _ _⟩
  exact ((h.sld.dr.setNew (p := ⟨w0.heap.size, 0, none⟩) (Nat.le_refl _) _).setNew (p := ⟨w0.heap.size, 1, none⟩) (Nat.le_refl _) _).setNew (p := ⟨w0.heap.size, 2, none⟩) (Nat.le_refl _) _
end
set_option maxRecDepth 100000 in
theorem spec_l14Any {R M : Nat} {w : World} (h : Rd w R M) (hM : M ≤ 500000000) :
    Calls Try.prog 9 #[.pointer (some ⟨R, 0, none⟩)] w (RetL14A R (M + 200000) w) := by
  have hRl := h.lt
  have hxz := (Ext.refl w).alloc (.cells #[.int .i64 0, .slice none 0 0, .slice none 0 0] 27)
  have bz := Blk.new w 27 #[.int .i64 0, .slice none 0 0, .slice none 0 0]
  go_enter Try.func9, Try.ntmps9
  go_wp2_with fail
  have hsz : (w.alloc (.cells #[.int .i64 0, .slice none 0 0, .slice none 0 0] 27)).heap.size = w.heap.size + 1 := by simp
  generalize w.alloc (.cells #[.int .i64 0, .slice none 0 0, .slice none 0 0] 27) = w1 at *
  refine (spec_l14Draw (h.ext hxz) (by omega)).mono ?_
  rintro e w2 ⟨l, g, c, b, A, n, c1, A', n', c2, hl, rfl, hs2, ho2, hb2, hle⟩
  have hxb := (Ext.refl w2).alloc (.cells #[.int .i64 b.al, .slice A n c1, .slice A' n' c2] 27)
  have bb := Blk.new w2 27 #[.int .i64 b.al, .slice A n c1, .slice A' n' c2]
  have hs3 := (hs2.less hxz.dr hRl).ext hxb
  have hw2 := hs2.dr.size
  have hst := (⟨hs3, hide hl.symm, bb, ho2.ext hxb, hide (BdL.more hb2.out (by omega)), (bz.dr hs2.dr (by omega)).ext hxb, by omega⟩ : L14S w _ R w2.heap.size (M + 100000) g 3 c l b A n c1 A' n' c2)
  have hb50 := hb2
  clear hs3 hs2 bb ho2 hb2 hxb bz hxz
  go_upto_region 2 with fail
  generalize hG : w2.heap.size = G at *
  generalize w2.alloc (.cells #[.int .i64 b.al, .slice A n c1, .slice A' n' c2] 27) = w3 at *
  go_wp2_with fail
  refine (l19Rd_pick hst.sld.rd (by omega)).mono ?_
  rintro e w4 ⟨y, rfl, -, -, hr4, hd4⟩
  replace hst := hst.drawn hd4 hr4
  go_upto_block 0 with fail
  go_cut [4] (fun v wx => ∃ (l : List Ent) (k g c : Nat) (b : Aut) (A : Option Addr) (n c1 : Nat) (A' : Option Addr) (n' c2 : Nat), v = .slice (some ⟨g, 0, none⟩) k c ∧ k ≤ 4 ∧ L14S w wx R G (M + 150000) g k c l b A n c1 A' n' c2)
  case first =>
    by_cases hy0 : y = 0
    · subst hy0
      go_wp2_with fail
      refine (l19Rd_pick hst.sld.rd (by omega)).mono ?_
      rintro e w5 ⟨q, rfl, hq, -, hr5, hd5⟩
      have hq3 : q < 3 := by have := hq (by omega); omega
      replace hst := hst.drawn hd5 hr5
      have hqc : q ≤ c := by have := hst.sld.cap hl.symm; omega
      go_wp2_with fail
      go_meet
      exact ⟨l.take q, q, g, c, b, A, n, c1, A', n', c2, rfl, by omega, ⟨(hst.sld.take hst.len.out (by omega)).more (by omega), hide (by rw [List.length_take, hl]; omega), hst.blk, hst.own, hst.bd, hst.z, hst.hG⟩⟩
    by_cases hy1 : y = 1
    · subst hy1
      go_wp2_with fail
      refine (spec_l2Small hst.sld.rd (by omega)).mono ?_
      rintro e w5 ⟨s, A5, n5, c5, rfl, hs5, -, hn5, hr5, hd5⟩
      replace hst := hst.drawn hd5 hr5
      have hok : (⟨s, A5, n5, c5⟩ : Ent).ok w5 R := ⟨hs5, by dsimp only; omega, by dsimp only; omega⟩
      go_wp2_with (at_builtin; refine wpList_push2 w _ rfl _ _ _ rfl 35 _ 3 40 Try.underlying23 info_sys rfl (by decide) (.slice (some ⟨g, 0, none⟩) 3 c) l.length (entC l) _ _ rfl rfl hst.sld.dr.size hst.sld.own rfl (by simp [Value.oneCell']) (by unfold maxLen; omega) (by omega) ?_; intro g5 cap5 w6 hown5 hg5 hat5 hlt5)
      have hp5 := hst.sld.push hok hown5 hg5
      rw [hl] at hp5
      obtain ⟨f1, f2⟩ := hst.far
      go_meet
      exact ⟨l ++ [⟨s, A5, n5, c5⟩], 4, g5, cap5, b, A, n, c1, A', n', c2, rfl, by omega, ⟨hp5.more (by omega), hide (by simp [hl]), (hg5.block _ hst.blk.lt (fun e => f2 (by simpa [Value.ownBlock] using e.symm))).trans hst.blk, hst.own.farR hst.sld.own (Frm.of_grown hg5) (by decide), hst.bd, (hg5.block _ hst.z.lt (fun e => f1 (by simpa [Value.ownBlock] using e.symm))).trans hst.z, hst.hG⟩⟩
    by_cases hy2 : y = 2
    · subst hy2
      obtain ⟨en, hen⟩ : ∃ en, l[1]? = some en := ⟨l[1]'(by omega), List.getElem?_eq_getElem _⟩
      obtain ⟨c0, c1', c2'⟩ := hst.sld.at_ hl.symm hen
      have hen' : en.ok w4 R ∧ en.n ≤ 40000 := ⟨hst.sld.ent en (List.mem_of_getElem? hen), hle.out en (List.mem_of_getElem? hen)⟩
      go_wp2_with fail
      refine (spec_l2Wrong (L := en.n) hst.sld.rd (by omega) hen'.1.1 (Nat.le_refl _) (by have := hen'.2; omega)).mono ?_
      rintro e v1 ⟨s1, A1, n1, d1, rfl, hs1, hn1, hr1, hd1⟩
      replace hst := hst.drawn hd1 hr1
      clear c0 c1' c2' hen
      have hen1 := hide hen'
      clear hen'
      go_wp2_with fail
      refine (spec_l2Wrong (L := n1) hst.sld.rd (by omega) hs1 (Nat.le_refl _) (by have := hen1.out.2; omega)).mono ?_
      rintro e v2 ⟨s2, A2, n2, d2, rfl, hs2, hn2, hr2, hd2⟩
      replace hst := hst.drawn hd2 hr2
      go_wp2_with fail
      refine (spec_l2Wrong (L := n2) hst.sld.rd (by omega) hs2 (Nat.le_refl _) (by have := hen1.out.2; omega)).mono ?_
      rintro e v3 ⟨s3, A3, n3, d3, rfl, hs3, hn3, hr3, hd3⟩
      replace hst := hst.drawn hd3 hr3
      have hn50 : n3 ≤ 50000 := by have := hen1.out.2; omega
      obtain ⟨en2, hen2⟩ : ∃ en, l[1]? = some en := ⟨l[1]'(by omega), List.getElem?_eq_getElem _⟩
      obtain ⟨c0, c1', c2'⟩ := hst.sld.at_ hl.symm hen2
      have ho3 := hst.sld.own
      rw [hl] at ho3
      have f3 := ho3.frozenAt
      have fin := hst.set1 (e := ⟨s3, A3, n3, d3⟩) (by omega) ⟨hs3, by dsimp only; omega, by dsimp only; omega⟩
      go_wp2_with fail
      go_meet
      exact ⟨l.set 1 ⟨s3, A3, n3, d3⟩, 3, g, c, b, A, n, c1, A', n', c2, rfl, by omega, fin.more (by omega)⟩
    by_cases hy3 : y = 3
    · subst hy3
      have cG := hst.blk.cell
      go_wp2_with fail
      refine (spec_l3Wrong hst.sld.rd (by omega) hst.own hb50.out (by omega)).mono ?_
      rintro e w5 ⟨b1, A1, n1, d1, B1, m1, e1, rfl, ho1, hb1, hr1, hd1⟩
      have hR0 := hst.sld.dr.size
      replace hst := hst.drawn hd1 hr1
      have hR1 := hst.sld.dr.size
      clear cG
      go_wp2_with fail
      refine (spec_l3Wrong hst.sld.rd (by omega) (ho1.less (by omega)) hb1.out (by omega)).mono ?_
      rintro e w6 ⟨b2, A2, n2, d2, B2, m2, e2, rfl, ho2, hb2, hr2, hd2⟩
      replace hst := hst.drawn hd2 hr2
      go_wp2_with fail
      refine (spec_l3Wrong hst.sld.rd (by omega) (ho2.less (by omega)) hb2.out (by omega)).mono ?_
      rintro e w7 ⟨b3, A3, n3, d3, B3, m3, e3, rfl, ho3, hb3, hr3, hd3⟩
      have hR2 := hst.sld.dr.size
      replace hst := hst.drawn hd3 hr3
      have cG := hst.blk.cell
      have fG := hst.blk.frozen
      have fin := hst.setP (ho3.less (by omega)) (BdL.more hb3.out (by omega))
      go_wp2_with fail
      go_meet
      exact ⟨l, 3, g, c, b3, A3, n3, d3, B3, m3, e3, rfl, by omega, fin.more (by omega)⟩
    have h0 : ((y : Int) == 0) = false := by simp; omega
    have h1 : ((y : Int) == 1) = false := by simp; omega
    have h2 : ((y : Int) == 2) = false := by simp; omega
    have h3 : ((y : Int) == 3) = false := by simp; omega
    clear hy0 hy1 hy2 hy3
    go_wp2_with fail
    go_meet
    exact ⟨l, 3, g, c, b, A, n, c1, A', n', c2, rfl, by omega, hst.more (by omega)⟩
  case rest =>
    clear hst hl hle hb50 hr4 hd4
    obtain ⟨l, k, g, c, b, A, n, c1, A', n', c2, rfl, hk, hst⟩ := hcut
    obtain ⟨wE, hwE⟩ : ∃ wE, wE = wc := ⟨_, rfl⟩
    subst hwE
    have cB : ∀ W, Ext wE W → ∀ q, W.cell? ⟨G, q, none⟩ = #[Value.int .i64 b.al, .slice A n c1, .slice A' n' c2][q]? := fun W hW => (hst.blk.ext hW).cell
    have cz := hst.z.cell
    have fz := hst.z.frozen
    have hS0 : Ext wE wE.drew := (Ext.refl _).drew
    obtain ⟨-, f2⟩ := hst.fin hk (show M + 150000 ≤ M + 200000 by omega)
    obtain ⟨f1, -⟩ := (hst.drawn hS0.dr (hst.sld.rd.ext hS0)).fin hk (show M + 150000 ≤ M + 200000 by omega)
    go_wp2_with fail
    refine wp_region_tail (fun X => Ext wE X) [3] (Ord.of [0, 1, 2, 3]) (by kernel_rfl) rfl (by kernel_rfl) (by kernel_rfl) (by kernel_rfl) (fun _ _ _ _ _ h => h) (by first | assumption | exact (Ext.refl _).drew | exact (Dr.refl _ _).drew | (refine Ext.drew ?_; assumption)) ?_
    repeat (first | (refine tseq_skip rfl rfl (by assumption) ?_; simp only [Act.put, List.setIfInBounds_toArray, List.set_cons_zero, List.set_cons_succ]) | (refine tseq_pure (v := ?_) rfl rfl rfl rfl (fun X => ?_) ?_; rotate_left; (focus (go_simp <;> with_reducible rfl)); simp only [Act.put, List.setIfInBounds_toArray, List.set_cons_zero, List.set_cons_succ]) | (refine tseq_read (v := ?_) rfl rfl rfl rfl (fun X hX => ?_) ?_; rotate_left; (focus (go_simp <;> with_reducible rfl)); simp only [Act.put, List.setIfInBounds_toArray, List.set_cons_zero, List.set_cons_succ]))
    (refine tseq_last rfl rfl rfl rfl (fun K hK => ?_))
    go_simp
    refine hK.out _ _ ?_
    refine tseq_nil ?_
    go_wp2_with fail
    have cf := f2.cell
    exact bodyPost_ret (v := .tuple #[.slice (some ⟨g, 0, none⟩) k c, .agg #[.int .i64 b.al, .slice A n c1, .slice A' n' c2]]) (by simp [results, Try.results9, go_sem, cf]) rfl f1.out
end Go.Proofs.Ytcmgkekaeafgaaa

namespace Go.Proofs.Ytcmgkekaeafgaaa
open Go Go.RowKit
set_option maxHeartbeats 4000000

/-- Systems and an automaton in new memory. -/
def RetDC (w : World) (e : Ending) (w' : World) : Prop :=
  ∃ (ss : List Sys) (k g c : Nat) (b : Aut) (A : Option Addr) (n c1 : Nat) (A' : Option Addr) (n' c2 : Nat), Hid (k = ss.length) ∧ k ≤ 4 ∧ k ≤ c ∧ e = .returned (.tuple #[.slice (some ⟨g, 0, none⟩) k c, .agg #[.int .i64 b.al, .slice A n c1, .slice A' n' c2]]) ∧ SLAt w' w.heap.size w'.heap.size (some ⟨g, 0, none⟩) k ss ∧ AutAt w' w.heap.size w'.heap.size A n A' n' b ∧ Hid (BdA 100 b) ∧ Ext w w'
theorem SLAt.more {w : World} {lo hi lo' hi' n : Nat} {A : Option Addr} {ss : List Sys} (h : SLAt w lo hi A n ss) (h1 : lo' ≤ lo) (h2 : hi ≤ hi') : SLAt w lo' hi' A n ss := by
  obtain ⟨e, cells, hr, hx⟩ := h
  refine ⟨e, cells, hr.more h1 h2, fun k s hs => ?_⟩
  obtain ⟨B, m, c, x0, x1, x2, x3⟩ := hx k s hs
  exact ⟨B, m, c, x0, x1, x2, x3.more h1 h2⟩
theorem AutOwn.at_new {w : World} {base lo : Nat} {A : Option Addr} {n c : Nat} {A' : Option Addr} {n' c' : Nat} {a : Aut} (h : AutOwn w base A n c A' n' c' a) (hl : lo ≤ base) : AutAt w lo w.heap.size A n A' n' a := (h.less hl).reads
theorem sl_of {W : World} {base R n c lo : Nat} {A : Option Addr} {l : List Ent} (ho : W.ownsRow base 35 3 (.slice A n c) n (entC l)) (hn : n = l.length) (he : ∀ e ∈ l, e.ok W R) (hb : lo ≤ base) (hR : lo ≤ R + 1) : SLAt W lo W.heap.size A n (l.map Ent.s) := by
  have hr := Reads.of_own ho
  refine ⟨by simpa using hn, entC l, hr.more hb (Nat.le_refl _), fun k s hs => ?_⟩
  rw [List.getElem?_map, Option.map_eq_some_iff] at hs
  obtain ⟨e, hk, rfl⟩ := hs
  obtain ⟨h1, h2, h3⟩ := entC_get hk
  exact ⟨e.A, e.n, e.c, h1, h2, h3, (he e (List.mem_of_getElem? hk)).1.at_.more hR (Nat.le_refl _)⟩
/-- The draw's end: what was drawn lies in new memory, and the results' box is filled. -/
theorem draw_cl {R M k g c : Nat} {w w1 W : World} {l : List Ent} {b : Aut} {A A' : Option Addr} {n c1 n' c2 : Nat} {cs : Array Value} (hl : k = l.length) (hk : k ≤ 4) (hs : Sld w1 W R M (.slice (some ⟨g, 0, none⟩) k c) l) (ho : AutOwn W (R + 1) A n c1 A' n' c2 b) (hb : BdA 100 b) (hR : w.heap.size < R) (hx : Ext w w1) (hz : Blk W w.heap.size 27 cs) (hc : cs.size = 3) :
    RetDC w (.returned (.tuple #[.slice (some ⟨g, 0, none⟩) k c, .agg #[.int .i64 b.al, .slice A n c1, .slice A' n' c2]])) (((W.setCell ⟨w.heap.size, 0, none⟩ (.int .i64 b.al)).setCell ⟨w.heap.size, 1, none⟩ (.slice A n c1)).setCell ⟨w.heap.size, 2, none⟩ (.slice A' n' c2)) ∧
    Blk (((W.setCell ⟨w.heap.size, 0, none⟩ (.int .i64 b.al)).setCell ⟨w.heap.size, 1, none⟩ (.slice A n c1)).setCell ⟨w.heap.size, 2, none⟩ (.slice A' n' c2)) w.heap.size 27 #[.int .i64 b.al, .slice A n c1, .slice A' n' c2] := by
  have hf := fillA_frm W w.heap.size (.int .i64 b.al) (.slice A n c1) (.slice A' n' c2)
  have hxW : Ext w W := Dr.new hx (by omega) hs.dr
  have hRw := hs.hR
  refine ⟨⟨l.map Ent.s, k, g, c, b, A, n, c1, A', n', c2, hide (by rw [List.length_map]; exact hl), hk, hs.cap hl, rfl, ?_, ?_, hide hb, ((hxW.setCell (p := ⟨w.heap.size, 0, none⟩) (Nat.le_refl _) _).setCell (p := ⟨w.heap.size, 1, none⟩) (Nat.le_refl _) _).setCell (p := ⟨w.heap.size, 2, none⟩) (Nat.le_refl _) _⟩, fillA_blk hz hc _ _ _⟩
  · refine sl_of (base := w1.heap.size) (c := c) ?_ hl (fun e he => (⟨(hs.ent e he).1.far hz (by decide) hf, (hs.ent e he).2⟩ : e.ok _ R)) (by omega) (by omega)
    have ho := hs.own
    rw [← hl] at ho
    exact own_keep ho hf (fun b h1 e => by omega)
  · exact (ho.keep hf (fun b h1 e => by omega)).at_new (by omega)
theorem spec_DrawChainLetters {A : Option Addr} {n c : Nat} {w : World} (h : Bytes w A n) (hn : n ≤ 9223372036854775807) (hc : n ≤ c) (hc2 : c ≤ 9223372036854775807) :
    Calls Try.prog 4 #[.slice A n c] w (RetDC w) := by
  have hx0 := (Ext.refl w).alloc (.cells #[.int .i64 0, .slice none 0 0, .slice none 0 0] 27)
  have bz := Blk.new w 27 #[.int .i64 0, .slice none 0 0, .slice none 0 0]
  have hh := hide (h.ext hx0)
  have hz0 := bz.lt
  clear h
  go_enter Try.func4, Try.ntmps4
  go_wp2_with fail
  generalize w.alloc (.cells #[.int .i64 0, .slice none 0 0, .slice none 0 0] 27) = w0 at *
  refine (spec_l19Open hh.out hn hc hc2).mono ?_
  rintro e w1 ⟨R, rfl, hR, hr1, hx1⟩
  have hx01 := hx0.trans hx1
  have bz1 := bz.ext hx1
  go_wp2_with fail
  refine (spec_l14Any hr1 (by omega)).mono ?_
  rintro e w2 ⟨l, k, g, c, b, A, n, c1, A', n', c2, hl, hk, rfl, hs, ho, hb⟩
  have bz2 := bz1.dr hs.dr (by omega)
  have cz := bz2.cell
  have fz := bz2.frozen
  obtain ⟨f1, f2⟩ := draw_cl hl.out hk hs ho hb.out (by omega) hx01 bz2 rfl
  have F1 := hide f1
  clear f1 bz bz1 hx0 hx1
  go_wp2_with fail
  have cf := f2.cell
  exact bodyPost_ret (v := .tuple #[.slice (some ⟨g, 0, none⟩) k c, .agg #[.int .i64 b.al, .slice A n c1, .slice A' n' c2]]) (by simp [results, Try.results4, go_sem, cf]) rfl F1.out
end Go.Proofs.Ytcmgkekaeafgaaa

namespace Go.Proofs.Ytcmgkekaeafgaaa
open Go Go.RowKit

/-- How many letters of an alphabet come before a letter. -/
def place (a l : Nat) : Nat := (letters a l).length
/-- The state to which a letter leads an automaton. -/
def aGo (a : Aut) (q l : Nat) : Nat := if a.al.toNat.testBit l then ((a.next.getD q []).getD (place a.al.toNat l) 0).toNat else q
/-- A member of a product: how many states, and the states to which a letter leads. -/
abbrev Mem := Nat × (Nat → Nat → List Nat)
def sMem (s : Sys) : Mem := (s.st.toNat, cho s)
def aMem (a : Aut) : Mem := (a.next.length, fun q l => [aGo a q l])
def prodS : List Nat → Nat
  | [] => 1
  | m :: r => m * prodS r
def prodN (ms : List Mem) : Nat := prodS (ms.map Prod.fst)
theorem prodN_cons (m : Mem) (r : List Mem) : prodN (m :: r) = m.1 * prodN r := rfl
theorem prodS_append (a b : List Nat) : prodS (a ++ b) = prodS a * prodS b := by
  induction a with
  | nil => simp [prodS]
  | cons x r ih => rw [List.cons_append, prodS, prodS, ih, Nat.mul_assoc]
theorem prodN_append (a b : List Mem) : prodN (a ++ b) = prodN a * prodN b := by
  unfold prodN
  rw [List.map_append, prodS_append]
theorem prodS_pos {l : List Nat} (h : ∀ x ∈ l, 1 ≤ x) : 1 ≤ prodS l := by
  induction l with
  | nil => simp [prodS]
  | cons x r ih => exact Nat.mul_pos (h x (by simp)) (ih fun y hy => h y (by simp [hy]))
/-- The states that make a node. -/
def dec : List Nat → Nat → List Nat
  | [], _ => []
  | s :: r, x => (x / prodS r % s) :: dec r x
theorem dec_length (l : List Nat) (x : Nat) : (dec l x).length = l.length := by
  induction l with
  | nil => rfl
  | cons s r ih => simp [dec, ih]
theorem dec_drop (l : List Nat) (x k : Nat) : (dec l x).drop k = dec (l.drop k) x := by
  induction l generalizing k with
  | nil => simp [dec]
  | cons s r ih =>
    cases k with
    | zero => rfl
    | succ k => simp [dec, ih]
theorem dec_get {l : List Nat} {x k s : Nat} (h : l[k]? = some s) : (dec l x)[k]? = some (x / prodS (l.drop (k + 1)) % s) := by
  induction l generalizing k with
  | nil => simp at h
  | cons t r ih =>
    cases k with
    | zero => simp at h; subst h; simp [dec]
    | succ k => simp at h; simpa [dec] using ih h
/-- The node that states make. -/
def encF (acc : Nat) : List Nat → List Nat → Nat
  | s :: r, x :: xs => encF (acc * s + x) r xs
  | _, _ => acc
/-- The nodes to which a letter leads. -/
def pnx : List Mem → Nat → Nat → List Nat
  | [], _, _ => [0]
  | m :: r, x, l => (m.2 (x / prodN r % m.1) l).flatMap fun q => (pnx r x l).map fun y => q * prodN r + y
/-- A member's choices are states. -/
def MemOk (m : Mem) : Prop := 1 ≤ m.1 ∧ ∀ q l, q < m.1 → l < 6 → ∀ x ∈ m.2 q l, x < m.1
theorem prodN_pos {ms : List Mem} (h : ∀ m ∈ ms, MemOk m) : 1 ≤ prodN ms := prodS_pos fun x hx => by
  obtain ⟨m, hm, rfl⟩ := List.mem_map.1 hx
  exact (h m hm).1
theorem pnx_lt {ms : List Mem} (h : ∀ m ∈ ms, MemOk m) {x l : Nat} (hl : l < 6) : ∀ y ∈ pnx ms x l, y < prodN ms := by
  induction ms with
  | nil => intro y hy; simp [pnx] at hy; subst hy; simp [prodN, prodS]
  | cons m r ih =>
    intro y hy
    rw [pnx] at hy
    obtain ⟨q, hq, hy⟩ := List.mem_flatMap.1 hy
    obtain ⟨z, hz, rfl⟩ := List.mem_map.1 hy
    have h1 := (h m (by simp)).2 _ l (Nat.mod_lt _ (h m (by simp)).1) hl q hq
    have h2 := ih (fun m hm => h m (by simp [hm])) z hz
    rw [prodN_cons]
    calc q * prodN r + z < q * prodN r + prodN r := by omega
      _ = (q + 1) * prodN r := by rw [Nat.add_mul, Nat.one_mul]
      _ ≤ m.1 * prodN r := Nat.mul_le_mul_right _ h1
/-- A product of two parts. -/
theorem pnx_append (a b : List Mem) (x l : Nat) : pnx (a ++ b) x l = (pnx a (x / prodN b) l).flatMap fun q => (pnx b x l).map fun y => q * prodN b + y := by
  induction a with
  | nil => simp [pnx]
  | cons m r ih =>
    rw [List.cons_append, pnx, pnx, ih, prodN_append, List.flatMap_assoc]
    rw [Nat.div_div_eq_div_mul, Nat.mul_comm (prodN b) (prodN r)]
    congr 1
    funext q
    rw [List.map_flatMap, List.flatMap_map]
    congr 1
    funext z
    rw [List.map_map]
    congr 1
    funext y
    simp only [Function.comp]
    rw [Nat.add_mul, Nat.mul_assoc, Nat.add_assoc]
/-- What systems make together. -/
theorem nx_pnx (ss : List Sys) (m l : Nat) : nx ss m l = (pnx (ss.map sMem) m l, prodN (ss.map sMem), m / prodN (ss.map sMem)) := by
  induction ss with
  | nil => simp [nx, pnx, prodN, prodS]
  | cons s r ih =>
    rw [nx, ih, List.map_cons, pnx, prodN_cons]
    simp only [sMem]
    rw [Nat.div_div_eq_div_mul, Nat.mul_comm (prodN _) s.st.toNat]
theorem pnx_two (a p : Aut) (x l : Nat) : pnx [aMem a, aMem p] x l = [aGo a (x / p.next.length % a.next.length) l * p.next.length + aGo p (x % p.next.length) l] := by
  simp [pnx, aMem, prodN, prodS]
theorem pnx_one (p : Aut) (x l : Nat) : pnx [aMem p] x l = [aGo p (x % p.next.length) l] := by
  simp [pnx, aMem, prodN, prodS]
/-- Systems under an assumption. -/
theorem pnx_under (ss : List Sys) (a p : Aut) (x l : Nat) :
    pnx (ss.map sMem ++ [aMem a, aMem p]) x l = (nx ss (x / p.next.length / a.next.length) l).1.map fun y => y * a.next.length * p.next.length + (aGo a (x / p.next.length % a.next.length) l * p.next.length + aGo p (x % p.next.length) l) := by
  have hp : prodN [aMem a, aMem p] = a.next.length * p.next.length := by simp [prodN, prodS, aMem]
  rw [pnx_append, pnx_two, nx_pnx, hp, Nat.div_div_eq_div_mul, Nat.mul_comm p.next.length a.next.length]
  simp only [List.map_cons, List.map_nil, ← List.map_eq_flatMap, Nat.mul_assoc]
/-- The assumption that says nothing. -/
def free : Aut := ⟨0, [[]], [true]⟩
theorem pnx_free (ss : List Sys) (p : Aut) (x l : Nat) : pnx (ss.map sMem ++ [aMem free, aMem p]) x l = pnx (ss.map sMem ++ [aMem p]) x l := by
  have h0 : ∀ q l, aGo free q l = q := fun q l => by simp [aGo, free]
  rw [pnx_append, pnx_append, pnx_two, pnx_one, h0]
  have h1 : prodN [aMem free, aMem p] = p.next.length := by simp [prodN, prodS, aMem, free]
  have h2 : prodN [aMem p] = p.next.length := by simp [prodN, prodS, aMem]
  rw [h1, h2]
  have h3 : free.next.length = 1 := rfl
  rw [h3, Nat.mod_one, Nat.zero_mul, Nat.zero_add]
theorem prodN_free (ss : List Sys) (p : Aut) : prodN (ss.map sMem ++ [aMem free, aMem p]) = prodN (ss.map sMem ++ [aMem p]) := by
  rw [prodN_append, prodN_append]
  have h1 : prodN [aMem free, aMem p] = p.next.length := by simp [prodN, prodS, aMem, free]
  have h2 : prodN [aMem p] = p.next.length := by simp [prodN, prodS, aMem]
  rw [h1, h2]

/-- The nodes when the members are taken one after the other. -/
def fwd (cs : List (Nat × List Nat)) : List Nat := cs.foldl (fun out c => out.flatMap fun o => c.2.map fun x => o * c.1 + x) [0]
theorem fwd_snoc (cs : List (Nat × List Nat)) (c : Nat × List Nat) : fwd (cs ++ [c]) = (fwd cs).flatMap fun o => c.2.map fun x => o * c.1 + x := by simp [fwd]
/-- The choices of all members. -/
def chs : List Mem → Nat → Nat → List (Nat × List Nat)
  | [], _, _ => []
  | m :: r, x, l => (m.1, m.2 (x / prodN r % m.1) l) :: chs r x l
theorem chs_length (ms : List Mem) (x l : Nat) : (chs ms x l).length = ms.length := by
  induction ms with
  | nil => rfl
  | cons m r ih => simp [chs, ih]
theorem chs_get {ms : List Mem} {x l k : Nat} {m : Mem} (h : ms[k]? = some m) : (chs ms x l)[k]? = some (m.1, m.2 (x / prodN (ms.drop (k + 1)) % m.1) l) := by
  induction ms generalizing k with
  | nil => simp at h
  | cons t r ih =>
    cases k with
    | zero => simp at h; subst h; simp [chs]
    | succ k => simp at h; simpa [chs] using ih h
theorem foldl_pnx (ms : List Mem) (x l : Nat) (out : List Nat) : (chs ms x l).foldl (fun out c => out.flatMap fun o => c.2.map fun x => o * c.1 + x) out = out.flatMap fun o => (pnx ms x l).map fun y => o * prodN ms + y := by
  induction ms generalizing out with
  | nil => simp [chs, pnx, prodN, prodS]
  | cons m r ih =>
    rw [chs, List.foldl_cons, ih, pnx, List.flatMap_assoc]
    congr 1
    funext o
    rw [List.flatMap_map, List.map_flatMap]
    congr 1
    funext q
    rw [List.map_map]
    congr 1
    funext y
    simp only [Function.comp, prodN_cons]
    rw [Nat.add_mul, Nat.mul_assoc, Nat.add_assoc]
theorem fwd_pnx (ms : List Mem) (x l : Nat) : fwd (chs ms x l) = pnx ms x l := by
  have := foldl_pnx ms x l [0]
  simpa [fwd] using this
/-- How many nodes there can be. -/
theorem flat_len {α β : Type} {l : List α} {f : α → List β} {k : Nat} (h : ∀ x ∈ l, (f x).length ≤ k) : (l.flatMap f).length ≤ l.length * k := by
  induction l with
  | nil => simp
  | cons x r ih =>
    have h1 := ih fun y hy => h y (by simp [hy])
    have h2 := h x (by simp)
    rw [List.flatMap_cons, List.length_append, List.length_cons, Nat.add_mul, Nat.one_mul]
    omega
theorem fwd_len {cs : List (Nat × List Nat)} (h : ∀ c ∈ cs, c.2.length ≤ c.1) : (fwd cs).length ≤ prodS (cs.map Prod.fst) := by
  have key : ∀ n, n ≤ cs.length → (fwd (cs.take n)).length ≤ prodS ((cs.take n).map Prod.fst) := by
    intro n
    induction n with
    | zero => intro _; simp [fwd, prodS]
    | succ n ih =>
      intro hn
      have hc : cs[n]? = some cs[n] := List.getElem?_eq_getElem (by omega)
      rw [List.take_add_one, hc]
      simp only [Option.toList_some]
      rw [fwd_snoc, List.map_append, prodS_append]
      refine Nat.le_trans (flat_len (k := (cs[n]).2.length) fun x _ => by simp) ?_
      refine Nat.mul_le_mul (ih (by omega)) ?_
      simpa [prodS] using h cs[n] (List.getElem_mem _)
  have := key cs.length (Nat.le_refl _)
  rwa [List.take_length] at this
theorem fwd_lt {cs : List (Nat × List Nat)} (h : ∀ c ∈ cs, ∀ x ∈ c.2, x < c.1) : ∀ y ∈ fwd cs, y < prodS (cs.map Prod.fst) := by
  have key : ∀ n, n ≤ cs.length → ∀ y ∈ fwd (cs.take n), y < prodS ((cs.take n).map Prod.fst) := by
    intro n
    induction n with
    | zero => intro _ y hy; simp [fwd] at hy; subst hy; simp [prodS]
    | succ n ih =>
      intro hn y hy
      have hc : cs[n]? = some cs[n] := List.getElem?_eq_getElem (by omega)
      rw [List.take_add_one, hc] at hy ⊢
      simp only [Option.toList_some] at hy ⊢
      rw [fwd_snoc] at hy
      rw [List.map_append, prodS_append]
      obtain ⟨o, ho, hy⟩ := List.mem_flatMap.1 hy
      obtain ⟨x, hx, rfl⟩ := List.mem_map.1 hy
      have h1 := ih (by omega) o ho
      have h2 := h cs[n] (List.getElem_mem _) x hx
      simp only [List.map_cons, List.map_nil, prodS, Nat.mul_one]
      calc o * (cs[n]).1 + x < o * (cs[n]).1 + (cs[n]).1 := by omega
        _ = (o + 1) * (cs[n]).1 := by rw [Nat.add_mul, Nat.one_mul]
        _ ≤ _ := Nat.mul_le_mul_right _ h1
  have := key cs.length (Nat.le_refl _)
  rwa [List.take_length] at this
/-- Valid members. -/
theorem sMem_ok {s : Sys} (h : Sml s) : MemOk (sMem s) := ⟨by have := h.1; simp only [sMem]; omega, fun q l hq hl x hx => cho_lt h hq x hx⟩
theorem autValid_row {a : Aut} (h : autValid a = true) : (0 ≤ a.al ∧ a.al ≤ 63) ∧ (1 ≤ a.next.length ∧ a.next.length ≤ 12) ∧ a.acc.length = a.next.length ∧ ∀ (q : Nat) (row : List Int), a.next[q]? = some row → row.length = (letters a.al.toNat 6).length ∧ ∀ x ∈ row, 0 ≤ x ∧ x < a.next.length := by
  simp only [autValid, Bool.and_eq_true, decide_eq_true_eq, List.all_eq_true] at h
  obtain ⟨h1, h2, h3, h4⟩ := h
  refine ⟨h1, h2, h3, fun q row hr => ?_⟩
  have := h4 row (List.mem_of_getElem? hr)
  simp only [rowB, Bool.and_eq_true, decide_eq_true_eq, List.all_eq_true] at this
  exact this
theorem place_lt {a l : Nat} (hl : l < 6) (hb : a.testBit l = true) : place a l < (letters a 6).length := by
  have key : ∀ n, l + 1 ≤ n → place a l < (letters a n).length := by
    intro n
    induction n with
    | zero => intro h; omega
    | succ n ih =>
      intro h
      rw [letters_succ, List.length_append]
      by_cases e : n = l
      · subst e
        simp [place, hb]
      · have := ih (by omega)
        omega
  exact key 6 (by omega)
theorem aGo_lt {a : Aut} (h : autValid a = true) {q l : Nat} (hq : q < a.next.length) (hl : l < 6) : aGo a q l < a.next.length := by
  obtain ⟨_, _, _, hr⟩ := autValid_row h
  unfold aGo
  split
  · rename_i hb
    have hrow : a.next[q]? = some a.next[q] := List.getElem?_eq_getElem hq
    obtain ⟨h1, h2⟩ := hr q _ hrow
    have hp := place_lt hl hb
    rw [← h1] at hp
    have hx := h2 _ (List.getElem_mem hp)
    simp only [List.getD_eq_getElem?_getD, hrow, Option.getD_some, List.getElem?_eq_getElem hp]
    omega
  · exact hq
theorem aMem_ok {a : Aut} (h : autValid a = true) : MemOk (aMem a) := ⟨(autValid_row h).2.1.1, fun q l hq hl x hx => by
  simp only [aMem, List.mem_singleton] at hx ⊢
  subst hx
  exact aGo_lt h hq hl⟩
theorem free_valid : autValid free = true := by decide
end Go.Proofs.Ytcmgkekaeafgaaa

namespace Go.Proofs.Ytcmgkekaeafgaaa
open Go Go.RowKit

/-- A node is a state and a set of states; what follows it by a letter. -/
def dW (es es' : List Edg) (Z n l : Nat) : List Nat := (letters (succ es (n / Z : Nat) l) 32).map fun q => q * Z + stepB es' (n % Z) l
section
variable {es es' : List Edg} {p q : Nat}
theorem dW_mem (hp : p ≤ 16) (hf : Few p es) (hg : Few q es') {n l x : Nat} : x ∈ dW es es' (2 ^ q) n l ↔ E es (n / 2 ^ q) l (x / 2 ^ q) ∧ x % 2 ^ q = stepB es' (n % 2 ^ q) l := by
  have hZ := Nat.two_pow_pos q
  have hy := stepB_lt hg (n % 2 ^ q) l
  unfold dW
  rw [List.mem_map]
  constructor
  · rintro ⟨k, hk, rfl⟩
    have h1 : (k * 2 ^ q + stepB es' (n % 2 ^ q) l) / 2 ^ q = k := by
      rw [Nat.mul_comm, Nat.mul_add_div hZ, Nat.div_eq_of_lt hy, Nat.add_zero]
    have h2 : (k * 2 ^ q + stepB es' (n % 2 ^ q) l) % 2 ^ q = stepB es' (n % 2 ^ q) l := by
      rw [Nat.mul_comm, Nat.mul_add_mod, Nat.mod_eq_of_lt hy]
    rw [h1, h2]
    exact ⟨(E_iff hf _ _ _).2 (mem_letters.1 hk).2, rfl⟩
  · rintro ⟨h1, h2⟩
    have h3 := (E_iff hf _ _ _).1 h1
    refine ⟨x / 2 ^ q, mem_letters.2 ⟨?_, h3⟩, ?_⟩
    · obtain ⟨e, he, _, _, h5⟩ := h1
      have := hf e he
      omega
    · rw [← h2, Nat.mul_comm]
      exact Nat.div_add_mod x (2 ^ q)
/-- What a word leads to in a system that is simulated: the set holds a state that simulates. -/
theorem sim_goes (hp : p ≤ 16) (hf : Few p es) (hg : Few q es') (hq : 1 ≤ q) {both : Bool} {R : List Nat} (hR : Gfp both es es' p q R) (h0 : rel R 0 0) {v : List Nat} {x : Nat} (hx : Goes (dW es es' (2 ^ q)) [1] v x) : ∃ j, rel R (x / 2 ^ q) j ∧ (x % 2 ^ q).testBit j = true := by
  have hZ : 2 ≤ 2 ^ q := by
    have := Nat.pow_le_pow_right (n := 2) (by omega) hq
    omega
  induction hx with
  | nil h =>
    obtain rfl := List.mem_singleton.1 h
    exact ⟨0, by rw [Nat.div_eq_of_lt (by omega)]; exact h0, by rw [Nat.mod_eq_of_lt (by omega)]; rfl⟩
  | @snoc w l n x _ h ih =>
    obtain ⟨j, hj, hb⟩ := ih
    obtain ⟨h1, h2⟩ := (dW_mem hp hf hg).1 h
    obtain ⟨k', h3, h4⟩ := (hR.post _ _ hj).1 _ _ h1
    refine ⟨k', h4, ?_⟩
    rw [h2, stepB_bit]
    obtain ⟨e, he, e1, e2, e3⟩ := h3
    exact ⟨e, he, ⟨e2, by rw [show e.fr.toNat = j by omega]; exact hb⟩, by omega⟩
theorem sim_lost (hp : p ≤ 16) (hf : Few p es) (hg : Few q es') (hq : 1 ≤ q) {both : Bool} {R : List Nat} (hR : Gfp both es es' p q R) (h0 : rel R 0 0) (L : List Nat) : Lost (dW es es' (2 ^ q)) [1] (fun n => n % 2 ^ q == 0) L := by
  intro v _ x hx
  obtain ⟨j, _, hj⟩ := sim_goes hp hf hg hq hR h0 hx
  cases h : (x % 2 ^ q == 0)
  · exact h
  · rw [beq_iff_eq] at h
    rw [h, Nat.zero_testBit] at hj
    cases hj
/-- The states that traces lead to. -/
inductive Rch (es : List Edg) : Nat → Prop where
  | zero : Rch es 0
  | step {i l k : Nat} (h : Rch es i) (hk : E es i l k) : Rch es k
/-- Each trace leads to one state. -/
def Det (es : List Edg) : Prop := ∀ i l k k', Rch es i → E es i l k → E es i l k' → k = k'
theorem Det.one (hg : Few q es') (hd : Det es') {j l k : Nat} (hj : Rch es' j) (hk : (stepB es' (2 ^ j) l).testBit k = true) : stepB es' (2 ^ j) l = 2 ^ k := by
  rw [stepB_one hg] at hk ⊢
  apply Nat.eq_of_testBit_eq
  intro i
  rw [Bool.eq_iff_iff, Nat.testBit_two_pow, decide_eq_true_eq]
  constructor
  · intro h
    exact hd j l k i hj ((E_iff hg j l k).2 hk) ((E_iff hg j l i).2 h)
  · rintro rfl
    exact hk
theorem pow_lt_of {j q x : Nat} (h : x % 2 ^ q = 2 ^ j) : j < q := by
  have h1 := Nat.mod_lt x (Nat.two_pow_pos q)
  rw [h] at h1
  exact (Nat.pow_lt_pow_iff_right (by omega)).1 h1
/-- One letter more, where no word leads out. -/
theorem lost_step (hp : p ≤ 16) (hf : Few p es) (hg : Few q es') {L : List Nat} (hL : ∀ i l k, E es i l k → l ∈ L) (hd : Det es') (h : Lost (dW es es' (2 ^ q)) [1] (fun n => n % 2 ^ q == 0) L)
    {v : List Nat} {x i j l k : Nat} (hv : ∀ l ∈ v, l ∈ L) (hx : Goes (dW es es' (2 ^ q)) [1] v x) (h1 : x / 2 ^ q = i) (h2 : x % 2 ^ q = 2 ^ j) (hj : Rch es' j) (hk : E es i l k) :
    l ∈ L ∧ ∃ k', E es' j l k' ∧ Goes (dW es es' (2 ^ q)) [1] (v ++ [l]) (k * 2 ^ q + 2 ^ k') := by
  have hl := hL _ _ _ hk
  have hZ := Nat.two_pow_pos q
  have hy := stepB_lt hg (2 ^ j) l
  have hm : k * 2 ^ q + stepB es' (2 ^ j) l ∈ dW es es' (2 ^ q) x l := by
    rw [dW_mem hp hf hg, h1, h2, Nat.mul_comm, Nat.mul_add_div hZ, Nat.div_eq_of_lt hy, Nat.add_zero, Nat.mul_add_mod, Nat.mod_eq_of_lt hy]
    exact ⟨hk, rfl⟩
  have hg2 := hx.snoc hm
  have hne := h (v ++ [l]) (fun m hm => by
    rcases List.mem_append.1 hm with h | h
    · exact hv m h
    · rw [List.mem_singleton.1 h]; exact hl) _ hg2
  simp only [beq_eq_false_iff_ne, ne_eq] at hne
  rw [Nat.mul_comm, Nat.mul_add_mod, Nat.mod_eq_of_lt hy] at hne
  obtain ⟨k', hk'⟩ := ne_zero_bit.1 hne
  rw [hd.one hg hj hk'] at hg2
  refine ⟨hl, k', ?_, hg2⟩
  rw [stepB_one hg] at hk'
  exact (E_iff hg j l k').2 hk'
theorem node_div {k q k' : Nat} (h : k' < q) : (k * 2 ^ q + 2 ^ k') / 2 ^ q = k ∧ (k * 2 ^ q + 2 ^ k') % 2 ^ q = 2 ^ k' := by
  have hZ := Nat.two_pow_pos q
  have hy : 2 ^ k' < 2 ^ q := (Nat.pow_lt_pow_iff_right (by omega)).2 h
  rw [Nat.mul_comm, Nat.mul_add_div hZ, Nat.div_eq_of_lt hy, Nat.add_zero, Nat.mul_add_mod, Nat.mod_eq_of_lt hy]
  exact ⟨rfl, rfl⟩
theorem E_lt (hf : Few p es) {i l k : Nat} (h : E es i l k) : i < p ∧ k < p := by
  obtain ⟨e, he, h1, h2, h3⟩ := h
  have := hf e he
  omega
theorem node_one (hq : 1 ≤ q) : 1 / 2 ^ q = 0 ∧ 1 % 2 ^ q = 2 ^ 0 := by
  have hZ : 2 ≤ 2 ^ q := by
    have := Nat.pow_le_pow_right (n := 2) (by omega) hq
    omega
  exact ⟨Nat.div_eq_of_lt (by omega), Nat.mod_eq_of_lt (by omega)⟩
/-- Determinism makes inclusion simulation. -/
theorem lost_sim (hp1 : 1 ≤ p) (hp : p ≤ 16) (hf : Few p es) (hg : Few q es') (hq : 1 ≤ q) {L : List Nat} (hL : ∀ i l k, E es i l k → l ∈ L) (hd : Det es') (h : Lost (dW es es' (2 ^ q)) [1] (fun n => n % 2 ^ q == 0) L)
    {R : List Nat} (hR : Gfp false es es' p q R) : rel R 0 0 := by
  refine hR.great (fun i j => i < p ∧ Rch es' j ∧ ∃ v x, (∀ l ∈ v, l ∈ L) ∧ Goes (dW es es' (2 ^ q)) [1] v x ∧ x / 2 ^ q = i ∧ x % 2 ^ q = 2 ^ j) ?_ 0 0 ⟨by omega, .zero, [], 1, (fun l hl => by cases hl), .nil (by simp), (node_one hq).1, (node_one hq).2⟩
  rintro i j ⟨hi, hj, v, x, hv, hx, h1, h2⟩
  refine ⟨hi, pow_lt_of h2, fun l k hk => ?_, fun hb => by cases hb⟩
  obtain ⟨hl, k', e', g'⟩ := lost_step hp hf hg hL hd h hv hx h1 h2 hj hk
  obtain ⟨d1, d2⟩ := node_div (k := k) (E_lt hg e').2
  refine ⟨k', e', (E_lt hf hk).2, hj.step e', v ++ [l], _, fun m hm => ?_, g', d1, d2⟩
  rcases List.mem_append.1 hm with h | h
  · exact hv m h
  · rw [List.mem_singleton.1 h]; exact hl
/-- Determinism of both makes equality bisimilarity. -/
theorem lost_bis (hp1 : 1 ≤ p) (hp : p ≤ 16) (hf : Few p es) (hg : Few q es') (hq : 1 ≤ q) (hq2 : q ≤ 16) {L : List Nat} (hL : ∀ i l k, E es i l k → l ∈ L) (hL' : ∀ i l k, E es' i l k → l ∈ L) (hd : Det es) (hd' : Det es')
    (h : Lost (dW es es' (2 ^ q)) [1] (fun n => n % 2 ^ q == 0) L) (h' : Lost (dW es' es (2 ^ p)) [1] (fun n => n % 2 ^ p == 0) L) {R : List Nat} (hR : Gfp true es es' p q R) : rel R 0 0 := by
  refine hR.great (fun i j => Rch es i ∧ Rch es' j ∧ ∃ v x y, (∀ l ∈ v, l ∈ L) ∧ Goes (dW es es' (2 ^ q)) [1] v x ∧ x / 2 ^ q = i ∧ x % 2 ^ q = 2 ^ j ∧ Goes (dW es' es (2 ^ p)) [1] v y ∧ y / 2 ^ p = j ∧ y % 2 ^ p = 2 ^ i) ?_ 0 0 ⟨.zero, .zero, [], 1, 1, (fun l hl => by cases hl), .nil (by simp), (node_one hq).1, (node_one hq).2, .nil (by simp), (node_one hp1).1, (node_one hp1).2⟩
  rintro i j ⟨hi, hj, v, x, y, hv, hx, h1, h2, hy, h3, h4⟩
  have key : ∀ l k k', E es i l k → E es' j l k' → ∃ v x y, (∀ l ∈ v, l ∈ L) ∧ Goes (dW es es' (2 ^ q)) [1] v x ∧ x / 2 ^ q = k ∧ x % 2 ^ q = 2 ^ k' ∧ Goes (dW es' es (2 ^ p)) [1] v y ∧ y / 2 ^ p = k' ∧ y % 2 ^ p = 2 ^ k := by
    intro l k k' hk hk'
    obtain ⟨hl, m', e', g'⟩ := lost_step hp hf hg hL hd' h hv hx h1 h2 hj hk
    obtain ⟨_, m, e, g⟩ := lost_step hq2 hg hf hL' hd h' hv hy h3 h4 hi hk'
    obtain rfl := hd' j l k' m' hj hk' e'
    obtain rfl := hd i l k m hi hk e
    obtain ⟨d1, d2⟩ := node_div (k := k) (E_lt hg e').2
    obtain ⟨d3, d4⟩ := node_div (k := k') (E_lt hf e).2
    refine ⟨v ++ [l], _, _, fun m hm => ?_, g', d1, d2, g, d3, d4⟩
    rcases List.mem_append.1 hm with h | h
    · exact hv m h
    · rw [List.mem_singleton.1 h]; exact hl
  refine ⟨pow_lt_of h4, pow_lt_of h2, fun l k hk => ?_, fun _ l k' hk' => ?_⟩
  · obtain ⟨_, k', e', _⟩ := lost_step hp hf hg hL hd' h hv hx h1 h2 hj hk
    exact ⟨k', e', hi.step hk, hj.step e', key l k k' hk e'⟩
  · obtain ⟨_, k, e, _⟩ := lost_step hq2 hg hf hL' hd h' hv hy h3 h4 hi hk'
    exact ⟨k, e, hi.step e, hj.step hk', key l k k' e hk'⟩
end
end Go.Proofs.Ytcmgkekaeafgaaa
