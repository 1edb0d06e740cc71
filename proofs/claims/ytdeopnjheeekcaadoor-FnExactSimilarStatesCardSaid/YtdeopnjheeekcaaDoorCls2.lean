/- BisimClasses of the program and of the reference, walked. -/
import Derived.Test.YtdeopnjheeekcaaDoorCls
namespace Go.Proofs.YtdeopnjheeekcaaDoor
open Go Go.RowKit
set_option maxHeartbeats 1000000

theorem cls_fill {l rest : List Value} {k p : Nat} (u : Value) (hl : l.length = k) (hr : rest.length = p - k) (hk : k < p) : (l ++ rest).set k u = (l ++ [u]) ++ rest.drop 1 := by
  match rest, hr with
  | [], hr => simp at hr; omega
  | x :: r, _ =>
    rw [List.set_append_right _ _ (by omega), hl, Nat.sub_self]
    simp
theorem spec_BisimClasses {lo hi : Nat} {A : Option Addr} {n c : Nat} {s : Sys} {w : World} (h : SysAt w lo hi A n s) :
    Calls Tryd.prog 20 #[.agg #[.int .i64 s.al, .int .i64 s.st, .slice A n c]] w (RetN w (clsR s)) := by
  have HS := hide (fun W (hW : Ext w W) => h.ext hW)
  clear h
  cases h1 : sysValid s
  · have H1 := hide h1
    have hR := hide (show clsR s = [] by unfold clsR; rw [h1]; rfl)
    clear h1
    go_enter Tryd.func20, Tryd.ntmps20
    go_wp2_with (go_at_call 32; refine (spec_SystemValid (HS.out _ ((Ext.refl _).alloc _))).mono ?_; rw [H1.out]; rintro e w1 ⟨rfl, hx⟩)
    go_ret
    exact ⟨_, _, _, rfl, by rw [hR.out]; exact ⟨rfl, World.ownsRow_nil _ _ _ _⟩, ((Ext.refl _).alloc _).trans hx⟩
  · obtain ⟨p, hp, hp1, hp2, hf⟩ := valid_few h1
    have hR := hide (show clsR s = (clsOf (gfp true s s) p).1 by unfold clsR; rw [h1, hp]; rfl)
    have H1 := hide h1
    have Hf := hide hf
    have Hp := hide hp
    clear h1 hf hp
    go_enter Tryd.func20, Tryd.ntmps20
    go_wp2_with fail
    refine (spec_SystemValid (HS.out _ ((Ext.refl _).alloc _))).mono ?_
    rw [H1.out]
    rintro e w1 ⟨rfl, hx⟩
    have c1 := fun j => ext_box (j := j) hx
    have hw1 := ((Ext.refl w).alloc _).trans hx
    go_wp2_with fail
    refine (spec_l15Classes (HS.out _ hw1) Hp.out hp1 hp2 Hf.out).mono ?_
    rintro e w2 ⟨B, m, d, rfl, hown, hx2⟩
    go_wp2_with fail
    go_ret
    exact ⟨B, m, d, rfl, by rw [hR.out]; exact hown.less hw1.size, hw1.trans hx2⟩

theorem impl_BisimClasses {lo hi : Nat} {A : Option Addr} {n c : Nat} {s : Sys} {w : World} (h : SysAt w lo hi A n s) (hT : Tab w) :
    Calls Tryd.prog 21 #[.agg #[.int .i64 s.al, .int .i64 s.st, .slice A n c]] w (RetN w (clsR s)) := by
  have HS := hide (fun W (hW : Ext w W) => h.ext hW)
  have HTab := hide (fun W (hW : Ext w W) => hT.ext hW)
  clear h hT
  cases h1 : sysValid s
  · have H1 := hide h1
    have hR := hide (show clsR s = [] by unfold clsR; rw [h1]; rfl)
    clear h1
    go_enter Tryd.func21, Tryd.ntmps21
    go_wp2_with (go_at_call 34; refine (impl_SystemValid (HS.out _ ((Ext.refl _).alloc _))).mono ?_; rw [H1.out]; rintro e w1 ⟨rfl, hx⟩)
    go_ret
    exact ⟨_, _, _, rfl, by rw [hR.out]; exact ⟨rfl, World.ownsRow_nil _ _ _ _⟩, ((Ext.refl _).alloc _).trans hx⟩
  · obtain ⟨p, hp, hp1, hp2, hf⟩ := valid_few h1
    have hR := hide (show clsR s = (clsOf (gfp true s s) p).1 by unfold clsR; rw [h1, hp]; rfl)
    have H1 := hide h1
    have Hf := hide hf
    have Hsp := hide hp
    clear h1 hf hp
    go_enter Tryd.func21, Tryd.ntmps21
    go_wp2_with fail
    refine (impl_SystemValid (HS.out _ ((Ext.refl _).alloc _))).mono ?_
    rw [H1.out]
    rintro e w1 ⟨rfl, hx⟩
    have c1 := fun j => ext_box (j := j) hx
    have hw1 := ((Ext.refl w).alloc _).trans hx
    go_wp2_with fail
    refine (impl_greatestRelation (both := true) (HS.out _ hw1) (HS.out _ hw1) (HTab.out _ hw1) Hsp.out Hsp.out hp1 hp2 hp2 Hf.out Hf.out).mono ?_
    rintro e w2 ⟨g, R, rfl, hown2, hG, hx2⟩
    have HRe := hide (gfp_eq Hsp.out Hsp.out hG)
    have hGs := hide (fun i (hi : i < p) => gfp_self Hf.out hG hi)
    have hGm := hide (gfp_small hp2 hG)
    have hRl := hide hG.len
    have Hle := hide (clsOf_le R)
    have Hll := hide (clsOf_length R)
    have hw2 := hw1.trans hx2
    have c2 : ∀ j, w2.cell? ⟨w.heap.size, j, none⟩ = #[Value.int .i64 s.al, .int .i64 s.st, .slice A n c][j]? := fun j => (ext_blk1 (hx.trans hx2)).cell j
    rw [Hsp.out] at c2
    clear hG c1
    go_wp2_with (at_make; refine wpList_make w2 w2 rfl _ _ 32 rfl 3 _ 1 8 Tryd.underlying32 info_int _ _ p rfl rfl (Ext.refl _) (by omega) (by unfold maxLen; omega) ?_; intro w3 hx3 hown3 hx23 hsz3)
    clear c2
    obtain ⟨g4, hg4⟩ : ∃ g4, g4 = w2.heap.size := ⟨_, rfl⟩
    rw [← hg4] at hown3 hsz3 ⊢
    have hgg : w2.heap.size ≤ g4 := by omega
    clear hg4 hx23
    go_loopw [5, 19] (fun q i wr => ∃ k : Nat, k ≤ p ∧ i = .int .i64 k ∧ q = .int .i64 ((clsOf R k).2 : Nat) ∧ ∃ rest : List Value, Hid (rest.length = p - k) ∧ wr.ownsRow w2.heap.size 3 1 (.slice (some ⟨g4, 0, none⟩) p p) p (nats (clsOf R k).1 ++ rest) ∧ Ext w2 wr) (fun _ i _ => p - (intOf i).toNat)
    case atStart => exact ⟨0, Nat.zero_le _, rfl, rfl, _, by have := hown3.1; unfold Hid; rw [this]; omega, own_less (by simpa [nats, clsOf] using hown3) hgg, hx3⟩
    case round =>
      obtain ⟨k, hk, rfl, rfl, rest, hrest, hown, hext⟩ := hrel
      by_cases hlt : k < p
      · obtain ⟨r, hr⟩ : ∃ r, R[k]? = some r := ⟨_, List.getElem?_eq_getElem (by have := hRl.out; omega)⟩
        have hrD := hide (show R.getD k 0 = r by rw [List.getD_eq_getElem?_getD, hr]; rfl)
        have hrs := hGm.out r (List.mem_of_getElem? hr)
        have hrb : r.testBit k = true := by have := (hGs.out k hlt).2; rw [hrD.out] at this; exact this
        obtain ⟨tl, ht1, ht2, ht3, ht4⟩ := lst_spec (by omega) hrb
        have hc0 : wr.cell? ⟨g, k, none⟩ = some (.int .i64 (r : Nat)) := hext.cell_some (by rw [hown2.cellAt k (by omega)]; simp [nats, hr])
        have hT' := HTab.out _ (hw2.trans hext)
        have hcn := Hle.out k
        clear hr hrb ht2 ht4
        obtain ⟨m, hm⟩ : ∃ m, Hid (lst r = m) := ⟨_, rfl⟩
        rw [hm.out] at ht3 ht1
        have Ht1 := hide ht1
        clear ht1
        obtain ⟨q, hq⟩ : ∃ q, Hid ((clsOf R k).2 = q) := ⟨_, rfl⟩
        rw [hq.out] at hcn ⊢
        have hkl := hide (show (nats (clsOf R k).1).length = k by rw [nats_length, Hll.out])
        go_wp2_with fail
        refine (impl_members r hrs _ hT').mono ?_
        rintro e w4 ⟨C, f, rfl, hown4, hx4⟩
        rw [Ht1.out] at hown4
        obtain ⟨gc, rfl, _, _⟩ := own_some' hown4 (by simp)
        have c4 : w4.cell? ⟨gc, 0, none⟩ = some (.int .i64 (m : Nat)) := by rw [hown4.cellAt 0 (by simp)]; rfl
        have hl4 : 0 < (letters r 32).length := by rw [Ht1.out]; simp
        have hown5 := own_ext hown hx4
        obtain ⟨o0, g0⟩ := own_cell hown5 k (by omega)
        have f0 := hown5.frozenAt k
        clear hown4 hown
        by_cases hkm : m = k
        · have hst := hide (clsOf_yes (R := R) (k := k) (by rw [hrD.out, hm.out]; exact hkm))
          have hsto := hown5.stored k (.int .i64 (q : Nat))
          rw [cls_fill _ hkl.out hrest.out hlt] at hsto
          subst hkm
          go_wp2_with fail
          go_roundw
          case rel => exact ⟨m + 1, by omega, by go_num, by rw [hst.out]; simp [hq.out], rest.drop 1, by have := hrest.out; unfold Hid; rw [List.length_drop]; omega, by rw [hst.out, nats_append, hq.out]; exact hsto.1, (hext.trans hx4).setCell (by dsimp only; omega) _⟩
          case measure => simp [intOf]; omega
        · have hst := hide (clsOf_no (R := R) (k := k) (by rw [hrD.out, hm.out]; exact hkm))
          obtain ⟨y, hy⟩ : ∃ y, (clsOf R k).1[m]? = some y := ⟨_, List.getElem?_eq_getElem (by rw [Hll.out]; omega)⟩
          have hcy : w4.cell? ⟨g4, m, none⟩ = some (.int .i64 (y : Nat)) := by
            rw [hown5.cellAt m (by omega), List.getElem?_append_left (by rw [hkl.out]; omega)]
            simp [nats, hy]
          have hyD := hide (show (clsOf R k).1.getD m 0 = y by rw [List.getD_eq_getElem?_getD, hy]; rfl)
          have hsto := hown5.stored k (.int .i64 (y : Nat))
          rw [cls_fill _ hkl.out hrest.out hlt] at hsto
          have hne : ((m : Int) == (k : Int)) = false := by simp; omega
          have hmp : m < p := by omega
          clear hy hkm
          go_wp2_with fail
          go_roundw
          case rel => exact ⟨k + 1, by omega, by go_num, by rw [hst.out, hq.out], rest.drop 1, by have := hrest.out; unfold Hid; rw [List.length_drop]; omega, by rw [hst.out, hrD.out, hm.out, hyD.out, nats_append]; exact hsto.1, (hext.trans hx4).setCell (by dsimp only; omega) _⟩
          case measure => simp [intOf]; omega
      · obtain rfl : p = k := by omega
        obtain rfl : rest = [] := List.eq_nil_of_length_eq_zero (by have := hrest.out; omega)
        go_wp2
        go_ret
        refine ⟨_, _, _, rfl, ?_, hw2.trans hext⟩
        rw [hR.out, ← HRe.out]
        exact ⟨(Hll.out p).symm, own_less (by simpa using hown) hw2.size⟩
end Go.Proofs.YtdeopnjheeekcaaDoor
