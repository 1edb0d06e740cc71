/- impl.sameAlphabets and spec.l6Comparable, walked. -/
import Derived.Test.YtdeopnjheeekcaaDoorSV2
import Derived.Test.YtdeopnjheeekcaaDoorSV3
namespace Go.Proofs.YtdeopnjheeekcaaDoor
open Go Go.RowKit
set_option maxHeartbeats 1000000

/-- Two valid systems over one alphabet. -/
def sameB (s t : Sys) : Bool := sysValid s && (sysValid t && s.al == t.al)
theorem impl_sameAlphabets {lo hi lo' hi' : Nat} {A : Option Addr} {n c : Nat} {B : Option Addr} {m d : Nat} {s t : Sys} {w : World} (h : SysAt w lo hi A n s) (h' : SysAt w lo' hi' B m t) :
    Calls Tryd.prog 27 #[.agg #[.int .i64 s.al, .int .i64 s.st, .slice A n c], .agg #[.int .i64 t.al, .int .i64 t.st, .slice B m d]] w fun e w' => e = .returned (.bool (sameB s t)) ∧ Ext w w' := by
  have HS := hide (fun W (hW : Ext w W) => h.ext hW)
  have HT := hide (fun W (hW : Ext w W) => h'.ext hW)
  clear h h'
  cases h1 : sysValid s
  · have H1 := hide h1
    clear h1
    go_enter Tryd.func27, Tryd.ntmps27
    go_wp2_with (go_at_call 34; refine (impl_SystemValid (HS.out _ (((Ext.refl _).alloc _).alloc _))).mono ?_; rw [H1.out]; rintro e w1 ⟨rfl, hx⟩)
    go_ret
    exact ⟨ret_bool (by unfold sameB; rw [H1.out]; rfl), (((Ext.refl _).alloc _).alloc _).trans hx⟩
  · have H1 := hide h1
    clear h1
    cases h2 : sysValid t
    · have H2 := hide h2
      clear h2
      go_enter Tryd.func27, Tryd.ntmps27
      go_wp2_with fail
      refine (impl_SystemValid (HS.out _ (((Ext.refl _).alloc _).alloc _))).mono ?_
      rw [H1.out]
      rintro e w1 ⟨rfl, hx⟩
      obtain ⟨b1, b2⟩ := ext_blk2 hx
      have c1 := b1.cell
      have c2 := b2.cell
      go_wp2_with fail
      refine (impl_SystemValid (HT.out _ ((((Ext.refl _).alloc _).alloc _).trans hx))).mono ?_
      rw [H2.out]
      rintro e w2 ⟨rfl, hx2⟩
      go_wp2_with fail
      go_ret
      exact ⟨ret_bool (by unfold sameB; rw [H1.out, H2.out]; rfl), ((((Ext.refl _).alloc _).alloc _).trans hx).trans hx2⟩
    · have H2 := hide h2
      clear h2
      cases h3 : s.al == t.al
      all_goals
        have H3 := hide h3
        go_enter Tryd.func27, Tryd.ntmps27
        go_wp2_with fail
        refine (impl_SystemValid (HS.out _ (((Ext.refl _).alloc _).alloc _))).mono ?_
        rw [H1.out]
        rintro e w1 ⟨rfl, hx⟩
        obtain ⟨b1, b2⟩ := ext_blk2 hx
        have c1 := b1.cell
        have c2 := b2.cell
        go_wp2_with fail
        refine (impl_SystemValid (HT.out _ ((((Ext.refl _).alloc _).alloc _).trans hx))).mono ?_
        rw [H2.out]
        rintro e w2 ⟨rfl, hx2⟩
        have d1 := (b1.ext hx2).cell
        have d2 := (b2.ext hx2).cell
        go_wp2_with fail
        go_ret
        exact ⟨ret_bool (by unfold sameB; rw [H1.out, H2.out, H3.out]; first | rfl | simp_all), ((((Ext.refl _).alloc _).alloc _).trans hx).trans hx2⟩
theorem spec_l6Comparable {lo hi lo' hi' : Nat} {A : Option Addr} {n c : Nat} {B : Option Addr} {m d : Nat} {s t : Sys} {w : World} (h : SysAt w lo hi A n s) (h' : SysAt w lo' hi' B m t) :
    Calls Tryd.prog 23 #[.agg #[.int .i64 s.al, .int .i64 s.st, .slice A n c], .agg #[.int .i64 t.al, .int .i64 t.st, .slice B m d]] w fun e w' => e = .returned (.bool (sameB s t)) ∧ Ext w w' := by
  have HS := hide (fun W (hW : Ext w W) => h.ext hW)
  have HT := hide (fun W (hW : Ext w W) => h'.ext hW)
  clear h h'
  cases h1 : sysValid s
  · have H1 := hide h1
    clear h1
    go_enter Tryd.func23, Tryd.ntmps23
    go_wp2_with (go_at_call 32; refine (spec_SystemValid (HS.out _ (((Ext.refl _).alloc _).alloc _))).mono ?_; rw [H1.out]; rintro e w1 ⟨rfl, hx⟩)
    go_ret
    exact ⟨ret_bool (by unfold sameB; rw [H1.out]; rfl), (((Ext.refl _).alloc _).alloc _).trans hx⟩
  · have H1 := hide h1
    clear h1
    cases h2 : sysValid t
    · have H2 := hide h2
      clear h2
      go_enter Tryd.func23, Tryd.ntmps23
      go_wp2_with fail
      refine (spec_SystemValid (HS.out _ (((Ext.refl _).alloc _).alloc _))).mono ?_
      rw [H1.out]
      rintro e w1 ⟨rfl, hx⟩
      obtain ⟨b1, b2⟩ := ext_blk2 hx
      have c1 := b1.cell
      have c2 := b2.cell
      go_wp2_with fail
      refine (spec_SystemValid (HT.out _ ((((Ext.refl _).alloc _).alloc _).trans hx))).mono ?_
      rw [H2.out]
      rintro e w2 ⟨rfl, hx2⟩
      go_wp2_with fail
      go_ret
      exact ⟨ret_bool (by unfold sameB; rw [H1.out, H2.out]; rfl), ((((Ext.refl _).alloc _).alloc _).trans hx).trans hx2⟩
    · have H2 := hide h2
      clear h2
      cases h3 : s.al == t.al
      all_goals
        have H3 := hide h3
        go_enter Tryd.func23, Tryd.ntmps23
        go_wp2_with fail
        refine (spec_SystemValid (HS.out _ (((Ext.refl _).alloc _).alloc _))).mono ?_
        rw [H1.out]
        rintro e w1 ⟨rfl, hx⟩
        obtain ⟨b1, b2⟩ := ext_blk2 hx
        have c1 := b1.cell
        have c2 := b2.cell
        go_wp2_with fail
        refine (spec_SystemValid (HT.out _ ((((Ext.refl _).alloc _).alloc _).trans hx))).mono ?_
        rw [H2.out]
        rintro e w2 ⟨rfl, hx2⟩
        have d1 := (b1.ext hx2).cell
        have d2 := (b2.ext hx2).cell
        go_wp2_with fail
        go_ret
        exact ⟨ret_bool (by unfold sameB; rw [H1.out, H2.out, H3.out]; first | rfl | simp_all), ((((Ext.refl _).alloc _).alloc _).trans hx).trans hx2⟩
end Go.Proofs.YtdeopnjheeekcaaDoor
