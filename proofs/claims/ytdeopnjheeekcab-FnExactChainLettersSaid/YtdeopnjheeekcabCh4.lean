/- ChainLetters of both. -/
import Derived.Test.YtdeopnjheeekcabCh3
namespace Go.Proofs.Ytdeopnjheeekcab
open Go Go.RowKit
set_option maxHeartbeats 1000000

/-- The letters of the first and of the second assumption. -/
def chain1 (ss : List Sys) (p : Aut) : Int :=
  if three ss p then match ss with
    | [x, y, z] => bits .and .i64 (bits .or .i64 x.al p.al) (bits .or .i64 y.al z.al)
    | _ => -1
  else -1
def chain2 (ss : List Sys) (p : Aut) : Int :=
  if three ss p then match ss with
    | [_, y, z] => bits .and .i64 (bits .or .i64 y.al (chain1 ss p)) z.al
    | _ => -1
  else -1
theorem three_list {ss : List Sys} {p : Aut} (h : three ss p = true) : ∃ x y z, ss = [x, y, z] := by
  simp only [three, Bool.and_eq_true, decide_eq_true_eq] at h
  match ss, h.1 with
  | [x, y, z], _ => exact ⟨x, y, z, rfl⟩

theorem spec_ChainLetters {lo hi lo' hi' : Nat} {A : Option Addr} {n c : Nat} {ss : List Sys} {B : Option Addr} {m d : Nat} {B' : Option Addr} {m' d' : Nat} {p : Aut} {w : World} (h : SLAt w lo hi A n ss) (h' : AutAt w lo' hi' B m B' m' p) :
    Calls Try.prog 6 #[.slice A n c, .agg #[.int .i64 p.al, .slice B m d, .slice B' m' d']] w fun e w' => e = .returned (.tuple #[.int .i64 (chain1 ss p), .int .i64 (chain2 ss p)]) ∧ Ext w w' := by
  cases hT : three ss p
  · have Hc1 := hide (show chain1 ss p = -1 by unfold chain1; rw [hT]; rfl)
    have Hc2 := hide (show chain2 ss p = -1 by unfold chain2; rw [hT]; rfl)
    have HT := hide hT
    clear hT
    go_enter Try.func6, Try.ntmps6
    go_wp2_with (go_at_call 15; refine (spec_l14Three (h.ext ?_) (h'.ext ?_)).mono ?_; exact (Ext.refl _).alloc _; exact (Ext.refl _).alloc _; rw [HT.out]; rintro e w1 ⟨rfl, hx⟩)
    go_ret2
    exact ⟨by rw [Hc1.out, Hc2.out]; rfl, ((Ext.refl _).alloc _).trans hx⟩
  · obtain ⟨x, y, z, rfl⟩ := three_list hT
    have Hc1 := hide (show chain1 [x, y, z] p = bits .and .i64 (bits .or .i64 x.al p.al) (bits .or .i64 y.al z.al) by unfold chain1; rw [hT]; rfl)
    have Hc2 := hide (show chain2 [x, y, z] p = bits .and .i64 (bits .or .i64 y.al (chain1 [x, y, z] p)) z.al by rw [chain2, hT]; rfl)
    have HT := hide hT
    clear hT
    obtain rfl : n = 3 := h.1
    have hm : ∀ W, Ext w W → ∃ b o, A = some ⟨b, o, none⟩ ∧ W.cell? ⟨b, o, none⟩ = some (.int .i64 x.al) ∧ W.cell? ⟨b, o + 3, none⟩ = some (.int .i64 y.al) ∧ W.cell? ⟨b, o + 6, none⟩ = some (.int .i64 z.al) := by
      intro W hW
      have h := h.ext hW
      obtain ⟨b, o, s, B, q, d, rfl, hlo, hhi, hs, c0, c1, c2, hsy⟩ := h.sys (k := 0) (by omega)
      obtain rfl : x = s := by have := hs.out; simpa using this
      obtain ⟨B1, q1, d1, e0, e1, e2, hsy1⟩ := h.sys2 (k := 1) (s := y) rfl
      obtain ⟨B2, q2, d2, g0, g1, g2, hsy2⟩ := h.sys2 (k := 2) (s := z) rfl
      exact ⟨b, o, rfl, by simpa using c0, e0, g0⟩
    have Hm := hide hm
    clear hm
    go_enter Try.func6, Try.ntmps6
    go_wp2_with (go_at_call 15; refine (spec_l14Three (h.ext ?_) (h'.ext ?_)).mono ?_; exact (Ext.refl _).alloc _; exact (Ext.refl _).alloc _; rw [HT.out]; rintro e w1 ⟨rfl, hx⟩; obtain ⟨b, o, rfl, c0, c1, c2⟩ := Hm.out w1 (((Ext.refl _).alloc _).trans hx); have cp := fun j => ext_box (j := j) hx)
    go_quiet (fail)
    go_wp2_with fail
    go_quiet (fail)
    go_wp2_with fail
    go_ret2
    exact ⟨by rw [Hc2.out, Hc1.out]; rfl, ((((Ext.refl _).alloc _).trans hx).drewN _).drewN _⟩

theorem impl_ChainLetters {lo hi lo' hi' : Nat} {A : Option Addr} {n c : Nat} {ss : List Sys} {B : Option Addr} {m d : Nat} {B' : Option Addr} {m' d' : Nat} {p : Aut} {w : World} (h : SLAt w lo hi A n ss) (h' : AutAt w lo' hi' B m B' m' p) :
    Calls Try.prog 9 #[.slice A n c, .agg #[.int .i64 p.al, .slice B m d, .slice B' m' d']] w fun e w' => e = .returned (.tuple #[.int .i64 (chain1 ss p), .int .i64 (chain2 ss p)]) ∧ Ext w w' := by
  have hR := fun W (hW : Ext w W) => h'.ext hW
  have HR := hide hR
  clear hR h'
  cases hT : three ss p
  · have Hc1 := hide (show chain1 ss p = -1 by unfold chain1; rw [hT]; rfl)
    have Hc2 := hide (show chain2 ss p = -1 by unfold chain2; rw [hT]; rfl)
    by_cases h3 : n = 3
    · subst h3
      have hT' : (areParts ss && autValid p) = false := by
        have := h.1
        unfold three at hT
        rw [decide_eq_true (by omega), Bool.true_and] at hT
        exact hT
      clear hT
      cases hp : areParts ss
      · have Hp := hide hp
        clear hp hT'
        go_enter Try.func9, Try.ntmps9
        go_wp2_with (go_at_call 19; refine (impl_areParts (h.ext ?_)).mono ?_; exact (Ext.refl _).alloc _; rw [Hp.out]; rintro e w1 ⟨rfl, hx⟩)
        go_ret2
        exact ⟨by rw [Hc1.out, Hc2.out]; rfl, ((Ext.refl _).alloc _).trans hx⟩
      · rw [hp, Bool.true_and] at hT'
        have Hp := hide hp
        have HT := hide hT'
        clear hp hT'
        go_enter Try.func9, Try.ntmps9
        go_wp2_with (first
          | (go_at_call 19; refine (impl_areParts (h.ext ?_)).mono ?_; exact (Ext.refl _).alloc _; rw [Hp.out]; rintro e w1 ⟨rfl, hx⟩; have c1 := fun j => ext_box (j := j) hx)
          | (go_at_call 20; refine (impl_AutomatonValid _ _ _ _ _ _ _ _ _ _ (HR.out _ (((Ext.refl _).alloc _).trans hx))).mono ?_; rw [HT.out]; rintro e w2 ⟨rfl, hx2⟩))
        go_ret2
        exact ⟨by rw [Hc1.out, Hc2.out]; rfl, (((Ext.refl _).alloc _).trans hx).trans hx2⟩
    · have hne : ((n : Int) != 3) = true := by simp; omega
      clear hT
      go_enter Try.func9, Try.ntmps9
      go_wp2
      go_ret2
      exact ⟨by rw [Hc1.out, Hc2.out]; rfl, (Ext.refl _).alloc _⟩
  · obtain ⟨x, y, z, rfl⟩ := three_list hT
    have Hc1 := hide (show chain1 [x, y, z] p = bits .and .i64 (bits .or .i64 x.al p.al) (bits .or .i64 y.al z.al) by unfold chain1; rw [hT]; rfl)
    have Hc2 := hide (show chain2 [x, y, z] p = bits .and .i64 (bits .or .i64 y.al (chain1 [x, y, z] p)) z.al by rw [chain2, hT]; rfl)
    obtain rfl : n = 3 := h.1
    have hT' := hT
    simp only [three, Bool.and_eq_true] at hT'
    have Hp := hide hT'.2.1
    have HT := hide hT'.2.2
    clear hT hT'
    have hm : ∀ W, Ext w W → ∃ b o, A = some ⟨b, o, none⟩ ∧ W.cell? ⟨b, o, none⟩ = some (.int .i64 x.al) ∧ W.cell? ⟨b, o + 3, none⟩ = some (.int .i64 y.al) ∧ W.cell? ⟨b, o + 6, none⟩ = some (.int .i64 z.al) := by
      intro W hW
      have h := h.ext hW
      obtain ⟨b, o, s, B, q, d, rfl, hlo, hhi, hs, c0, c1, c2, hsy⟩ := h.sys (k := 0) (by omega)
      obtain rfl : x = s := by have := hs.out; simpa using this
      obtain ⟨B1, q1, d1, e0, e1, e2, hsy1⟩ := h.sys2 (k := 1) (s := y) rfl
      obtain ⟨B2, q2, d2, g0, g1, g2, hsy2⟩ := h.sys2 (k := 2) (s := z) rfl
      exact ⟨b, o, rfl, by simpa using c0, e0, g0⟩
    have Hm := hide hm
    clear hm
    go_enter Try.func9, Try.ntmps9
    go_wp2_with (first
      | (go_at_call 19; refine (impl_areParts (h.ext ?_)).mono ?_; exact (Ext.refl _).alloc _; rw [Hp.out]; rintro e w1 ⟨rfl, hx⟩; have c1 := fun j => ext_box (j := j) hx)
      | (go_at_call 20; refine (impl_AutomatonValid _ _ _ _ _ _ _ _ _ _ (HR.out _ (((Ext.refl _).alloc _).trans hx))).mono ?_; rw [HT.out]; rintro e w2 ⟨rfl, hx2⟩; obtain ⟨b, o, rfl, g0, g1, g2⟩ := Hm.out w2 ((((Ext.refl _).alloc _).trans hx).trans hx2); have cp := fun j => ext_box (j := j) (hx.trans hx2)))
    go_quiet (fail)
    go_wp2_with fail
    go_quiet (fail)
    go_wp2_with fail
    go_ret2
    exact ⟨by rw [Hc2.out, Hc1.out]; rfl, (((((Ext.refl _).alloc _).trans hx).trans hx2).drewN _).drewN _⟩
end Go.Proofs.Ytdeopnjheeekcab
