/- The letters of a chain: the rest. -/
import Derived.Test.YtdeopnjheeekcabCh2
namespace Go.Proofs.Ytdeopnjheeekcab
open Go Go.RowKit
set_option maxHeartbeats 1000000

/-- Three valid systems and a valid property. -/
def three (ss : List Sys) (p : Aut) : Bool := decide (ss.length = 3) && (areParts ss && autValid p)
theorem spec_l14Three {lo hi lo' hi' : Nat} {A : Option Addr} {n c : Nat} {ss : List Sys} {B : Option Addr} {m d : Nat} {B' : Option Addr} {m' d' : Nat} {p : Aut} {w : World} (h : SLAt w lo hi A n ss) (h' : AutAt w lo' hi' B m B' m' p) :
    Calls Try.prog 15 #[.slice A n c, .agg #[.int .i64 p.al, .slice B m d, .slice B' m' d']] w fun e w' => e = .returned (.bool (three ss p)) ∧ Ext w w' := by
  have hn := h.len
  have hL := hide h.1
  have hR := fun W (hW : Ext w W) => h'.ext hW
  have HR := hide hR
  clear hR h'
  by_cases h3 : n = 3
  · subst h3
    clear hn
    cases hp : areParts ss
    · have hneg := hide (show ¬ (0 : Int) ≤ partsA ss by unfold partsA; rw [hp]; simp)
      have hneg := hneg.out
      have Hp := hide hp
      clear hp
      go_enter Try.func15, Try.ntmps15
      go_wp2_with fail
      refine (spec_PartsAlphabet (h.ext ?_)).mono ?_
      · exact (Ext.refl _).alloc _
      rintro e w1 ⟨rfl, hx⟩
      go_wp2_with fail
      go_ret
      exact ⟨ret_bool (by unfold three; rw [Hp.out]; simp), ((Ext.refl _).alloc _).trans hx⟩
    · have hpos : partsA ss ≥ 0 := by unfold partsA; rw [hp]; simp
      have Hp := hide hp
      clear hp
      go_enter Try.func15, Try.ntmps15
      go_wp2_with fail
      refine (spec_PartsAlphabet (h.ext ?_)).mono ?_
      · exact (Ext.refl _).alloc _
      rintro e w1 ⟨rfl, hx⟩
      have c1 := fun j => ext_box (j := j) hx
      go_wp2_with fail
      refine (spec_AutomatonValid _ _ _ _ _ _ _ _ _ _ (HR.out _ (((Ext.refl _).alloc _).trans hx))).mono ?_
      rintro e w2 ⟨rfl, hx2⟩
      go_wp2_with fail
      go_ret
      exact ⟨ret_bool (by have := hL.out; unfold three; rw [Hp.out, decide_eq_true (by omega)]; simp), (((Ext.refl _).alloc _).trans hx).trans hx2⟩
  · go_enter Try.func15, Try.ntmps15
    go_wp2
    go_ret
    exact ⟨ret_bool (by have := hL.out; unfold three; rw [decide_eq_false (by omega)]; simp), (Ext.refl _).alloc _⟩
end Go.Proofs.Ytdeopnjheeekcab
