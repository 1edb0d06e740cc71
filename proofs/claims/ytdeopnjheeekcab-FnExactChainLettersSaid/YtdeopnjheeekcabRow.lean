/- What every row's proof takes: how the arguments of the laws are opened. -/
import Derived.Test.YtdeopnjheeekcabOpen2
namespace Go.Proofs.Ytdeopnjheeekcab
open Go Go.ChangeShapes Go.WideShapes Go.ChangeAt Go.RowKit Go.Deep

theorem own_ : ownKnob Try.prog.godebug = none := by kernel_rfl
theorem laidOut_ : laidOutB Try.prog = true := by kernel_rfl

theorem open_laws_aut {H : Type} {enc : TypeId × Value → H} {w : World} {spare : Nat → Bool} {held : Bool} {fuel : Nat} {cs : List Value} {x : DataW H × List MemPlace} (h : DataW.trod enc Try.prog w 0 spare held fuel 26 cs = some x) :
    ∃ (a : Aut) (A : Option Addr) (n c : Nat) (A' : Option Addr) (n' c' : Nat), cs = [.int .i64 a.al, .slice A n c, .slice A' n' c'] ∧ AutAt w 0 w.heap.size A n A' n' a :=
  open_aut Try.underlying26 (by kernel_rfl) rfl rfl rfl (by kernel_rfl) (by kernel_rfl) (by kernel_rfl) Try.underlying3 Try.underlying23 Try.underlying58 Try.underlying3 (by kernel_rfl) (by kernel_rfl) Try.underlying24 Try.underlying4 (by kernel_rfl) h
theorem open_laws_sys {H : Type} {enc : TypeId × Value → H} {w : World} {spare : Nat → Bool} {held : Bool} {fuel : Nat} {cs : List Value} {x : DataW H × List MemPlace} (h : DataW.trod enc Try.prog w 0 spare held fuel 41 cs = some x) :
    ∃ (s : Sys) (A : Option Addr) (n c : Nat), cs = [.int .i64 s.al, .int .i64 s.st, .slice A n c] ∧ SysAt w 0 w.heap.size A n s :=
  open_sys Try.underlying41 (by kernel_rfl) rfl rfl rfl (by kernel_rfl) (by kernel_rfl) (by kernel_rfl) Try.underlying3 Try.underlying3 Try.underlying39 (by kernel_rfl) Try.underlying72 rfl rfl rfl (by kernel_rfl) (by kernel_rfl) (by kernel_rfl) Try.underlying3 Try.underlying3 Try.underlying3 h
theorem open_laws_systems {H : Type} {enc : TypeId × Value → H} {w : World} {spare : Nat → Bool} {held : Bool} {fuel : Nat} {cs : List Value} {x : DataW H × List MemPlace} (h : DataW.trod enc Try.prog w 0 spare held fuel 22 cs = some x) :
    ∃ (ss : List Sys) (A : Option Addr) (n c : Nat), cs = [.slice A n c] ∧ SLAt w 0 w.heap.size A n ss :=
  open_systems Try.underlying22 Try.underlying41 (by kernel_rfl) rfl rfl rfl (by kernel_rfl) (by kernel_rfl) (by kernel_rfl) Try.underlying3 Try.underlying3 Try.underlying39 (by kernel_rfl) Try.underlying72 rfl rfl rfl (by kernel_rfl) (by kernel_rfl) (by kernel_rfl) Try.underlying3 Try.underlying3 Try.underlying3 h

theorem array3 {α : Type} {cs : Array α} (h : cs.size = 3) : ∃ c0 c1 c2, cs = #[c0, c1, c2] := by
  obtain ⟨l⟩ := cs
  match l, h with
  | [c0, c1, c2], _ => exact ⟨c0, c1, c2, rfl⟩

/-- An automaton, as a row's argument. -/
theorem arg_aut {H : Type} {enc : TypeId × Value → H} {w : World} {spare : Nat → Bool} {held : Bool} {r : Reach} {b0 : Nat} {v : Value} {d : DataW H} {p : List MemPlace} (hv : Value.okWide Try.prog w r b0 26 v) (h : DataW.Trod enc Try.prog w 0 spare held 26 v d p) :
    ∃ (a : Aut) (A : Option Addr) (n c : Nat) (A' : Option Addr) (n' c' : Nat), v = .agg #[.int .i64 a.al, .slice A n c, .slice A' n' c'] ∧ AutAt w 0 w.heap.size A n A' n' a := by
  obtain ⟨cs, rfl, hsz⟩ := okWide_struct Try.underlying26 hv
  obtain ⟨c0, c1, c2, rfl⟩ := array3 (hsz.trans (by kernel_rfl))
  obtain ⟨fuel, hf⟩ := h
  obtain ⟨a, A, n, c, A', n', c', e1, hr⟩ := open_laws_aut hf
  simp [Value.cells] at e1
  obtain ⟨rfl, rfl, rfl⟩ := e1
  exact ⟨a, A, n, c, A', n', c', rfl, hr⟩
theorem arg_sys {H : Type} {enc : TypeId × Value → H} {w : World} {spare : Nat → Bool} {held : Bool} {r : Reach} {b0 : Nat} {v : Value} {d : DataW H} {p : List MemPlace} (hv : Value.okWide Try.prog w r b0 41 v) (h : DataW.Trod enc Try.prog w 0 spare held 41 v d p) :
    ∃ (s : Sys) (A : Option Addr) (n c : Nat), v = .agg #[.int .i64 s.al, .int .i64 s.st, .slice A n c] ∧ SysAt w 0 w.heap.size A n s := by
  obtain ⟨cs, rfl, hsz⟩ := okWide_struct Try.underlying41 hv
  obtain ⟨c0, c1, c2, rfl⟩ := array3 (hsz.trans (by kernel_rfl))
  obtain ⟨fuel, hf⟩ := h
  obtain ⟨a, A, n, c, e1, hr⟩ := open_laws_sys hf
  simp [Value.cells] at e1
  obtain ⟨rfl, rfl, rfl⟩ := e1
  exact ⟨a, A, n, c, rfl, hr⟩
theorem arg_systems {H : Type} {enc : TypeId × Value → H} {w : World} {spare : Nat → Bool} {held : Bool} {r : Reach} {b0 : Nat} {v : Value} {d : DataW H} {p : List MemPlace} (hv : Value.okWide Try.prog w r b0 22 v) (h : DataW.Trod enc Try.prog w 0 spare held 22 v d p) :
    ∃ (ss : List Sys) (A : Option Addr) (n c : Nat), v = .slice A n c ∧ SLAt w 0 w.heap.size A n ss := by
  obtain ⟨a, l, k, rfl⟩ := okWide_slice Try.underlying22 hv
  obtain ⟨fuel, hf⟩ := h
  obtain ⟨ss, A, n, c, e1, hr⟩ := open_laws_systems hf
  simp [Value.cells] at e1
  obtain ⟨rfl, rfl, rfl⟩ := e1
  exact ⟨ss, a, l, k, rfl, hr⟩
end Go.Proofs.Ytdeopnjheeekcab
