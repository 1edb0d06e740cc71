/- How chains and certificates are opened as arguments of the laws. -/
import Derived.Test.YtplllipekeomiaaGreatDoorG02
namespace Go.Proofs.YtplllipekeomiaaGreatDoor
open Go Go.ChangeShapes Go.WideShapes Go.ChangeAt Go.RowKit Go.Deep
set_option maxRecDepth 100000

theorem array6 {α : Type} {cs : Array α} (h : cs.size = 6) : ∃ c0 c1 c2 c3 c4 c5, cs = #[c0, c1, c2, c3, c4, c5] := by
  obtain ⟨l⟩ := cs
  match l, h with
  | [c0, c1, c2, c3, c4, c5], _ => exact ⟨c0, c1, c2, c3, c4, c5, rfl⟩
theorem arg_chain {H : Type} {enc : TypeId × Value → H} {w : World} {spare : Nat → Bool} {held : Bool} {r : Reach} {b0 : Nat} {v : Value} {d : DataW H} {p : List MemPlace} (hv : Value.okWide Tryz.prog w r b0 28 v) (h : DataW.Trod enc Tryz.prog w 0 spare held 28 v d p) :
    ∃ (a : Aut) (A : Option Addr) (n c : Nat) (A' : Option Addr) (n' c' : Nat) (b : Aut) (B : Option Addr) (m e : Nat) (B' : Option Addr) (m' e' : Nat), v = .agg #[.int .i64 a.al, .slice A n c, .slice A' n' c', .int .i64 b.al, .slice B m e, .slice B' m' e'] ∧ AutAt w 0 w.heap.size A n A' n' a ∧ AutAt w 0 w.heap.size B m B' m' b := by
  obtain ⟨cs, rfl, hsz⟩ := okWide_struct Tryz.underlying28 hv
  obtain ⟨c0, c1, c2, c3, c4, c5, rfl⟩ := array6 (hsz.trans (by kernel_rfl))
  obtain ⟨fuel, hf⟩ := h
  obtain ⟨y0, y1, k, _, _, h0, h1⟩ := trod_struct2 Tryz.underlying28 hf
  have k1 : Tryz.prog.cellsOf 26 = 3 := by kernel_rfl
  dsimp only at h0 h1
  rw [k1] at h0 h1
  obtain ⟨a, A, n, c, A', n', c', e0, hr⟩ := open_laws_aut h0
  obtain ⟨b, B, m, e, B', m', e', e1, hr'⟩ := open_laws_aut h1
  simp [Value.cells] at e0 e1
  obtain ⟨rfl, rfl, rfl⟩ := e0
  obtain ⟨rfl, rfl, rfl⟩ := e1
  exact ⟨a, A, n, c, A', n', c', b, B, m, e, B', m', e', rfl, hr, hr'⟩
theorem arg_cert {H : Type} {enc : TypeId × Value → H} {w : World} {spare : Nat → Bool} {held : Bool} {r : Reach} {b0 : Nat} {v : Value} {d : DataW H} {p : List MemPlace} (hv : Value.okWide Tryz.prog w r b0 48 v) (h : DataW.Trod enc Tryz.prog w 0 spare held 48 v d p) :
    ∃ (hd : Bool) (a : Aut) (A : Option Addr) (n c : Nat) (A' : Option Addr) (n' c' : Nat) (s : ByteArray), v = .agg #[.bool hd, .int .i64 a.al, .slice A n c, .slice A' n' c', .string s] ∧ AutAt w 0 w.heap.size A n A' n' a ∧ s.size ≤ 9223372036854775807 := by
  obtain ⟨cs, rfl, hsz⟩ := okWide_struct Tryz.underlying48 hv
  obtain ⟨c0, c1, c2, c3, c4, rfl⟩ := array5 (hsz.trans (by kernel_rfl))
  obtain ⟨fuel, hf⟩ := h
  obtain ⟨y0, y1, y2, k, _, _, h0, h1, h2⟩ := trod_struct3 Tryz.underlying48 hf
  have k1 : Tryz.prog.cellsOf 26 = 3 := by kernel_rfl
  have k4 : Tryz.prog.cellsOf 4 = 1 := by kernel_rfl
  have k9 : Tryz.prog.cellsOf 9 = 1 := by kernel_rfl
  dsimp only at h0 h1 h2
  rw [k4] at h0
  rw [k1] at h1
  rw [k9] at h2
  obtain ⟨hd, e0, _⟩ := DataW.trod_bool Tryz.underlying4 h0
  obtain ⟨a, A, n, c, A', n', c', e1, hr⟩ := open_laws_aut h1
  obtain ⟨s, e2, _, hs⟩ := DataW.trod_string Tryz.underlying9 h2
  simp [Value.cells] at e0 e1 e2
  obtain ⟨rfl, rfl, rfl⟩ := e1
  subst e0; subst e2
  exact ⟨hd, a, A, n, c, A', n', c', s, rfl, hr, by unfold maxLen at hs; omega⟩
end Go.Proofs.YtplllipekeomiaaGreatDoor
