/- The statement FnExactCertificateOf: for every verdict the law answers true; no condition. -/
import Derived.Test.YtekobefenngedaaLawCof
import Derived.Test.YtekobefenngedaaOpen
namespace Go.Proofs.Ytekobefenngedaa
open Go Go.ChangeShapes Go.WideShapes Go.ChangeAt Go.RowKit Go.Deep

theorem own_ : ownKnob Try.prog.godebug = none := by kernel_rfl
theorem laidOut_ : laidOutB Try.prog = true := by kernel_rfl

theorem open_laws_aut {H : Type} {enc : TypeId × Value → H} {w : World} {spare : Nat → Bool} {held : Bool} {fuel : Nat} {cs : List Value} {x : DataW H × List MemPlace} (h : DataW.trod enc Try.prog w 0 spare held fuel 25 cs = some x) :
    ∃ (a : Aut) (A : Option Addr) (n c : Nat) (A' : Option Addr) (n' c' : Nat), cs = [.int .i64 a.al, .slice A n c, .slice A' n' c'] ∧ AutAt w 0 w.heap.size A n A' n' a :=
  open_aut Try.underlying25 (by kernel_rfl) rfl rfl rfl (by kernel_rfl) (by kernel_rfl) (by kernel_rfl) Try.underlying3 Try.underlying22 Try.underlying50 Try.underlying3 (by kernel_rfl) (by kernel_rfl) Try.underlying23 Try.underlying4 (by kernel_rfl) h

theorem array6 {α : Type} {cs : Array α} (h : cs.size = 6) : ∃ c0 c1 c2 c3 c4 c5, cs = #[c0, c1, c2, c3, c4, c5] := by
  obtain ⟨l⟩ := cs
  match l, h with
  | [a, b, c, d, e, f], _ => exact ⟨a, b, c, d, e, f, rfl⟩
theorem open_laws_ver {H : Type} {enc : TypeId × Value → H} {w : World} {spare : Nat → Bool} {held : Bool} {r : Reach} {b0 : Nat} {v : Value} {d : DataW H} {p : List MemPlace} (hv : Value.okWide Try.prog w r b0 27 v) (h : DataW.Trod enc Try.prog w 0 spare held 27 v d p) :
    ∃ (cd ro : Int) (a : Aut) (A : Option Addr) (n c : Nat) (A' : Option Addr) (n' c' : Nat) (s : ByteArray), v = .agg #[.int .i64 cd, .int .i64 a.al, .slice A n c, .slice A' n' c', .string s, .int .i64 ro] ∧ AutAt w 0 w.heap.size A n A' n' a ∧ s.size ≤ 9223372036854775807 := by
  obtain ⟨cs, rfl, hsz⟩ := okWide_struct Try.underlying27 hv
  obtain ⟨c0, c1, c2, c3, c4, c5, rfl⟩ := array6 (hsz.trans (by kernel_rfl))
  obtain ⟨fuel, hf⟩ := h
  obtain ⟨y0, y1, y2, y3, k, _, _, h0, h1, h2, h3⟩ := Go.Joins.trod_struct4 Try.underlying27 hf
  have k1 : Try.prog.cellsOf 25 = 3 := by kernel_rfl
  have k4 : Try.prog.cellsOf 3 = 1 := by kernel_rfl
  have k9 : Try.prog.cellsOf 9 = 1 := by kernel_rfl
  dsimp only at h0 h1 h2 h3
  rw [k4] at h0 h3
  rw [k1] at h1
  rw [k9] at h2
  obtain ⟨cd, e0, _⟩ := DataW.trod_int Try.underlying3 h0
  obtain ⟨a, A, n, c, A', n', c', e1, hr⟩ := open_laws_aut h1
  obtain ⟨s, e2, _, hs⟩ := DataW.trod_string Try.underlying9 h2
  obtain ⟨ro, e3, _⟩ := DataW.trod_int Try.underlying3 h3
  simp [Value.cells] at e0 e1 e2 e3
  obtain ⟨rfl, rfl, rfl⟩ := e1
  subst e0; subst e2; subst e3
  exact ⟨cd, ro, a, A, n, c, A', n', c', s, rfl, hr, by unfold maxLen at hs; omega⟩

set_option maxRecDepth 100000 in
theorem certificateOf_lifted (os : Os) (started : os.Started) (H : Type) (enc : TypeId × Value → H) :
    ReturnsInHanded {} Try.checked os 3 .any (Rows.fnExactCertificateOfSpec.pre6 enc Try.prog Try.f3 Rows.fnExactCertificateOfRow.domain false) (Rows.fnExactCertificateOfSpec.post enc Try.prog Try.f3 false true false false) := by
  refine returnsInHanded_of_change (C := Try.checked) own_ started (by kernel_rfl) Try.func3
    (ChangeSpec.witness6 (enc := enc) (C := Try.checked) false ⟨#[], #[.agg #[.int .i64 0, .int .i64 0, .slice none 0 0, .slice none 0 0, .string ByteArray.empty, .int .i64 0]], []⟩ 8 (by kernel_rfl) (by kernel_rfl) (by kernel_rfl) (by kernel_rfl)) ?_
  intro W base args ds gs before hval0 hW hcnd _
  have hval : ∀ (j : Nat) t v, Try.f3.params[j]? = some t → args[j]? = some v → Value.okWide Try.prog W .any base t v := hval0
  have hW' := hW
  obtain ⟨p, q, hA0, hV, rfl, hfz, hnd⟩ := hW
  have hA : DataW.TrodAll enc Try.prog W 0 (fun _ => true) true Try.f3.params.toList args.toList ds p := hA0
  rw [Try.params3] at hA hval
  obtain ⟨v0, vs0, d0, ds0, p0, q0, hargs, rfl, rfl, h0, r0⟩ := trodAll_cons hA
  obtain ⟨rfl, rfl, rfl⟩ := trodAll_nil r0
  obtain rfl : args = #[v0] := by cases args; simp_all
  obtain ⟨rfl, rfl⟩ := trodVars_none hV
  have k0 := h0
  have lt0 : ∀ x ∈ p0, x.block < W.heap.size := by obtain ⟨m, hm⟩ := k0; exact DataW.trod_lt m _ _ _ hm
  obtain ⟨cd, ro, a, A, n, c, A', n', c', s, rfl, hr, hs⟩ := open_laws_ver (hval 0 _ v0 rfl rfl) h0
  clear hA0 hval0
  refine (law_CertificateOf hr hs).mono fun e W' ⟨he, hx⟩ => ?_
  subst he
  have bel := hx.below
  exact ⟨_, rfl, _, _, _, [], _, [], hW', trodAll_mk1 (shut_bool Try.underlying4 _), (trodAll_cons_mk (Below.trod laidOut_ (by kernel_rfl) (of_decide_eq_true (by kernel_rfl)) k0 bel lt0) trodAll_mk0), rfl, bel.frame _, fun h => by cases h⟩

/-- FnExactCertificateOf holds. -/
theorem certificateOf_holds : Rows.FnExactCertificateOfSaid :=
  OpenClaim.holds_of_wide 3 Try.f3 rfl rfl rfl rfl rfl rfl rfl ⟨rfl, rfl, rfl, rfl, rfl⟩ rfl rfl rfl rfl rfl (by kernel_rfl) Try.func3 (by kernel_rfl)
    (of_decide_eq_true (by kernel_rfl)) (by unfold Func.isWrapper; first | (rw [if_pos (by decide +kernel)]; kernel_rfl) | (rw [if_neg (by decide +kernel)]; exact ⟨rfl, rfl⟩))
    (fun os started H enc _ => certificateOf_lifted os started H enc)
end Go.Proofs.Ytekobefenngedaa
