/- Verdicts: the size count, the copies, the comparisons and the marks of the laws. -/
import Derived.Test.YtekobefenngedaaMarkA
import Derived.Test.YtekobefenngedaaCert1
namespace Go.Proofs.Ytekobefenngedaa
open Go Go.RowKit
set_option maxHeartbeats 1000000

theorem szVerdict_any {lo hi : Nat} {A : Option Addr} {n c : Nat} {A' : Option Addr} {n' c' : Nat} {cd ro : Int} {a : Aut} {s : ByteArray} {left : Int} {w : World} (h : AutAt w lo hi A n A' n' a) (hs : s.size ≤ 9223372036854775807) (h0 : 0 ≤ left) (h1 : left ≤ 1048576) :
    Calls Try.prog 4 #[.agg #[.int .i64 cd, .int .i64 a.al, .slice A n c, .slice A' n' c', .string s, .int .i64 ro], .int .i64 left] w fun e w' => e = .returned (.int .i64 (leftOf left (a.size + s.size))) ∧ Ext w w' := by
  have hle := leftOf_le left a.size h1
  have hsz : leftOf left (a.size + s.size) = if leftOf left a.size < 0 then -1 else leftOf (leftOf left a.size) s.size := by
    unfold leftOf; (repeat' split) <;> omega
  have Hsz := hide hsz
  clear hsz
  have HR := hide (fun W (hW : Ext w W) => h.ext hW)
  clear h
  by_cases hneg : leftOf left a.size < 0
  · go_enter Try.func4, Try.ntmps4
    go_wp2_with (go_at_call 13; refine (szAutomaton_any _ _ _ _ _ _ _ _ _ _ _ (HR.out _ ((Ext.refl _).alloc _)) h0 h1).mono ?_; rintro e w' ⟨rfl, hx⟩)
    go_ret
    exact ⟨ret_int (by rw [Hsz.out, if_pos hneg]), ((Ext.refl _).alloc _).trans hx⟩
  · go_enter Try.func4, Try.ntmps4
    have hpos : 0 ≤ leftOf left a.size := by omega
    go_wp2_with (go_at_call 13; refine (szAutomaton_any _ _ _ _ _ _ _ _ _ _ _ (HR.out _ ((Ext.refl _).alloc _)) h0 h1).mono ?_; rintro e w' ⟨rfl, hx⟩; have hb := ext_box hx)
    all_goals go_ret
    all_goals exact ⟨ret_int (by rw [leftOf_two _ hpos]; split <;> omega), ((Ext.refl _).alloc _).trans hx⟩

/-- A verdict in new memory. -/
def RetVer (w : World) (cd ro : Int) (a : Aut) (s : ByteArray) (e : Ending) (w' : World) : Prop :=
  ∃ A n c A' n' c', e = .returned (.agg #[.int .i64 cd, .int .i64 a.al, .slice A n c, .slice A' n' c', .string s, .int .i64 ro]) ∧ AutOwn w' w.heap.size A n c A' n' c' a ∧ Ext w w'

set_option maxRecDepth 100000 in
theorem toVerdict_any {lo hi : Nat} {A : Option Addr} {n c : Nat} {A' : Option Addr} {n' c' : Nat} {cd ro : Int} {a : Aut} {s : ByteArray} {w : World} (h : AutAt w lo hi A n A' n' a) (hs : a.size ≤ 1048576) :
    Calls Try.prog 6 #[.agg #[.int .i64 cd, .int .i64 a.al, .slice A n c, .slice A' n' c', .string s, .int .i64 ro]] w (RetVer w cd ro a s) := by
  have HR := hide (fun W (hW : Ext w W) => h.ext hW)
  clear h
  go_enter Try.func6, Try.ntmps6
  go_wp2_with (go_at_call 16; refine (toAutomaton_any _ _ _ _ _ _ _ _ _ _ (HR.out _ ?_) hs).mono ?_; exact (((Ext.refl _).alloc _).alloc _).alloc _; rintro e w2 ⟨B, m, d, B', m', d', rfl, hown2, hext2⟩; obtain ⟨b1, b2, b3⟩ := ext_blk3 hext2; have c1 := b1.cell; have c2 := b2.cell; have c3 := b3.cell; have f2 := b2.frozen; have f3 := b3.frozen; have hx2 := ((((Ext.refl w).alloc _).alloc _).alloc _).trans hext2)
  have z2 := hext2.size
  simp only [World.size_alloc] at z2 hown2
  refine bodyPost_ret (v := .agg #[.int .i64 cd, .int .i64 a.al, .slice B m d, .slice B' m' d', .string s, .int .i64 ro]) (by simp [results, Try.results6, go_sem, c2]) rfl ⟨_, _, _, _, _, _, rfl, ?_, ?_⟩
  · refine (hown2.keep (S := fun k => k < w.heap.size + 3) ?_ (by intro b hb; omega)).less (by omega)
    iterate 11 refine Frm.cell ?_ (by dsimp only; omega) _
    exact Frm.refl _ _
  · iterate 11 refine Ext.setCell ?_ (by dsimp only; omega) _
    exact hx2

/-- Two verdicts are equal as data. -/
theorem eqVerdict_same {lo hi lo' hi' : Nat} {A : Option Addr} {n c : Nat} {A' : Option Addr} {n' c' : Nat} {B : Option Addr} {m d : Nat} {B' : Option Addr} {m' d' : Nat} {cd ro : Int} {s : ByteArray} {a : Aut} {w : World}
    (h : AutAt w lo hi A n A' n' a) (h' : AutAt w lo' hi' B m B' m' a) :
    Calls Try.prog 9 #[.agg #[.int .i64 cd, .int .i64 a.al, .slice A n c, .slice A' n' c', .string s, .int .i64 ro], .agg #[.int .i64 cd, .int .i64 a.al, .slice B m d, .slice B' m' d', .string s, .int .i64 ro]] w fun e w' => e = .returned (.bool true) ∧ Ext w w' := by
  have HR := hide (fun W (hW : Ext w W) => h.ext hW)
  have HR' := hide (fun W (hW : Ext w W) => h'.ext hW)
  have H1 := hide (autEq_self a)
  clear h h'
  go_enter Try.func9, Try.ntmps9
  go_wp2_with (go_at_call 19; refine (eqAutomaton_any _ _ _ _ _ _ _ _ _ _ _ _ _ _ _ _ _ _ _ (HR.out _ ?_) (HR'.out _ ?_)).mono ?_; exact ((Ext.refl _).alloc _).alloc _; exact ((Ext.refl _).alloc _).alloc _; rw [H1.out]; rintro e w2 ⟨rfl, hext2⟩; obtain ⟨b1, b2⟩ := ext_blk2 hext2; have c1 := b1.cell; have c2 := b2.cell)
  go_ret
  exact ⟨rfl, (((Ext.refl _).alloc _).alloc _).trans hext2⟩
theorem eqCertificate_same {lo hi lo' hi' : Nat} {A : Option Addr} {n c : Nat} {A' : Option Addr} {n' c' : Nat} {B : Option Addr} {m d : Nat} {B' : Option Addr} {m' d' : Nat} {hd : Bool} {s : ByteArray} {a : Aut} {w : World}
    (h : AutAt w lo hi A n A' n' a) (h' : AutAt w lo' hi' B m B' m' a) :
    Calls Try.prog 8 #[.agg #[.bool hd, .int .i64 a.al, .slice A n c, .slice A' n' c', .string s], .agg #[.bool hd, .int .i64 a.al, .slice B m d, .slice B' m' d', .string s]] w fun e w' => e = .returned (.bool true) ∧ Ext w w' := by
  refine (eqCertificate_any _ _ _ _ _ _ _ _ _ _ _ _ _ _ _ _ _ _ _ _ _ _ _ h h').mono ?_
  rintro e w' ⟨rfl, hx⟩
  exact ⟨by simp [certEq, autEq_self], hx⟩
theorem markVerdict_any {base hi : Nat} {A : Option Addr} {n c : Nat} {A' : Option Addr} {n' c' : Nat} {a : Aut} {cd al ro : Int} {s : ByteArray} {k : Nat} {w : World} (h : AutH w base hi A n c A' n' c' a) (hk : k + cntA a ≤ 4611686018427387904) :
    Calls Try.prog 10 #[.agg #[.int .i64 cd, .int .i64 al, .slice A n c, .slice A' n' c', .string s, .int .i64 ro], .int .i64 k] w fun e w' => e = .returned (.int .i64 (k + cntA a : Nat)) ∧ AutH w' base hi A n c A' n' c' (mkA k a) ∧ Frm (fun b => base ≤ b ∧ b < hi) w w' := by
  have hx := (Ext.refl w).alloc (.cells #[.int .i64 cd, .int .i64 al, .slice A n c, .slice A' n' c', .string s, .int .i64 ro] 35)
  have h' := h.ext hx
  clear h
  go_enter Try.func10, Try.ntmps10
  go_wp2_with fail
  refine (markAutomaton_any h' hk).mono ?_
  rintro e w2 ⟨rfl, h2, hf⟩
  go_wp2_with fail
  go_ret
  exact ⟨rfl, h2, hx.toFrm.trans hf⟩
theorem markCertificate_any {base hi : Nat} {A : Option Addr} {n c : Nat} {A' : Option Addr} {n' c' : Nat} {a : Aut} {hd : Bool} {al : Int} {s : ByteArray} {k : Nat} {w : World} (h : AutH w base hi A n c A' n' c' a) (hk : k + cntA a ≤ 4611686018427387904) :
    Calls Try.prog 11 #[.agg #[.bool hd, .int .i64 al, .slice A n c, .slice A' n' c', .string s], .int .i64 k] w fun e w' => e = .returned (.int .i64 (k + cntA a : Nat)) ∧ AutH w' base hi A n c A' n' c' (mkA k a) ∧ Frm (fun b => base ≤ b ∧ b < hi) w w' := by
  have hx := (Ext.refl w).alloc (.cells #[.bool hd, .int .i64 al, .slice A n c, .slice A' n' c', .string s] 31)
  have h' := h.ext hx
  clear h
  go_enter Try.func11, Try.ntmps11
  go_wp2_with fail
  refine (markAutomaton_any h' hk).mono ?_
  rintro e w2 ⟨rfl, h2, hf⟩
  go_wp2_with fail
  go_ret
  exact ⟨rfl, h2, hx.toFrm.trans hf⟩
theorem heldCertificate_any {lo hi : Nat} {A : Option Addr} {n c : Nat} {A' : Option Addr} {n' c' : Nat} {a : Aut} {hd : Bool} {al : Int} {s : ByteArray} {k : Nat} {w : World} (h : AutAt w lo hi A n A' n' (mkA k a)) (hk : k + cntA a ≤ 4611686018427387904) :
    Calls Try.prog 12 #[.agg #[.bool hd, .int .i64 al, .slice A n c, .slice A' n' c', .string s], .int .i64 k] w fun e w' => e = .returned (.int .i64 (k + cntA a : Nat)) ∧ Ext w w' := by
  have hx := (Ext.refl w).alloc (.cells #[.bool hd, .int .i64 al, .slice A n c, .slice A' n' c', .string s] 31)
  have h' := h.ext hx
  have hk0 : ¬ (((k + cntA a : Nat) : Int) < 0) := by omega
  clear h
  go_enter Try.func12, Try.ntmps12
  go_wp2_with fail
  refine (heldAutomaton_any h' hk).mono ?_
  rintro e w2 ⟨rfl, hx2⟩
  go_wp2_with fail
  go_ret
  exact ⟨rfl, hx.trans hx2⟩
end Go.Proofs.Ytekobefenngedaa
