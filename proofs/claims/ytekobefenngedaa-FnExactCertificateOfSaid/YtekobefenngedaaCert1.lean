/- Certificates: the size count, the copies and the comparisons of the laws. -/
import Derived.Test.YtekobefenngedaaEq
import Derived.Test.YtekobefenngedaaCV
namespace Go.Proofs.Ytekobefenngedaa
open Go Go.RowKit
set_option maxHeartbeats 400000

/-- A certificate in new memory. -/
def RetCert (w : World) (hd : Bool) (a : Aut) (s : ByteArray) (e : Ending) (w' : World) : Prop :=
  ∃ A n c A' n' c', e = .returned (.agg #[.bool hd, .int .i64 a.al, .slice A n c, .slice A' n' c', .string s]) ∧ AutOwn w' w.heap.size A n c A' n' c' a ∧ Ext w w'

/-- Two certificates are equal as data. -/
def certEq (hd : Bool) (a : Aut) (s : ByteArray) (hd' : Bool) (b : Aut) (s' : ByteArray) : Bool := (hd == hd') && (autEq a b && s.toList == s'.toList)

theorem eqCertificate_any (lo hi lo' hi' : Nat) (A : Option Addr) (n c : Nat) (A' : Option Addr) (n' c' : Nat) (hd : Bool) (s : ByteArray) (B : Option Addr) (m d : Nat) (B' : Option Addr) (m' d' : Nat) (hd' : Bool) (s' : ByteArray) (a b : Aut) (w : World)
    (h : AutAt w lo hi A n A' n' a) (h' : AutAt w lo' hi' B m B' m' b) :
    Calls Try.prog 8 #[.agg #[.bool hd, .int .i64 a.al, .slice A n c, .slice A' n' c', .string s], .agg #[.bool hd', .int .i64 b.al, .slice B m d, .slice B' m' d', .string s']] w fun e w' => e = .returned (.bool (certEq hd a s hd' b s')) ∧ Ext w w' := by
  have hR := fun W (hW : Ext w W) => h.ext hW
  have HR := hide hR
  have hR' := fun W (hW : Ext w W) => h'.ext hW
  have HR' := hide hR'
  clear hR hR'
  cases h0 : hd == hd'
  · go_enter Try.func8, Try.ntmps8
    go_wp2
    go_ret
    exact ⟨ret_bool (by rw [certEq, h0]; simp), ((Ext.refl _).alloc _).alloc _⟩
  · cases h1 : autEq a b
    all_goals
      have H1 := hide h1
      clear h1
      go_enter Try.func8, Try.ntmps8
      go_wp2_with (go_at_call 19; refine (eqAutomaton_any _ _ _ _ _ _ _ _ _ _ _ _ _ _ _ _ _ _ _ (HR.out _ ?_) (HR'.out _ ?_)).mono ?_; exact ((Ext.refl _).alloc _).alloc _; exact ((Ext.refl _).alloc _).alloc _; rw [H1.out]; rintro e w2 ⟨rfl, hext2⟩; obtain ⟨b1, b2⟩ := ext_blk2 hext2; have c1 := b1.cell; have c2 := b2.cell)
      all_goals go_ret
      all_goals exact ⟨ret_bool (by rw [certEq, H1.out, h0]; simp_all), (((Ext.refl _).alloc _).alloc _).trans hext2⟩
end Go.Proofs.Ytekobefenngedaa
