/- Certificates: the size count, the copies and the comparisons of the laws. -/
import Derived.Test.YtdeopnjheeekcaaEq
import Derived.Test.YtdeopnjheeekcaaCV
namespace Go.Proofs.Ytdeopnjheeekcaa
open Go Go.RowKit
set_option maxHeartbeats 400000

theorem szCertificate_any (lo hi : Nat) (A : Option Addr) (n c : Nat) (A' : Option Addr) (n' c' : Nat) (hd : Bool) (a : Aut) (s : ByteArray) (left : Int) (w : World) (h : AutAt w lo hi A n A' n' a) (hs : s.size ≤ 9223372036854775807) (h0 : 0 ≤ left) (h1 : left ≤ 1048576) :
    Calls Try.prog 5 #[.agg #[.bool hd, .int .i64 a.al, .slice A n c, .slice A' n' c', .string s], .int .i64 left] w fun e w' => e = .returned (.int .i64 (leftOf left (a.size + s.size))) ∧ Ext w w' := by
  have hle := leftOf_le left a.size h1
  have hsz : leftOf left (a.size + s.size) = if leftOf left a.size < 0 then -1 else leftOf (leftOf left a.size) s.size := by
    unfold leftOf; (repeat' split) <;> omega
  have Hsz := hide hsz
  clear hsz
  have hR := fun W (hW : Ext w W) => h.ext hW
  have HR := hide hR
  clear hR
  by_cases hneg : leftOf left a.size < 0
  · go_enter Try.func5, Try.ntmps5
    go_wp2_with (go_at_call 18; refine (szAutomaton_any _ _ _ _ _ _ _ _ _ _ _ (HR.out _ ((Ext.refl _).alloc _)) h0 h1).mono ?_; rintro e w' ⟨rfl, hx⟩)
    go_ret
    exact ⟨ret_int (by rw [Hsz.out, if_pos hneg]), ((Ext.refl _).alloc _).trans hx⟩
  · go_enter Try.func5, Try.ntmps5
    have hpos : 0 ≤ leftOf left a.size := by omega
    go_wp2_with (go_at_call 18; refine (szAutomaton_any _ _ _ _ _ _ _ _ _ _ _ (HR.out _ ((Ext.refl _).alloc _)) h0 h1).mono ?_; rintro e w' ⟨rfl, hx⟩; have hb := ext_box hx)
    all_goals go_ret
    all_goals exact ⟨ret_int (by rw [leftOf_two _ hpos]; split <;> omega), ((Ext.refl _).alloc _).trans hx⟩

/-- A certificate in new memory. -/
def RetCert (w : World) (hd : Bool) (a : Aut) (s : ByteArray) (e : Ending) (w' : World) : Prop :=
  ∃ A n c A' n' c', e = .returned (.agg #[.bool hd, .int .i64 a.al, .slice A n c, .slice A' n' c', .string s]) ∧ AutOwn w' w.heap.size A n c A' n' c' a ∧ Ext w w'

theorem toCertificate_any (lo hi : Nat) (A : Option Addr) (n c : Nat) (A' : Option Addr) (n' c' : Nat) (hd : Bool) (a : Aut) (s : ByteArray) (w : World) (h : AutAt w lo hi A n A' n' a) (hs : a.size ≤ 1048576) :
    Calls Try.prog 7 #[.agg #[.bool hd, .int .i64 a.al, .slice A n c, .slice A' n' c', .string s]] w (RetCert w hd a s) := by
  have hR := fun W (hW : Ext w W) => h.ext hW
  have HR := hide hR
  clear hR
  go_enter Try.func7, Try.ntmps7
  go_wp2_with (go_at_call 22; refine (toAutomaton_any _ _ _ _ _ _ _ _ _ _ (HR.out _ ?_) hs).mono ?_; exact (((Ext.refl _).alloc _).alloc _).alloc _; rintro e w2 ⟨B, m, d, B', m', d', rfl, hown2, hext2⟩; obtain ⟨b1, b2, b3⟩ := ext_blk3 hext2; have c1 := b1.cell; have c2 := b2.cell; have c3 := b3.cell; have f2 := b2.frozen; have f3 := b3.frozen; have hx2 := ((((Ext.refl w).alloc _).alloc _).alloc _).trans hext2)
  have z2 := hext2.size
  simp only [World.size_alloc] at z2 hown2
  refine bodyPost_ret (v := .agg #[.bool hd, .int .i64 a.al, .slice B m d, .slice B' m' d', .string s]) (by simp [results, Try.results7, go_sem, c2]) rfl ⟨_, _, _, _, _, _, rfl, ?_, ?_⟩
  · refine (hown2.keep (S := fun k => k < w.heap.size + 3) ?_ (by intro b hb; omega)).less (by omega)
    iterate 9 refine Frm.cell ?_ (by dsimp only; omega) _
    exact Frm.refl _ _
  · iterate 9 refine Ext.setCell ?_ (by dsimp only; omega) _
    exact hx2

/-- Two certificates are equal as data. -/
def certEq (hd : Bool) (a : Aut) (s : ByteArray) (hd' : Bool) (b : Aut) (s' : ByteArray) : Bool := (hd == hd') && (autEq a b && s.toList == s'.toList)

theorem eqCertificate_any (lo hi lo' hi' : Nat) (A : Option Addr) (n c : Nat) (A' : Option Addr) (n' c' : Nat) (hd : Bool) (s : ByteArray) (B : Option Addr) (m d : Nat) (B' : Option Addr) (m' d' : Nat) (hd' : Bool) (s' : ByteArray) (a b : Aut) (w : World)
    (h : AutAt w lo hi A n A' n' a) (h' : AutAt w lo' hi' B m B' m' b) :
    Calls Try.prog 9 #[.agg #[.bool hd, .int .i64 a.al, .slice A n c, .slice A' n' c', .string s], .agg #[.bool hd', .int .i64 b.al, .slice B m d, .slice B' m' d', .string s']] w fun e w' => e = .returned (.bool (certEq hd a s hd' b s')) ∧ Ext w w' := by
  have hR := fun W (hW : Ext w W) => h.ext hW
  have HR := hide hR
  have hR' := fun W (hW : Ext w W) => h'.ext hW
  have HR' := hide hR'
  clear hR hR'
  cases h0 : hd == hd'
  · go_enter Try.func9, Try.ntmps9
    go_wp2
    go_ret
    exact ⟨ret_bool (by rw [certEq, h0]; simp), ((Ext.refl _).alloc _).alloc _⟩
  · cases h1 : autEq a b
    all_goals
      have H1 := hide h1
      clear h1
      go_enter Try.func9, Try.ntmps9
      go_wp2_with (go_at_call 25; refine (eqAutomaton_any _ _ _ _ _ _ _ _ _ _ _ _ _ _ _ _ _ _ _ (HR.out _ ?_) (HR'.out _ ?_)).mono ?_; exact ((Ext.refl _).alloc _).alloc _; exact ((Ext.refl _).alloc _).alloc _; rw [H1.out]; rintro e w2 ⟨rfl, hext2⟩; obtain ⟨b1, b2⟩ := ext_blk2 hext2; have c1 := b1.cell; have c2 := b2.cell)
      all_goals go_ret
      all_goals exact ⟨ret_bool (by rw [certEq, H1.out, h0]; simp_all), (((Ext.refl _).alloc _).alloc _).trans hext2⟩
end Go.Proofs.Ytdeopnjheeekcaa
