/- Contracts: validity of certificates. -/
import Derived.Test.YtekobefenngedaaAV2
namespace Go.Proofs.Ytekobefenngedaa
open Go Go.RowKit
set_option maxHeartbeats 400000

/-- A certificate is valid: what the document says of it. -/
def certValid (hd : Bool) (a : Aut) (s : ByteArray) : Bool := if hd then autValid a && s.toList.isEmpty else autNone a && wordB s

theorem spec_CertificateValid (lo hi : Nat) (A : Option Addr) (n c : Nat) (A' : Option Addr) (n' c' : Nat) (hd : Bool) (a : Aut) (s : ByteArray) (w : World) (h : AutAt w lo hi A n A' n' a) (hs : s.size ≤ 9223372036854775807) :
    Calls Try.prog 15 #[.agg #[.bool hd, .int .i64 a.al, .slice A n c, .slice A' n' c', .string s]] w fun e w' => e = .returned (.bool (certValid hd a s)) ∧ Ext w w' := by
  have hR := fun W (hW : Ext w W) => h.ext hW
  have HR := hide hR
  clear hR
  cases hd
  · cases hb : autNone a
    all_goals
      have Hb := hide hb
      clear hb
      go_enter Try.func15, Try.ntmps15
      go_wp2_with (first
        | (go_at_call 25; refine (spec_l13None _ _ _ _ _ _ _ _ _ _ (HR.out _ ?_)).mono ?_; exact (Ext.refl _).alloc _; rw [Hb.out]; rintro e w2 ⟨rfl, hext2⟩; have hbox := ext_box hext2)
        | (go_at_call 26; refine (spec_WordValid s _ hs).mono ?_; rintro e w' ⟨rfl, rfl⟩))
      go_ret
      exact ⟨ret_bool (by rw [certValid, Hb.out]; simp), ((Ext.refl _).alloc _).trans hext2⟩
  · cases hb : autValid a
    all_goals
      have Hb := hide hb
      clear hb
      go_enter Try.func15, Try.ntmps15
      go_wp2_with (go_at_call 24; refine (spec_AutomatonValid _ _ _ _ _ _ _ _ _ _ (HR.out _ ?_)).mono ?_; exact (Ext.refl _).alloc _; rw [Hb.out]; rintro e w2 ⟨rfl, hext2⟩; have hbox := ext_box hext2)
      go_ret
      exact ⟨ret_bool (by rw [certValid, Hb.out]; simp), ((Ext.refl _).alloc _).trans hext2⟩

theorem impl_CertificateValid (lo hi : Nat) (A : Option Addr) (n c : Nat) (A' : Option Addr) (n' c' : Nat) (hd : Bool) (a : Aut) (s : ByteArray) (w : World) (h : AutAt w lo hi A n A' n' a) (hs : s.size ≤ 9223372036854775807) :
    Calls Try.prog 18 #[.agg #[.bool hd, .int .i64 a.al, .slice A n c, .slice A' n' c', .string s]] w fun e w' => e = .returned (.bool (certValid hd a s)) ∧ Ext w w' := by
  have hR := fun W (hW : Ext w W) => h.ext hW
  have HR := hide hR
  clear hR
  cases hd
  · have Hv := hide (show autNone a = (decide (a.al = 0) && (decide (n = 0) && decide (n' = 0))) by unfold autNone; rw [← h.n1, ← h.n2])
    have hl1 := h.1.len
    have hl2 := h.2.2.len
    clear h
    by_cases h0 : a.al = 0
    · have hb : ((a.al : Int) == 0) = true := by simp [h0]
      have H0 := hide h0
      clear h0
      by_cases h1 : n = 0
      · have hb1 : ((n : Int) == 0) = true := by simp [h1]
        have H1 := hide h1
        clear h1
        by_cases h2 : n' = 0
        · have hb2 : ((n' : Int) == 0) = true := by simp [h2]
          have H2 := hide h2
          clear h2
          go_enter Try.func18, Try.ntmps18
          go_wp2_with (go_at_call 32; refine (impl_WordValid s _ hs).mono ?_; rintro e w' ⟨rfl, rfl⟩)
          go_ret
          exact ⟨ret_bool (by rw [certValid, Hv.out, H0.out, H1.out, H2.out]; simp), ((Ext.refl _).alloc _).alloc _⟩
        · have hb2 : ((n' : Int) == 0) = false := by simp [h2]
          go_enter Try.func18, Try.ntmps18
          go_wp2_with fail
          go_ret
          exact ⟨ret_bool (by rw [certValid, Hv.out]; simp [h2]), ((Ext.refl _).alloc _).alloc _⟩
      · have hb1 : ((n : Int) == 0) = false := by simp [h1]
        go_enter Try.func18, Try.ntmps18
        go_wp2_with fail
        go_ret
        exact ⟨ret_bool (by rw [certValid, Hv.out]; simp [h1]), ((Ext.refl _).alloc _).alloc _⟩
    · have hb : ((a.al : Int) == 0) = false := by simp [h0]
      go_enter Try.func18, Try.ntmps18
      go_wp2_with fail
      go_ret
      exact ⟨ret_bool (by rw [certValid, Hv.out]; simp [h0]), ((Ext.refl _).alloc _).alloc _⟩
  · cases hb : autValid a
    all_goals
      have Hb := hide hb
      clear hb
      go_enter Try.func18, Try.ntmps18
      go_wp2_with (go_at_call 31; refine (impl_AutomatonValid _ _ _ _ _ _ _ _ _ _ (HR.out _ ?_)).mono ?_; exact (Ext.refl _).alloc _; rw [Hb.out]; rintro e w2 ⟨rfl, hext2⟩; have hbox := ext_box hext2)
      go_ret
      exact ⟨ret_bool (by rw [certValid, Hb.out]; simp), ((Ext.refl _).alloc _).trans hext2⟩
end Go.Proofs.Ytekobefenngedaa
