/- Contracts: validity of automata, the program's own. -/
import Derived.Test.YtekobefenngedaaAV
namespace Go.Proofs.Ytekobefenngedaa
open Go Go.RowKit
set_option maxHeartbeats 400000

theorem impl_AutomatonValid (lo hi : Nat) (A : Option Addr) (n c : Nat) (A' : Option Addr) (n' c' : Nat) (a : Aut) (w : World) (h : AutAt w lo hi A n A' n' a) :
    Calls Try.prog 31 #[.agg #[.int .i64 a.al, .slice A n c, .slice A' n' c']] w fun e w' => e = .returned (.bool (autValid a)) ∧ Ext w w' := by
  have h1 := h.n1
  have h2 := h.n2
  have Hv := hide (show autValid a = (decide (0 ≤ a.al ∧ a.al ≤ 63) && (decide (1 ≤ n ∧ n ≤ 12) && (decide (n' = n) && a.next.all (rowB (letters a.al.toNat 6).length n)))) by unfold autValid; rw [← h1, ← h2])
  have hl1 := h.1.len
  have hl2 := h.2.2.len
  clear h1 h2
  by_cases hal : 0 ≤ a.al ∧ a.al ≤ 63
  · have hd := hide (show decide (0 ≤ a.al ∧ a.al ≤ 63) = true by simp; omega)
    by_cases hn : 1 ≤ n ∧ n ≤ 12
    · have hd1 : decide ((n : Int) < 1) = false := by simp; omega
      have hd2 : decide (12 < (n : Int)) = false := by simp; omega
      by_cases hn' : n' = n
      · subst hn'
        obtain ⟨al, hal'⟩ : ∃ al : Nat, Hid (a.al = al) := ⟨a.al.toNat, by unfold Hid; omega⟩
        have hsm : Sm al := by have := hal'.out; unfold Sm; omega
        have hll := letters_length al 6
        rw [hal'.out]
        rw [hal'.out] at hd
        rw [hal'.out, Int.toNat_natCast] at Hv
        clear hal
        have hR := fun W (hW : Ext w W) => h.1.ext hW
        have HR := hide hR
        clear hR
        go_enter Try.func31, Try.ntmps31
        go_wp2_with (first
          | (go_at_call 45; refine (impl_isAlphabet _ _).mono ?_; rw [hd.out]; rintro e w' ⟨rfl, rfl⟩)
          | (go_at_call 46; refine (impl_lettersOf _ hsm _).mono ?_; rintro e w2 ⟨A2, c2, rfl, hown2, hext2⟩; have hbox2 := ext_box hext2))
        go_loopw [40] (fun i wr => ∃ k : Nat, k ≤ n' ∧ i = .int .i64 k ∧ Hid ((a.next.take k).all (rowB (letters al 6).length n') = true) ∧ Ext w2 wr)
          (fun i _ => n' - (intOf i).toNat)
        case atStart => exact ⟨0, Nat.zero_le _, rfl, rfl, Ext.refl _⟩
        case round =>
          obtain ⟨k, hk, rfl, hall, hext⟩ := hrel
          have hbox : ∀ W, Ext wr W → ∀ j, W.cell? ⟨w.heap.size, j, none⟩ = #[Value.int .i64 al, Value.slice A n' c, Value.slice A' n' c'][j]? := fun W hW => ext_box ((hext2.trans hext).trans hW)
          have hwr := Ext.refl wr
          clear hbox2
          have hfin : Ext w wr := (((Ext.refl _).alloc _).trans hext2).trans hext
          by_cases hlt : k < n'
          · obtain ⟨ad, Ak, ck, l, rfl, hlo, hhi, hl, hcell, hrk⟩ := (HR.out wr hfin).row hlt
            by_cases hlk : l.length = (letters al 6).length
            · obtain ⟨m, hm⟩ : ∃ m, Hid ((letters al 6).length = m) := ⟨_, rfl⟩
              have hlm : Hid (l.length = m) := by have := hm.out; unfold Hid; omega
              rw [hm.out] at hll ⊢
              rw [hm.out] at hall Hv
              rw [hlm.out] at hcell hrk
              clear hlk
              go_wp2_with fail
              go_loop [50] (fun i => ∃ j : Nat, j ≤ m ∧ i = .int .i64 j ∧ Hid ((l.take j).all (fun q => decide (0 ≤ q ∧ q < n')) = true)) (fun i => m - (intOf i).toNat)
              case atStart => exact ⟨0, Nat.zero_le _, rfl, rfl⟩
              case round =>
                obtain ⟨j, hj, rfl, hallj⟩ := hrel
                by_cases hltj : j < m
                · obtain ⟨ad2, x, rfl, _, _, hx, hcell2⟩ := hrk.int hltj
                  by_cases h0 : x < 0
                  · go_wp2
                    go_ret
                    exact ⟨ret_bool (by rw [Hv.out, all_stop hl.out (by rw [rowB, all_stop hx.out (by simp; omega), Bool.and_false])]; simp), hfin⟩
                  · by_cases h1 : (n' : Int) ≤ x
                    · go_wp2
                      go_ret
                      exact ⟨ret_bool (by rw [Hv.out, all_stop hl.out (by rw [rowB, all_stop hx.out (by simp; omega), Bool.and_false])]; simp), hfin⟩
                    · go_wp2
                      go_round
                      case rel => exact ⟨j + 1, by omega, by go_num, all_step hx.out hallj.out (by simp; omega)⟩
                      case measure => simp [intOf]; omega
                · obtain rfl : j = m := by omega
                  go_wp2
                  go_roundw
                  case rel => exact ⟨k + 1, by omega, by go_num, all_step hl.out hall.out (by rw [rowB, all_end (by have := hlm.out; omega) hallj.out, hlm.out]; simp), hext⟩
                  case measure => simp [intOf]; omega
            · have hne : ((l.length : Int) != ((letters al 6).length : Int)) = true := by simp; omega
              go_wp2
              go_ret
              exact ⟨ret_bool (by rw [Hv.out, all_stop hl.out (by simp [rowB, hlk])]; simp), hfin⟩
          · obtain rfl : k = n' := by omega
            go_wp2
            go_ret
            exact ⟨ret_bool (by rw [Hv.out, all_end (by have := h.n1; omega) hall.out, hd.out]; simp; omega), hfin⟩
      · have hne : ((n' : Int) != (n : Int)) = true := by simp; omega
        go_enter Try.func31, Try.ntmps31
        go_wp2_with (go_at_call 45; refine (impl_isAlphabet _ _).mono ?_; rw [hd.out]; rintro e w' ⟨rfl, rfl⟩)
        go_ret
        exact ⟨ret_bool (by rw [Hv.out]; simp [hn']), (Ext.refl _).alloc _⟩
    · go_enter Try.func31, Try.ntmps31
      go_wp2_with (go_at_call 45; refine (impl_isAlphabet _ _).mono ?_; rw [hd.out]; rintro e w' ⟨rfl, rfl⟩)
      all_goals go_ret
      all_goals exact ⟨ret_bool (by rw [Hv.out]; simp [hn]), (Ext.refl _).alloc _⟩
  · go_enter Try.func31, Try.ntmps31
    have hd : decide (0 ≤ a.al ∧ a.al ≤ 63) = false := by simp; omega
    go_wp2_with (go_at_call 45; refine (impl_isAlphabet _ _).mono ?_; rw [hd]; rintro e w' ⟨rfl, rfl⟩)
    go_ret
    exact ⟨ret_bool (by rw [Hv.out]; simp; omega), (Ext.refl _).alloc _⟩

/-- Not an automaton: the zero value. -/
def autNone (a : Aut) : Bool := decide (a.al = 0) && (decide (a.next.length = 0) && decide (a.acc.length = 0))

theorem spec_l13None (lo hi : Nat) (A : Option Addr) (n c : Nat) (A' : Option Addr) (n' c' : Nat) (a : Aut) (w : World) (h : AutAt w lo hi A n A' n' a) :
    Calls Try.prog 25 #[.agg #[.int .i64 a.al, .slice A n c, .slice A' n' c']] w fun e w' => e = .returned (.bool (autNone a)) ∧ Ext w w' := by
  have Hv := hide (show autNone a = (decide (a.al = 0) && (decide (n = 0) && decide (n' = 0))) by unfold autNone; rw [← h.n1, ← h.n2])
  have hl1 := h.1.len
  have hl2 := h.2.2.len
  clear h
  by_cases h0 : a.al = 0
  · have hb : ((a.al : Int) == 0) = true := by simp [h0]
    have H0 := hide h0
    clear h0
    by_cases h1 : n = 0
    · have hb1 : ((n : Int) == 0) = true := by simp [h1]
      have H1 := hide h1
      clear h1
      go_enter Try.func25, Try.ntmps25
      go_wp2
      go_ret
      exact ⟨ret_bool (by rw [Hv.out, H0.out, H1.out]; by_cases h2 : n' = 0 <;> simp [h2]), (Ext.refl _).alloc _⟩
    · have hb1 : ((n : Int) == 0) = false := by simp [h1]
      go_enter Try.func25, Try.ntmps25
      go_wp2
      go_ret
      exact ⟨ret_bool (by rw [Hv.out]; simp [h1]), (Ext.refl _).alloc _⟩
  · have hb : ((a.al : Int) == 0) = false := by simp [h0]
    go_enter Try.func25, Try.ntmps25
    go_wp2
    go_ret
    exact ⟨ret_bool (by rw [Hv.out]; simp [h0]), (Ext.refl _).alloc _⟩
end Go.Proofs.Ytekobefenngedaa
