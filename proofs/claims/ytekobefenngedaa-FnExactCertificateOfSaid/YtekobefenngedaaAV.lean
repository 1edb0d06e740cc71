/- Contracts: validity of automata. -/
import Derived.Test.YtekobefenngedaaWord
import Derived.Test.YtekobefenngedaaTo
namespace Go.Proofs.Ytekobefenngedaa
open Go Go.RowKit
set_option maxHeartbeats 400000

def rowB (k n : Nat) (row : List Int) : Bool := decide (row.length = k) && row.all fun q => decide (0 ≤ q ∧ q < n)
def autValid (a : Aut) : Bool :=
  decide (0 ≤ a.al ∧ a.al ≤ 63) && (decide (1 ≤ a.next.length ∧ a.next.length ≤ 12) && (decide (a.acc.length = a.next.length) && a.next.all (rowB (letters a.al.toNat 6).length a.next.length)))

theorem spec_l3Row (lo hi : Nat) (A : Option Addr) (n c : Nat) (l : List Int) (k m : Nat) (w : World) (h : Reads w lo hi 1 A n (ints l)) (hk : k ≤ 100) (_hm : m ≤ 100) :
    Calls Try.prog 41 #[.slice A n c, .int .i64 k, .int .i64 m] w fun e w' => e = .returned (.bool (rowB k m l)) ∧ w = w' := by
  have hn := h.len
  have hl : l.length = n := by have := h.length; rw [ints_length] at this; omega
  have Hl := hide hl
  clear hl
  by_cases he : n = k
  · subst he
    go_enter Try.func41, Try.ntmps41
    go_wp2
    go_loop [7] (fun i => ∃ k : Nat, k ≤ n ∧ i = .int .i64 k ∧ Hid ((l.take k).all (fun q => decide (0 ≤ q ∧ q < m)) = true)) (fun i => n - (intOf i).toNat)
    case atStart => exact ⟨0, Nat.zero_le _, rfl, rfl⟩
    case round =>
      obtain ⟨k, hk, rfl, hall⟩ := hrel
      by_cases hlt : k < n
      · obtain ⟨ad, x, rfl, _, _, hx, hcell⟩ := h.int hlt
        by_cases h0 : x < 0
        · go_wp2
          go_ret
          exact ⟨ret_bool (by rw [rowB, all_stop hx.out (by simp; omega), Bool.and_false]), rfl⟩
        · by_cases h1 : (m : Int) ≤ x
          · go_wp2
            go_ret
            exact ⟨ret_bool (by rw [rowB, all_stop hx.out (by simp; omega), Bool.and_false]), rfl⟩
          · go_wp2
            go_round
            case rel => exact ⟨k + 1, by omega, by go_num, all_step hx.out hall.out (by simp; omega)⟩
            case measure => simp [intOf]; omega
      · obtain rfl : k = n := by omega
        go_wp2
        go_ret
        exact ⟨ret_bool (by rw [rowB, all_end (by have := Hl.out; omega) hall.out, Hl.out]; simp), rfl⟩
  · go_enter Try.func41, Try.ntmps41
    go_wp2
    go_ret
    exact ⟨ret_bool (by rw [rowB, Hl.out]; simp [he]), rfl⟩

theorem spec_AutomatonValid (lo hi : Nat) (A : Option Addr) (n c : Nat) (A' : Option Addr) (n' c' : Nat) (a : Aut) (w : World) (h : AutAt w lo hi A n A' n' a) :
    Calls Try.prog 24 #[.agg #[.int .i64 a.al, .slice A n c, .slice A' n' c']] w fun e w' => e = .returned (.bool (autValid a)) ∧ Ext w w' := by
  have h1 := h.n1
  have h2 := h.n2
  have Hv := hide (show autValid a = (decide (0 ≤ a.al ∧ a.al ≤ 63) && (decide (1 ≤ n ∧ n ≤ 12) && (decide (n' = n) && a.next.all (rowB (letters a.al.toNat 6).length n)))) by unfold autValid; rw [← h1, ← h2])
  have hl1 := h.1.len
  have hl2 := h.2.2.len
  clear h1 h2
  by_cases hal : 0 ≤ a.al ∧ a.al ≤ 63
  · have hd := hide (show decide (0 ≤ a.al ∧ a.al ≤ 63) = true by simp; omega)
    by_cases hn : 1 ≤ n ∧ n ≤ 12
    · have hd1 : decide ((n : Int) < 1) = false := by simp; omega
      have hd2 : decide (12 < (n : Int)) = false := by simp; omega
      by_cases hn' : n' = n
      · subst hn'
        obtain ⟨al, hal'⟩ : ∃ al : Nat, Hid (a.al = al) := ⟨a.al.toNat, by unfold Hid; omega⟩
        have hsm : Sm al := by have := hal'.out; unfold Sm; omega
        have hll := letters_length al 6
        rw [hal'.out]
        rw [hal'.out] at hd
        rw [hal'.out, Int.toNat_natCast] at Hv
        clear hal
        have hR := fun W (hW : Ext w W) => h.1.ext hW
        have HR := hide hR
        clear hR
        go_enter Try.func24, Try.ntmps24
        go_wp2_with (go_at_call 40; refine (spec_l1Alphabet _ _).mono ?_; rw [hd.out]; rintro e w' ⟨rfl, rfl⟩)
        go_loopw [4] (fun i wr => ∃ k : Nat, k ≤ n' ∧ i = .int .i64 k ∧ Hid ((a.next.take k).all (rowB (letters al 6).length n') = true) ∧ Ext (w.alloc (.cells #[Value.int .i64 al, Value.slice A n' c, Value.slice A' n' c'] 29)) wr)
          (fun i _ => n' - (intOf i).toNat)
        case atStart => exact ⟨0, Nat.zero_le _, rfl, rfl, Ext.refl _⟩
        case round =>
          obtain ⟨k, hk, rfl, hall, hext⟩ := hrel
          have hbox : ∀ W, Ext wr W → ∀ j, W.cell? ⟨w.heap.size, j, none⟩ = #[Value.int .i64 al, Value.slice A n' c, Value.slice A' n' c'][j]? := fun W hW => ext_box (hext.trans hW)
          by_cases hlt : k < n'
          · obtain ⟨ad, Ak, ck, l, rfl, hlo, hhi, hl, hcell, hrk⟩ := (HR.out wr (((Ext.refl _).alloc _).trans hext)).row hlt
            have hce : ∀ W, Ext wr W → W.cell? (ad.add k) = some (.slice Ak l.length ck) := fun W hW => hW.cell_some hcell
            have hwr := Ext.refl wr
            have hfin : ∀ W, Ext wr W → Ext w W := fun W hW => (((Ext.refl _).alloc _).trans hext).trans hW
            have Hfin := hide hfin
            clear hfin
            cases hrb : rowB (letters al 6).length n' l
            · have Hrb := hide hrb
              clear hrb
              go_wp2_with fail
              go_region_held3 (fun W => Ext wr W) (first | assumption | (refine Ext.drew ?_; assumption) | (refine Ext.trans ?_ (by assumption); assumption) | (refine Ext.trans ?_ (by assumption); refine Ext.drew ?_; assumption)) (first | (go_at_call 42; refine (spec_l1Letters _ hsm _).mono ?_; rintro e w2 ⟨A2, c2, rfl, hown2, hext2⟩) | (go_at_call 41; refine (spec_l3Row _ _ _ _ _ _ _ _ _ (hrk.ext ?_) (by omega) (by omega)).mono ?_; assumption; rw [Hrb.out]; rintro e w3 ⟨rfl, rfl⟩))
              go_wp2
              go_ret
              exact ⟨ret_bool (by rw [Hv.out, all_stop hl.out Hrb.out]; simp), Hfin.out _ (by assumption)⟩
            · have Hrb := hide hrb
              clear hrb
              go_wp2_with fail
              go_region_held3 (fun W => Ext wr W) (first | assumption | (refine Ext.drew ?_; assumption) | (refine Ext.trans ?_ (by assumption); assumption) | (refine Ext.trans ?_ (by assumption); refine Ext.drew ?_; assumption)) (first | (go_at_call 42; refine (spec_l1Letters _ hsm _).mono ?_; rintro e w2 ⟨A2, c2, rfl, hown2, hext2⟩) | (go_at_call 41; refine (spec_l3Row _ _ _ _ _ _ _ _ _ (hrk.ext ?_) (by omega) (by omega)).mono ?_; assumption; rw [Hrb.out]; rintro e w3 ⟨rfl, rfl⟩))
              go_wp2
              go_roundw
              case rel => exact ⟨k + 1, by omega, by go_num, all_step hl.out hall.out Hrb.out, hext.trans (by assumption)⟩
              case measure => simp [intOf]; omega
          · obtain rfl : k = n' := by omega
            go_wp2
            go_ret
            exact ⟨ret_bool (by rw [Hv.out, all_end (by have := h.n1; omega) hall.out, hd.out]; simp; omega), ((Ext.refl _).alloc _).trans hext⟩
      · have hne : ((n' : Int) != (n : Int)) = true := by simp; omega
        go_enter Try.func24, Try.ntmps24
        go_wp2_with (go_at_call 40; refine (spec_l1Alphabet _ _).mono ?_; rw [hd.out]; rintro e w' ⟨rfl, rfl⟩)
        go_ret
        exact ⟨ret_bool (by rw [Hv.out]; simp [hn']), (Ext.refl _).alloc _⟩
    · go_enter Try.func24, Try.ntmps24
      go_wp2_with (go_at_call 40; refine (spec_l1Alphabet _ _).mono ?_; rw [hd.out]; rintro e w' ⟨rfl, rfl⟩)
      all_goals go_ret
      all_goals exact ⟨ret_bool (by rw [Hv.out]; simp [hn]), (Ext.refl _).alloc _⟩
  · go_enter Try.func24, Try.ntmps24
    have hd : decide (0 ≤ a.al ∧ a.al ≤ 63) = false := by simp; omega
    go_wp2_with (go_at_call 40; refine (spec_l1Alphabet _ _).mono ?_; rw [hd]; rintro e w' ⟨rfl, rfl⟩)
    go_ret
    exact ⟨ret_bool (by rw [Hv.out]; simp; omega), (Ext.refl _).alloc _⟩
end Go.Proofs.Ytekobefenngedaa
