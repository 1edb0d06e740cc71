/- The letters of a chain. | Contracts: validity of automata, the program's own. | The letters of a chain: both models. | The letters of a chain: the rest. | ChainLetters of both. | Contracts: validity of certificates. | slices.Clone at numbers and at truth values, walked: it copies into memory of its own. | Certificates: the size count, the copies and the comparisons of the laws. -/
import Derived.Test.YtplllipekeomiaaGreatDoorG05
import Derived.Test.YtplllipekeomiaaGreatDoorG03
import Derived.Test.YtplllipekeomiaaGreatDoorG01
import Derived.Lib.SliceRun
import Derived.Test.YtplllipekeomiaaGreatDoorG02
namespace Go.Proofs.YtplllipekeomiaaGreatDoor
open Go Go.RowKit
set_option maxHeartbeats 1000000

theorem areParts_1 {lo hi : Nat} {A : Option Addr} {n c : Nat} {s : Sys} {w : World} (h : SysAt w lo hi A n s) :
    Calls Tryz.prog 87 #[.agg #[.int .i64 s.al, .int .i64 s.st, .slice A n c]] w fun e w' => e = .returned (.bool (!sysValid s)) ∧ Ext w w' := by
  go_enter Tryz.func87, Tryz.ntmps87
  go_wp2_with (go_at_call 44; refine (impl_SystemValid (h.ext ?_)).mono ?_; exact (Ext.refl _).alloc _; rintro e w' ⟨rfl, hx⟩)
  go_ret
  exact ⟨rfl, ((Ext.refl _).alloc _).trans hx⟩

theorem indexFunc_parts {lo hi : Nat} {A : Option Addr} {n c : Nat} {ss : List Sys} {w : World} (h : SLAt w lo hi A n ss) :
    Calls Tryz.prog 110 #[.slice A n c, .func (.func 87) #[] #[]] w fun e w' => ∃ r : Int, e = .returned (.int .i64 r) ∧ decide (0 ≤ r) = ss.any (fun s => !sysValid s) ∧ -1 ≤ r ∧ Ext w w' := by
  have hn := h.len
  have hL := hide h.1
  go_enter Tryz.func110, Tryz.ntmps110
  go_wp2
  go_loopw [8] (fun i wr => ∃ k : Nat, k ≤ n ∧ i = .int .i64 k ∧ Hid ((ss.take k).any (fun s => !sysValid s) = false) ∧ Ext w wr) (fun i _ => n - (intOf i).toNat)
  case atStart => exact ⟨0, Nat.zero_le _, rfl, rfl, Ext.refl _⟩
  case round =>
    obtain ⟨k, hk, rfl, hany, hext⟩ := hrel
    by_cases hlt : k < n
    · obtain ⟨b, o, s, B, q, d, rfl, hlo, hhi, hs, c0, c1, c2, hsy⟩ := (h.ext hext).sys hlt
      cases hb : sysValid s
      all_goals
        have Hb := hide hb
        clear hb
        go_wp2_with (go_at_call 87; refine (areParts_1 hsy).mono ?_; rw [Hb.out]; rintro e w' ⟨rfl, hx⟩)
      · go_ret
        exact ⟨k, rfl, by rw [List.any_eq_true.2 ⟨s, List.mem_of_getElem? hs.out, by rw [Hb.out]; rfl⟩]; simp, by omega, hext.trans hx⟩
      · go_roundw
        case rel => exact ⟨k + 1, by omega, by go_num, by unfold Hid; rw [List.take_add_one, hs.out, List.any_append, hany.out]; simp [Hb.out], hext.trans hx⟩
        case measure => simp [intOf]; omega
    · obtain rfl : k = n := by omega
      go_wp2
      go_ret
      have := hany.out
      rw [hL.out, List.take_length] at this
      exact ⟨-1, rfl, by rw [this]; decide, by omega, hext⟩

theorem containsFunc_parts {lo hi : Nat} {A : Option Addr} {n c : Nat} {ss : List Sys} {w : World} (h : SLAt w lo hi A n ss) :
    Calls Tryz.prog 86 #[.slice A n c, .func (.func 87) #[] #[]] w fun e w' => e = .returned (.bool (ss.any (fun s => !sysValid s))) ∧ Ext w w' := by
  go_enter Tryz.func86, Tryz.ntmps86
  cases hb : ss.any (fun s => !sysValid s)
  all_goals
    have Hb := hide hb
    clear hb
    go_wp2_with (go_at_call 110; refine (indexFunc_parts h).mono ?_; rw [Hb.out]; rintro e w' ⟨r, rfl, hr, hr1, hx⟩)
    go_ret
    exact ⟨ret_bool (by have hr' := hr; simp at hr'; simp <;> omega), hx⟩

/-- The systems are parts. -/
def areParts (ss : List Sys) : Bool := decide (1 ≤ ss.length) && (decide (ss.length ≤ 3) && ss.all sysValid)
theorem impl_areParts {lo hi : Nat} {A : Option Addr} {n c : Nat} {ss : List Sys} {w : World} (h : SLAt w lo hi A n ss) :
    Calls Tryz.prog 59 #[.slice A n c] w fun e w' => e = .returned (.bool (areParts ss)) ∧ Ext w w' := by
  have hn := h.len
  have hL := hide h.1
  have hA : ss.any (fun s => !sysValid s) = !ss.all sysValid := by rw [Bool.eq_iff_iff]; simp
  have HA := hide hA
  clear hA
  by_cases h1 : 1 ≤ n
  · by_cases h3 : n ≤ 3
    · go_enter Tryz.func59, Tryz.ntmps59
      go_wp2_with (go_at_call 86; refine (containsFunc_parts h).mono ?_; rw [HA.out]; rintro e w' ⟨rfl, hx⟩)
      go_ret
      exact ⟨ret_bool (by have := hL.out; unfold areParts; rw [decide_eq_true (by omega), decide_eq_true (by omega)]; simp), hx⟩
    · go_enter Tryz.func59, Tryz.ntmps59
      go_wp2
      go_ret
      exact ⟨ret_bool (by have := hL.out; unfold areParts; rw [decide_eq_false (by omega : ¬ ss.length ≤ 3)]; simp), Ext.refl _⟩
  · go_enter Tryz.func59, Tryz.ntmps59
    go_wp2
    go_ret
    exact ⟨ret_bool (by have := hL.out; unfold areParts; rw [decide_eq_false (by omega : ¬ 1 ≤ ss.length)]; simp), Ext.refl _⟩
end Go.Proofs.YtplllipekeomiaaGreatDoor

namespace Go.Proofs.YtplllipekeomiaaGreatDoor
open Go Go.RowKit
set_option maxHeartbeats 400000

theorem impl_AutomatonValid (lo hi : Nat) (A : Option Addr) (n c : Nat) (A' : Option Addr) (n' c' : Nat) (a : Aut) (w : World) (h : AutAt w lo hi A n A' n' a) :
    Calls Tryz.prog 33 #[.agg #[.int .i64 a.al, .slice A n c, .slice A' n' c']] w fun e w' => e = .returned (.bool (autValid a)) ∧ Ext w w' := by
  have h1 := h.n1
  have h2 := h.n2
  have Hv := hide (show autValid a = (decide (0 ≤ a.al ∧ a.al ≤ 63) && (decide (1 ≤ n ∧ n ≤ 12) && (decide (n' = n) && a.next.all (rowB (letters a.al.toNat 6).length n)))) by unfold autValid; rw [← h1, ← h2])
  have hl1 := h.1.len
  have hl2 := h.2.2.len
  clear h1 h2
  by_cases hal : 0 ≤ a.al ∧ a.al ≤ 63
  · have hd := hide (show decide (0 ≤ a.al ∧ a.al ≤ 63) = true by simp; omega)
    by_cases hn : 1 ≤ n ∧ n ≤ 12
    · have hd1 : decide ((n : Int) < 1) = false := by simp; omega
      have hd2 : decide (12 < (n : Int)) = false := by simp; omega
      by_cases hn' : n' = n
      · subst hn'
        obtain ⟨al, hal'⟩ : ∃ al : Nat, Hid (a.al = al) := ⟨a.al.toNat, by unfold Hid; omega⟩
        have hsm : Sm al := by have := hal'.out; unfold Sm; omega
        have hll := letters_length al 6
        rw [hal'.out]
        rw [hal'.out] at hd
        rw [hal'.out, Int.toNat_natCast] at Hv
        clear hal
        have hR := fun W (hW : Ext w W) => h.1.ext hW
        have HR := hide hR
        clear hR
        go_enter Tryz.func33, Tryz.ntmps33
        go_wp2_with (first
          | (go_at_call 60; refine (impl_isAlphabet _ _).mono ?_; rw [hd.out]; rintro e w' ⟨rfl, rfl⟩)
          | (go_at_call 61; refine (impl_lettersOf _ hsm _).mono ?_; rintro e w2 ⟨A2, c2, rfl, hown2, hext2⟩; have hbox2 := ext_box hext2))
        go_loopw [40] (fun i wr => ∃ k : Nat, k ≤ n' ∧ i = .int .i64 k ∧ Hid ((a.next.take k).all (rowB (letters al 6).length n') = true) ∧ Ext w2 wr)
          (fun i _ => n' - (intOf i).toNat)
        case atStart => exact ⟨0, Nat.zero_le _, rfl, rfl, Ext.refl _⟩
        case round =>
          obtain ⟨k, hk, rfl, hall, hext⟩ := hrel
          have hbox : ∀ W, Ext wr W → ∀ j, W.cell? ⟨w.heap.size, j, none⟩ = #[Value.int .i64 al, Value.slice A n' c, Value.slice A' n' c'][j]? := fun W hW => ext_box ((hext2.trans hext).trans hW)
          have hwr := Ext.refl wr
          clear hbox2
          have hfin : Ext w wr := (((Ext.refl _).alloc _).trans hext2).trans hext
          by_cases hlt : k < n'
          · obtain ⟨ad, Ak, ck, l, rfl, hlo, hhi, hl, hcell, hrk⟩ := (HR.out wr hfin).row hlt
            by_cases hlk : l.length = (letters al 6).length
            · obtain ⟨m, hm⟩ : ∃ m, Hid ((letters al 6).length = m) := ⟨_, rfl⟩
              have hlm : Hid (l.length = m) := by have := hm.out; unfold Hid; omega
              rw [hm.out] at hll ⊢
              rw [hm.out] at hall Hv
              rw [hlm.out] at hcell hrk
              clear hlk
              go_wp2_with fail
              go_loop [50] (fun i => ∃ j : Nat, j ≤ m ∧ i = .int .i64 j ∧ Hid ((l.take j).all (fun q => decide (0 ≤ q ∧ q < n')) = true)) (fun i => m - (intOf i).toNat)
              case atStart => exact ⟨0, Nat.zero_le _, rfl, rfl⟩
              case round =>
                obtain ⟨j, hj, rfl, hallj⟩ := hrel
                by_cases hltj : j < m
                · obtain ⟨ad2, x, rfl, _, _, hx, hcell2⟩ := hrk.int hltj
                  by_cases h0 : x < 0
                  · go_wp2
                    go_ret
                    exact ⟨ret_bool (by rw [Hv.out, all_stop hl.out (by rw [rowB, all_stop hx.out (by simp; omega), Bool.and_false])]; simp), hfin⟩
                  · by_cases h1 : (n' : Int) ≤ x
                    · go_wp2
                      go_ret
                      exact ⟨ret_bool (by rw [Hv.out, all_stop hl.out (by rw [rowB, all_stop hx.out (by simp; omega), Bool.and_false])]; simp), hfin⟩
                    · go_wp2
                      go_round
                      case rel => exact ⟨j + 1, by omega, by go_num, all_step hx.out hallj.out (by simp; omega)⟩
                      case measure => simp [intOf]; omega
                · obtain rfl : j = m := by omega
                  go_wp2
                  go_roundw
                  case rel => exact ⟨k + 1, by omega, by go_num, all_step hl.out hall.out (by rw [rowB, all_end (by have := hlm.out; omega) hallj.out, hlm.out]; simp), hext⟩
                  case measure => simp [intOf]; omega
            · have hne : ((l.length : Int) != ((letters al 6).length : Int)) = true := by simp; omega
              go_wp2
              go_ret
              exact ⟨ret_bool (by rw [Hv.out, all_stop hl.out (by simp [rowB, hlk])]; simp), hfin⟩
          · obtain rfl : k = n' := by omega
            go_wp2
            go_ret
            exact ⟨ret_bool (by rw [Hv.out, all_end (by have := h.n1; omega) hall.out, hd.out]; simp; omega), hfin⟩
      · have hne : ((n' : Int) != (n : Int)) = true := by simp; omega
        go_enter Tryz.func33, Tryz.ntmps33
        go_wp2_with (go_at_call 60; refine (impl_isAlphabet _ _).mono ?_; rw [hd.out]; rintro e w' ⟨rfl, rfl⟩)
        go_ret
        exact ⟨ret_bool (by rw [Hv.out]; simp [hn']), (Ext.refl _).alloc _⟩
    · go_enter Tryz.func33, Tryz.ntmps33
      go_wp2_with (go_at_call 60; refine (impl_isAlphabet _ _).mono ?_; rw [hd.out]; rintro e w' ⟨rfl, rfl⟩)
      all_goals go_ret
      all_goals exact ⟨ret_bool (by rw [Hv.out]; simp [hn]), (Ext.refl _).alloc _⟩
  · go_enter Tryz.func33, Tryz.ntmps33
    have hd : decide (0 ≤ a.al ∧ a.al ≤ 63) = false := by simp; omega
    go_wp2_with (go_at_call 60; refine (impl_isAlphabet _ _).mono ?_; rw [hd]; rintro e w' ⟨rfl, rfl⟩)
    go_ret
    exact ⟨ret_bool (by rw [Hv.out]; simp; omega), (Ext.refl _).alloc _⟩

/-- Not an automaton: the zero value. -/
def autNone (a : Aut) : Bool := decide (a.al = 0) && (decide (a.next.length = 0) && decide (a.acc.length = 0))

theorem spec_l13None (lo hi : Nat) (A : Option Addr) (n c : Nat) (A' : Option Addr) (n' c' : Nat) (a : Aut) (w : World) (h : AutAt w lo hi A n A' n' a) :
    Calls Tryz.prog 66 #[.agg #[.int .i64 a.al, .slice A n c, .slice A' n' c']] w fun e w' => e = .returned (.bool (autNone a)) ∧ Ext w w' := by
  have Hv := hide (show autNone a = (decide (a.al = 0) && (decide (n = 0) && decide (n' = 0))) by unfold autNone; rw [← h.n1, ← h.n2])
  have hl1 := h.1.len
  have hl2 := h.2.2.len
  clear h
  by_cases h0 : a.al = 0
  · have hb : ((a.al : Int) == 0) = true := by simp [h0]
    have H0 := hide h0
    clear h0
    by_cases h1 : n = 0
    · have hb1 : ((n : Int) == 0) = true := by simp [h1]
      have H1 := hide h1
      clear h1
      go_enter Tryz.func66, Tryz.ntmps66
      go_wp2
      go_ret
      exact ⟨ret_bool (by rw [Hv.out, H0.out, H1.out]; by_cases h2 : n' = 0 <;> simp [h2]), (Ext.refl _).alloc _⟩
    · have hb1 : ((n : Int) == 0) = false := by simp [h1]
      go_enter Tryz.func66, Tryz.ntmps66
      go_wp2
      go_ret
      exact ⟨ret_bool (by rw [Hv.out]; simp [h1]), (Ext.refl _).alloc _⟩
  · have hb : ((a.al : Int) == 0) = false := by simp [h0]
    go_enter Tryz.func66, Tryz.ntmps66
    go_wp2
    go_ret
    exact ⟨ret_bool (by rw [Hv.out]; simp [h0]), (Ext.refl _).alloc _⟩
end Go.Proofs.YtplllipekeomiaaGreatDoor

namespace Go.Proofs.YtplllipekeomiaaGreatDoor
open Go Go.RowKit
set_option maxHeartbeats 1000000

/-- The union of the alphabets. -/
def unionA (ss : List Sys) : Nat := ss.foldl (fun a s => a ||| s.al.toNat) 0
theorem unionA_succ {ss : List Sys} {k : Nat} {s : Sys} (h : ss[k]? = some s) : unionA (ss.take (k + 1)) = unionA (ss.take k) ||| s.al.toNat := by
  rw [List.take_add_one, h]
  simp [unionA]
theorem sysValid_al {s : Sys} (h : sysValid s = true) : 0 ≤ s.al ∧ s.al ≤ 63 := by
  simp only [sysValid, Bool.and_eq_true, decide_eq_true_eq] at h
  exact h.1
/-- What PartsAlphabet returns. -/
def partsA (ss : List Sys) : Int := if areParts ss then (unionA ss : Int) else -1

theorem spec_PartsAlphabet {lo hi : Nat} {A : Option Addr} {n c : Nat} {ss : List Sys} {w : World} (h : SLAt w lo hi A n ss) :
    Calls Tryz.prog 82 #[.slice A n c] w fun e w' => e = .returned (.int .i64 (partsA ss)) ∧ Ext w w' := by
  have hn := h.len
  have hL := hide h.1
  by_cases h1 : n < 1
  · go_enter Tryz.func82, Tryz.ntmps82
    go_wp2
    go_ret
    exact ⟨ret_int (by have := hL.out; unfold partsA areParts; rw [decide_eq_false (by omega)]; simp), Ext.refl _⟩
  by_cases h3 : n > 3
  · go_enter Tryz.func82, Tryz.ntmps82
    go_wp2
    go_ret
    exact ⟨ret_int (by have := hL.out; unfold partsA areParts; rw [decide_eq_false (by omega : ¬ ss.length ≤ 3)]; simp), Ext.refl _⟩
  go_enter Tryz.func82, Tryz.ntmps82
  go_wp2
  go_loopw [3, 4] (fun v i wr => ∃ k : Nat, k ≤ n ∧ i = .int .i64 k ∧ ∃ u : Nat, v = .int .i64 u ∧ u ≤ 63 ∧ Hid (u = unionA (ss.take k)) ∧ Hid ((ss.take k).all sysValid = true) ∧ Ext w wr) (fun _ i _ => n - (intOf i).toNat)
  case atStart => exact ⟨0, Nat.zero_le _, rfl, 0, rfl, by omega, rfl, rfl, Ext.refl _⟩
  case round =>
    obtain ⟨k, hk, rfl, u, rfl, hu, huA, hall, hext⟩ := hrel
    by_cases hlt : k < n
    · obtain ⟨b, o, s, B, q, d, rfl, hlo, hhi, hs, c0, c1, c2, hsy⟩ := (h.ext hext).sys hlt
      cases hb : sysValid s
      · have Hb := hide hb
        clear hb
        go_wp2_with (go_at_call 65; refine (spec_SystemValid hsy).mono ?_; rw [Hb.out]; rintro e w' ⟨rfl, hx⟩)
        go_ret
        exact ⟨ret_int (by unfold partsA; rw [if_neg]; unfold areParts; simp; intro _ _; exact ⟨s, List.mem_of_getElem? hs.out, Hb.out⟩), hext.trans hx⟩
      · obtain ⟨ha0, ha1⟩ := sysValid_al hb
        have Hb := hide hb
        clear hb
        have Hu := hide (unionA_succ hs.out)
        have Ho := hide (bits_or (a := u) (b := s.al.toNat) (by unfold Sm; omega) (by unfold Sm; omega))
        have Hc := hide (show ((s.al.toNat : Nat) : Int) = s.al by omega)
        go_wp2_with (go_at_call 65; refine (spec_SystemValid hsy).mono ?_; rw [Hb.out]; rintro e w' ⟨rfl, hx⟩; have c0' := hx.cell_some c0)
        go_roundw
        case rel => exact ⟨k + 1, by omega, by go_num, u ||| s.al.toNat, by have := Ho.out; rw [Hc.out] at this; rw [← this], by have := Nat.or_lt_two_pow (n := 6) (x := u) (y := s.al.toNat) (by omega) (by omega); omega, by unfold Hid; rw [Hu.out, huA.out], by unfold Hid; rw [List.take_add_one, hs.out, List.all_append, hall.out]; simp [Hb.out], hext.trans hx⟩
        case measure => simp [intOf]; omega
    · obtain rfl : k = n := by omega
      go_wp2
      go_ret
      exact ⟨ret_int (by have := hL.out; have h1 := huA.out; have h2 := hall.out; rw [this, List.take_length] at h1 h2; unfold partsA areParts; rw [decide_eq_true (by omega), decide_eq_true (by omega), h2, h1]; rfl), hext⟩

end Go.Proofs.YtplllipekeomiaaGreatDoor

namespace Go.Proofs.YtplllipekeomiaaGreatDoor
open Go Go.RowKit
set_option maxHeartbeats 1000000

/-- Three valid systems and a valid property. -/
def three (ss : List Sys) (p : Aut) : Bool := decide (ss.length = 3) && (areParts ss && autValid p)
theorem spec_l14Three {lo hi lo' hi' : Nat} {A : Option Addr} {n c : Nat} {ss : List Sys} {B : Option Addr} {m d : Nat} {B' : Option Addr} {m' d' : Nat} {p : Aut} {w : World} (h : SLAt w lo hi A n ss) (h' : AutAt w lo' hi' B m B' m' p) :
    Calls Tryz.prog 51 #[.slice A n c, .agg #[.int .i64 p.al, .slice B m d, .slice B' m' d']] w fun e w' => e = .returned (.bool (three ss p)) ∧ Ext w w' := by
  have hn := h.len
  have hL := hide h.1
  have hR := fun W (hW : Ext w W) => h'.ext hW
  have HR := hide hR
  clear hR h'
  by_cases h3 : n = 3
  · subst h3
    clear hn
    cases hp : areParts ss
    · have hneg := hide (show ¬ (0 : Int) ≤ partsA ss by unfold partsA; rw [hp]; simp)
      have hneg := hneg.out
      have Hp := hide hp
      clear hp
      go_enter Tryz.func51, Tryz.ntmps51
      go_wp2_with fail
      refine (spec_PartsAlphabet (h.ext ?_)).mono ?_
      · exact (Ext.refl _).alloc _
      rintro e w1 ⟨rfl, hx⟩
      go_wp2_with fail
      go_ret
      exact ⟨ret_bool (by unfold three; rw [Hp.out]; simp), ((Ext.refl _).alloc _).trans hx⟩
    · have hpos : partsA ss ≥ 0 := by unfold partsA; rw [hp]; simp
      have Hp := hide hp
      clear hp
      go_enter Tryz.func51, Tryz.ntmps51
      go_wp2_with fail
      refine (spec_PartsAlphabet (h.ext ?_)).mono ?_
      · exact (Ext.refl _).alloc _
      rintro e w1 ⟨rfl, hx⟩
      have c1 := fun j => ext_box (j := j) hx
      go_wp2_with fail
      refine (spec_AutomatonValid _ _ _ _ _ _ _ _ _ _ (HR.out _ (((Ext.refl _).alloc _).trans hx))).mono ?_
      rintro e w2 ⟨rfl, hx2⟩
      go_wp2_with fail
      go_ret
      exact ⟨ret_bool (by have := hL.out; unfold three; rw [Hp.out, decide_eq_true (by omega)]; simp), (((Ext.refl _).alloc _).trans hx).trans hx2⟩
  · go_enter Tryz.func51, Tryz.ntmps51
    go_wp2
    go_ret
    exact ⟨ret_bool (by have := hL.out; unfold three; rw [decide_eq_false (by omega)]; simp), (Ext.refl _).alloc _⟩
end Go.Proofs.YtplllipekeomiaaGreatDoor

namespace Go.Proofs.YtplllipekeomiaaGreatDoor
open Go Go.RowKit
set_option maxHeartbeats 1000000

/-- The letters of the first and of the second assumption. -/
def chain1 (ss : List Sys) (p : Aut) : Int :=
  if three ss p then match ss with
    | [x, y, z] => bits .and .i64 (bits .or .i64 x.al p.al) (bits .or .i64 y.al z.al)
    | _ => -1
  else -1
def chain2 (ss : List Sys) (p : Aut) : Int :=
  if three ss p then match ss with
    | [_, y, z] => bits .and .i64 (bits .or .i64 y.al (chain1 ss p)) z.al
    | _ => -1
  else -1
theorem three_list {ss : List Sys} {p : Aut} (h : three ss p = true) : ∃ x y z, ss = [x, y, z] := by
  simp only [three, Bool.and_eq_true, decide_eq_true_eq] at h
  match ss, h.1 with
  | [x, y, z], _ => exact ⟨x, y, z, rfl⟩

theorem spec_ChainLetters {lo hi lo' hi' : Nat} {A : Option Addr} {n c : Nat} {ss : List Sys} {B : Option Addr} {m d : Nat} {B' : Option Addr} {m' d' : Nat} {p : Aut} {w : World} (h : SLAt w lo hi A n ss) (h' : AutAt w lo' hi' B m B' m' p) :
    Calls Tryz.prog 26 #[.slice A n c, .agg #[.int .i64 p.al, .slice B m d, .slice B' m' d']] w fun e w' => e = .returned (.tuple #[.int .i64 (chain1 ss p), .int .i64 (chain2 ss p)]) ∧ Ext w w' := by
  cases hT : three ss p
  · have Hc1 := hide (show chain1 ss p = -1 by unfold chain1; rw [hT]; rfl)
    have Hc2 := hide (show chain2 ss p = -1 by unfold chain2; rw [hT]; rfl)
    have HT := hide hT
    clear hT
    go_enter Tryz.func26, Tryz.ntmps26
    go_wp2_with (go_at_call 51; refine (spec_l14Three (h.ext ?_) (h'.ext ?_)).mono ?_; exact (Ext.refl _).alloc _; exact (Ext.refl _).alloc _; rw [HT.out]; rintro e w1 ⟨rfl, hx⟩)
    go_ret2
    exact ⟨by rw [Hc1.out, Hc2.out]; rfl, ((Ext.refl _).alloc _).trans hx⟩
  · obtain ⟨x, y, z, rfl⟩ := three_list hT
    have Hc1 := hide (show chain1 [x, y, z] p = bits .and .i64 (bits .or .i64 x.al p.al) (bits .or .i64 y.al z.al) by unfold chain1; rw [hT]; rfl)
    have Hc2 := hide (show chain2 [x, y, z] p = bits .and .i64 (bits .or .i64 y.al (chain1 [x, y, z] p)) z.al by rw [chain2, hT]; rfl)
    have HT := hide hT
    clear hT
    obtain rfl : n = 3 := h.1
    have hm : ∀ W, Ext w W → ∃ b o, A = some ⟨b, o, none⟩ ∧ W.cell? ⟨b, o, none⟩ = some (.int .i64 x.al) ∧ W.cell? ⟨b, o + 3, none⟩ = some (.int .i64 y.al) ∧ W.cell? ⟨b, o + 6, none⟩ = some (.int .i64 z.al) := by
      intro W hW
      have h := h.ext hW
      obtain ⟨b, o, s, B, q, d, rfl, hlo, hhi, hs, c0, c1, c2, hsy⟩ := h.sys (k := 0) (by omega)
      obtain rfl : x = s := by have := hs.out; simpa using this
      obtain ⟨B1, q1, d1, e0, e1, e2, hsy1⟩ := h.sys2 (k := 1) (s := y) rfl
      obtain ⟨B2, q2, d2, g0, g1, g2, hsy2⟩ := h.sys2 (k := 2) (s := z) rfl
      exact ⟨b, o, rfl, by simpa using c0, e0, g0⟩
    have Hm := hide hm
    clear hm
    go_enter Tryz.func26, Tryz.ntmps26
    go_wp2_with (go_at_call 51; refine (spec_l14Three (h.ext ?_) (h'.ext ?_)).mono ?_; exact (Ext.refl _).alloc _; exact (Ext.refl _).alloc _; rw [HT.out]; rintro e w1 ⟨rfl, hx⟩; obtain ⟨b, o, rfl, c0, c1, c2⟩ := Hm.out w1 (((Ext.refl _).alloc _).trans hx); have cp := fun j => ext_box (j := j) hx)
    go_quiet (fail)
    go_wp2_with fail
    go_quiet (fail)
    go_wp2_with fail
    go_ret2
    exact ⟨by rw [Hc2.out, Hc1.out]; rfl, ((((Ext.refl _).alloc _).trans hx).drewN _).drewN _⟩

theorem impl_ChainLetters {lo hi lo' hi' : Nat} {A : Option Addr} {n c : Nat} {ss : List Sys} {B : Option Addr} {m d : Nat} {B' : Option Addr} {m' d' : Nat} {p : Aut} {w : World} (h : SLAt w lo hi A n ss) (h' : AutAt w lo' hi' B m B' m' p) :
    Calls Tryz.prog 32 #[.slice A n c, .agg #[.int .i64 p.al, .slice B m d, .slice B' m' d']] w fun e w' => e = .returned (.tuple #[.int .i64 (chain1 ss p), .int .i64 (chain2 ss p)]) ∧ Ext w w' := by
  have hR := fun W (hW : Ext w W) => h'.ext hW
  have HR := hide hR
  clear hR h'
  cases hT : three ss p
  · have Hc1 := hide (show chain1 ss p = -1 by unfold chain1; rw [hT]; rfl)
    have Hc2 := hide (show chain2 ss p = -1 by unfold chain2; rw [hT]; rfl)
    by_cases h3 : n = 3
    · subst h3
      have hT' : (areParts ss && autValid p) = false := by
        have := h.1
        unfold three at hT
        rw [decide_eq_true (by omega), Bool.true_and] at hT
        exact hT
      clear hT
      cases hp : areParts ss
      · have Hp := hide hp
        clear hp hT'
        go_enter Tryz.func32, Tryz.ntmps32
        go_wp2_with (go_at_call 59; refine (impl_areParts (h.ext ?_)).mono ?_; exact (Ext.refl _).alloc _; rw [Hp.out]; rintro e w1 ⟨rfl, hx⟩)
        go_ret2
        exact ⟨by rw [Hc1.out, Hc2.out]; rfl, ((Ext.refl _).alloc _).trans hx⟩
      · rw [hp, Bool.true_and] at hT'
        have Hp := hide hp
        have HT := hide hT'
        clear hp hT'
        go_enter Tryz.func32, Tryz.ntmps32
        go_wp2_with (first
          | (go_at_call 59; refine (impl_areParts (h.ext ?_)).mono ?_; exact (Ext.refl _).alloc _; rw [Hp.out]; rintro e w1 ⟨rfl, hx⟩; have c1 := fun j => ext_box (j := j) hx)
          | (go_at_call 33; refine (impl_AutomatonValid _ _ _ _ _ _ _ _ _ _ (HR.out _ (((Ext.refl _).alloc _).trans hx))).mono ?_; rw [HT.out]; rintro e w2 ⟨rfl, hx2⟩))
        go_ret2
        exact ⟨by rw [Hc1.out, Hc2.out]; rfl, (((Ext.refl _).alloc _).trans hx).trans hx2⟩
    · have hne : ((n : Int) != 3) = true := by simp; omega
      clear hT
      go_enter Tryz.func32, Tryz.ntmps32
      go_wp2
      go_ret2
      exact ⟨by rw [Hc1.out, Hc2.out]; rfl, (Ext.refl _).alloc _⟩
  · obtain ⟨x, y, z, rfl⟩ := three_list hT
    have Hc1 := hide (show chain1 [x, y, z] p = bits .and .i64 (bits .or .i64 x.al p.al) (bits .or .i64 y.al z.al) by unfold chain1; rw [hT]; rfl)
    have Hc2 := hide (show chain2 [x, y, z] p = bits .and .i64 (bits .or .i64 y.al (chain1 [x, y, z] p)) z.al by rw [chain2, hT]; rfl)
    obtain rfl : n = 3 := h.1
    have hT' := hT
    simp only [three, Bool.and_eq_true] at hT'
    have Hp := hide hT'.2.1
    have HT := hide hT'.2.2
    clear hT hT'
    have hm : ∀ W, Ext w W → ∃ b o, A = some ⟨b, o, none⟩ ∧ W.cell? ⟨b, o, none⟩ = some (.int .i64 x.al) ∧ W.cell? ⟨b, o + 3, none⟩ = some (.int .i64 y.al) ∧ W.cell? ⟨b, o + 6, none⟩ = some (.int .i64 z.al) := by
      intro W hW
      have h := h.ext hW
      obtain ⟨b, o, s, B, q, d, rfl, hlo, hhi, hs, c0, c1, c2, hsy⟩ := h.sys (k := 0) (by omega)
      obtain rfl : x = s := by have := hs.out; simpa using this
      obtain ⟨B1, q1, d1, e0, e1, e2, hsy1⟩ := h.sys2 (k := 1) (s := y) rfl
      obtain ⟨B2, q2, d2, g0, g1, g2, hsy2⟩ := h.sys2 (k := 2) (s := z) rfl
      exact ⟨b, o, rfl, by simpa using c0, e0, g0⟩
    have Hm := hide hm
    clear hm
    go_enter Tryz.func32, Tryz.ntmps32
    go_wp2_with (first
      | (go_at_call 59; refine (impl_areParts (h.ext ?_)).mono ?_; exact (Ext.refl _).alloc _; rw [Hp.out]; rintro e w1 ⟨rfl, hx⟩; have c1 := fun j => ext_box (j := j) hx)
      | (go_at_call 33; refine (impl_AutomatonValid _ _ _ _ _ _ _ _ _ _ (HR.out _ (((Ext.refl _).alloc _).trans hx))).mono ?_; rw [HT.out]; rintro e w2 ⟨rfl, hx2⟩; obtain ⟨b, o, rfl, g0, g1, g2⟩ := Hm.out w2 ((((Ext.refl _).alloc _).trans hx).trans hx2); have cp := fun j => ext_box (j := j) (hx.trans hx2)))
    go_quiet (fail)
    go_wp2_with fail
    go_quiet (fail)
    go_wp2_with fail
    go_ret2
    exact ⟨by rw [Hc2.out, Hc1.out]; rfl, (((((Ext.refl _).alloc _).trans hx).trans hx2).drewN _).drewN _⟩
end Go.Proofs.YtplllipekeomiaaGreatDoor

namespace Go.Proofs.YtplllipekeomiaaGreatDoor
open Go Go.RowKit
set_option maxHeartbeats 400000

/-- A certificate is valid: what the document says of it. -/
def certValid (hd : Bool) (a : Aut) (s : ByteArray) : Bool := if hd then autValid a && s.toList.isEmpty else autNone a && wordB s

theorem spec_CertificateValid (lo hi : Nat) (A : Option Addr) (n c : Nat) (A' : Option Addr) (n' c' : Nat) (hd : Bool) (a : Aut) (s : ByteArray) (w : World) (h : AutAt w lo hi A n A' n' a) (hs : s.size ≤ 9223372036854775807) :
    Calls Tryz.prog 40 #[.agg #[.bool hd, .int .i64 a.al, .slice A n c, .slice A' n' c', .string s]] w fun e w' => e = .returned (.bool (certValid hd a s)) ∧ Ext w w' := by
  have hR := fun W (hW : Ext w W) => h.ext hW
  have HR := hide hR
  clear hR
  cases hd
  · cases hb : autNone a
    all_goals
      have Hb := hide hb
      clear hb
      go_enter Tryz.func40, Tryz.ntmps40
      go_wp2_with (first
        | (go_at_call 66; refine (spec_l13None _ _ _ _ _ _ _ _ _ _ (HR.out _ ?_)).mono ?_; exact (Ext.refl _).alloc _; rw [Hb.out]; rintro e w2 ⟨rfl, hext2⟩; have hbox := ext_box hext2)
        | (go_at_call 67; refine (spec_WordValid s _ hs).mono ?_; rintro e w' ⟨rfl, rfl⟩))
      go_ret
      exact ⟨ret_bool (by rw [certValid, Hb.out]; simp), ((Ext.refl _).alloc _).trans hext2⟩
  · cases hb : autValid a
    all_goals
      have Hb := hide hb
      clear hb
      go_enter Tryz.func40, Tryz.ntmps40
      go_wp2_with (go_at_call 27; refine (spec_AutomatonValid _ _ _ _ _ _ _ _ _ _ (HR.out _ ?_)).mono ?_; exact (Ext.refl _).alloc _; rw [Hb.out]; rintro e w2 ⟨rfl, hext2⟩; have hbox := ext_box hext2)
      go_ret
      exact ⟨ret_bool (by rw [certValid, Hb.out]; simp), ((Ext.refl _).alloc _).trans hext2⟩

theorem impl_CertificateValid (lo hi : Nat) (A : Option Addr) (n c : Nat) (A' : Option Addr) (n' c' : Nat) (hd : Bool) (a : Aut) (s : ByteArray) (w : World) (h : AutAt w lo hi A n A' n' a) (hs : s.size ≤ 9223372036854775807) :
    Calls Tryz.prog 45 #[.agg #[.bool hd, .int .i64 a.al, .slice A n c, .slice A' n' c', .string s]] w fun e w' => e = .returned (.bool (certValid hd a s)) ∧ Ext w w' := by
  have hR := fun W (hW : Ext w W) => h.ext hW
  have HR := hide hR
  clear hR
  cases hd
  · have Hv := hide (show autNone a = (decide (a.al = 0) && (decide (n = 0) && decide (n' = 0))) by unfold autNone; rw [← h.n1, ← h.n2])
    have hl1 := h.1.len
    have hl2 := h.2.2.len
    clear h
    by_cases h0 : a.al = 0
    · have hb : ((a.al : Int) == 0) = true := by simp [h0]
      have H0 := hide h0
      clear h0
      by_cases h1 : n = 0
      · have hb1 : ((n : Int) == 0) = true := by simp [h1]
        have H1 := hide h1
        clear h1
        by_cases h2 : n' = 0
        · have hb2 : ((n' : Int) == 0) = true := by simp [h2]
          have H2 := hide h2
          clear h2
          go_enter Tryz.func45, Tryz.ntmps45
          go_wp2_with (go_at_call 74; refine (impl_WordValid s _ hs).mono ?_; rintro e w' ⟨rfl, rfl⟩)
          go_ret
          exact ⟨ret_bool (by rw [certValid, Hv.out, H0.out, H1.out, H2.out]; simp), ((Ext.refl _).alloc _).alloc _⟩
        · have hb2 : ((n' : Int) == 0) = false := by simp [h2]
          go_enter Tryz.func45, Tryz.ntmps45
          go_wp2_with fail
          go_ret
          exact ⟨ret_bool (by rw [certValid, Hv.out]; simp [h2]), ((Ext.refl _).alloc _).alloc _⟩
      · have hb1 : ((n : Int) == 0) = false := by simp [h1]
        go_enter Tryz.func45, Tryz.ntmps45
        go_wp2_with fail
        go_ret
        exact ⟨ret_bool (by rw [certValid, Hv.out]; simp [h1]), ((Ext.refl _).alloc _).alloc _⟩
    · have hb : ((a.al : Int) == 0) = false := by simp [h0]
      go_enter Tryz.func45, Tryz.ntmps45
      go_wp2_with fail
      go_ret
      exact ⟨ret_bool (by rw [certValid, Hv.out]; simp [h0]), ((Ext.refl _).alloc _).alloc _⟩
  · cases hb : autValid a
    all_goals
      have Hb := hide hb
      clear hb
      go_enter Tryz.func45, Tryz.ntmps45
      go_wp2_with (go_at_call 33; refine (impl_AutomatonValid _ _ _ _ _ _ _ _ _ _ (HR.out _ ?_)).mono ?_; exact (Ext.refl _).alloc _; rw [Hb.out]; rintro e w2 ⟨rfl, hext2⟩; have hbox := ext_box hext2)
      go_ret
      exact ⟨ret_bool (by rw [certValid, Hb.out]; simp), ((Ext.refl _).alloc _).trans hext2⟩
end Go.Proofs.YtplllipekeomiaaGreatDoor

namespace Go.Proofs.YtplllipekeomiaaGreatDoor
open Go Go.RowKit
set_option maxHeartbeats 1000000

theorem ints_one (l : List Int) : ∀ u ∈ ints l, u.oneCell' = true := by
  intro u hu
  obtain ⟨x, _, rfl⟩ := List.mem_map.1 hu
  rfl
theorem bools_one (l : List Bool) : ∀ u ∈ bools l, u.oneCell' = true := by
  intro u hu
  obtain ⟨x, _, rfl⟩ := List.mem_map.1 hu
  rfl
theorem grown_new {w w1 : World} {cs : Array Value} {t : TypeId} {n c : Nat} (hg : (w.alloc (.cells cs t)).grownBy w1 (Value.slice (some ⟨w.heap.size, 0, none⟩) n c).ownBlock) : Ext w w1 :=
  ((Ext.refl w).alloc _).grown hg (fun k hk => by
    have hk' : w.heap.size = k := by simpa [Value.ownBlock] using hk
    omega)
end Go.Proofs.YtplllipekeomiaaGreatDoor

namespace Go.Proofs.YtplllipekeomiaaGreatDoor
open Go Go.RowKit
set_option maxHeartbeats 400000

theorem szCertificate_any (lo hi : Nat) (A : Option Addr) (n c : Nat) (A' : Option Addr) (n' c' : Nat) (hd : Bool) (a : Aut) (s : ByteArray) (left : Int) (w : World) (h : AutAt w lo hi A n A' n' a) (hs : s.size ≤ 9223372036854775807) (h0 : 0 ≤ left) (h1 : left ≤ 1048576) :
    Calls Tryz.prog 17 #[.agg #[.bool hd, .int .i64 a.al, .slice A n c, .slice A' n' c', .string s], .int .i64 left] w fun e w' => e = .returned (.int .i64 (leftOf left (a.size + s.size))) ∧ Ext w w' := by
  have hle := leftOf_le left a.size h1
  have hsz : leftOf left (a.size + s.size) = if leftOf left a.size < 0 then -1 else leftOf (leftOf left a.size) s.size := by
    unfold leftOf; (repeat' split) <;> omega
  have Hsz := hide hsz
  clear hsz
  have hR := fun W (hW : Ext w W) => h.ext hW
  have HR := hide hR
  clear hR
  by_cases hneg : leftOf left a.size < 0
  · go_enter Tryz.func17, Tryz.ntmps17
    go_wp2_with (go_at_call 6; refine (szAutomaton_any _ _ _ _ _ _ _ _ _ _ _ (HR.out _ ((Ext.refl _).alloc _)) h0 h1).mono ?_; rintro e w' ⟨rfl, hx⟩)
    go_ret
    exact ⟨ret_int (by rw [Hsz.out, if_pos hneg]), ((Ext.refl _).alloc _).trans hx⟩
  · go_enter Tryz.func17, Tryz.ntmps17
    have hpos : 0 ≤ leftOf left a.size := by omega
    go_wp2_with (go_at_call 6; refine (szAutomaton_any _ _ _ _ _ _ _ _ _ _ _ (HR.out _ ((Ext.refl _).alloc _)) h0 h1).mono ?_; rintro e w' ⟨rfl, hx⟩; have hb := ext_box hx)
    all_goals go_ret
    all_goals exact ⟨ret_int (by rw [leftOf_two _ hpos]; split <;> omega), ((Ext.refl _).alloc _).trans hx⟩

/-- A certificate in new memory. -/
def RetCert (w : World) (hd : Bool) (a : Aut) (s : ByteArray) (e : Ending) (w' : World) : Prop :=
  ∃ A n c A' n' c', e = .returned (.agg #[.bool hd, .int .i64 a.al, .slice A n c, .slice A' n' c', .string s]) ∧ AutOwn w' w.heap.size A n c A' n' c' a ∧ Ext w w'

theorem toCertificate_any (lo hi : Nat) (A : Option Addr) (n c : Nat) (A' : Option Addr) (n' c' : Nat) (hd : Bool) (a : Aut) (s : ByteArray) (w : World) (h : AutAt w lo hi A n A' n' a) (hs : a.size ≤ 1048576) :
    Calls Tryz.prog 20 #[.agg #[.bool hd, .int .i64 a.al, .slice A n c, .slice A' n' c', .string s]] w (RetCert w hd a s) := by
  have hR := fun W (hW : Ext w W) => h.ext hW
  have HR := hide hR
  clear hR
  go_enter Tryz.func20, Tryz.ntmps20
  go_wp2_with (go_at_call 10; refine (toAutomaton_any _ _ _ _ _ _ _ _ _ _ (HR.out _ ?_) hs).mono ?_; exact (((Ext.refl _).alloc _).alloc _).alloc _; rintro e w2 ⟨B, m, d, B', m', d', rfl, hown2, hext2⟩; obtain ⟨b1, b2, b3⟩ := ext_blk3 hext2; have c1 := b1.cell; have c2 := b2.cell; have c3 := b3.cell; have f2 := b2.frozen; have f3 := b3.frozen; have hx2 := ((((Ext.refl w).alloc _).alloc _).alloc _).trans hext2)
  have z2 := hext2.size
  simp only [World.size_alloc] at z2 hown2
  refine bodyPost_ret (v := .agg #[.bool hd, .int .i64 a.al, .slice B m d, .slice B' m' d', .string s]) (by simp [results, Tryz.results20, go_sem, c2]) rfl ⟨_, _, _, _, _, _, rfl, ?_, ?_⟩
  · refine (hown2.keep (S := fun k => k < w.heap.size + 3) ?_ (by intro b hb; omega)).less (by omega)
    iterate 9 refine Frm.cell ?_ (by dsimp only; omega) _
    exact Frm.refl _ _
  · iterate 9 refine Ext.setCell ?_ (by dsimp only; omega) _
    exact hx2

/-- Two certificates are equal as data. -/
def certEq (hd : Bool) (a : Aut) (s : ByteArray) (hd' : Bool) (b : Aut) (s' : ByteArray) : Bool := (hd == hd') && (autEq a b && s.toList == s'.toList)

theorem eqCertificate_any (lo hi lo' hi' : Nat) (A : Option Addr) (n c : Nat) (A' : Option Addr) (n' c' : Nat) (hd : Bool) (s : ByteArray) (B : Option Addr) (m d : Nat) (B' : Option Addr) (m' d' : Nat) (hd' : Bool) (s' : ByteArray) (a b : Aut) (w : World)
    (h : AutAt w lo hi A n A' n' a) (h' : AutAt w lo' hi' B m B' m' b) :
    Calls Tryz.prog 23 #[.agg #[.bool hd, .int .i64 a.al, .slice A n c, .slice A' n' c', .string s], .agg #[.bool hd', .int .i64 b.al, .slice B m d, .slice B' m' d', .string s']] w fun e w' => e = .returned (.bool (certEq hd a s hd' b s')) ∧ Ext w w' := by
  have hR := fun W (hW : Ext w W) => h.ext hW
  have HR := hide hR
  have hR' := fun W (hW : Ext w W) => h'.ext hW
  have HR' := hide hR'
  clear hR hR'
  cases h0 : hd == hd'
  · go_enter Tryz.func23, Tryz.ntmps23
    go_wp2
    go_ret
    exact ⟨ret_bool (by rw [certEq, h0]; simp), ((Ext.refl _).alloc _).alloc _⟩
  · cases h1 : autEq a b
    all_goals
      have H1 := hide h1
      clear h1
      go_enter Tryz.func23, Tryz.ntmps23
      go_wp2_with (go_at_call 14; refine (eqAutomaton_any _ _ _ _ _ _ _ _ _ _ _ _ _ _ _ _ _ _ _ (HR.out _ ?_) (HR'.out _ ?_)).mono ?_; exact ((Ext.refl _).alloc _).alloc _; exact ((Ext.refl _).alloc _).alloc _; rw [H1.out]; rintro e w2 ⟨rfl, hext2⟩; obtain ⟨b1, b2⟩ := ext_blk2 hext2; have c1 := b1.cell; have c2 := b2.cell)
      all_goals go_ret
      all_goals exact ⟨ret_bool (by rw [certEq, H1.out, h0]; simp_all), (((Ext.refl _).alloc _).alloc _).trans hext2⟩
end Go.Proofs.YtplllipekeomiaaGreatDoor
