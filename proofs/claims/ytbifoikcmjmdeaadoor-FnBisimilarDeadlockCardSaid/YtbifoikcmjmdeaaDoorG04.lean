/- Texts of the reference, by their shape alone: letters, alphabets, numbers. | spec.l19Num, by its shape alone, walked. | spec.l19Cut and spec.l2Parse, by their shape alone, walked. | spec.l1Bit, spec.l2Step, walked. | spec.l15Follows, walked. | Plain: spec.l15Follows asks the first half of 'the edges are answered'. | Plain: what spec.l15Backs asks is the other half of 'the edges are answered'. | spec.l15Backs, walked. -/
import Derived.Test.YtbifoikcmjmdeaaDoorG03
import Derived.Laws.BytesArg
import Derived.Test.YtbifoikcmjmdeaaDoorG02
import Derived.BigQuiet
import Derived.Deep.RegionHeld3
import Derived.Test.YtbifoikcmjmdeaaDoorG01
namespace Go.Proofs.YtbifoikcmjmdeaaDoor
open Go Go.RowKit
set_option maxHeartbeats 1000000

/-- A string of at most L bytes; new memory alone. -/
def RetStr (L : Nat) (w : World) (e : Ending) (w' : World) : Prop := ∃ s : ByteArray, e = .returned (.string s) ∧ s.size ≤ L ∧ Ext w w'
theorem conv_one (w : World) (x : Int) : (convert 22 9 (.slice (some ⟨w.heap.size, 0, none⟩) 1 1)).run Tryd.prog (w.alloc (.cells #[.int .u8 x] 5)) = .ok (.string (strOfNums [x])) (w.alloc (.cells #[.int .u8 x] 5)) :=
  run_convert_bytes_arg _ _ 5 Tryd.underlying22 Tryd.underlying5 w.heap.size 0 1 1 [x] rfl (fun i hi => by
    obtain rfl : i = 0 := by omega
    rw [(Blk.new w 5 #[.int .u8 x]).cell]; rfl) _ Tryd.underlying9
theorem size_one (x : Int) : (strOfNums [x]).size = 1 := by simp [strOfNums]; rfl

theorem spec_l1Text {l : Int} {w : World} (h0 : 0 ≤ l) (h1 : l < 6) :
    Calls Tryd.prog 101 #[.int .i64 l] w (RetStr 1 w) := by
  have hc := conv_one w
  go_enter Tryd.func101, Tryd.ntmps101
  go_wp2
  go_ret
  exact ⟨_, rfl, Nat.le_of_eq (size_one _), (Ext.refl _).alloc _⟩
theorem spec_FormatAlphabet {a : Nat} {w : World} (ha : a < 64) :
    Calls Tryd.prog 98 #[.int .i64 a] w (RetStr 6 w) := by
  have hsm : Sm a := by unfold Sm; omega
  have hd := hide (show decide (0 ≤ (a : Int) ∧ (a : Int) ≤ 63) = true by simp; omega)
  by_cases h0 : a = 0
  · subst h0
    rw [show ((0 : Nat) : Int) = 0 from rfl]
    have hd0 := hide (show decide ((0 : Int) ≤ 0 ∧ (0 : Int) ≤ 63) = true by decide)
    go_enter Tryd.func98, Tryd.ntmps98
    go_wp2_with (go_at_call 74; refine (spec_l1Alphabet _ _).mono ?_; rw [hd0.out]; rintro e w' ⟨rfl, rfl⟩)
    go_ret
    exact ⟨_, rfl, by decide, Ext.refl _⟩
  · have h0' : ((a : Int) == 0) = false := by simp; omega
    go_enter Tryd.func98, Tryd.ntmps98
    go_wp2_with fail
    refine (spec_l1Alphabet _ _).mono ?_
    rw [hd.out]
    rintro e w' ⟨rfl, rfl⟩
    go_wp2_with fail
    refine (spec_l1Letters a hsm _).mono ?_
    rintro e w1 ⟨B, d, rfl, hown1, hx1⟩
    have hl6 := letters_length a 6
    have hlm := hide (fun k (hk : k ∈ letters a 6) => (mem_letters.1 hk).1)
    have hrd := Reads.of_own hown1
    clear hown1
    generalize letters a 6 = ls at *
    go_wp2_with fail
    go_loopw [3, 5] (fun v i wr => ∃ k : Nat, k ≤ ls.length ∧ i = .int .i64 k ∧ ∃ s : ByteArray, v = .string s ∧ s.size ≤ k ∧ Ext w1 wr) (fun _ i _ => ls.length - (intOf i).toNat)
    case atStart => exact ⟨0, Nat.zero_le _, rfl, _, rfl, Nat.le_refl _, Ext.refl _⟩
    case round =>
      obtain ⟨k, hk, rfl, s, rfl, hs, hext⟩ := hrel
      by_cases hlt : k < ls.length
      · obtain ⟨ad, l, rfl, _, _, hl, hlc⟩ := (hrd.ext hext).nat hlt
        have hl6' := hlm.out l (List.mem_of_getElem? hl.out)
        go_wp2_with fail
        refine (spec_l1Text (l := (l : Int)) (by omega) (by omega)).mono ?_
        rintro e w2 ⟨t, rfl, ht, hx2⟩
        have hst : s.size + t.size ≤ 7 := by omega
        go_wp2_with fail
        go_roundw
        case rel => exact ⟨k + 1, by omega, by go_num, _, rfl, by rw [ByteArray.size_append]; omega, hext.trans hx2⟩
        case measure => simp [intOf]; omega
      · obtain rfl : k = ls.length := by omega
        go_wp2_with fail
        go_ret
        exact ⟨s, rfl, by omega, hx1.trans hext⟩
/-- A number below 64, or none. -/
def RetAl (w : World) (e : Ending) (w' : World) : Prop := ∃ (a : Nat) (ok : Bool), e = .returned (.tuple #[.int .i64 a, .bool ok]) ∧ a < 64 ∧ Ext w w'
theorem spec_ParseAlphabet {x : ByteArray} {w : World} :
    Calls Tryd.prog 94 #[.string x] w (RetAl w) := by
  go_enter Tryd.func94, Tryd.ntmps94
  go_wp2_with fail
  go_loopw [4] (fun i wr => ∃ k : Nat, k ≤ 64 ∧ i = .int .i64 k ∧ Ext w wr) (fun i _ => 64 - (intOf i).toNat)
  case atStart => exact ⟨0, Nat.zero_le _, rfl, Ext.refl _⟩
  case round =>
    obtain ⟨k, hk, rfl, hext⟩ := hrel
    by_cases hlt : k < 64
    · go_wp2_with fail
      refine (spec_FormatAlphabet hlt).mono ?_
      rintro e w2 ⟨t, rfl, ht, hx2⟩
      cases hxt : t.toList == x.toList
      · go_wp2_with fail
        go_roundw
        case rel => exact ⟨k + 1, by omega, by go_num, hext.trans hx2⟩
        case measure => simp [intOf]; omega
      · go_wp2_with fail
        go_ret2
        exact ⟨k, true, rfl, hlt, hext.trans hx2⟩
    · obtain rfl : k = 64 := by omega
      go_wp2_with fail
      go_ret2
      exact ⟨0, false, rfl, by omega, hext⟩

theorem spec_l19Dec {n : Nat} {w : World} (hn : n < 100) :
    Calls Tryd.prog 100 #[.int .i64 n] w (RetStr 2 w) := by
  have hn1 : (n : Int) < 100 := by omega
  go_enter Tryd.func100, Tryd.ntmps100
  go_wp2_with fail
  go_loopw [0, 3] (fun n' v wr => ∃ (m : Nat) (s : ByteArray), n' = .int .i64 m ∧ v = .string s ∧ (m < 100 ∧ s.size = 0 ∨ m < 10 ∧ s.size ≤ 1) ∧ Ext w wr) (fun n' _ _ => (intOf n').toNat)
  case atStart => exact ⟨n, _, rfl, rfl, Or.inl ⟨hn, rfl⟩, Ext.refl _⟩
  case round =>
    obtain ⟨m, s, rfl, rfl, hms, hext⟩ := hrel
    have hm100 : m < 100 := by omega
    have hc := conv_one wr
    have hso := size_one
    by_cases hlt : 9 < m
    · have hs0 : s.size = 0 := by omega
      have hdiv := hide (Int.natCast_ediv m 10)
      have hm9 : (9 : Int) < (m : Int) := by omega
      have hs1 : s.size ≤ 1 := by omega
      have Hs0 := hide hs0
      clear hms hs0
      go_wp2_with fail
      go_roundw
      case rel => exact ⟨m / 10, _, by rw [hdiv.out]; rfl, rfl, Or.inr ⟨by omega, by rw [ByteArray.size_append, size_one, Hs0.out]; omega⟩, hext.alloc _⟩
      case measure => simp [intOf]; omega
    · have hm9 : (m : Int) ≤ 9 := by omega
      have hs1 : s.size ≤ 1 := by omega
      clear hms
      go_wp2_with fail
      go_ret
      exact ⟨_, rfl, by rw [ByteArray.size_append, size_one]; omega, hext.alloc _⟩
end Go.Proofs.YtbifoikcmjmdeaaDoor

namespace Go.Proofs.YtbifoikcmjmdeaaDoor
open Go Go.RowKit
set_option maxHeartbeats 2000000

/-- A number and whether it is one. -/
def RetNumS (w : World) (e : Ending) (w' : World) : Prop := ∃ (n : Int) (ok : Bool), e = .returned (.tuple #[.int .i64 n, .bool ok]) ∧ w = w'

set_option maxRecDepth 100000 in
theorem spec_l19Num {s : ByteArray} {w : World} (hs : s.size ≤ 1000000) :
    Calls Tryd.prog 95 #[.string s] w (RetNumS w) := by
  by_cases h0 : s.size = 0
  · have h0' : ¬ 0 < s.size := by omega
    go_enter Tryd.func95, Tryd.ntmps95
    go_wp2
    go_ret2
    exact ⟨0, false, rfl, rfl⟩
  have h0' : 0 < s.size := by omega
  cases hm : ((s[0].toNat : Int) == 45)
  · have hq0 : 0 < s.size := h0'
    by_cases z0 : s.size = 0
    · go_enter Tryd.func95, Tryd.ntmps95
      go_wp2
      go_ret2
      exact ⟨0, false, rfl, rfl⟩
    have z1 : 0 < s.size := by omega
    have z1' : ((s.size : Int) == 0) = false := by rw [beq_eq_false_iff_ne]; omega
    by_cases z2 : 17 < s.size
    · have z2' : (17 : Int) < (s.size : Int) := by omega
      go_enter Tryd.func95, Tryd.ntmps95
      go_wp2
      go_ret2
      exact ⟨0, false, rfl, rfl⟩
    have z2' : (s.size : Int) ≤ 17 := by omega
    cases z3 : ((s[0].toNat : Int) == 48)
    · go_enter Tryd.func95, Tryd.ntmps95
      go_wp2_with fail
      go_loop [5, 6] (fun v i => ∃ (k : Nat) (n : Int), k ≤ s.size ∧ i = .int .i64 k ∧ v = .int .i64 n) (fun _ i => s.size - (intOf i).toNat)
      case atStart => exact ⟨0, 0, Nat.zero_le _, rfl, rfl⟩
      case round =>
        obtain ⟨k, n, hk, rfl, rfl⟩ := hrel
        by_cases hlt : k < s.size
        · have hb := byte_lt s k hlt
          by_cases c0 : (s[k].toNat : Int) < 48
          · go_wp2_with fail
            go_ret2
            exact ⟨0, false, rfl, rfl⟩
          · by_cases c1 : 57 < (s[k].toNat : Int)
            · go_wp2_with fail
              go_ret2
              exact ⟨0, false, rfl, rfl⟩
            · go_wp2_with fail
              go_round
              case rel => exact ⟨k + 1, _, by omega, by go_num, rfl⟩
              case measure => simp [intOf]; omega
        · obtain rfl : k = s.size := by omega
          go_wp2_with fail
          go_ret2
          exact ⟨_, true, rfl, rfl⟩
    · by_cases z4 : 1 < s.size
      · have z4' : (1 : Int) < (s.size : Int) := by omega
        go_enter Tryd.func95, Tryd.ntmps95
        go_wp2
        go_ret2
        exact ⟨0, false, rfl, rfl⟩
      · have z4' : (s.size : Int) ≤ 1 := by omega
        go_enter Tryd.func95, Tryd.ntmps95
        go_wp2_with fail
        go_loop [5, 6] (fun v i => ∃ (k : Nat) (n : Int), k ≤ s.size ∧ i = .int .i64 k ∧ v = .int .i64 n) (fun _ i => s.size - (intOf i).toNat)
        case atStart => exact ⟨0, 0, Nat.zero_le _, rfl, rfl⟩
        case round =>
          obtain ⟨k, n, hk, rfl, rfl⟩ := hrel
          by_cases hlt : k < s.size
          · have hb := byte_lt s k hlt
            by_cases c0 : (s[k].toNat : Int) < 48
            · go_wp2_with fail
              go_ret2
              exact ⟨0, false, rfl, rfl⟩
            · by_cases c1 : 57 < (s[k].toNat : Int)
              · go_wp2_with fail
                go_ret2
                exact ⟨0, false, rfl, rfl⟩
              · go_wp2_with fail
                go_round
                case rel => exact ⟨k + 1, _, by omega, by go_num, rfl⟩
                case measure => simp [intOf]; omega
          · obtain rfl : k = s.size := by omega
            go_wp2_with fail
            go_ret2
            exact ⟨_, true, rfl, rfl⟩
  · obtain ⟨y, hy⟩ : ∃ y, s.extract 1 s.size = y := ⟨_, rfl⟩
    have hyl : y.size = s.size - 1 := by rw [← hy, ByteArray.size_extract]; omega
    have hyb : y.size ≤ 1000000 := by omega
    have Hyl := hide hyl
    clear hyl
    have h01 : (1 : Int) ≤ (s.size : Int) := by omega
    by_cases z0 : y.size = 0
    · go_enter Tryd.func95, Tryd.ntmps95
      go_wp2
      go_ret2
      exact ⟨0, false, rfl, rfl⟩
    have z1 : 0 < y.size := by omega
    have z1' : ((y.size : Int) == 0) = false := by rw [beq_eq_false_iff_ne]; omega
    by_cases z2 : 17 < y.size
    · have z2' : (17 : Int) < (y.size : Int) := by omega
      go_enter Tryd.func95, Tryd.ntmps95
      go_wp2
      go_ret2
      exact ⟨0, false, rfl, rfl⟩
    have z2' : (y.size : Int) ≤ 17 := by omega
    cases z3 : ((y[0].toNat : Int) == 48)
    · go_enter Tryd.func95, Tryd.ntmps95
      go_wp2_with fail
      go_loop [5, 6] (fun v i => ∃ (k : Nat) (n : Int), k ≤ y.size ∧ i = .int .i64 k ∧ v = .int .i64 n) (fun _ i => y.size - (intOf i).toNat)
      case atStart => exact ⟨0, 0, Nat.zero_le _, rfl, rfl⟩
      case round =>
        obtain ⟨k, n, hk, rfl, rfl⟩ := hrel
        by_cases hlt : k < y.size
        · have hb := byte_lt y k hlt
          by_cases c0 : (y[k].toNat : Int) < 48
          · go_wp2_with fail
            go_ret2
            exact ⟨0, false, rfl, rfl⟩
          · by_cases c1 : 57 < (y[k].toNat : Int)
            · go_wp2_with fail
              go_ret2
              exact ⟨0, false, rfl, rfl⟩
            · go_wp2_with fail
              go_round
              case rel => exact ⟨k + 1, _, by omega, by go_num, rfl⟩
              case measure => simp [intOf]; omega
        · obtain rfl : k = y.size := by omega
          go_wp2_with fail
          go_ret2
          exact ⟨_, true, rfl, rfl⟩
    · by_cases z4 : 1 < y.size
      · have z4' : (1 : Int) < (y.size : Int) := by omega
        go_enter Tryd.func95, Tryd.ntmps95
        go_wp2
        go_ret2
        exact ⟨0, false, rfl, rfl⟩
      · have z4' : (y.size : Int) ≤ 1 := by omega
        go_enter Tryd.func95, Tryd.ntmps95
        go_wp2
        go_ret2
        exact ⟨0, false, rfl, rfl⟩
end Go.Proofs.YtbifoikcmjmdeaaDoor

namespace Go.Proofs.YtbifoikcmjmdeaaDoor
open Go Go.RowKit
set_option maxHeartbeats 2000000

theorem info_str : (Tryd.prog.info? 9).map (fun i => (i.zero, i.size, i.bytes)) = some (some (.string ⟨#[]⟩), 1, 16) := by kernel_rfl
/-- Strings in new memory, none longer than L. -/
def RetStrs (L N : Nat) (w : World) (e : Ending) (w' : World) : Prop := ∃ (A : Option Addr) (n c : Nat) (l : List ByteArray), e = .returned (.slice A n c) ∧ n = l.length ∧ w'.ownsRow w.heap.size 9 1 (.slice A n c) n (strs l) ∧ (∀ x ∈ l, x.size ≤ L) ∧ n ≤ N ∧ Ext w w'
theorem cells_str (x : ByteArray) : ∀ u ∈ (#[Value.string x] : Array Value).toList, u.oneCell' = true := by simp [Value.oneCell']

theorem spec_l19Cut {s : ByteArray} {w : World} (hs : s.size ≤ 1000000) :
    Calls Tryd.prog 93 #[.string s, .int .u8 32] w (RetStrs s.size (s.size + 1) w) := by
  go_enter Tryd.func93, Tryd.ntmps93
  go_wp2_with fail
  go_loopw [5, 6, 7] (fun v f i wr => ∃ (k m : Nat) (l : List ByteArray), k ≤ s.size + 1 ∧ i = .int .i64 k ∧ m ≤ k ∧ f = .int .i64 m ∧ l.length ≤ k ∧ wr.ownsRow w.heap.size 9 1 v l.length (strs l) ∧ Hid (∀ x ∈ l, x.size ≤ s.size) ∧ Ext w wr) (fun _ _ i _ => s.size + 1 - (intOf i).toNat)
  case atStart => exact ⟨0, 0, [], Nat.zero_le _, rfl, Nat.le_refl _, rfl, Nat.le_refl _, World.ownsRow_lit w #[] 0 (Nat.le_refl _) (by unfold maxLen; omega) rfl, (fun x hx => by cases hx), (Ext.refl _).alloc _⟩
  case round =>
    obtain ⟨k, m, l, hk, rfl, hm, rfl, hl, hown, hlx, hext⟩ := hrel
    by_cases hle : k ≤ s.size
    · have hle' : (k : Int) ≤ (s.size : Int) := by omega
      have hm' : (m : Int) ≤ (k : Int) := by omega
      have hex := hide (show (s.extract m k).size ≤ s.size by rw [ByteArray.size_extract]; omega)
      have hall := hide (show ∀ x ∈ l ++ [s.extract m k], x.size ≤ s.size from fun x hx => by
        rcases List.mem_append.1 hx with h1 | h1
        · exact hlx.out x h1
        · rw [List.mem_singleton.1 h1]; exact hex.out)
      by_cases he : k = s.size
      · have heq : ((k : Int) == (s.size : Int)) = true := by simp [he]
        have He := hide he
        clear he
        go_wp2_with (at_builtin; refine wpList_push w wr rfl _ _ _ rfl 9 _ 1 16 Tryd.underlying100 info_str rfl (by decide) u5 _ _ _ _ rfl rfl hext hown rfl (cells_str _) (by unfold maxLen; omega) (by omega) ?_; intro v' w1 hext1 hown1 hg1 hat1)
        go_roundw
        case rel => exact ⟨k + 1, k + 1, l ++ [s.extract m k], by omega, by go_num, by omega, by go_num, by simp; omega, by simpa [strs] using hown1, hall.out, by assumption⟩
        case measure => simp [intOf]; omega
      · have heq : ((k : Int) == (s.size : Int)) = false := by rw [beq_eq_false_iff_ne]; omega
        have hlt : k < s.size := by omega
        have hb := byte_lt s k hlt
        cases hc : ((s[k].toNat : Int) == 32)
        · go_wp2_with fail
          go_roundw
          case rel => exact ⟨k + 1, m, l, by omega, by go_num, by omega, rfl, by omega, hown, hlx, hext⟩
          case measure => simp [intOf]; omega
        · go_wp2_with (at_builtin; refine wpList_push w wr rfl _ _ _ rfl 9 _ 1 16 Tryd.underlying100 info_str rfl (by decide) u5 _ _ _ _ rfl rfl hext hown rfl (cells_str _) (by unfold maxLen; omega) (by omega) ?_; intro v' w1 hext1 hown1 hg1 hat1)
          go_roundw
          case rel => exact ⟨k + 1, k + 1, l ++ [s.extract m k], by omega, by go_num, by omega, by go_num, by simp; omega, by simpa [strs] using hown1, hall.out, by assumption⟩
          case measure => simp [intOf]; omega
    · obtain rfl : k = s.size + 1 := by omega
      obtain ⟨A, c, rfl⟩ := own_form hown
      go_wp2_with fail
      go_ret
      exact ⟨A, _, c, l, rfl, rfl, hown, hlx.out, by omega, hext⟩

/-- An edge and whether it is one. -/
def RetEdgeS (w : World) (e : Ending) (w' : World) : Prop := ∃ (x : Edg) (ok : Bool), e = .returned (.tuple #[.agg #[.int .i64 x.fr, .int .i64 x.le, .int .i64 x.to], .bool ok]) ∧ Ext w w'
set_option maxRecDepth 100000 in
theorem spec_l2Parse {s : ByteArray} {w : World} (hs : s.size ≤ 1000000) :
    Calls Tryd.prog 96 #[.string s] w (RetEdgeS w) := by
  have hx1 := (Ext.refl w).alloc (.cells #[.int .i64 0, .int .i64 0, .int .i64 0] 48)
  have hbz := Blk.new w 48 #[.int .i64 0, .int .i64 0, .int .i64 0]
  go_enter Tryd.func96, Tryd.ntmps96
  go_wp2_with fail
  generalize w.alloc (.cells #[.int .i64 0, .int .i64 0, .int .i64 0] 48) = w1 at *
  go_loop [4] (fun i => ∃ k : Nat, k ≤ s.size ∧ i = .int .i64 k) (fun i => s.size - (intOf i).toNat)
  case atStart => exact ⟨0, Nat.zero_le _, rfl⟩
  case round =>
    obtain ⟨k, hk, rfl⟩ := hrel
    have cz := hbz.cell
    have fz := hbz.frozen
    by_cases hlt : k < s.size
    · have hb := byte_lt s k hlt
      by_cases c0 : (97 : Int) ≤ (s[k].toNat : Int)
      · by_cases c1 : (s[k].toNat : Int) ≤ 102
        · have he1 := hide (show (s.extract 0 k).size ≤ 1000000 by rw [ByteArray.size_extract]; omega)
          have he2 := hide (show (s.extract (k + 1) s.size).size ≤ 1000000 by rw [ByteArray.size_extract]; omega)
          have hk1 : (k : Int) + 1 ≤ (s.size : Int) := by omega
          go_wp2_with fail
          refine (spec_l19Num he1.out).mono ?_
          rintro e w2 ⟨n1, ok1, rfl, rfl⟩
          go_wp2_with fail
          refine (spec_l19Num he2.out).mono ?_
          rintro e w2 ⟨n2, ok2, rfl, rfl⟩
          go_wp2_with fail
          refine (spec_l1At s k hlt _).mono ?_
          rintro e w2 ⟨rfl, rfl⟩
          have hfin : ∀ u0 u1 u2, Ext w (((w1.setCell ⟨w.heap.size, 0, none⟩ u0).setCell ⟨w.heap.size, 1, none⟩ u1).setCell ⟨w.heap.size, 2, none⟩ u2) := fun u0 u1 u2 => ((hx1.setCell (Nat.le_refl _) u0).setCell (Nat.le_refl _) u1).setCell (Nat.le_refl _) u2
          have Hfin := hide hfin
          clear hfin
          cases ok1
          · go_wp2_with fail
            exact bodyPost_ret (v := .tuple #[.agg #[.int .i64 n1, .int .i64 ((s[k].toNat : Int) - 97), .int .i64 n2], .bool false]) (by simp [results, Tryd.results96, go_sem, cz]) rfl ⟨⟨n1, (s[k].toNat : Int) - 97, n2⟩, false, rfl, Hfin.out _ _ _⟩
          · go_wp2_with fail
            exact bodyPost_ret (v := .tuple #[.agg #[.int .i64 n1, .int .i64 ((s[k].toNat : Int) - 97), .int .i64 n2], .bool ok2]) (by simp [results, Tryd.results96, go_sem, cz]) rfl ⟨⟨n1, (s[k].toNat : Int) - 97, n2⟩, ok2, rfl, Hfin.out _ _ _⟩
        · go_wp2_with fail
          go_round
          case rel => exact ⟨k + 1, by omega, by go_num⟩
          case measure => simp [intOf]; omega
      · go_wp2_with fail
        go_round
        case rel => exact ⟨k + 1, by omega, by go_num⟩
        case measure => simp [intOf]; omega
    · obtain rfl : k = s.size := by omega
      go_wp2_with fail
      refine bodyPost_ret (v := .tuple #[.agg #[.int .i64 0, .int .i64 0, .int .i64 0], .bool false]) (by simp [results, Tryd.results96, go_sem, cz]) rfl ⟨⟨0, 0, 0⟩, false, rfl, ?_⟩
      exact ((hx1.setCell (p := ⟨w.heap.size, 0, none⟩) (Nat.le_refl _) _).setCell (p := ⟨w.heap.size, 1, none⟩) (Nat.le_refl _) _).setCell (p := ⟨w.heap.size, 2, none⟩) (Nat.le_refl _) _
end Go.Proofs.YtbifoikcmjmdeaaDoor

namespace Go.Proofs.YtbifoikcmjmdeaaDoor
open Go Go.RowKit
set_option maxHeartbeats 1000000

theorem wrap_pow2 {t : Nat} (ht : t < 32) : wrap64 ((2 : Int) ^ t) = ((2 ^ t : Nat) : Int) := by
  have hp := (Sm.bit ht).lt
  have e : (2 : Int) ^ t = ((2 ^ t : Nat) : Int) := by simp
  rw [e]
  generalize (2 : Nat) ^ t = p at *
  unfold wrap64
  omega
theorem spec_l1Bit (n : Nat) (hn : n < 32) (w : World) :
    Calls Tryd.prog 53 #[.int .i64 n] w fun e w' => e = .returned (.int .i64 (2 ^ n : Nat)) ∧ w = w' := by
  have hu : IntKind.u64.wrap (n : Int) = n := by rw [IntKind.wrap_u64]; omega
  have h64 : (n : Int) ≤ 64 := by omega
  have hw := hide (wrap_pow2 hn)
  go_enter Tryd.func53, Tryd.ntmps53
  go_wp2
  go_ret
  exact ⟨ret_int (by rw [← hw.out]), rfl⟩

/-- The set that a letter leads to from a set. -/
def stepB (es : List Edg) (set : Nat) (l : Int) : Nat := es.foldl (fun m e => if e.le = l ∧ set.testBit e.fr.toNat = true then m ||| 2 ^ e.to.toNat else m) 0
theorem stepB_snoc (es : List Edg) (e : Edg) (set : Nat) (l : Int) : stepB (es ++ [e]) set l = if e.le = l ∧ set.testBit e.fr.toNat = true then stepB es set l ||| 2 ^ e.to.toNat else stepB es set l := by simp [stepB]
theorem stepB_bit (es : List Edg) (set : Nat) (l : Int) (k : Nat) : (stepB es set l).testBit k = true ↔ ∃ e ∈ es, (e.le = l ∧ set.testBit e.fr.toNat = true) ∧ e.to.toNat = k := by
  have := foldl_bit es (fun e => e.le = l ∧ set.testBit e.fr.toNat = true) 0 k
  simpa [stepB] using this
theorem stepB_lt {n : Nat} {es : List Edg} (h : Few n es) (set : Nat) (l : Int) : stepB es set l < 2 ^ n := by
  apply Nat.lt_pow_two_of_testBit
  intro k hk
  rw [Bool.eq_false_iff]
  intro hb
  obtain ⟨e, he, _, h3⟩ := (stepB_bit es set l k).1 hb
  have := h e he
  omega
theorem stepB_one {n : Nat} {es : List Edg} (h : Few n es) (j : Nat) (l : Int) : stepB es (2 ^ j) l = succ es j l := by
  apply Nat.eq_of_testBit_eq
  intro k
  rw [Bool.eq_iff_iff, stepB_bit, succ_bit]
  constructor
  · rintro ⟨e, he, ⟨h1, h2⟩, h3⟩
    have := h e he
    rw [Nat.testBit_two_pow, decide_eq_true_eq] at h2
    exact ⟨e, he, ⟨by omega, h1⟩, h3⟩
  · rintro ⟨e, he, ⟨h1, h2⟩, h3⟩
    exact ⟨e, he, ⟨h2, by rw [Nat.testBit_two_pow, decide_eq_true_eq]; omega⟩, h3⟩

theorem spec_l2Step {lo hi : Nat} {A : Option Addr} {n c : Nat} {s : Sys} {set : Nat} {l : Int} {k0 : Nat} {w : World} (h : SysAt w lo hi A n s) (hf : Few k0 s.edges) (hk0 : k0 ≤ 16) (hset : Sm set) :
    Calls Tryd.prog 78 #[.agg #[.int .i64 s.al, .int .i64 s.st, .slice A n c], .int .i64 set, .int .i64 l] w fun e w' => e = .returned (.int .i64 (stepB s.edges set l : Nat)) ∧ Ext w w' := by
  have hn := h.2.len
  have hL := hide h.1
  have HR := hide (fun W (hW : Ext w W) => h.2.ext hW)
  have Hf := hide hf
  clear hf
  go_enter Tryd.func78, Tryd.ntmps78
  go_wp2
  go_loopw [7, 8] (fun v i wr => ∃ k : Nat, k ≤ n ∧ i = .int .i64 k ∧ ∃ y : Nat, v = .int .i64 y ∧ Sm y ∧ Hid (y = stepB (s.edges.take k) set l) ∧ Ext w wr ∧ Ext (w.alloc (.cells #[.int .i64 s.al, .int .i64 s.st, .slice A n c] 25)) wr) (fun _ i _ => n - (intOf i).toNat)
  case atStart => exact ⟨0, Nat.zero_le _, rfl, 0, rfl, by unfold Sm; omega, rfl, (Ext.refl _).alloc _, Ext.refl _⟩
  case round =>
    obtain ⟨k, hk, rfl, y, rfl, hy, hyo, hext, hexb⟩ := hrel
    have cb := fun j => ext_box (j := j) hexb
    by_cases hlt : k < n
    · obtain ⟨b, o, x, rfl, _, _, hx, c0, c1, c2⟩ := (HR.out wr hext).edge hlt
      obtain ⟨⟨f0, f1⟩, ⟨g0, g1⟩, ⟨t0, t1⟩⟩ := Hf.out x (List.mem_of_getElem? hx.out)
      have Htk := hide (show s.edges.take (k + 1) = s.edges.take k ++ [x] by rw [List.take_add_one, hx.out]; rfl)
      obtain ⟨f, hfe⟩ : ∃ f : Nat, x.fr = f := ⟨x.fr.toNat, by omega⟩
      obtain ⟨t, hte⟩ : ∃ t : Nat, x.to = t := ⟨x.to.toNat, by omega⟩
      rw [hfe] at c0 f0 f1
      rw [hte] at c2 t0 t1
      have hs1 := hide (stepB_snoc (s.edges.take k) x set l)
      by_cases hle : x.le = l
      · have hle' : (x.le == l) = true := by simp [hle]
        have Hle := hide hle
        clear hle
        cases hb : set.testBit f
        · have Hb := hide hb
          clear hb
          go_wp2_with (go_at_call 29; refine (spec_l1Has set f hset _ (by omega)).mono ?_; rw [Hb.out]; rintro e w' ⟨rfl, rfl⟩)
          go_roundw
          case rel => exact ⟨k + 1, by omega, by go_num, y, rfl, hy, by unfold Hid; rw [Htk.out, hs1.out, if_neg (by rintro ⟨_, h2⟩; rw [hfe] at h2; simp [Hb.out] at h2)]; exact hyo.out, hext, hexb⟩
          case measure => simp [intOf]; omega
        · have Hb := hide hb
          clear hb
          have hor := hide (show bits .or .i64 (y : Nat) ((2 : Int) ^ t) = ((y ||| 2 ^ t : Nat) : Int) by have := bits_or hy (Sm.bit (n := t) (by omega)); rw [show (((2 : Nat) ^ t : Nat) : Int) = (2 : Int) ^ t by simp] at this; exact this)
          go_wp2_with (first
            | (go_at_call 29; refine (spec_l1Has set f hset _ (by omega)).mono ?_; rw [Hb.out]; rintro e w' ⟨rfl, rfl⟩)
            | (go_at_call 53; refine (spec_l1Bit t (by omega) _).mono ?_; rintro e w' ⟨rfl, rfl⟩))
          go_roundw
          case rel => exact ⟨k + 1, by omega, by go_num, y ||| 2 ^ t, by rw [hor.out], hy.or (Sm.bit (by omega)), by unfold Hid; rw [Htk.out, hs1.out, if_pos ⟨Hle.out, by rw [hfe]; simpa using Hb.out⟩, ← hyo.out, hte]; rfl, hext, hexb⟩
          case measure => simp [intOf]; omega
      · have hle' : (x.le == l) = false := by simp [hle]
        have Hle := hide hle
        clear hle
        go_wp2
        go_roundw
        case rel => exact ⟨k + 1, by omega, by go_num, y, rfl, hy, by unfold Hid; rw [Htk.out, hs1.out, if_neg (by rintro ⟨h2, _⟩; exact Hle.out h2)]; exact hyo.out, hext, hexb⟩
        case measure => simp [intOf]; omega
    · obtain rfl : n = k := by omega
      go_wp2
      go_ret
      exact ⟨ret_int (by rw [hyo.out, hL.out, List.take_length]), hext⟩
end Go.Proofs.YtbifoikcmjmdeaaDoor

namespace Go.Proofs.YtbifoikcmjmdeaaDoor
open Go Go.RowKit
set_option maxHeartbeats 2000000

/-- One edge of the first system is no edge from i, or is answered by one from j. -/
def folE (es' : List Edg) (R : List Nat) (i j : Nat) (e : Edg) : Bool := !(e.fr == (i : Int) && (stepB es' (2 ^ j) e.le &&& R.getD e.to.toNat 0 == 0))
theorem spec_l15Follows {lo hi lo' hi' lo2 hi2 : Nat} {A : Option Addr} {n c : Nat} {B : Option Addr} {m d : Nat} {C : Option Addr} {r f : Nat} {s t : Sys} {R : List Nat} {p q i j : Nat} {w : World} (h : SysAt w lo hi A n s) (h' : SysAt w lo' hi' B m t) (hR : Reads w lo2 hi2 1 C r (nats R)) (hs : ∀ r ∈ R, Sm r)
    (hf : Few p s.edges) (hg : Few q t.edges) (_hp : p ≤ 16) (hq : q ≤ 16) (hj : j < 32) (hl : p ≤ R.length) :
    Calls Tryd.prog 54 #[.agg #[.int .i64 s.al, .int .i64 s.st, .slice A n c], .agg #[.int .i64 t.al, .int .i64 t.st, .slice B m d], .slice C r f, .int .i64 i, .int .i64 j] w fun e w' => e = .returned (.bool (s.edges.all (folE t.edges R i j))) ∧ Ext w w' := by
  have hn := h.2.len
  have hL := hide h.1
  have HR := hide (fun W (hW : Ext w W) => h.2.ext hW)
  have HT := hide (fun W (hW : Ext w W) => h'.ext hW)
  have HC := hide (fun W (hW : Ext w W) => hR.ext hW)
  have hrl := hide (show R.length = r by have := hR.length; rw [nats_length] at this; omega)
  have Hf := hide hf
  have Hg := hide hg
  have Hs := hide hs
  have hr' := hR.len
  clear hf hg hs
  go_enter Tryd.func54, Tryd.ntmps54
  go_wp2
  go_loopw [11] (fun i' wr => ∃ k : Nat, k ≤ n ∧ i' = .int .i64 k ∧ Hid ((s.edges.take k).all (folE t.edges R i j) = true) ∧ Ext ((w.alloc (.cells #[.int .i64 s.al, .int .i64 s.st, .slice A n c] 25)).alloc (.cells #[.int .i64 t.al, .int .i64 t.st, .slice B m d] 25)) wr) (fun i' _ => n - (intOf i').toNat)
  case atStart => exact ⟨0, Nat.zero_le _, rfl, rfl, Ext.refl _⟩
  case round =>
    obtain ⟨k, hk, rfl, hall, hexb⟩ := hrel
    have hext := (((Ext.refl w).alloc _).alloc _).trans hexb
    obtain ⟨bk1, bk2⟩ := ext_blk2 hexb
    have cb1 := bk1.cell
    by_cases hlt : k < n
    · obtain ⟨b, o, x, rfl, _, _, hx, c0, c1, c2⟩ := (HR.out wr hext).edge hlt
      obtain ⟨⟨f0, f1⟩, ⟨g0, g1⟩, ⟨t0, t1⟩⟩ := Hf.out x (List.mem_of_getElem? hx.out)
      have Htk := hide (show s.edges.take (k + 1) = s.edges.take k ++ [x] by rw [List.take_add_one, hx.out]; rfl)
      obtain ⟨g, hge⟩ : ∃ g : Nat, x.fr = g := ⟨x.fr.toNat, by omega⟩
      obtain ⟨u, hue⟩ : ∃ u : Nat, x.to = u := ⟨x.to.toNat, by omega⟩
      rw [hge] at c0 f0 f1
      rw [hue] at c2 t0 t1
      obtain ⟨ad, v, hCe, _, _, hv, hvc⟩ := (HC.out wr hext).nat (k := u) (by have := hrl.out; omega)
      have hvs := Hs.out v (List.mem_of_getElem? hv.out)
      have hE := hide (show folE t.edges R i j x = !((g : Int) == (i : Int) && (stepB t.edges (2 ^ j) x.le &&& v == 0)) by unfold folE; rw [hge, hue, List.getD_eq_getElem?_getD, Int.toNat_natCast, hv.out]; rfl)
      have hur : u < r := by have := hrl.out; omega
      have hsm := hide (show Sm (stepB t.edges (2 ^ j) x.le) from Nat.lt_of_lt_of_le (stepB_lt Hg.out _ _) (by rw [show (4294967296 : Nat) = 2 ^ 32 from rfl]; exact Nat.pow_le_pow_right (by omega) (by omega)))
      have hand := hide (bits_and hsm.out hvs)
      by_cases hgi : g = i
      · have hgi' : ((g : Int) == (i : Int)) = true := by simp [hgi]
        subst hCe
        have hvc2 : ∀ W, Ext wr W → W.cell? (ad.add u) = some (.int .i64 (v : Nat)) := fun W hW => hW.cell_some hvc
        have bk2' : ∀ W, Ext wr W → ∀ a, W.cell? ⟨w.heap.size + 1, a, none⟩ = #[Value.int .i64 t.al, .int .i64 t.st, .slice B m d][a]? := fun W hW => (bk2.ext hW).cell
        have Hgi := hide hgi
        clear hgi
        by_cases hz : stepB t.edges (2 ^ j) x.le &&& v = 0
        all_goals
          have hz' := hide hz
          clear hz
        · have hzz : (bits .and .i64 (stepB t.edges (2 ^ j) x.le : Nat) (v : Nat) == 0) = true := by rw [hand.out, hz'.out]; rfl
          go_wp2_with fail
          have hxq := (Ext.refl wr).alloc (.cells #[.int .i64 g, .int .i64 x.le, .int .i64 u] 48)
          have hbq := Blk.new wr 48 #[.int .i64 g, .int .i64 x.le, .int .i64 u]
          generalize wr.alloc (.cells #[.int .i64 g, .int .i64 x.le, .int .i64 u] 48) = wq at *
          have hbq' : ∀ W, Ext wq W → ∀ a, W.cell? ⟨wr.heap.size, a, none⟩ = #[Value.int .i64 g, .int .i64 x.le, .int .i64 u][a]? := fun W hW => (hbq.ext hW).cell
          have hvc3 : ∀ W, Ext wq W → W.cell? (ad.add u) = some (.int .i64 (v : Nat)) := fun W hW => hvc2 W (hxq.trans hW)
          have bk3 : ∀ W, Ext wq W → ∀ a, W.cell? ⟨w.heap.size + 1, a, none⟩ = #[Value.int .i64 t.al, .int .i64 t.st, .slice B m d][a]? := fun W hW => bk2' W (hxq.trans hW)
          have HT2 := hide (fun W (hW : Ext wq W) => HT.out W ((hext.trans hxq).trans hW))
          have hqq := Ext.refl wq
          clear hvc2 bk2' bk2 bk1 cb1 c0 c1 c2
          go_region_held3 (fun W => Ext wq W) (first | assumption | (refine Ext.drew ?_; assumption) | (refine Ext.trans ?_ (by assumption); assumption) | (refine Ext.trans ?_ (by assumption); refine Ext.drew ?_; assumption)) (first
            | (go_at_call 53; with_reducible refine (spec_l1Bit j hj _).mono ?_; rintro e w5 ⟨rfl, rfl⟩)
            | (go_at_call 78; refine (spec_l2Step (HT2.out _ ?_) Hg.out hq (Sm.bit hj)).mono ?_; (first | assumption | (refine Ext.drew ?_; assumption)); rintro e w6 ⟨rfl, hx6⟩))
          go_wp2_with fail
          go_ret
          refine ⟨ret_bool ?_, (hext.trans hxq).trans (by assumption)⟩
          have hF : folE t.edges R i j x = false := by rw [hE.out, hgi', hz'.out]; rfl
          refine (Bool.eq_false_iff.2 fun hc => ?_).symm
          have := List.all_eq_true.1 hc x (List.mem_of_getElem? hx.out)
          rw [hF] at this
          cases this
        · have hzz : (bits .and .i64 (stepB t.edges (2 ^ j) x.le : Nat) (v : Nat) == 0) = false := by rw [hand.out]; have := hz'.out; simp; omega
          go_wp2_with fail
          have hxq := (Ext.refl wr).alloc (.cells #[.int .i64 g, .int .i64 x.le, .int .i64 u] 48)
          have hbq := Blk.new wr 48 #[.int .i64 g, .int .i64 x.le, .int .i64 u]
          generalize wr.alloc (.cells #[.int .i64 g, .int .i64 x.le, .int .i64 u] 48) = wq at *
          have hbq' : ∀ W, Ext wq W → ∀ a, W.cell? ⟨wr.heap.size, a, none⟩ = #[Value.int .i64 g, .int .i64 x.le, .int .i64 u][a]? := fun W hW => (hbq.ext hW).cell
          have hvc3 : ∀ W, Ext wq W → W.cell? (ad.add u) = some (.int .i64 (v : Nat)) := fun W hW => hvc2 W (hxq.trans hW)
          have bk3 : ∀ W, Ext wq W → ∀ a, W.cell? ⟨w.heap.size + 1, a, none⟩ = #[Value.int .i64 t.al, .int .i64 t.st, .slice B m d][a]? := fun W hW => bk2' W (hxq.trans hW)
          have HT2 := hide (fun W (hW : Ext wq W) => HT.out W ((hext.trans hxq).trans hW))
          have hqq := Ext.refl wq
          clear hvc2 bk2' bk2 bk1 cb1 c0 c1 c2
          go_region_held3 (fun W => Ext wq W) (first | assumption | (refine Ext.drew ?_; assumption) | (refine Ext.trans ?_ (by assumption); assumption) | (refine Ext.trans ?_ (by assumption); refine Ext.drew ?_; assumption)) (first
            | (go_at_call 53; with_reducible refine (spec_l1Bit j hj _).mono ?_; rintro e w5 ⟨rfl, rfl⟩)
            | (go_at_call 78; refine (spec_l2Step (HT2.out _ ?_) Hg.out hq (Sm.bit hj)).mono ?_; (first | assumption | (refine Ext.drew ?_; assumption)); rintro e w6 ⟨rfl, hx6⟩))
          go_wp2_with fail
          go_roundw
          case rel => exact ⟨k + 1, by omega, by go_num, by
            have hF : folE t.edges R i j x = true := by
              have hz3 : (stepB t.edges (2 ^ j) x.le &&& v == 0) = false := by have := hz'.out; simpa using this
              rw [hE.out, hgi', hz3]; rfl
            unfold Hid; rw [Htk.out, List.all_append, hall.out]; simp [hF], (hexb.trans hxq).trans (by assumption)⟩
          case measure => simp [intOf]; omega
      · have hgi' : ((g : Int) == (i : Int)) = false := by simp; omega
        have hE2 := hide (show folE t.edges R i j x = true by rw [hE.out, hgi']; rfl)
        subst hCe
        go_wp2_with fail
        have hxq := (Ext.refl wr).alloc (.cells #[.int .i64 g, .int .i64 x.le, .int .i64 u] 48)
        have hbq := (Blk.new wr 48 #[.int .i64 g, .int .i64 x.le, .int .i64 u]).cell
        generalize wr.alloc (.cells #[.int .i64 g, .int .i64 x.le, .int .i64 u] 48) = wq at *
        go_quiet (fail)
        go_wp2_with fail
        go_roundw
        case rel => exact ⟨k + 1, by omega, by go_num, by unfold Hid; rw [Htk.out, List.all_append, hall.out]; simp [hE2.out], (hexb.trans hxq).drewN _⟩
        case measure => simp [intOf]; omega
    · obtain rfl : n = k := by omega
      go_wp2
      go_ret
      have := hall.out
      rw [hL.out, List.take_length] at this
      exact ⟨ret_bool this.symm, hext⟩
end Go.Proofs.YtbifoikcmjmdeaaDoor

namespace Go.Proofs.YtbifoikcmjmdeaaDoor
open Go Go.RowKit

theorem fol_iff {p q : Nat} {es es' : List Edg} {R : List Nat} {i j : Nat} (h : Few p es) (h' : Few q es') : es.all (folE es' R i j) = true ↔ ∀ l k, E es i l k → ∃ k', E es' j l k' ∧ rel R k k' := by
  rw [List.all_eq_true]
  constructor
  · rintro hA l k ⟨e, he, h1, h2, h3⟩
    have := hA e he
    unfold folE at this
    rw [stepB_one h', h1, h2, show e.to.toNat = k by omega] at this
    simp only [beq_self_eq_true, Bool.true_and, Bool.not_eq_true', beq_eq_false_iff_ne, ne_eq] at this
    obtain ⟨k', hk'⟩ := ne_zero_bit.1 this
    rw [Nat.testBit_and, Bool.and_eq_true] at hk'
    exact ⟨k', (E_iff h' j l k').2 hk'.1, rel_getD hk'.2⟩
  · intro hA e he
    unfold folE
    by_cases hi : e.fr = i
    · have hb := h e he
      obtain ⟨k', h1, h2⟩ := hA e.le.toNat e.to.toNat ⟨e, he, hi, by omega, by omega⟩
      have h3 := (E_iff h' j e.le.toNat k').1 h1
      rw [show ((e.le.toNat : Nat) : Int) = e.le by omega] at h3
      have : succ es' j e.le &&& R.getD e.to.toNat 0 ≠ 0 := ne_zero_bit.2 ⟨k', by rw [Nat.testBit_and, h3, h2.2]; rfl⟩
      rw [stepB_one h']
      simp only [Bool.not_eq_true', Bool.and_eq_false_iff, beq_eq_false_iff_ne, ne_eq]
      exact Or.inr this
    · have : (e.fr == (i : Int)) = false := by simpa using hi
      rw [this]; rfl
end Go.Proofs.YtbifoikcmjmdeaaDoor

namespace Go.Proofs.YtbifoikcmjmdeaaDoor
open Go Go.RowKit

/-- One edge of the second system is no edge from j, or is answered by one from i. -/
def bakE (p : Nat) (es : List Edg) (R : List Nat) (i j : Nat) (e : Edg) : Bool := !(e.fr == (j : Int)) || (List.range p).any fun n => (stepB es (2 ^ i) e.le).testBit n && (R.getD n 0).testBit e.to.toNat
theorem bak_iff {p q : Nat} {es es' : List Edg} {R : List Nat} {i j : Nat} (h : Few p es) (h' : Few q es') : es'.all (bakE p es R i j) = true ↔ ∀ l k', E es' j l k' → ∃ k, E es i l k ∧ rel R k k' := by
  rw [List.all_eq_true]
  constructor
  · rintro hA l k' ⟨e, he, h1, h2, h3⟩
    have := hA e he
    unfold bakE at this
    rw [stepB_one h, h1, h2, show e.to.toNat = k' by omega] at this
    simp only [beq_self_eq_true, Bool.not_true, Bool.false_or, List.any_eq_true, List.mem_range, Bool.and_eq_true] at this
    obtain ⟨k, _, hk1, hk2⟩ := this
    exact ⟨k, (E_iff h i l k).2 hk1, rel_getD hk2⟩
  · intro hA e he
    unfold bakE
    by_cases hj : e.fr = j
    · have hb := h' e he
      obtain ⟨k, h1, h2⟩ := hA e.le.toNat e.to.toNat ⟨e, he, hj, by omega, by omega⟩
      have h3 := (E_iff h i e.le.toNat k).1 h1
      rw [show ((e.le.toNat : Nat) : Int) = e.le by omega] at h3
      obtain ⟨e', he', _, _, h4⟩ := h1
      have := h e' he'
      rw [stepB_one h]
      simp only [Bool.or_eq_true, List.any_eq_true, List.mem_range, Bool.and_eq_true]
      exact Or.inr ⟨k, by omega, h3, h2.2⟩
    · have : (e.fr == (j : Int)) = false := by simpa using hj
      rw [this]; rfl
end Go.Proofs.YtbifoikcmjmdeaaDoor

namespace Go.Proofs.YtbifoikcmjmdeaaDoor
open Go Go.RowKit
set_option maxHeartbeats 2000000

theorem spec_l15Backs {lo hi lo' hi' lo2 hi2 : Nat} {A : Option Addr} {n c : Nat} {B : Option Addr} {m d : Nat} {C : Option Addr} {r f : Nat} {s t : Sys} {R : List Nat} {p q i j : Nat} {w : World} (h : SysAt w lo hi A n s) (h' : SysAt w lo' hi' B m t) (hR : Reads w lo2 hi2 1 C r (nats R)) (hs : ∀ r ∈ R, Sm r)
    (hsp : s.st = p) (hf : Few p s.edges) (hg : Few q t.edges) (hp : p ≤ 16) (hq : q ≤ 16) (hi : i < 32) (hl : R.length = p) :
    Calls Tryd.prog 55 #[.agg #[.int .i64 s.al, .int .i64 s.st, .slice A n c], .agg #[.int .i64 t.al, .int .i64 t.st, .slice B m d], .slice C r f, .int .i64 i, .int .i64 j] w fun e w' => e = .returned (.bool (t.edges.all (bakE p s.edges R i j))) ∧ Ext w w' := by
  have hm := h'.2.len
  have hL := hide h'.1
  have HR := hide (fun W (hW : Ext w W) => h'.2.ext hW)
  have HS := hide (fun W (hW : Ext w W) => h.ext hW)
  have HC := hide (fun W (hW : Ext w W) => hR.ext hW)
  have hrl := hide (show R.length = r by have := hR.length; rw [nats_length] at this; omega)
  have Hf := hide hf
  have Hg := hide hg
  have Hs := hide hs
  clear hf hg hs h h'
  rw [hsp]
  go_enter Tryd.func55, Tryd.ntmps55
  go_wp2
  go_loopw [11] (fun i' wr => ∃ k : Nat, k ≤ m ∧ i' = .int .i64 k ∧ Hid ((t.edges.take k).all (bakE p s.edges R i j) = true) ∧ Ext ((w.alloc (.cells #[.int .i64 s.al, .int .i64 p, .slice A n c] 25)).alloc (.cells #[.int .i64 t.al, .int .i64 t.st, .slice B m d] 25)) wr) (fun i' _ => m - (intOf i').toNat)
  case atStart => exact ⟨0, Nat.zero_le _, rfl, rfl, Ext.refl _⟩
  case round =>
    obtain ⟨k, hk, rfl, hall, hexb⟩ := hrel
    have hext := (((Ext.refl w).alloc _).alloc _).trans hexb
    obtain ⟨bk1, bk2⟩ := ext_blk2 hexb
    have cb2 := bk2.cell
    by_cases hlt : k < m
    · obtain ⟨b, o, x, rfl, _, _, hx, c0, c1, c2⟩ := (HR.out wr hext).edge hlt
      obtain ⟨⟨f0, f1⟩, ⟨g0, g1⟩, ⟨t0, t1⟩⟩ := Hg.out x (List.mem_of_getElem? hx.out)
      have Htk := hide (show t.edges.take (k + 1) = t.edges.take k ++ [x] by rw [List.take_add_one, hx.out]; rfl)
      obtain ⟨g, hge⟩ : ∃ g : Nat, x.fr = g := ⟨x.fr.toNat, by omega⟩
      obtain ⟨u, hue⟩ : ∃ u : Nat, x.to = u := ⟨x.to.toNat, by omega⟩
      rw [hge] at c0 f0 f1
      rw [hue] at c2 t0 t1
      have hE := hide (show bakE p s.edges R i j x = (!((g : Int) == (j : Int)) || (List.range p).any fun n => (stepB s.edges (2 ^ i) x.le).testBit n && (R.getD n 0).testBit u) by unfold bakE; rw [hge, hue]; rfl)
      have hsm := hide (show Sm (stepB s.edges (2 ^ i) x.le) from Nat.lt_of_lt_of_le (stepB_lt Hf.out _ _) (by rw [show (4294967296 : Nat) = 2 ^ 32 from rfl]; exact Nat.pow_le_pow_right (by omega) (by omega)))
      by_cases hgi : g = j
      · subst hgi
        have hgi' : ((g : Int) != (g : Int)) = false := by simp
        go_wp2_with fail
        have hxq := (Ext.refl wr).alloc (.cells #[.int .i64 g, .int .i64 x.le, .int .i64 u] 48)
        have hbq := Blk.new wr 48 #[.int .i64 g, .int .i64 x.le, .int .i64 u]
        generalize wr.alloc (.cells #[.int .i64 g, .int .i64 x.le, .int .i64 u] 48) = wq at *
        have hbq' : ∀ W, Ext wq W → ∀ a, W.cell? ⟨wr.heap.size, a, none⟩ = #[Value.int .i64 g, .int .i64 x.le, .int .i64 u][a]? := fun W hW => (hbq.ext hW).cell
        have bk3 : ∀ W, Ext wq W → ∀ a, W.cell? ⟨w.heap.size, a, none⟩ = #[Value.int .i64 s.al, .int .i64 p, .slice A n c][a]? := fun W hW => (bk1.ext (hxq.trans hW)).cell
        have cS : ∀ W, Ext wq W → Calls Tryd.prog 78 #[.agg #[.int .i64 s.al, .int .i64 p, .slice A n c], .int .i64 (2 ^ i : Nat), .int .i64 x.le] W fun e w' => e = .returned (.int .i64 (stepB s.edges (2 ^ i) x.le : Nat)) ∧ Ext W w' := fun W hW => by
          rw [← hsp]
          exact spec_l2Step (HS.out W ((hext.trans hxq).trans hW)) Hf.out hp (Sm.bit hi)
        have CS := hide cS
        have hqq := Ext.refl wq
        clear cS bk1 bk2 cb2 c0 c1 c2
        go_region_held3 (fun W => Ext wq W) (first | assumption | (refine Ext.drew ?_; assumption) | (refine Ext.trans ?_ (by assumption); assumption) | (refine Ext.trans ?_ (by assumption); refine Ext.drew ?_; assumption)) (first
          | (go_at_call 53; with_reducible refine (spec_l1Bit i hi _).mono ?_; rintro e w5 ⟨rfl, rfl⟩)
          | (go_at_call 78; refine (CS.out _ ?_).mono ?_; (first | assumption | (refine Ext.drew ?_; assumption)); rintro e w6 ⟨rfl, hx6⟩))
        go_wp2_with fail
        obtain ⟨wo, rfl⟩ : ∃ wo : World, wo = wr := ⟨_, rfl⟩
        have hw6 : Ext wq w6 := by assumption
        go_loopw [13, 15] (fun v i' wr => ∃ y : Nat, y ≤ p ∧ i' = .int .i64 y ∧ ∃ fd : Bool, v = .bool fd ∧ Hid (fd = (List.range y).any fun n => (stepB s.edges (2 ^ i) x.le).testBit n && (R.getD n 0).testBit u) ∧ Ext w6 wr) (fun _ i' _ => p - (intOf i').toNat)
        case atStart => exact ⟨0, Nat.zero_le _, rfl, false, rfl, rfl, Ext.refl _⟩
        case round =>
          obtain ⟨y, hy, rfl, fd, rfl, hfd, hx7⟩ := hrel
          have bk4 := bk3 _ (hw6.trans hx7)
          have hb4 := hbq' _ (hw6.trans hx7)
          by_cases hyp : y < p
          · obtain ⟨ad, v, rfl, _, _, hv, hvc⟩ := (HC.out wr (((hext.trans hxq).trans hw6).trans hx7)).nat (k := y) (by have := hrl.out; omega)
            have hvs := Hs.out v (List.mem_of_getElem? hv.out)
            have hyr : y < r := by have := hrl.out; omega
            have hvD := hide (show R.getD y 0 = v by rw [List.getD_eq_getElem?_getD, hv.out]; rfl)
            have hstep := hide (show ((List.range (y + 1)).any fun n => (stepB s.edges (2 ^ i) x.le).testBit n && (R.getD n 0).testBit u) = (fd || ((stepB s.edges (2 ^ i) x.le).testBit y && v.testBit u)) by rw [List.range_succ, List.any_append, ← hfd.out]; simp only [List.any_cons, List.any_nil, Bool.or_false, hvD.out])
            have hx8 : ∀ W, Ext wr W → Ext w6 W := fun W hW => hx7.trans hW
            have Hx8 := hide hx8
            clear hx8
            have c1 : ∀ W, Ext wr W → W.cell? (ad.add y) = some (.int .i64 (v : Nat)) := fun W hW => hW.cell_some hvc
            have c2 : ∀ W, Ext wr W → ∀ a, W.cell? ⟨wo.heap.size, a, none⟩ = #[Value.int .i64 g, .int .i64 x.le, .int .i64 u][a]? := fun W hW => hbq' _ (hw6.trans (hx7.trans hW))
            clear hb4 hbq' bk3 hvc
            have hyr0 : (0 : Int) ≤ (y : Int) := by omega
            have hyr1 : (y : Int) < (r : Int) := by omega
            have hrr := Ext.refl wr
            cases fd
            · cases hb1 : (stepB s.edges (2 ^ i) x.le).testBit y
              · have Hb1 := hide hb1
                clear hb1
                go_wp2_with fail
                refine wp_region_ord (fun X => Ext wr X) [0, 1, 2, 3, 4, 5, 6, 7, 8, 9, 10, 11, 12, 13, 14, 15] (by kernel_rfl) rfl (by kernel_rfl) (by kernel_rfl) (fun _ _ _ _ _ h => h) (by first | assumption | exact (Ext.refl _).drew | (refine Ext.drew ?_; assumption)) (fun hS => ?_)
                repeat (first | (refine seq_skip rfl rfl (by assumption) ?_; simp only [Act.put, List.setIfInBounds_toArray, List.set_cons_zero, List.set_cons_succ]) | (refine seq_read (v := ?_) rfl rfl rfl (fun X hX => ?_) (by assumption) ?_; rotate_left; (focus (go_simp <;> with_reducible rfl)); simp only [Act.put, List.setIfInBounds_toArray, List.set_cons_zero, List.set_cons_succ]))
                (refine seq_step rfl rfl rfl (fun K hK => ?_); go_simp)
                refine (spec_l1Has _ y hsm.out _ (by omega)).mono ?_
                rw [Hb1.out]; rintro e w9 ⟨rfl, rfl⟩
                refine hK.out _ _ (by assumption) (fun hS => ?_)
                (try simp only [Act.put, List.setIfInBounds_toArray, List.set_cons_zero, List.set_cons_succ])
                repeat (first | (refine seq_skip rfl rfl (by assumption) ?_; simp only [Act.put, List.setIfInBounds_toArray, List.set_cons_zero, List.set_cons_succ]) | (refine seq_read (v := ?_) rfl rfl rfl (fun X hX => ?_) (by assumption) ?_; rotate_left; (focus (go_simp <;> with_reducible rfl)); simp only [Act.put, List.setIfInBounds_toArray, List.set_cons_zero, List.set_cons_succ]))
                refine seq_nil ?_
                go_wp2_with fail
                go_roundw
                case rel => exact ⟨y + 1, by omega, by go_num, false, rfl, by unfold Hid; rw [hstep.out, Hb1.out]; simp, Hx8.out _ (by assumption)⟩
                case measure => simp [intOf]; omega
              · have Hb1 := hide hb1
                clear hb1
                go_wp2_with fail
                refine wp_region_ord (fun X => Ext wr X) [0, 1, 2, 3, 4, 5, 6, 7, 8, 9, 10, 11, 12, 13, 14, 15] (by kernel_rfl) rfl (by kernel_rfl) (by kernel_rfl) (fun _ _ _ _ _ h => h) (by first | assumption | exact (Ext.refl _).drew | (refine Ext.drew ?_; assumption)) (fun hS => ?_)
                repeat (first | (refine seq_skip rfl rfl (by assumption) ?_; simp only [Act.put, List.setIfInBounds_toArray, List.set_cons_zero, List.set_cons_succ]) | (refine seq_read (v := ?_) rfl rfl rfl (fun X hX => ?_) (by assumption) ?_; rotate_left; (focus (go_simp <;> with_reducible rfl)); simp only [Act.put, List.setIfInBounds_toArray, List.set_cons_zero, List.set_cons_succ]))
                (refine seq_step rfl rfl rfl (fun K hK => ?_); go_simp)
                refine (spec_l1Has _ y hsm.out _ (by omega)).mono ?_
                rw [Hb1.out]; rintro e w9 ⟨rfl, rfl⟩
                refine hK.out _ _ (by assumption) (fun hS => ?_)
                (try simp only [Act.put, List.setIfInBounds_toArray, List.set_cons_zero, List.set_cons_succ])
                repeat (first | (refine seq_skip rfl rfl (by assumption) ?_; simp only [Act.put, List.setIfInBounds_toArray, List.set_cons_zero, List.set_cons_succ]) | (refine seq_read (v := ?_) rfl rfl rfl (fun X hX => ?_) (by assumption) ?_; rotate_left; (focus (go_simp <;> with_reducible rfl)); simp only [Act.put, List.setIfInBounds_toArray, List.set_cons_zero, List.set_cons_succ]))
                (refine seq_step rfl rfl rfl (fun K hK => ?_); go_simp)
                refine (spec_l1Has v u hvs _ (by omega)).mono ?_
                rintro e w9 ⟨rfl, rfl⟩
                refine hK.out _ _ (by assumption) (fun hS => ?_)
                (try simp only [Act.put, List.setIfInBounds_toArray, List.set_cons_zero, List.set_cons_succ])
                repeat (first | (refine seq_skip rfl rfl (by assumption) ?_; simp only [Act.put, List.setIfInBounds_toArray, List.set_cons_zero, List.set_cons_succ]) | (refine seq_read (v := ?_) rfl rfl rfl (fun X hX => ?_) (by assumption) ?_; rotate_left; (focus (go_simp <;> with_reducible rfl)); simp only [Act.put, List.setIfInBounds_toArray, List.set_cons_zero, List.set_cons_succ]))
                refine seq_nil ?_
                go_wp2_with fail
                go_roundw
                case rel => exact ⟨y + 1, by omega, by go_num, v.testBit u, rfl, by unfold Hid; rw [hstep.out, Hb1.out]; simp, Hx8.out _ (by assumption)⟩
                case measure => simp [intOf]; omega
            · go_wp2_with fail
              refine wp_region_ord (fun X => Ext wr X) [0, 1, 2, 3, 4, 5, 6, 7, 8, 9, 10, 11, 12, 13, 14, 15] (by kernel_rfl) rfl (by kernel_rfl) (by kernel_rfl) (fun _ _ _ _ _ h => h) (by first | assumption | exact (Ext.refl _).drew | (refine Ext.drew ?_; assumption)) (fun hS => ?_)
              repeat (first | (refine seq_skip rfl rfl (by assumption) ?_; simp only [Act.put, List.setIfInBounds_toArray, List.set_cons_zero, List.set_cons_succ]) | (refine seq_read (v := ?_) rfl rfl rfl (fun X hX => ?_) (by assumption) ?_; rotate_left; (focus (go_simp <;> with_reducible rfl)); simp only [Act.put, List.setIfInBounds_toArray, List.set_cons_zero, List.set_cons_succ]))
              refine seq_nil ?_
              go_wp2_with fail
              go_roundw
              case rel => exact ⟨y + 1, by omega, by go_num, true, rfl, by unfold Hid; rw [hstep.out]; simp, Hx8.out _ (by assumption)⟩
              case measure => simp [intOf]; omega
          · obtain rfl : p = y := by omega
            cases fd
            · go_wp2_with fail
              go_ret
              refine ⟨ret_bool ?_, ((hext.trans hxq).trans hw6).trans hx7⟩
              have hF : bakE p s.edges R i g x = false := by rw [hE.out, ← hfd.out]; simp
              refine (Bool.eq_false_iff.2 fun hc => ?_).symm
              have := List.all_eq_true.1 hc x (List.mem_of_getElem? hx.out)
              rw [hF] at this
              cases this
            · go_wp2_with fail
              go_roundw
              case rel => exact ⟨k + 1, by omega, by go_num, by
                have hF : bakE p s.edges R i g x = true := by rw [hE.out, ← hfd.out]; simp
                unfold Hid; rw [Htk.out, List.all_append, hall.out]; simp [hF], ((hexb.trans hxq).trans hw6).trans hx7⟩
              case measure => simp [intOf]; omega
      · have hgi' : ((g : Int) != (j : Int)) = true := by simp; omega
        have hE2 := hide (show bakE p s.edges R i j x = true by rw [hE.out, show ((g : Int) == (j : Int)) = false by simp; omega]; rfl)
        go_wp2_with fail
        go_roundw
        case rel => exact ⟨k + 1, by omega, by go_num, by unfold Hid; rw [Htk.out, List.all_append, hall.out]; simp [hE2.out], hexb.alloc _⟩
        case measure => simp [intOf]; omega
    · obtain rfl : m = k := by omega
      go_wp2
      go_ret
      have := hall.out
      rw [hL.out, List.take_length] at this
      exact ⟨ret_bool this.symm, hext⟩
end Go.Proofs.YtbifoikcmjmdeaaDoor
