/- The laws' own marks: numbers written into what was returned, and asked for later; walked. -/
import Derived.Test.YtekobefenngedaaEq
namespace Go.Proofs.Ytekobefenngedaa
open Go Go.RowKit
set_option maxHeartbeats 400000

/-- The marks from k on. -/
def marks (k n : Nat) : List Nat := (List.range n).map (k + ·)
theorem marks_length (k n : Nat) : (marks k n).length = n := by simp [marks]
theorem marks_get {k n i : Nat} (h : i < n) : (marks k n)[i]? = some (k + i) := by simp [marks, h]
theorem marks_take {k n i : Nat} (h : i ≤ n) : (marks k n).take i = marks k i := by
  unfold marks
  rw [← List.map_take, List.take_range, Nat.min_eq_left h]
theorem own_some' {w : World} {base : Nat} {e : TypeId} {size n c : Nat} {A : Option Addr} {xs : List Value} (h : w.ownsRow base e size (.slice A n c) n xs) (hn : 0 < n) : ∃ g, A = some ⟨g, 0, none⟩ ∧ base ≤ g ∧ g < w.heap.size := by
  rcases h.2 with ⟨_, h0⟩ | ⟨g, cap, cur, hv, hg, hh, _⟩
  · omega
  · injection hv with h1 h2 h3
    exact ⟨g, h1, hg, (Array.getElem?_eq_some_iff.1 hh).1⟩
/-- The block of a slice. -/
def blk (A : Option Addr) (b : Nat) : Prop := ∃ a, A = some a ∧ a.block = b

theorem markIntS_any {base : Nat} {A : Option Addr} {n c : Nat} {xs : List Value} {k : Nat} {w : World} (h : w.ownsRow base 3 1 (.slice A n c) n xs) (hk : k + n ≤ 4611686018427387904) :
    Calls Try.prog 49 #[.slice A n c, .int .i64 k] w fun e w' => e = .returned (.int .i64 (k + n : Nat)) ∧ w'.ownsRow base 3 1 (.slice A n c) n (nats (marks k n)) ∧ Frm (blk A) w w' := by
  have hlen := hide h.1
  go_enter Try.func49, Try.ntmps49
  go_wp2
  go_loopw [1, 5] (fun v i wr => ∃ j : Nat, j ≤ n ∧ i = .int .i64 j ∧ v = .int .i64 (k + j : Nat) ∧ ∃ rest : List Value, Hid (rest.length = n - j) ∧ wr.ownsRow base 3 1 (.slice A n c) n (nats (marks k j) ++ rest) ∧ Frm (blk A) w wr) (fun _ i _ => n - (intOf i).toNat)
  case atStart => exact ⟨0, Nat.zero_le _, rfl, rfl, xs, by unfold Hid; rw [hlen.out]; omega, by simpa [nats, marks] using h, Frm.refl _ _⟩
  case round =>
    obtain ⟨j, hj, rfl, rfl, rest, hrest, hown, hf⟩ := hrel
    by_cases hlt : j < n
    · obtain ⟨g, rfl, hg, _⟩ := own_some' hown (by omega)
      obtain ⟨o0, g0⟩ := own_cell hown j (by omega)
      have f0 := hown.frozenAt j
      have hst := hown.stored j (.int .i64 (k + j : Nat))
      have hset : (nats (marks k j) ++ rest).set j (.int .i64 ((k + j : Nat) : Int)) = nats (marks k (j + 1)) ++ rest.drop 1 := by
        have hl : (nats (marks k j)).length = j := by rw [nats_length, marks_length]
        match rest, hrest.out with
        | [], hr => simp at hr; omega
        | x :: r, _ =>
          rw [List.set_append_right _ _ (by omega), hl, Nat.sub_self, marks, marks, List.range_succ, List.map_append, nats_append]
          simp [nats]
      rw [hset] at hst
      have h1 : (k : Int) + (j : Int) ≤ 4611686018427387904 := by omega
      clear hset
      go_wp2
      go_roundw
      case rel => exact ⟨j + 1, by omega, by go_num, by go_num, rest.drop 1, by have := hrest.out; unfold Hid; rw [List.length_drop]; omega, hst.1, hf.cell (p := ⟨g, j, none⟩) ⟨⟨g, 0, none⟩, rfl, rfl⟩ _⟩
      case measure => simp [intOf]; omega
    · obtain rfl : n = j := by omega
      obtain rfl : rest = [] := List.eq_nil_of_length_eq_zero (by have := hrest.out; omega)
      go_wp2
      go_ret
      exact ⟨rfl, by simpa using hown, hf⟩
theorem heldIntS_any {lo hi : Nat} {A : Option Addr} {n c : Nat} {k : Nat} {w : World} (h : Reads w lo hi 1 A n (nats (marks k n))) (hk : k + n ≤ 4611686018427387904) :
    Calls Try.prog 50 #[.slice A n c, .int .i64 k] w fun e w' => e = .returned (.int .i64 (k + n : Nat)) ∧ w = w' := by
  have hn := h.len
  go_enter Try.func50, Try.ntmps50
  go_wp2
  go_loop [1, 5] (fun v i => ∃ j : Nat, j ≤ n ∧ i = .int .i64 j ∧ v = .int .i64 (k + j : Nat)) (fun _ i => n - (intOf i).toNat)
  case atStart => exact ⟨0, Nat.zero_le _, rfl, rfl⟩
  case round =>
    obtain ⟨j, hj, rfl, rfl⟩ := hrel
    by_cases hlt : j < n
    · obtain ⟨ad, u, rfl, _, _, hu, hc⟩ := h.one hlt
      have hu' : u = .int .i64 (k + j : Nat) := by
        have := hu.out
        simp only [nats, List.getElem?_map, marks_get hlt, Option.map_some, Option.some.injEq] at this
        exact this.symm
      subst hu'
      have hne : ((k : Int) + (j : Int) != (k : Int) + (j : Int)) = false := by simp
      go_wp2
      go_round
      case rel => exact ⟨j + 1, by omega, by go_num, by go_num⟩
      case measure => simp [intOf]; omega
    · obtain rfl : n = j := by omega
      go_wp2
      go_ret
      exact ⟨rfl, rfl⟩
end Go.Proofs.Ytekobefenngedaa
