/- Contracts of the laws' own comparisons. -/
import Derived.Test.YtekobefenngedaaTo
namespace Go.Proofs.Ytekobefenngedaa
open Go Go.RowKit
set_option maxHeartbeats 400000

theorem eq_stop {α : Type} [BEq α] [LawfulBEq α] {l m : List α} {k : Nat} {x y : α} (hx : l[k]? = some x) (hy : m[k]? = some y) (h : (x == y) = false) : (l == m) = false := by
  rw [beq_eq_false_iff_ne]
  rintro rfl
  rw [hx] at hy
  injection hy with hy
  subst hy
  simp at h
theorem eq_step {α : Type} [BEq α] [LawfulBEq α] {l m : List α} {k : Nat} {x y : α} (hx : l[k]? = some x) (hy : m[k]? = some y) (h : (x == y) = true) (hk : l.take k = m.take k) : l.take (k + 1) = m.take (k + 1) := by
  rw [List.take_add_one, List.take_add_one, hx, hy, hk, eq_of_beq h]
theorem eq_end {α : Type} [BEq α] [LawfulBEq α] {l m : List α} {k : Nat} (h1 : l.length ≤ k) (h2 : m.length ≤ k) (hk : l.take k = m.take k) : (l == m) = true := by
  rw [List.take_of_length_le h1, List.take_of_length_le h2] at hk
  simp [hk]
theorem eq_lens {α : Type} [BEq α] [LawfulBEq α] {l m : List α} (h : l.length ≠ m.length) : (l == m) = false := by
  rw [beq_eq_false_iff_ne]
  rintro rfl
  exact h rfl

theorem eqIntS_any (lo hi lo' hi' : Nat) (A : Option Addr) (n c : Nat) (B : Option Addr) (m d : Nat) (l l' : List Int) (w : World) (h : Reads w lo hi 1 A n (ints l)) (h' : Reads w lo' hi' 1 B m (ints l')) :
    Calls Try.prog 48 #[.slice A n c, .slice B m d] w fun e w' => e = .returned (.bool (l == l')) ∧ Ext w w' := by
  have hn := h.len
  have hm := h'.len
  have hl : l.length = n := by have := h.length; rw [ints_length] at this; omega
  have hl' : l'.length = m := by have := h'.length; rw [ints_length] at this; omega
  have Hl := hide hl
  have Hl' := hide hl'
  clear hl hl'
  by_cases he : n = m
  · subst he
    go_enter Try.func48, Try.ntmps48
    go_wp2
    go_loopw [5] (fun i wr => ∃ k : Nat, k ≤ n ∧ i = .int .i64 k ∧ Hid (l.take k = l'.take k) ∧ Ext w wr) (fun i _ => n - (intOf i).toNat)
    case atStart => exact ⟨0, Nat.zero_le _, rfl, rfl, Ext.refl _⟩
    case round =>
      obtain ⟨k, hk, rfl, heq, hext⟩ := hrel
      by_cases hlt : k < n
      · obtain ⟨ad, x, rfl, _, _, hx, hc⟩ := (h.ext hext).int hlt
        obtain ⟨ad', y, rfl, _, _, hy, hc'⟩ := (h'.ext hext).int hlt
        cases hb : x != y
        · go_wp2
          go_quiet (fail)
          go_wp2
          go_roundw
          case rel => exact ⟨k + 1, by omega, by go_num, eq_step hx.out hy.out (by simpa using hb) heq.out, hext.drewN _⟩
          case measure => simp [intOf]; omega
        · go_wp2
          go_quiet (fail)
          go_wp2
          go_ret
          exact ⟨ret_bool (by rw [eq_stop hx.out hy.out (by simpa using hb)]), hext.drewN _⟩
      · obtain rfl : k = n := by omega
        go_wp2
        go_ret
        exact ⟨ret_bool (by rw [eq_end (by have := Hl.out; omega) (by have := Hl'.out; omega) heq.out]), hext⟩
  · have hne : ((n : Int) != (m : Int)) = true := by simp; omega
    go_enter Try.func48, Try.ntmps48
    go_wp2
    go_ret
    exact ⟨ret_bool (by rw [eq_lens (by rw [Hl.out, Hl'.out]; exact he)]), Ext.refl _⟩
theorem eqBoolS_any (lo hi lo' hi' : Nat) (A : Option Addr) (n c : Nat) (B : Option Addr) (m d : Nat) (l l' : List Bool) (w : World) (h : Reads w lo hi 1 A n (bools l)) (h' : Reads w lo' hi' 1 B m (bools l')) :
    Calls Try.prog 34 #[.slice A n c, .slice B m d] w fun e w' => e = .returned (.bool (l == l')) ∧ Ext w w' := by
  have hn := h.len
  have hm := h'.len
  have hl : l.length = n := by have := h.length; rw [bools_length] at this; omega
  have hl' : l'.length = m := by have := h'.length; rw [bools_length] at this; omega
  have Hl := hide hl
  have Hl' := hide hl'
  clear hl hl'
  by_cases he : n = m
  · subst he
    go_enter Try.func34, Try.ntmps34
    go_wp2
    go_loopw [5] (fun i wr => ∃ k : Nat, k ≤ n ∧ i = .int .i64 k ∧ Hid (l.take k = l'.take k) ∧ Ext w wr) (fun i _ => n - (intOf i).toNat)
    case atStart => exact ⟨0, Nat.zero_le _, rfl, rfl, Ext.refl _⟩
    case round =>
      obtain ⟨k, hk, rfl, heq, hext⟩ := hrel
      by_cases hlt : k < n
      · obtain ⟨ad, x, rfl, _, _, hx, hc⟩ := (h.ext hext).bool hlt
        obtain ⟨ad', y, rfl, _, _, hy, hc'⟩ := (h'.ext hext).bool hlt
        cases hb : x == y
        · go_wp2
          go_quiet (fail)
          go_wp2
          go_ret
          exact ⟨ret_bool (by rw [eq_stop hx.out hy.out hb]), hext.drewN _⟩
        · go_wp2
          go_quiet (fail)
          go_wp2
          go_roundw
          case rel => exact ⟨k + 1, by omega, by go_num, eq_step hx.out hy.out hb heq.out, hext.drewN _⟩
          case measure => simp [intOf]; omega
      · obtain rfl : k = n := by omega
        go_wp2
        go_ret
        exact ⟨ret_bool (by rw [eq_end (by have := Hl.out; omega) (by have := Hl'.out; omega) heq.out]), hext⟩
  · have hne : ((n : Int) != (m : Int)) = true := by simp; omega
    go_enter Try.func34, Try.ntmps34
    go_wp2
    go_ret
    exact ⟨ret_bool (by rw [eq_lens (by rw [Hl.out, Hl'.out]; exact he)]), Ext.refl _⟩

theorem eqIntSS_any (lo hi lo' hi' : Nat) (A : Option Addr) (n c : Nat) (B : Option Addr) (m d : Nat) (l l' : List (List Int)) (w : World) (h : ReadsLL w lo hi A n l) (h' : ReadsLL w lo' hi' B m l') :
    Calls Try.prog 33 #[.slice A n c, .slice B m d] w fun e w' => e = .returned (.bool (l == l')) ∧ Ext w w' := by
  have hn := h.len
  have hm := h'.len
  have Hl := hide h.1
  have Hl' := hide h'.1
  by_cases he : n = m
  · subst he
    go_enter Try.func33, Try.ntmps33
    go_wp2
    go_loopw [5] (fun i wr => ∃ k : Nat, k ≤ n ∧ i = .int .i64 k ∧ Hid (l.take k = l'.take k) ∧ Ext w wr) (fun i _ => n - (intOf i).toNat)
    case atStart => exact ⟨0, Nat.zero_le _, rfl, rfl, Ext.refl _⟩
    case round =>
      obtain ⟨k, hk, rfl, heq, hext⟩ := hrel
      by_cases hlt : k < n
      · obtain ⟨ad, Ak, ck, x, rfl, _, _, hx, hc, hrk⟩ := (h.ext hext).row hlt
        obtain ⟨ad', Bk, dk, y, rfl, _, _, hy, hc', hrk'⟩ := (h'.ext hext).row hlt
        have hce : ∀ W, Ext wr W → W.cell? (ad.add k) = some (.slice Ak x.length ck) := fun W hW => hW.cell_some hc
        have hce' : ∀ W, Ext wr W → W.cell? (ad'.add k) = some (.slice Bk y.length dk) := fun W hW => hW.cell_some hc'
        have hwr := Ext.refl wr
        cases hb : x == y
        all_goals
          have Hb := hide hb
          clear hb
          go_wp2_with fail
          go_region_held3 (fun W => Ext wr W) (first | assumption | (refine Ext.drew ?_; assumption) | (refine Ext.trans ?_ (by assumption); assumption) | (refine Ext.trans ?_ (by assumption); refine Ext.drew ?_; assumption)) ((go_at_call 48; refine (eqIntS_any _ _ _ _ _ _ _ _ _ _ _ _ _ (hrk.ext ?_) (hrk'.ext ?_)).mono ?_; assumption; assumption; rw [Hb.out]; rintro e w3 ⟨rfl, hext3⟩))
          go_wp2
        · go_ret
          exact ⟨ret_bool (by rw [eq_stop hx.out hy.out Hb.out]), hext.trans (by assumption)⟩
        · go_roundw
          case rel => exact ⟨k + 1, by omega, by go_num, eq_step hx.out hy.out Hb.out heq.out, hext.trans (by assumption)⟩
          case measure => simp [intOf]; omega
      · obtain rfl : k = n := by omega
        go_wp2
        go_ret
        exact ⟨ret_bool (by rw [eq_end (by have := Hl.out; omega) (by have := Hl'.out; omega) heq.out]), hext⟩
  · have hne : ((n : Int) != (m : Int)) = true := by simp; omega
    go_enter Try.func33, Try.ntmps33
    go_wp2
    go_ret
    exact ⟨ret_bool (by rw [eq_lens (by rw [← Hl.out, ← Hl'.out]; exact he)]), Ext.refl _⟩

/-- Two automata are equal as data. -/
def autEq (a b : Aut) : Bool := decide (a.al = b.al) && (a.next == b.next && a.acc == b.acc)
theorem autEq_self (a : Aut) : autEq a a = true := by simp [autEq]
theorem autEq_eq {a b : Aut} (h : autEq a b = true) : a = b := by
  simp only [autEq, Bool.and_eq_true, decide_eq_true_eq, beq_iff_eq] at h
  cases a; cases b; simp_all

theorem eqAutomaton_any (lo hi lo' hi' : Nat) (A : Option Addr) (n c : Nat) (A' : Option Addr) (n' c' : Nat) (B : Option Addr) (m d : Nat) (B' : Option Addr) (m' d' : Nat) (a b : Aut) (w : World) (h : AutAt w lo hi A n A' n' a) (h' : AutAt w lo' hi' B m B' m' b) :
    Calls Try.prog 19 #[.agg #[.int .i64 a.al, .slice A n c, .slice A' n' c'], .agg #[.int .i64 b.al, .slice B m d, .slice B' m' d']] w fun e w' => e = .returned (.bool (autEq a b)) ∧ Ext w w' := by
  have hR := fun W (hW : Ext w W) => h.ext hW
  have HR := hide hR
  have hR' := fun W (hW : Ext w W) => h'.ext hW
  have HR' := hide hR'
  clear hR hR'
  by_cases h0 : a.al = b.al
  · have hne : (a.al != b.al) = false := by simp [h0]
    have H0 := hide h0
    clear h0
    cases h1 : a.next == b.next
    · have H1 := hide h1
      clear h1
      go_enter Try.func19, Try.ntmps19
      go_wp2_with (go_at_call 33; refine (eqIntSS_any _ _ _ _ _ _ _ _ _ _ _ _ _ (HR.out _ ?_).1 (HR'.out _ ?_).1).mono ?_; exact ((Ext.refl _).alloc _).alloc _; exact ((Ext.refl _).alloc _).alloc _; rw [H1.out]; rintro e w2 ⟨rfl, hext2⟩; obtain ⟨b1, b2⟩ := ext_blk2 hext2; have c1 := b1.cell; have c2 := b2.cell)
      go_ret
      exact ⟨ret_bool (by rw [autEq, H1.out]; simp), (((Ext.refl _).alloc _).alloc _).trans hext2⟩
    · have H1 := hide h1
      clear h1
      go_enter Try.func19, Try.ntmps19
      go_wp2_with (first
        | (go_at_call 33; refine (eqIntSS_any _ _ _ _ _ _ _ _ _ _ _ _ _ (HR.out _ ?_).1 (HR'.out _ ?_).1).mono ?_; exact ((Ext.refl _).alloc _).alloc _; exact ((Ext.refl _).alloc _).alloc _; rw [H1.out]; rintro e w2 ⟨rfl, hext2⟩; obtain ⟨b1, b2⟩ := ext_blk2 hext2; have c1 := b1.cell; have c2 := b2.cell)
        | (go_at_call 34; refine (eqBoolS_any _ _ _ _ _ _ _ _ _ _ _ _ _ (HR.out _ ?_).2.2 (HR'.out _ ?_).2.2).mono ?_; exact (((Ext.refl _).alloc _).alloc _).trans hext2; exact (((Ext.refl _).alloc _).alloc _).trans hext2; rintro e w3 ⟨rfl, hext3⟩))
      all_goals go_ret
      all_goals exact ⟨ret_bool (by rw [autEq, H1.out, H0.out]; simp_all), ((((Ext.refl _).alloc _).alloc _).trans hext2).trans hext3⟩
  · have hne : (a.al != b.al) = true := by simp [h0]
    go_enter Try.func19, Try.ntmps19
    go_wp2
    go_ret
    exact ⟨ret_bool (by rw [autEq]; simp [h0]), ((Ext.refl _).alloc _).alloc _⟩
end Go.Proofs.Ytekobefenngedaa
