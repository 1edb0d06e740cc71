/- The letters of a chain: both models. | Plain: the nodes to which a letter leads in systems that run together. No program in sight. | Plain: slices of slices of any depth; how they lie in memory, and how they grow. | The letters of a chain: the rest. | ChainLetters of both. -/
import Derived.Test.YtcmgkekaeafgaaaG05
import Derived.Test.YtcmgkekaeafgaaaG03
import Derived.Test.YtcmgkekaeafgaaaG01
import Derived.Test.YtcmgkekaeafgaaaG02
namespace Go.Proofs.Ytcmgkekaeafgaaa
open Go Go.RowKit
set_option maxHeartbeats 1000000

/-- The union of the alphabets. -/
def unionA (ss : List Sys) : Nat := ss.foldl (fun a s => a ||| s.al.toNat) 0
theorem unionA_succ {ss : List Sys} {k : Nat} {s : Sys} (h : ss[k]? = some s) : unionA (ss.take (k + 1)) = unionA (ss.take k) ||| s.al.toNat := by
  rw [List.take_add_one, h]
  simp [unionA]
theorem sysValid_al {s : Sys} (h : sysValid s = true) : 0 ≤ s.al ∧ s.al ≤ 63 := by
  simp only [sysValid, Bool.and_eq_true, decide_eq_true_eq] at h
  exact h.1
/-- What PartsAlphabet returns. -/
def partsA (ss : List Sys) : Int := if areParts ss then (unionA ss : Int) else -1

theorem spec_PartsAlphabet {lo hi : Nat} {A : Option Addr} {n c : Nat} {ss : List Sys} {w : World} (h : SLAt w lo hi A n ss) :
    Calls Try.prog 24 #[.slice A n c] w fun e w' => e = .returned (.int .i64 (partsA ss)) ∧ Ext w w' := by
  have hn := h.len
  have hL := hide h.1
  by_cases h1 : n < 1
  · go_enter Try.func24, Try.ntmps24
    go_wp2
    go_ret
    exact ⟨ret_int (by have := hL.out; unfold partsA areParts; rw [decide_eq_false (by omega)]; simp), Ext.refl _⟩
  by_cases h3 : n > 3
  · go_enter Try.func24, Try.ntmps24
    go_wp2
    go_ret
    exact ⟨ret_int (by have := hL.out; unfold partsA areParts; rw [decide_eq_false (by omega : ¬ ss.length ≤ 3)]; simp), Ext.refl _⟩
  go_enter Try.func24, Try.ntmps24
  go_wp2
  go_loopw [3, 4] (fun v i wr => ∃ k : Nat, k ≤ n ∧ i = .int .i64 k ∧ ∃ u : Nat, v = .int .i64 u ∧ u ≤ 63 ∧ Hid (u = unionA (ss.take k)) ∧ Hid ((ss.take k).all sysValid = true) ∧ Ext w wr) (fun _ i _ => n - (intOf i).toNat)
  case atStart => exact ⟨0, Nat.zero_le _, rfl, 0, rfl, by omega, rfl, rfl, Ext.refl _⟩
  case round =>
    obtain ⟨k, hk, rfl, u, rfl, hu, huA, hall, hext⟩ := hrel
    by_cases hlt : k < n
    · obtain ⟨b, o, s, B, q, d, rfl, hlo, hhi, hs, c0, c1, c2, hsy⟩ := (h.ext hext).sys hlt
      cases hb : sysValid s
      · have Hb := hide hb
        clear hb
        go_wp2_with (go_at_call 38; refine (spec_SystemValid hsy).mono ?_; rw [Hb.out]; rintro e w' ⟨rfl, hx⟩)
        go_ret
        exact ⟨ret_int (by unfold partsA; rw [if_neg]; unfold areParts; simp; intro _ _; exact ⟨s, List.mem_of_getElem? hs.out, Hb.out⟩), hext.trans hx⟩
      · obtain ⟨ha0, ha1⟩ := sysValid_al hb
        have Hb := hide hb
        clear hb
        have Hu := hide (unionA_succ hs.out)
        have Ho := hide (bits_or (a := u) (b := s.al.toNat) (by unfold Sm; omega) (by unfold Sm; omega))
        have Hc := hide (show ((s.al.toNat : Nat) : Int) = s.al by omega)
        go_wp2_with (go_at_call 38; refine (spec_SystemValid hsy).mono ?_; rw [Hb.out]; rintro e w' ⟨rfl, hx⟩; have c0' := hx.cell_some c0)
        go_roundw
        case rel => exact ⟨k + 1, by omega, by go_num, u ||| s.al.toNat, by have := Ho.out; rw [Hc.out] at this; rw [← this], by have := Nat.or_lt_two_pow (n := 6) (x := u) (y := s.al.toNat) (by omega) (by omega); omega, by unfold Hid; rw [Hu.out, huA.out], by unfold Hid; rw [List.take_add_one, hs.out, List.all_append, hall.out]; simp [Hb.out], hext.trans hx⟩
        case measure => simp [intOf]; omega
    · obtain rfl : k = n := by omega
      go_wp2
      go_ret
      exact ⟨ret_int (by have := hL.out; have h1 := huA.out; have h2 := hall.out; rw [this, List.take_length] at h1 h2; unfold partsA areParts; rw [decide_eq_true (by omega), decide_eq_true (by omega), h2, h1]; rfl), hext⟩

end Go.Proofs.Ytcmgkekaeafgaaa

namespace Go.Proofs.Ytcmgkekaeafgaaa
open Go Go.RowKit

/-- The states to which a letter leads one system. -/
def cho (s : Sys) (i l : Nat) : List Nat := if s.al.toNat.testBit l then letters (succ s.edges i l) 32 else [i]
/-- The nodes reached, the weight, and what is left of the node. -/
def nx : List Sys → Nat → Nat → List Nat × Nat × Nat
  | [], m, _ => ([0], 1, m)
  | s :: r, m, l => ((cho s ((nx r m l).2.2 % s.st.toNat) l).flatMap (fun q => (nx r m l).1.map fun x => q * (nx r m l).2.1 + x), (nx r m l).2.1 * s.st.toNat, (nx r m l).2.2 / s.st.toNat)
/-- A system of at most 16 states. -/
def Sml (s : Sys) : Prop := 1 ≤ s.st ∧ s.st ≤ 16 ∧ Few s.st.toNat s.edges ∧ 0 ≤ s.al ∧ s.al ≤ 63
theorem letters_nodup (a k : Nat) : (letters a k).Nodup := List.Pairwise.filter _ List.nodup_range
theorem letters_mem {a k x : Nat} : x ∈ letters a k ↔ x < k ∧ a.testBit x = true := by simp [letters, List.mem_filter]
theorem cho_lt {s : Sys} (h : Sml s) {i l : Nat} (hi : i < s.st.toNat) : ∀ q ∈ cho s i l, q < s.st.toNat := by
  intro q hq
  unfold cho at hq
  split at hq
  · have hb := (letters_mem.1 hq).2
    rcases Nat.lt_or_ge q s.st.toNat with h1 | h1
    · exact h1
    · have := Nat.testBit_lt_two_pow (Nat.lt_of_lt_of_le (succ_lt h.2.2.1 i l) (Nat.pow_le_pow_right (by omega) h1))
      rw [hb] at this; cases this
  · rw [List.mem_singleton.1 hq]; exact hi
theorem cho_nodup (s : Sys) (i l : Nat) : (cho s i l).Nodup := by
  unfold cho
  split
  · exact letters_nodup _ _
  · simp
theorem nodup_len {l : List Nat} (h : l.Nodup) {p : Nat} (hl : ∀ x ∈ l, x < p) : l.length ≤ p := by
  have h1 : l ⊆ List.range p := fun x hx => List.mem_range.2 (hl x hx)
  have := List.Nodup.length_le_of_subset h h1
  simpa using this
theorem cho_len {s : Sys} (h : Sml s) {i l : Nat} (hi : i < s.st.toNat) : (cho s i l).length ≤ s.st.toNat := nodup_len (cho_nodup s i l) (cho_lt h hi)
theorem flat_nodup {l R : List Nat} {W : Nat} (hl : l.Nodup) (hR : R.Nodup) (hW : ∀ x ∈ R, x < W) : (l.flatMap fun q => R.map fun x => q * W + x).Nodup := by
  induction l with
  | nil => simp
  | cons a r ih =>
    rw [List.flatMap_cons]
    rw [List.nodup_cons] at hl
    refine List.nodup_append.2 ⟨?_, ih hl.2, ?_⟩
    · exact List.Pairwise.map _ (fun a b h => by simpa using h) hR
    · intro x hx y hy hxy
      subst hxy
      obtain ⟨u, hu, rfl⟩ := List.mem_map.1 hx
      obtain ⟨b, hb, hy⟩ := List.mem_flatMap.1 hy
      obtain ⟨v, hv, he⟩ := List.mem_map.1 hy
      have h1 := hW u hu
      have h2 := hW v hv
      have : a = b := by
        have e1 : (a * W + u) / W = a := by rw [Nat.add_comm, Nat.add_mul_div_right _ _ (by omega), Nat.div_eq_of_lt h1, Nat.zero_add]
        have e2 : (b * W + v) / W = b := by rw [Nat.add_comm, Nat.add_mul_div_right _ _ (by omega), Nat.div_eq_of_lt h2, Nat.zero_add]
        rw [← e1, ← e2, he]
      subst this
      exact hl.1 hb
/-- What is known of them. -/
theorem nx_facts {ss : List Sys} (h : ∀ s ∈ ss, Sml s) (m l : Nat) : 1 ≤ (nx ss m l).2.1 ∧ (nx ss m l).2.1 ≤ 16 ^ ss.length ∧ (∀ x ∈ (nx ss m l).1, x < (nx ss m l).2.1) ∧ (nx ss m l).1.Nodup ∧ (nx ss m l).2.2 ≤ m := by
  induction ss with
  | nil => simp [nx]
  | cons s r ih =>
    obtain ⟨h1, h2, h3, h4, h5⟩ := ih fun s hs => h s (List.mem_cons_of_mem _ hs)
    have hs := h s List.mem_cons_self
    have hst : 1 ≤ s.st.toNat ∧ s.st.toNat ≤ 16 := by have := hs.1; have := hs.2.1; omega
    refine ⟨Nat.mul_pos h1 hst.1, ?_, fun x hx => ?_, flat_nodup (cho_nodup _ _ _) h4 h3, Nat.le_trans (Nat.div_le_self _ _) h5⟩
    · rw [nx, List.length_cons, Nat.pow_succ]
      exact Nat.mul_le_mul h2 hst.2
    · rw [nx] at hx ⊢
      obtain ⟨q, hq, hx⟩ := List.mem_flatMap.1 hx
      obtain ⟨y, hy, rfl⟩ := List.mem_map.1 hx
      have hq' := cho_lt hs (Nat.mod_lt _ hst.1) q hq
      have hy' := h3 y hy
      calc q * (nx r m l).2.1 + y < q * (nx r m l).2.1 + (nx r m l).2.1 := by omega
        _ = (q + 1) * (nx r m l).2.1 := by rw [Nat.add_mul, Nat.one_mul]
        _ ≤ s.st.toNat * (nx r m l).2.1 := Nat.mul_le_mul_right _ hq'
        _ = (nx r m l).2.1 * s.st.toNat := Nat.mul_comm _ _
theorem nx_len {ss : List Sys} (h : ∀ s ∈ ss, Sml s) (m l : Nat) : (nx ss m l).1.length ≤ 16 ^ ss.length := by
  obtain ⟨h1, h2, h3, h4, _⟩ := nx_facts h m l
  exact Nat.le_trans (nodup_len h4 h3) h2
end Go.Proofs.Ytcmgkekaeafgaaa

namespace Go.Proofs.Ytcmgkekaeafgaaa
open Go Go.RowKit

/-- What a value stands for, in blocks from lo on and below hi. -/
abbrev Lay (α : Type) := World → Nat → Nat → Value → α → Prop
/-- It stays where these blocks stay. -/
structure Lay.Ok {α : Type} (P : Lay α) : Prop where
  frm : ∀ {S : Nat → Prop} {W W' : World} {lo hi : Nat} {r : Value} {x : α}, P W lo hi r x → Frm S W W' → (∀ k, lo ≤ k → k < hi → ¬ S k) → P W' lo hi r x
  more : ∀ {W : World} {lo hi lo' hi' : Nat} {r : Value} {x : α}, P W lo hi r x → lo' ≤ lo → hi ≤ hi' → P W lo' hi' r x
/-- A number. -/
def NatP : Lay Nat := fun _ _ _ r n => r = .int .i64 (n : Nat)
/-- A string. -/
def StrP : Lay ByteArray := fun _ _ _ r s => r = .string s
theorem NatP.ok : Lay.Ok NatP := ⟨fun h _ _ => h, fun h _ _ => h⟩
theorem StrP.ok : Lay.Ok StrP := ⟨fun h _ _ => h, fun h _ _ => h⟩
/-- A slice of one-cell values. -/
def Lst {α : Type} (P : Lay α) (W : World) (lo hi : Nat) (A : Option Addr) (xs : List α) : Prop :=
  ∃ rows, Reads W lo hi 1 A xs.length rows ∧ ∀ (i : Nat) (r : Value) (x : α), rows[i]? = some r → xs[i]? = some x → P W lo hi r x
def LstP {α : Type} (P : Lay α) : Lay (List α) := fun W lo hi r xs => ∃ A c, r = .slice A xs.length c ∧ Lst P W lo hi A xs
section
variable {α : Type} {P : Lay α} {W W' : World} {lo hi : Nat} {A : Option Addr} {xs : List α}
theorem Lst.frm (hP : Lay.Ok P) {S : Nat → Prop} (h : Lst P W lo hi A xs) (hx : Frm S W W') (hS : ∀ k, lo ≤ k → k < hi → ¬ S k) : Lst P W' lo hi A xs := by
  obtain ⟨rows, h1, h2⟩ := h
  exact ⟨rows, h1.frm hx hS, fun i r x hr hx' => hP.frm (h2 i r x hr hx') hx hS⟩
theorem Lst.ext (hP : Lay.Ok P) (h : Lst P W lo hi A xs) (hx : Ext W W') : Lst P W' lo hi A xs := h.frm hP hx (fun _ _ _ h => h)
theorem Lst.more (hP : Lay.Ok P) {lo' hi' : Nat} (h : Lst P W lo hi A xs) (h1 : lo' ≤ lo) (h2 : hi ≤ hi') : Lst P W lo' hi' A xs := by
  obtain ⟨rows, h3, h4⟩ := h
  exact ⟨rows, h3.more h1 h2, fun i r x hr hx' => hP.more (h4 i r x hr hx') h1 h2⟩
theorem LstP.ok (hP : Lay.Ok P) : Lay.Ok (LstP P) := by
  refine ⟨fun h hx hS => ?_, fun h h1 h2 => ?_⟩
  · obtain ⟨A, c, e, h⟩ := h
    exact ⟨A, c, e, h.frm hP hx hS⟩
  · obtain ⟨A, c, e, h⟩ := h
    exact ⟨A, c, e, h.more hP h1 h2⟩
theorem Lst.len (h : Lst P W lo hi A xs) : xs.length ≤ 9223372036854775807 := by
  obtain ⟨rows, h1, _⟩ := h
  exact h1.len
theorem Lst.get {k : Nat} (h : Lst P W lo hi A xs) (hk : k < xs.length) : ∃ b o r x, A = some ⟨b, o, none⟩ ∧ lo ≤ b ∧ b < hi ∧ Hid (xs[k]? = some x) ∧ W.cell? ⟨b, o + k, none⟩ = some r ∧ P W lo hi r x := by
  obtain ⟨rows, h1, h2⟩ := h
  have hl := h1.length
  rw [Nat.mul_one] at hl
  obtain ⟨ad, e, h3, h4, h5⟩ := h1.at_ hk
  have hr0 : rows[0]? = some (rows[0]'(by omega)) := List.getElem?_eq_getElem _
  have hrk : rows[k]? = some (rows[k]'(by omega)) := List.getElem?_eq_getElem _
  have hs := addr_spot (h5 0 _ hr0)
  have hc := h5 k _ hrk
  rw [hs, addr_lit] at hc
  exact ⟨ad.block, ad.off, _, _, by rw [e, ← hs], h3, h4, List.getElem?_eq_getElem hk, hc, h2 k _ _ hrk (List.getElem?_eq_getElem hk)⟩
theorem Lst.get2 {k b o : Nat} {x : α} (h : Lst P W lo hi (some ⟨b, o, none⟩) xs) (hx : xs[k]? = some x) : ∃ r, W.cell? ⟨b, o + k, none⟩ = some r ∧ P W lo hi r x := by
  obtain ⟨b', o', r, y, e, _, _, hy, hc, hp⟩ := h.get (List.getElem?_eq_some_iff.1 hx).1
  injection e with e
  injection e with e1 e2
  subst e1; subst e2
  rw [hx] at hy
  have := Option.some.inj hy.out
  subst this
  exact ⟨r, hc, hp⟩
theorem Lst.nil : Lst P W lo hi A [] := ⟨[], Reads.nil, fun i r x hr => by simp at hr⟩
end
/-- Numbers as they were called before. -/
theorem Lst.of_nats {W : World} {lo hi : Nat} {A : Option Addr} {xs : List Nat} (h : Reads W lo hi 1 A xs.length (nats xs)) : Lst NatP W lo hi A xs := ⟨nats xs, h, fun i r x hr hx => by
  simp only [nats, List.getElem?_map, hx, Option.map_some] at hr
  exact (Option.some.inj hr).symm⟩
theorem Lst.own_nats {W : World} {base c : Nat} {A : Option Addr} {xs : List Nat} (h : W.ownsRow base 3 1 (.slice A xs.length c) xs.length (nats xs)) : Lst NatP W base W.heap.size A xs := Lst.of_nats (Reads.of_own h)
theorem Lst.num {W : World} {lo hi k : Nat} {A : Option Addr} {xs : List Nat} (h : Lst NatP W lo hi A xs) (hk : k < xs.length) : ∃ b o x, A = some ⟨b, o, none⟩ ∧ lo ≤ b ∧ b < hi ∧ Hid (xs[k]? = some x) ∧ W.cell? ⟨b, o + k, none⟩ = some (.int .i64 (x : Nat)) := by
  obtain ⟨b, o, r, x, e, h1, h2, h3, h4, h5⟩ := h.get hk
  exact ⟨b, o, x, e, h1, h2, h3, by rw [h4, h5]⟩
theorem Lst.num2 {W : World} {lo hi k b o x : Nat} {xs : List Nat} (h : Lst NatP W lo hi (some ⟨b, o, none⟩) xs) (hx : xs[k]? = some x) : W.cell? ⟨b, o + k, none⟩ = some (.int .i64 (x : Nat)) := by
  obtain ⟨r, h1, h2⟩ := h.get2 hx
  rw [h1, h2]
/-- A slice of one-cell values that grows in new memory: what its values stand for lies in other blocks than its own. -/
def Grl {α : Type} (P : Lay α) (W : World) (base : Nat) (e : TypeId) (v : Value) (xs : List α) : Prop :=
  ∃ rows : List Value, W.ownsRow base e 1 v xs.length rows ∧ ∀ (i : Nat) (r : Value) (x : α), rows[i]? = some r → xs[i]? = some x → ∃ lo hi, base ≤ lo ∧ hi ≤ W.heap.size ∧ P W lo hi r x ∧ ∀ b, v.ownBlock = some b → b < lo ∨ hi ≤ b
section
variable {α : Type} {P : Lay α} {W W' : World} {base : Nat} {e : TypeId} {v : Value} {xs : List α}
theorem Grl.nil (W : World) (base : Nat) (e : TypeId) : Grl P W base e (.slice none 0 0) [] := ⟨[], World.ownsRow_nil _ _ _ _, fun i r x hr => by simp at hr⟩
theorem Grl.form (h : Grl P W base e v xs) : ∃ A c, v = .slice A xs.length c := by
  obtain ⟨rows, h1, _⟩ := h
  exact own_form h1
theorem Grl.frm (hP : Lay.Ok P) {S : Nat → Prop} (h : Grl P W base e v xs) (hx : Frm S W W') (hS : ∀ b, base ≤ b → b < W.heap.size → ¬ S b) : Grl P W' base e v xs := by
  obtain ⟨rows, h1, h2⟩ := h
  refine ⟨rows, own_frm h1 hx (fun b hb => hS b (h1.lt b hb).1 (h1.lt b hb).2), fun i r x hr hx' => ?_⟩
  obtain ⟨lo, hi, h3, h4, h5, h6⟩ := h2 i r x hr hx'
  exact ⟨lo, hi, h3, Nat.le_trans h4 hx.size, hP.frm h5 hx (fun k hk1 hk2 => hS k (by omega) (by omega)), h6⟩
theorem Grl.ext (hP : Lay.Ok P) (h : Grl P W base e v xs) (hx : Ext W W') : Grl P W' base e v xs := h.frm hP hx (fun _ _ _ h => h)
theorem Grl.lst (hP : Lay.Ok P) {A : Option Addr} {n c : Nat} (h : Grl P W base e (.slice A n c) xs) : Lst P W base W.heap.size A xs := by
  obtain ⟨rows, h1, h2⟩ := h
  have hn : n = xs.length := by
    obtain ⟨A', c', hh⟩ := own_form h1
    injection hh
  subst hn
  refine ⟨rows, Reads.of_own h1, fun i r x hr hx => ?_⟩
  obtain ⟨lo, hi, h3, h4, h5, _⟩ := h2 i r x hr hx
  exact hP.more h5 h3 h4
theorem Grl.lstP (hP : Lay.Ok P) (h : Grl P W base e v xs) : LstP P W base W.heap.size v xs := by
  obtain ⟨A, c, rfl⟩ := h.form
  exact ⟨A, c, rfl, h.lst hP⟩
/-- One value more; it was made since. -/
theorem Grl.push (hP : Lay.Ok P) {W1 : World} {rows : List Value} {v' r : Value} {x : α} {lo hi : Nat} (h2 : ∀ (i : Nat) (r : Value) (x : α), rows[i]? = some r → xs[i]? = some x → ∃ lo hi, base ≤ lo ∧ hi ≤ W.heap.size ∧ P W lo hi r x ∧ ∀ b, v.ownBlock = some b → b < lo ∨ hi ≤ b) (h1 : W.ownsRow base e 1 v xs.length rows)
    (hx : Ext W W1) (hr : P W1 lo hi r x) (hlo : W.heap.size ≤ lo) (hb : base ≤ lo) (hhi : hi ≤ W1.heap.size) (hown : W'.ownsRow base e 1 v' (xs.length + 1) (rows ++ [r])) (hg : W1.grownBy W' v.ownBlock) (hat : v'.ownBlock = v.ownBlock ∨ v'.ownBlock = some (W1.heap.size + 1)) : Grl P W' base e v' (xs ++ [x]) := by
  have hlen : rows.length = xs.length := by have := own_len h1; omega
  have hfr : Frm (fun k => v.ownBlock = some k) W1 W' := Frm.of_grown hg
  refine ⟨rows ++ [r], by rw [List.length_append, List.length_singleton]; exact hown, fun i s y hs hy => ?_⟩
  rcases Nat.lt_trichotomy i rows.length with hi' | hi' | hi'
  · rw [List.getElem?_append_left hi'] at hs
    rw [List.getElem?_append_left (by omega)] at hy
    obtain ⟨lo', hi'', h3, h4, h5, h6⟩ := h2 i s y hs hy
    refine ⟨lo', hi'', h3, Nat.le_trans h4 (Nat.le_trans hx.size hfr.size), hP.frm (hP.frm h5 hx (fun _ _ _ h => h)) hfr (fun k hk1 hk2 hk => by have := h6 k hk; omega), fun b hb' => ?_⟩
    rcases hat with h7 | h7
    · rw [h7] at hb'; exact h6 b hb'
    · rw [h7] at hb'
      have := Option.some.inj hb'
      have := hx.size
      omega
  · rw [List.getElem?_append_right (by omega), hi', Nat.sub_self] at hs
    rw [List.getElem?_append_right (by omega), hi', hlen, Nat.sub_self] at hy
    simp at hs hy
    subst hs; subst hy
    refine ⟨lo, hi, hb, Nat.le_trans hhi hfr.size, hP.frm hr hfr (fun k hk1 hk2 hk => by have := (h1.lt k hk).2; omega), fun b hb' => ?_⟩
    rcases hat with h7 | h7
    · rw [h7] at hb'
      have := (h1.lt b hb').2
      omega
    · rw [h7] at hb'
      have := Option.some.inj hb'
      omega
  · rw [List.getElem?_eq_none (by simp; omega)] at hs; cases hs
theorem Grl.push2 (hP : Lay.Ok P) {W1 : World} {rows : List Value} {r : Value} {x : α} {lo hi g cap : Nat} (h2 : ∀ (i : Nat) (r : Value) (x : α), rows[i]? = some r → xs[i]? = some x → ∃ lo hi, base ≤ lo ∧ hi ≤ W.heap.size ∧ P W lo hi r x ∧ ∀ b, v.ownBlock = some b → b < lo ∨ hi ≤ b) (h1 : W.ownsRow base e 1 v xs.length rows)
    (hx : Ext W W1) (hr : P W1 lo hi r x) (hlo : W.heap.size ≤ lo) (hb : base ≤ lo) (hhi : hi ≤ W1.heap.size) (hown : W'.ownsRow base e 1 (.slice (some ⟨g, 0, none⟩) (xs.length + 1) cap) (xs.length + 1) (rows ++ [r])) (hg : W1.grownBy W' v.ownBlock) (hat : v.ownBlock = some g ∨ g = W1.heap.size + 1) : Grl P W' base e (.slice (some ⟨g, 0, none⟩) (xs.length + 1) cap) (xs ++ [x]) :=
  Grl.push hP h2 h1 hx hr hlo hb hhi hown hg (by
    rcases hat with h | h
    · exact Or.inl h.symm
    · exact Or.inr (by rw [h]; rfl))
theorem Grl.len (h : Grl P W base e v xs) {A : Option Addr} {n c : Nat} (hv : v = .slice A n c) : n = xs.length := by
  obtain ⟨A', c', hh⟩ := h.form
  rw [hv] at hh
  injection hh
end
end Go.Proofs.Ytcmgkekaeafgaaa

namespace Go.Proofs.Ytcmgkekaeafgaaa
open Go Go.RowKit
set_option maxHeartbeats 1000000

/-- Three valid systems and a valid property. -/
def three (ss : List Sys) (p : Aut) : Bool := decide (ss.length = 3) && (areParts ss && autValid p)
theorem spec_l14Three {lo hi lo' hi' : Nat} {A : Option Addr} {n c : Nat} {ss : List Sys} {B : Option Addr} {m d : Nat} {B' : Option Addr} {m' d' : Nat} {p : Aut} {w : World} (h : SLAt w lo hi A n ss) (h' : AutAt w lo' hi' B m B' m' p) :
    Calls Try.prog 13 #[.slice A n c, .agg #[.int .i64 p.al, .slice B m d, .slice B' m' d']] w fun e w' => e = .returned (.bool (three ss p)) ∧ Ext w w' := by
  have hn := h.len
  have hL := hide h.1
  have hR := fun W (hW : Ext w W) => h'.ext hW
  have HR := hide hR
  clear hR h'
  by_cases h3 : n = 3
  · subst h3
    clear hn
    cases hp : areParts ss
    · have hneg := hide (show ¬ (0 : Int) ≤ partsA ss by unfold partsA; rw [hp]; simp)
      have hneg := hneg.out
      have Hp := hide hp
      clear hp
      go_enter Try.func13, Try.ntmps13
      go_wp2_with fail
      refine (spec_PartsAlphabet (h.ext ?_)).mono ?_
      · exact (Ext.refl _).alloc _
      rintro e w1 ⟨rfl, hx⟩
      go_wp2_with fail
      go_ret
      exact ⟨ret_bool (by unfold three; rw [Hp.out]; simp), ((Ext.refl _).alloc _).trans hx⟩
    · have hpos : partsA ss ≥ 0 := by unfold partsA; rw [hp]; simp
      have Hp := hide hp
      clear hp
      go_enter Try.func13, Try.ntmps13
      go_wp2_with fail
      refine (spec_PartsAlphabet (h.ext ?_)).mono ?_
      · exact (Ext.refl _).alloc _
      rintro e w1 ⟨rfl, hx⟩
      have c1 := fun j => ext_box (j := j) hx
      go_wp2_with fail
      refine (spec_AutomatonValid _ _ _ _ _ _ _ _ _ _ (HR.out _ (((Ext.refl _).alloc _).trans hx))).mono ?_
      rintro e w2 ⟨rfl, hx2⟩
      go_wp2_with fail
      go_ret
      exact ⟨ret_bool (by have := hL.out; unfold three; rw [Hp.out, decide_eq_true (by omega)]; simp), (((Ext.refl _).alloc _).trans hx).trans hx2⟩
  · go_enter Try.func13, Try.ntmps13
    go_wp2
    go_ret
    exact ⟨ret_bool (by have := hL.out; unfold three; rw [decide_eq_false (by omega)]; simp), (Ext.refl _).alloc _⟩
end Go.Proofs.Ytcmgkekaeafgaaa

namespace Go.Proofs.Ytcmgkekaeafgaaa
open Go Go.RowKit
set_option maxHeartbeats 1000000

/-- The letters of the first and of the second assumption. -/
def chain1 (ss : List Sys) (p : Aut) : Int :=
  if three ss p then match ss with
    | [x, y, z] => bits .and .i64 (bits .or .i64 x.al p.al) (bits .or .i64 y.al z.al)
    | _ => -1
  else -1
def chain2 (ss : List Sys) (p : Aut) : Int :=
  if three ss p then match ss with
    | [_, y, z] => bits .and .i64 (bits .or .i64 y.al (chain1 ss p)) z.al
    | _ => -1
  else -1
theorem three_list {ss : List Sys} {p : Aut} (h : three ss p = true) : ∃ x y z, ss = [x, y, z] := by
  simp only [three, Bool.and_eq_true, decide_eq_true_eq] at h
  match ss, h.1 with
  | [x, y, z], _ => exact ⟨x, y, z, rfl⟩

theorem spec_ChainLetters {lo hi lo' hi' : Nat} {A : Option Addr} {n c : Nat} {ss : List Sys} {B : Option Addr} {m d : Nat} {B' : Option Addr} {m' d' : Nat} {p : Aut} {w : World} (h : SLAt w lo hi A n ss) (h' : AutAt w lo' hi' B m B' m' p) :
    Calls Try.prog 6 #[.slice A n c, .agg #[.int .i64 p.al, .slice B m d, .slice B' m' d']] w fun e w' => e = .returned (.tuple #[.int .i64 (chain1 ss p), .int .i64 (chain2 ss p)]) ∧ Ext w w' := by
  cases hT : three ss p
  · have Hc1 := hide (show chain1 ss p = -1 by unfold chain1; rw [hT]; rfl)
    have Hc2 := hide (show chain2 ss p = -1 by unfold chain2; rw [hT]; rfl)
    have HT := hide hT
    clear hT
    go_enter Try.func6, Try.ntmps6
    go_wp2_with (go_at_call 13; refine (spec_l14Three (h.ext ?_) (h'.ext ?_)).mono ?_; exact (Ext.refl _).alloc _; exact (Ext.refl _).alloc _; rw [HT.out]; rintro e w1 ⟨rfl, hx⟩)
    go_ret2
    exact ⟨by rw [Hc1.out, Hc2.out]; rfl, ((Ext.refl _).alloc _).trans hx⟩
  · obtain ⟨x, y, z, rfl⟩ := three_list hT
    have Hc1 := hide (show chain1 [x, y, z] p = bits .and .i64 (bits .or .i64 x.al p.al) (bits .or .i64 y.al z.al) by unfold chain1; rw [hT]; rfl)
    have Hc2 := hide (show chain2 [x, y, z] p = bits .and .i64 (bits .or .i64 y.al (chain1 [x, y, z] p)) z.al by rw [chain2, hT]; rfl)
    have HT := hide hT
    clear hT
    obtain rfl : n = 3 := h.1
    have hm : ∀ W, Ext w W → ∃ b o, A = some ⟨b, o, none⟩ ∧ W.cell? ⟨b, o, none⟩ = some (.int .i64 x.al) ∧ W.cell? ⟨b, o + 3, none⟩ = some (.int .i64 y.al) ∧ W.cell? ⟨b, o + 6, none⟩ = some (.int .i64 z.al) := by
      intro W hW
      have h := h.ext hW
      obtain ⟨b, o, s, B, q, d, rfl, hlo, hhi, hs, c0, c1, c2, hsy⟩ := h.sys (k := 0) (by omega)
      obtain rfl : x = s := by have := hs.out; simpa using this
      obtain ⟨B1, q1, d1, e0, e1, e2, hsy1⟩ := h.sys2 (k := 1) (s := y) rfl
      obtain ⟨B2, q2, d2, g0, g1, g2, hsy2⟩ := h.sys2 (k := 2) (s := z) rfl
      exact ⟨b, o, rfl, by simpa using c0, e0, g0⟩
    have Hm := hide hm
    clear hm
    go_enter Try.func6, Try.ntmps6
    go_wp2_with (go_at_call 13; refine (spec_l14Three (h.ext ?_) (h'.ext ?_)).mono ?_; exact (Ext.refl _).alloc _; exact (Ext.refl _).alloc _; rw [HT.out]; rintro e w1 ⟨rfl, hx⟩; obtain ⟨b, o, rfl, c0, c1, c2⟩ := Hm.out w1 (((Ext.refl _).alloc _).trans hx); have cp := fun j => ext_box (j := j) hx)
    go_quiet (fail)
    go_wp2_with fail
    go_quiet (fail)
    go_wp2_with fail
    go_ret2
    exact ⟨by rw [Hc2.out, Hc1.out]; rfl, ((((Ext.refl _).alloc _).trans hx).drewN _).drewN _⟩

theorem impl_ChainLetters {lo hi lo' hi' : Nat} {A : Option Addr} {n c : Nat} {ss : List Sys} {B : Option Addr} {m d : Nat} {B' : Option Addr} {m' d' : Nat} {p : Aut} {w : World} (h : SLAt w lo hi A n ss) (h' : AutAt w lo' hi' B m B' m' p) :
    Calls Try.prog 5 #[.slice A n c, .agg #[.int .i64 p.al, .slice B m d, .slice B' m' d']] w fun e w' => e = .returned (.tuple #[.int .i64 (chain1 ss p), .int .i64 (chain2 ss p)]) ∧ Ext w w' := by
  have hR := fun W (hW : Ext w W) => h'.ext hW
  have HR := hide hR
  clear hR h'
  cases hT : three ss p
  · have Hc1 := hide (show chain1 ss p = -1 by unfold chain1; rw [hT]; rfl)
    have Hc2 := hide (show chain2 ss p = -1 by unfold chain2; rw [hT]; rfl)
    by_cases h3 : n = 3
    · subst h3
      have hT' : (areParts ss && autValid p) = false := by
        have := h.1
        unfold three at hT
        rw [decide_eq_true (by omega), Bool.true_and] at hT
        exact hT
      clear hT
      cases hp : areParts ss
      · have Hp := hide hp
        clear hp hT'
        go_enter Try.func5, Try.ntmps5
        go_wp2_with (go_at_call 11; refine (impl_areParts (h.ext ?_)).mono ?_; exact (Ext.refl _).alloc _; rw [Hp.out]; rintro e w1 ⟨rfl, hx⟩)
        go_ret2
        exact ⟨by rw [Hc1.out, Hc2.out]; rfl, ((Ext.refl _).alloc _).trans hx⟩
      · rw [hp, Bool.true_and] at hT'
        have Hp := hide hp
        have HT := hide hT'
        clear hp hT'
        go_enter Try.func5, Try.ntmps5
        go_wp2_with (first
          | (go_at_call 11; refine (impl_areParts (h.ext ?_)).mono ?_; exact (Ext.refl _).alloc _; rw [Hp.out]; rintro e w1 ⟨rfl, hx⟩; have c1 := fun j => ext_box (j := j) hx)
          | (go_at_call 12; refine (impl_AutomatonValid _ _ _ _ _ _ _ _ _ _ (HR.out _ (((Ext.refl _).alloc _).trans hx))).mono ?_; rw [HT.out]; rintro e w2 ⟨rfl, hx2⟩))
        go_ret2
        exact ⟨by rw [Hc1.out, Hc2.out]; rfl, (((Ext.refl _).alloc _).trans hx).trans hx2⟩
    · have hne : ((n : Int) != 3) = true := by simp; omega
      clear hT
      go_enter Try.func5, Try.ntmps5
      go_wp2
      go_ret2
      exact ⟨by rw [Hc1.out, Hc2.out]; rfl, (Ext.refl _).alloc _⟩
  · obtain ⟨x, y, z, rfl⟩ := three_list hT
    have Hc1 := hide (show chain1 [x, y, z] p = bits .and .i64 (bits .or .i64 x.al p.al) (bits .or .i64 y.al z.al) by unfold chain1; rw [hT]; rfl)
    have Hc2 := hide (show chain2 [x, y, z] p = bits .and .i64 (bits .or .i64 y.al (chain1 [x, y, z] p)) z.al by rw [chain2, hT]; rfl)
    obtain rfl : n = 3 := h.1
    have hT' := hT
    simp only [three, Bool.and_eq_true] at hT'
    have Hp := hide hT'.2.1
    have HT := hide hT'.2.2
    clear hT hT'
    have hm : ∀ W, Ext w W → ∃ b o, A = some ⟨b, o, none⟩ ∧ W.cell? ⟨b, o, none⟩ = some (.int .i64 x.al) ∧ W.cell? ⟨b, o + 3, none⟩ = some (.int .i64 y.al) ∧ W.cell? ⟨b, o + 6, none⟩ = some (.int .i64 z.al) := by
      intro W hW
      have h := h.ext hW
      obtain ⟨b, o, s, B, q, d, rfl, hlo, hhi, hs, c0, c1, c2, hsy⟩ := h.sys (k := 0) (by omega)
      obtain rfl : x = s := by have := hs.out; simpa using this
      obtain ⟨B1, q1, d1, e0, e1, e2, hsy1⟩ := h.sys2 (k := 1) (s := y) rfl
      obtain ⟨B2, q2, d2, g0, g1, g2, hsy2⟩ := h.sys2 (k := 2) (s := z) rfl
      exact ⟨b, o, rfl, by simpa using c0, e0, g0⟩
    have Hm := hide hm
    clear hm
    go_enter Try.func5, Try.ntmps5
    go_wp2_with (first
      | (go_at_call 11; refine (impl_areParts (h.ext ?_)).mono ?_; exact (Ext.refl _).alloc _; rw [Hp.out]; rintro e w1 ⟨rfl, hx⟩; have c1 := fun j => ext_box (j := j) hx)
      | (go_at_call 12; refine (impl_AutomatonValid _ _ _ _ _ _ _ _ _ _ (HR.out _ (((Ext.refl _).alloc _).trans hx))).mono ?_; rw [HT.out]; rintro e w2 ⟨rfl, hx2⟩; obtain ⟨b, o, rfl, g0, g1, g2⟩ := Hm.out w2 ((((Ext.refl _).alloc _).trans hx).trans hx2); have cp := fun j => ext_box (j := j) (hx.trans hx2)))
    go_quiet (fail)
    go_wp2_with fail
    go_quiet (fail)
    go_wp2_with fail
    go_ret2
    exact ⟨by rw [Hc2.out, Hc1.out]; rfl, (((((Ext.refl _).alloc _).trans hx).trans hx2).drewN _).drewN _⟩
end Go.Proofs.Ytcmgkekaeafgaaa
