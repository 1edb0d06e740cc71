/- Contracts of the laws' own copies. -/
import Derived.Test.YtekobefenngedaaAut
namespace Go.Proofs.Ytekobefenngedaa
open Go Go.RowKit
set_option maxHeartbeats 400000

theorem toIntS_any (lo hi : Nat) (A : Option Addr) (n c : Nat) (l : List Int) (w : World) (h : Reads w lo hi 1 A n (ints l)) (hn : n ≤ 1048576) :
    Calls Try.prog 44 #[.slice A n c] w fun e w' => e = .returned (.slice (some ⟨w.heap.size, 0, none⟩) n n) ∧ w'.ownsRow w.heap.size 3 1 (.slice (some ⟨w.heap.size, 0, none⟩) n n) n (ints l) ∧ Ext w w' := by
  have hl := h.length
  go_enter Try.func44, Try.ntmps44
  go_wp2_with (at_make; refine wpList_make w _ rfl _ _ 50 rfl 3 _ 1 8 Try.underlying50 info_int _ _ n rfl rfl (Ext.refl _) (by omega) (by unfold maxLen; omega) ?_; intro w1 hext1 hown1 _ _)
  go_loopw [4] (fun i wr => ∃ k : Nat, k ≤ n ∧ i = .int .i64 k ∧ ∃ rest : List Value, Hid (rest.length = n - k) ∧ wr.ownsRow w.heap.size 3 1 (.slice (some ⟨w.heap.size, 0, none⟩) n n) n ((ints l).take k ++ rest) ∧ Ext w wr)
    (fun i _ => n - (intOf i).toNat)
  case atStart => exact ⟨0, Nat.zero_le _, rfl, _, by have := hown1.1; simp at this; unfold Hid; omega, by simpa using hown1, hext1⟩
  case round =>
    obtain ⟨k, hk, rfl, rest, hrest, hown, hext⟩ := hrel
    by_cases hlt : k < n
    · obtain ⟨ad, x, rfl, hlo, hhi, hx, hcell⟩ := (h.ext hext).int hlt
      have hc0 : wr.cell? ⟨w.heap.size, k, none⟩ = ((ints l).take k ++ rest)[k]? := hown.cellAt k (by omega)
      have hf0 := hown.frozenAt k
      have hin : k < ((ints l).take k ++ rest).length := by rw [hown.1]; omega
      rw [List.getElem?_eq_getElem hin] at hc0
      have hst := hown.stored k (.int .i64 x)
      rw [set_mix (by simp [ints, hx.out]) (by rw [hrest.out]; omega)] at hst
      have hs1 := hide hst
      clear hst
      generalize ((ints l).take k ++ rest)[k] = old at hc0
      go_wp2
      go_roundw
      case rel => exact ⟨k + 1, by omega, by go_num, rest.tail, by have := hrest.out; unfold Hid; rw [List.length_tail]; omega, hs1.out.1, hext.frm (Frm.setCell _ _ _ _) (by omega)⟩
      case measure => simp [intOf]; omega
    · obtain rfl : k = n := by omega
      go_wp2
      go_ret
      rw [List.take_of_length_le (by omega)] at hown
      have : rest = [] := List.eq_nil_of_length_eq_zero (by rw [hrest.out]; omega)
      subst this
      exact ⟨rfl, by simpa using hown, hext⟩
theorem info_bool : (Try.prog.info? 4).map (fun i => (i.zero, i.size, i.bytes)) = some (some (.bool false), 1, 1) := by kernel_rfl
theorem info_ints : (Try.prog.info? 50).map (fun i => (i.zero, i.size, i.bytes)) = some (some (.slice none 0 0), 1, 24) := by kernel_rfl

theorem toBoolS_any (lo hi : Nat) (A : Option Addr) (n c : Nat) (l : List Bool) (w : World) (h : Reads w lo hi 1 A n (bools l)) (hn : n ≤ 1048576) :
    Calls Try.prog 28 #[.slice A n c] w fun e w' => e = .returned (.slice (some ⟨w.heap.size, 0, none⟩) n n) ∧ w'.ownsRow w.heap.size 4 1 (.slice (some ⟨w.heap.size, 0, none⟩) n n) n (bools l) ∧ Ext w w' := by
  have hl := h.length
  go_enter Try.func28, Try.ntmps28
  go_wp2_with (at_make; refine wpList_make w _ rfl _ _ 23 rfl 4 _ 1 1 Try.underlying23 info_bool _ _ n rfl rfl (Ext.refl _) (by omega) (by unfold maxLen; omega) ?_; intro w1 hext1 hown1 _ _)
  go_loopw [4] (fun i wr => ∃ k : Nat, k ≤ n ∧ i = .int .i64 k ∧ ∃ rest : List Value, Hid (rest.length = n - k) ∧ wr.ownsRow w.heap.size 4 1 (.slice (some ⟨w.heap.size, 0, none⟩) n n) n ((bools l).take k ++ rest) ∧ Ext w wr)
    (fun i _ => n - (intOf i).toNat)
  case atStart => exact ⟨0, Nat.zero_le _, rfl, _, by have := hown1.1; simp at this; unfold Hid; omega, by simpa using hown1, hext1⟩
  case round =>
    obtain ⟨k, hk, rfl, rest, hrest, hown, hext⟩ := hrel
    by_cases hlt : k < n
    · obtain ⟨ad, x, rfl, hlo, hhi, hx, hcell⟩ := (h.ext hext).bool hlt
      have hc0 : wr.cell? ⟨w.heap.size, k, none⟩ = ((bools l).take k ++ rest)[k]? := hown.cellAt k (by omega)
      have hf0 := hown.frozenAt k
      have hin : k < ((bools l).take k ++ rest).length := by rw [hown.1]; omega
      rw [List.getElem?_eq_getElem hin] at hc0
      have hst := hown.stored k (.bool x)
      rw [set_mix (by simp [bools, hx.out]) (by rw [hrest.out]; omega)] at hst
      have hs1 := hide hst
      clear hst
      generalize ((bools l).take k ++ rest)[k] = old at hc0
      go_wp2
      go_roundw
      case rel => exact ⟨k + 1, by omega, by go_num, rest.tail, by have := hrest.out; unfold Hid; rw [List.length_tail]; omega, hs1.out.1, hext.frm (Frm.setCell _ _ _ _) (by omega)⟩
      case measure => simp [intOf]; omega
    · obtain rfl : k = n := by omega
      go_wp2
      go_ret
      rw [List.take_of_length_le (by omega)] at hown
      have : rest = [] := List.eq_nil_of_length_eq_zero (by rw [hrest.out]; omega)
      subst this
      exact ⟨rfl, by simpa using hown, hext⟩

/-- Slices of numbers that are the call's own, no two in one block. -/
def RowsOwn (w : World) (base : Nat) (rows : List Value) (ls : List (List Int)) : Prop :=
  rows.length = ls.length ∧ (∀ (i : Nat) (row : Value) (l : List Int), rows[i]? = some row → ls[i]? = some l → w.ownsRow base 3 1 row l.length (ints l)) ∧
    ∀ (i j : Nat) (ri rj : Value) (b : Nat), rows[i]? = some ri → rows[j]? = some rj → i ≠ j → ri.ownBlock = some b → rj.ownBlock ≠ some b
theorem RowsOwn.nil (w : World) (base : Nat) : RowsOwn w base [] [] := ⟨rfl, fun i row l h => by simp at h, fun i j ri rj b h => by simp at h⟩
theorem RowsOwn.ext {w w' : World} {base : Nat} {rows : List Value} {ls : List (List Int)} (h : RowsOwn w base rows ls) (hb : Ext w w') : RowsOwn w' base rows ls :=
  ⟨h.1, fun i row l hr hl => own_ext (h.2.1 i row l hr hl) hb, h.2.2⟩
theorem RowsOwn.row {w : World} {base : Nat} {rows : List Value} {ls : List (List Int)} (h : RowsOwn w base rows ls) {i : Nat} {row : Value} (hr : rows[i]? = some row) : ∃ l, ls[i]? = some l ∧ w.ownsRow base 3 1 row l.length (ints l) := by
  have hi : i < rows.length := (List.getElem?_eq_some_iff.1 hr).1
  have hl : ls[i]? = some (ls[i]'(by rw [← h.1]; exact hi)) := List.getElem?_eq_getElem _
  exact ⟨_, hl, h.2.1 i row _ hr hl⟩
theorem RowsOwn.frm {S : Nat → Prop} {w w' : World} {base : Nat} {rows : List Value} {ls : List (List Int)} (h : RowsOwn w base rows ls) (hb : Frm S w w') (hS : ∀ (i : Nat) (row : Value) (b : Nat), rows[i]? = some row → row.ownBlock = some b → ¬ S b) : RowsOwn w' base rows ls :=
  ⟨h.1, fun i row l hr hl => own_frm (h.2.1 i row l hr hl) hb (fun b hb => hS i row b hr hb), h.2.2⟩
theorem RowsOwn.snoc {w w' : World} {base : Nat} {rows : List Value} {ls : List (List Int)} (h : RowsOwn w base rows ls) (hb : Ext w w') {row : Value} {l : List Int} (hbase : base ≤ w.heap.size) (hrow : w'.ownsRow w.heap.size 3 1 row l.length (ints l)) :
    RowsOwn w' base (rows ++ [row]) (ls ++ [l]) := by
  have hlen := h.1
  refine ⟨by simp [hlen], fun i r m hr hm => ?_, fun i j ri rj b hri hrj hij hbi => ?_⟩
  · rcases Nat.lt_trichotomy i rows.length with hi | hi | hi
    · rw [List.getElem?_append_left hi] at hr
      rw [List.getElem?_append_left (by omega)] at hm
      exact own_ext (h.2.1 i r m hr hm) hb
    · rw [List.getElem?_append_right (by omega), hi, Nat.sub_self] at hr
      rw [List.getElem?_append_right (by omega), hi, hlen, Nat.sub_self] at hm
      simp at hr hm
      subst hr; subst hm
      exact own_less hrow hbase
    · rw [List.getElem?_eq_none (by simp; omega)] at hr; cases hr
  · have old : ∀ (i : Nat) (r : Value) (b : Nat), i < rows.length → rows[i]? = some r → r.ownBlock = some b → b < w.heap.size := fun i r b hi hr hb => by
      obtain ⟨m, _, ho⟩ := h.row hr
      exact (ho.lt b hb).2
    have new : ∀ b, row.ownBlock = some b → w.heap.size ≤ b := fun b hb => (hrow.lt b hb).1
    have hi : i ≤ rows.length := by have := (List.getElem?_eq_some_iff.1 hri).1; simp at this; omega
    have hj : j ≤ rows.length := by have := (List.getElem?_eq_some_iff.1 hrj).1; simp at this; omega
    rcases Nat.lt_or_eq_of_le hi with hi | hi <;> rcases Nat.lt_or_eq_of_le hj with hj | hj
    · rw [List.getElem?_append_left hi] at hri
      rw [List.getElem?_append_left hj] at hrj
      exact h.2.2 i j ri rj b hri hrj hij hbi
    · rw [List.getElem?_append_left hi] at hri
      subst hj
      simp at hrj
      subst hrj
      intro hc
      have h1 := old i ri b hi hri hbi
      have h2 := new b hc
      omega
    · rw [List.getElem?_append_left hj] at hrj
      subst hi
      simp at hri
      subst hri
      intro hc
      have h1 := old j rj b hj hrj hc
      have h2 := new b hbi
      omega
    · omega
/-- A slice of slices of numbers that is the call's own. -/
def OwnLL (w : World) (base : Nat) (v : Value) (ls : List (List Int)) : Prop := ∃ rows, w.ownsRow base 50 1 v ls.length rows ∧ RowsOwn w base rows ls
theorem OwnLL.ext {w w' : World} {base : Nat} {v : Value} {ls : List (List Int)} (h : OwnLL w base v ls) (hb : Ext w w') : OwnLL w' base v ls := by
  obtain ⟨rows, h1, h2⟩ := h
  exact ⟨rows, own_ext h1 hb, h2.ext hb⟩
theorem RowsOwn.keep {S : Nat → Prop} {w w' : World} {base : Nat} {rows : List Value} {ls : List (List Int)} (h : RowsOwn w base rows ls) (hb : Frm S w w') (hS : ∀ b, base ≤ b → ¬ S b) : RowsOwn w' base rows ls :=
  ⟨h.1, fun i row l hr hl => own_keep (h.2.1 i row l hr hl) hb hS, h.2.2⟩
theorem RowsOwn.less {w : World} {base base' : Nat} {rows : List Value} {ls : List (List Int)} (h : RowsOwn w base rows ls) (hb : base' ≤ base) : RowsOwn w base' rows ls :=
  ⟨h.1, fun i row l hr hl => own_less (h.2.1 i row l hr hl) hb, h.2.2⟩
theorem OwnLL.keep {S : Nat → Prop} {w w' : World} {base : Nat} {v : Value} {ls : List (List Int)} (h : OwnLL w base v ls) (hb : Frm S w w') (hS : ∀ b, base ≤ b → ¬ S b) : OwnLL w' base v ls := by
  obtain ⟨rows, h1, h2⟩ := h
  exact ⟨rows, own_keep h1 hb hS, h2.keep hb hS⟩
theorem OwnLL.less {w : World} {base base' : Nat} {v : Value} {ls : List (List Int)} (h : OwnLL w base v ls) (hb : base' ≤ base) : OwnLL w base' v ls := by
  obtain ⟨rows, h1, h2⟩ := h
  exact ⟨rows, own_less h1 hb, h2.less hb⟩
theorem OwnLL.reads {w : World} {base : Nat} {A : Option Addr} {n c : Nat} {ls : List (List Int)} (h : OwnLL w base (.slice A n c) ls) (hn : n = ls.length) : ReadsLL w base w.heap.size A n ls := by
  obtain ⟨rows, h1, h2⟩ := h
  subst hn
  refine ⟨rfl, rows, Reads.of_own h1, h2.1, fun i row l hr hl => ?_⟩
  have ho := h2.2.1 i row l hr hl
  obtain ⟨A', c', rfl⟩ := own_form ho
  exact ⟨A', c', rfl, Reads.of_own ho⟩

theorem rows_store {w : World} {base g n cap k : Nat} {rows rest : List Value} {row : Value} {ls : List (List Int)} (hown : w.ownsRow base 50 1 (.slice (some ⟨g, 0, none⟩) n cap) n (rows ++ rest)) (hk : rows.length = k) (hr : 0 < rest.length)
    (hrows : RowsOwn w base (rows ++ [row]) ls) :
    (w.setCell ⟨g, k, none⟩ row).ownsRow base 50 1 (.slice (some ⟨g, 0, none⟩) n cap) n ((rows ++ [row]) ++ rest.tail) ∧ RowsOwn (w.setCell ⟨g, k, none⟩ row) base (rows ++ [row]) ls := by
  refine ⟨?_, hrows.frm (Frm.setCell w g k row) fun i r b hr hb => ?_⟩
  · have h := (hown.stored k row).1
    rw [set_end row hk hr] at h
    exact h
  · rintro rfl
    obtain ⟨l, _, ho⟩ := hrows.row hr
    exact own_ne ho hown (by decide) hb rfl

theorem toIntSS_any (lo hi : Nat) (A : Option Addr) (n c : Nat) (ls : List (List Int)) (w : World) (h : ReadsLL w lo hi A n ls) (hn : ls.length + tot ls ≤ 1048576) :
    Calls Try.prog 27 #[.slice A n c] w fun e w' => e = .returned (.slice (some ⟨w.heap.size, 0, none⟩) n n) ∧ OwnLL w' w.heap.size (.slice (some ⟨w.heap.size, 0, none⟩) n n) ls ∧ Ext w w' := by
  have hL : n ≤ ls.length ∧ ls.length ≤ n := by have := h.1; omega
  have hrow : ∀ (k : Nat) (l : List Int), ls[k]? = some l → l.length ≤ 1048576 := fun k l hl => by
    have h1 := tot_take_succ hl
    have h2 := tot_take_le ls (k + 1)
    omega
  have Hrow := hide hrow
  clear hrow
  go_enter Try.func27, Try.ntmps27
  go_wp2_with (at_make; refine wpList_make w _ rfl _ _ 22 rfl 50 _ 1 24 Try.underlying22 info_ints _ _ n rfl rfl (Ext.refl _) (by omega) (by unfold maxLen; omega) ?_; intro w1 hext1 hown1 _ hsz1)
  go_loopw [4] (fun i wr => ∃ k : Nat, k ≤ n ∧ i = .int .i64 k ∧ ∃ rows rest : List Value, Hid (rest.length = n - k) ∧ wr.ownsRow w.heap.size 50 1 (.slice (some ⟨w.heap.size, 0, none⟩) n n) n (rows ++ rest) ∧ RowsOwn wr w.heap.size rows (ls.take k) ∧ Ext w wr)
    (fun i _ => n - (intOf i).toNat)
  case atStart => exact ⟨0, Nat.zero_le _, rfl, [], _, by have := hown1.1; simp at this; unfold Hid; omega, by simpa using hown1, RowsOwn.nil _ _, hext1⟩
  case round =>
    obtain ⟨k, hk, rfl, rows, rest, hrest, hown, hrows, hext⟩ := hrel
    by_cases hlt : k < n
    · obtain ⟨ad, Ak, ck, l, rfl, hlo, hhi, hl, hcell, hrk⟩ := (h.ext hext).row hlt
      have hll := Hrow.out k l hl.out
      have hrl : rows.length ≤ k ∧ k ≤ rows.length := by have := hrows.1; simp at this; omega
      go_wp2_with (go_at_call 44; refine (toIntS_any _ _ _ _ _ _ _ hrk hll).mono ?_; rintro e w2 ⟨rfl, hown2, hext2⟩; have hown' := own_ext hown hext2; have hf0 := hown'.frozenAt k; obtain ⟨old, hc0⟩ := own_cell hown' k (by omega))
      have hrs := hrows.snoc hext2 hext.size hown2
      have hres := rows_store (k := k) hown' (by omega) (by rw [hrest.out]; omega) hrs
      go_roundw
      case rel => exact ⟨k + 1, by omega, by go_num, _, rest.tail, by have := hrest.out; unfold Hid; rw [List.length_tail]; omega, hres.1, by rw [List.take_add_one, hl.out]; exact hres.2, (hext.trans hext2).frm (Frm.setCell _ _ _ _) (by omega)⟩
      case measure => simp [intOf]; omega
    · obtain rfl : k = n := by omega
      go_wp2
      go_ret
      have : rest = [] := List.eq_nil_of_length_eq_zero (by rw [hrest.out]; omega)
      subst this
      rw [List.take_of_length_le (by omega)] at hrows
      refine ⟨rfl, ⟨rows, ?_, hrows⟩, hext⟩
      rw [← h.1]
      simpa using hown

/-- An automaton in new memory. -/
def AutOwn (w : World) (base : Nat) (A : Option Addr) (n c : Nat) (A' : Option Addr) (n' c' : Nat) (a : Aut) : Prop :=
  OwnLL w base (.slice A n c) a.next ∧ n = a.next.length ∧ w.ownsRow base 4 1 (.slice A' n' c') n' (bools a.acc) ∧ n' = a.acc.length
theorem AutOwn.ext {w w' : World} {base : Nat} {A : Option Addr} {n c : Nat} {A' : Option Addr} {n' c' : Nat} {a : Aut} (h : AutOwn w base A n c A' n' c' a) (hb : Ext w w') : AutOwn w' base A n c A' n' c' a :=
  ⟨h.1.ext hb, h.2.1, own_ext h.2.2.1 hb, h.2.2.2⟩
theorem AutOwn.keep {S : Nat → Prop} {w w' : World} {base : Nat} {A : Option Addr} {n c : Nat} {A' : Option Addr} {n' c' : Nat} {a : Aut} (h : AutOwn w base A n c A' n' c' a) (hb : Frm S w w') (hS : ∀ b, base ≤ b → ¬ S b) : AutOwn w' base A n c A' n' c' a :=
  ⟨h.1.keep hb hS, h.2.1, own_keep h.2.2.1 hb hS, h.2.2.2⟩
theorem AutOwn.less {w : World} {base base' : Nat} {A : Option Addr} {n c : Nat} {A' : Option Addr} {n' c' : Nat} {a : Aut} (h : AutOwn w base A n c A' n' c' a) (hb : base' ≤ base) : AutOwn w base' A n c A' n' c' a :=
  ⟨h.1.less hb, h.2.1, own_less h.2.2.1 hb, h.2.2.2⟩
theorem AutOwn.reads {w : World} {base : Nat} {A : Option Addr} {n c : Nat} {A' : Option Addr} {n' c' : Nat} {a : Aut} (h : AutOwn w base A n c A' n' c' a) : AutAt w base w.heap.size A n A' n' a :=
  ⟨h.1.reads h.2.1, h.2.2.2, Reads.of_own h.2.2.1⟩
def RetAut (w : World) (a : Aut) (e : Ending) (w' : World) : Prop :=
  ∃ A n c A' n' c', e = .returned (.agg #[.int .i64 a.al, .slice A n c, .slice A' n' c']) ∧ AutOwn w' w.heap.size A n c A' n' c' a ∧ Ext w w'

theorem toAutomaton_any (lo hi : Nat) (A : Option Addr) (n c : Nat) (A' : Option Addr) (n' c' : Nat) (a : Aut) (w : World) (h : AutAt w lo hi A n A' n' a) (hs : a.size ≤ 1048576) :
    Calls Try.prog 16 #[.agg #[.int .i64 a.al, .slice A n c, .slice A' n' c']] w (RetAut w a) := by
  have h1 : a.next.length + tot a.next ≤ 1048576 := by unfold Aut.size at hs; omega
  have h2 : n' ≤ 1048576 := by have := h.n2; unfold Aut.size at hs; omega
  have hR := fun W (hW : Ext w W) => h.1.ext hW
  have hR2 := fun W (hW : Ext w W) => h.2.2.ext hW
  have HR := hide hR
  have HR2 := hide hR2
  clear hR hR2
  go_enter Try.func16, Try.ntmps16
  go_wp2_with (first
    | (go_at_call 27; refine (toIntSS_any _ _ _ _ _ _ _ (HR.out _ ?_) h1).mono ?_; exact (((Ext.refl _).alloc _).alloc _).alloc _; rintro e w2 ⟨rfl, hown2, hext2⟩; obtain ⟨b1, b2, b3⟩ := ext_blk3 hext2; have c1 := b1.cell; have c3 := b3.cell; have f3 := b3.frozen; have hx2 := ((((Ext.refl w).alloc _).alloc _).alloc _).trans hext2)
    | (go_at_call 28; refine (toBoolS_any _ _ _ _ _ _ _ (HR2.out _ ?_) h2).mono ?_; exact hx2.setCell (by simp; omega) _; rintro e w3 ⟨rfl, hown3, hext3⟩; have b2' := (b2.far (p := ⟨w.heap.size + 1 + 1, 1, none⟩) (by simp) _).ext hext3; have b3' := (b3.set_ 1 _).ext hext3; have c2' := b2'.cell; have f2' := b2'.frozen; have c3' := b3'.cell; have f3' := b3'.frozen))
  have z2 := hext2.size
  have z3 := hext3.size
  simp only [World.size_alloc, World.size_setCell] at z2 z3 hown2 hown3
  refine bodyPost_ret (v := .agg #[.int .i64 a.al, .slice (some ⟨w.heap.size + 1 + 1 + 1, 0, none⟩) n n, .slice (some ⟨w2.heap.size, 0, none⟩) n' n']) (by simp [results, Try.results16, go_sem, c2']) rfl ⟨_, _, _, _, _, _, rfl, ⟨?_, h.n1, ?_, h.n2⟩, ?_⟩
  · refine (hown2.keep (S := fun k => k < w.heap.size + 3) ?_ (by intro b hb; omega)).less (by omega)
    exact (((((((Frm.refl _ _).cell (by simp) _).ext hext3).cell (by simp) _).cell (by simp) _).cell (by simp) _).cell (by simp) _)
  · refine own_less (own_keep (S := fun k => k < w.heap.size + 3) hown3 ?_ (by intro b hb; omega)) (by omega)
    exact (((((Frm.refl _ _).cell (by simp) _).cell (by simp) _).cell (by simp) _).cell (by simp) _)
  · exact ((((((hx2.setCell (by simp; omega) _).trans hext3).setCell (by simp; omega) _).setCell (by simp) _).setCell (by simp) _).setCell (by simp) _)
end Go.Proofs.Ytekobefenngedaa
