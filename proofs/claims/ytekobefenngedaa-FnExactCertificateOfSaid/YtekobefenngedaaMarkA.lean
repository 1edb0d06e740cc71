/- The laws' own marks on automata, and what is held of them, walked. -/
import Derived.Test.YtekobefenngedaaMark
import Derived.Test.YtekobefenngedaaGra
namespace Go.Proofs.Ytekobefenngedaa
open Go Go.RowKit
set_option maxHeartbeats 1000000

/-- The marks of the rows. -/
def mk1 (k n : Nat) : List Int := (marks k n).map fun n : Nat => (n : Int)
def mkL (k : Nat) : List (List Int) → List (List Int)
  | [] => []
  | l :: r => mk1 k l.length :: mkL (k + l.length) r
def mkB (k n : Nat) : List Bool := (List.range n).map fun j => (k + j) % 3 == 0
def mkA (k : Nat) (a : Aut) : Aut := ⟨a.al, mkL k a.next, mkB (k + tot a.next) a.acc.length⟩
theorem tot_cons (l : List Int) (r : List (List Int)) : tot (l :: r) = l.length + tot r := by simp [tot]
theorem mk1_length (k n : Nat) : (mk1 k n).length = n := by simp [mk1, marks_length]
theorem mk1_nats (k n : Nat) : nats (marks k n) = ints (mk1 k n) := by simp [mk1, nats, ints]
theorem mkL_length (k : Nat) (ls : List (List Int)) : (mkL k ls).length = ls.length := by
  induction ls generalizing k with
  | nil => rfl
  | cons l r ih => simp [mkL, ih]
theorem mkL_get {k j : Nat} {ls : List (List Int)} {l : List Int} (h : ls[j]? = some l) : (mkL k ls)[j]? = some (mk1 (k + tot (ls.take j)) l.length) := by
  induction ls generalizing k j with
  | nil => simp at h
  | cons a r ih =>
    cases j with
    | zero => simp at h; subst h; simp [mkL, tot]
    | succ j =>
      have := ih (k := k + a.length) (j := j) (by simpa using h)
      rw [mkL, List.getElem?_cons_succ, this, List.take_succ_cons, tot_cons, Nat.add_assoc]
theorem mkL_tot (k : Nat) (ls : List (List Int)) : tot (mkL k ls) = tot ls := by
  induction ls generalizing k with
  | nil => rfl
  | cons a r ih => rw [mkL, tot_cons, tot_cons, ih, mk1_length]
theorem mkB_length (k n : Nat) : (mkB k n).length = n := by simp [mkB]
theorem mkB_get {k n j : Nat} (h : j < n) : (mkB k n)[j]? = some ((k + j) % 3 == 0) := by simp [mkB, h]
theorem mkB_take {k n i : Nat} (h : i ≤ n) : (mkB k n).take i = mkB k i := by
  unfold mkB
  rw [← List.map_take, List.take_range, Nat.min_eq_left h]

/-- A row is written anew. -/
theorem RowsOwn.set_ {w w' : World} {base j : Nat} {rows : List Value} {ls : List (List Int)} {A : Option Addr} {c : Nat} {l : List Int} (h : RowsOwn w base rows ls) (hr : rows[j]? = some (.slice A l.length c))
    (hf : Frm (blk A) w w') (hown : w'.ownsRow base 3 1 (.slice A l.length c) l.length (ints l)) : RowsOwn w' base rows (ls.set j l) := by
  have hj : j < rows.length := (List.getElem?_eq_some_iff.1 hr).1
  refine ⟨by simp [h.1], fun i row m hi hm => ?_, h.2.2⟩
  by_cases hij : i = j
  · subst hij
    rw [hr] at hi
    obtain rfl := Option.some.inj hi
    rw [List.getElem?_set_self (by rw [← h.1]; exact hj)] at hm
    obtain rfl := Option.some.inj hm
    exact hown
  · rw [List.getElem?_set_ne (fun e => hij e.symm)] at hm
    refine own_frm (h.2.1 i row m hi hm) hf (fun b hb hS => ?_)
    obtain ⟨ad, rfl, rfl⟩ := hS
    exact h.2.2 i j row _ ad.block hi hr hij hb rfl
/-- A slice of slices, all in blocks below hi. -/
def OwnLLh (w : World) (base hi : Nat) (v : Value) (ls : List (List Int)) : Prop :=
  ∃ rows, w.ownsRow base 50 1 v ls.length rows ∧ RowsOwn w base rows ls ∧ ∀ (i : Nat) (row : Value) (b : Nat), rows[i]? = some row → row.ownBlock = some b → b < hi
def AutH (w : World) (base hi : Nat) (A : Option Addr) (n c : Nat) (A' : Option Addr) (n' c' : Nat) (a : Aut) : Prop :=
  OwnLLh w base hi (.slice A n c) a.next ∧ (∀ b, (Value.slice A n c).ownBlock = some b → b < hi) ∧ n = a.next.length ∧ w.ownsRow base 4 1 (.slice A' n' c') n' (bools a.acc) ∧ (∀ b, (Value.slice A' n' c').ownBlock = some b → b < hi) ∧ n' = a.acc.length
section
variable {w w' : World} {base hi n c n' c' : Nat} {A A' : Option Addr} {a : Aut}
theorem AutOwn.high (h : AutOwn w base A n c A' n' c' a) : AutH w base w.heap.size A n c A' n' c' a := by
  obtain ⟨⟨rows, h1, h2⟩, h3, h4, h5⟩ := h
  exact ⟨⟨rows, h1, h2, fun i row b hr hb => by
    obtain ⟨l, _, ho⟩ := h2.row hr
    exact (ho.lt b hb).2⟩, fun b hb => (h1.lt b hb).2, h3, h4, fun b hb => (h4.lt b hb).2, h5⟩
theorem AutH.own (h : AutH w base hi A n c A' n' c' a) : AutOwn w base A n c A' n' c' a := by
  obtain ⟨⟨rows, h1, h2, _⟩, _, h3, h4, _, h5⟩ := h
  exact ⟨⟨rows, h1, h2⟩, h3, h4, h5⟩
theorem AutH.frm {S : Nat → Prop} (h : AutH w base hi A n c A' n' c' a) (hb : Frm S w w') (hS : ∀ b, base ≤ b → b < hi → ¬ S b) : AutH w' base hi A n c A' n' c' a := by
  obtain ⟨⟨rows, h1, h2, h6⟩, h7, h3, h4, h8, h5⟩ := h
  exact ⟨⟨rows, own_frm h1 hb (fun b hb => hS b (h1.lt b hb).1 (h7 b hb)), h2.frm hb (fun i row b hr hb => by
    obtain ⟨l, _, ho⟩ := h2.row hr
    exact hS b (ho.lt b hb).1 (h6 i row b hr hb)), h6⟩, h7, h3, own_frm h4 hb (fun b hb => hS b (h4.lt b hb).1 (h8 b hb)), h8, h5⟩
theorem AutH.ext (h : AutH w base hi A n c A' n' c' a) (hb : Ext w w') : AutH w' base hi A n c A' n' c' a := h.frm hb (fun _ _ _ h => h)
end

/-- The blocks of the rows. -/
def rblk (rows : List Value) (b : Nat) : Prop := ∃ (i : Nat) (row : Value), rows[i]? = some row ∧ row.ownBlock = some b
theorem set_mid {α : Type} {l : List α} {j : Nat} {x : α} (hl : j < l.length) : (∀ i, i < j → (l.set j x)[i]? = l[i]?) ∧ (l.set j x)[j]? = some x ∧ ∀ i, j < i → (l.set j x)[i]? = l[i]? :=
  ⟨fun i hi => List.getElem?_set_ne (by omega), List.getElem?_set_self hl, fun i hi => List.getElem?_set_ne (by omega)⟩
theorem markIntSS_any {base : Nat} {A : Option Addr} {n c : Nat} {ls : List (List Int)} {rows : List Value} {k : Nat} {w : World} (hv : w.ownsRow base 50 1 (.slice A n c) n rows) (hrows : RowsOwn w base rows ls) (hk : k + tot ls ≤ 4611686018427387904) :
    Calls Try.prog 35 #[.slice A n c, .int .i64 k] w fun e w' => e = .returned (.int .i64 (k + tot ls : Nat)) ∧ w'.ownsRow base 50 1 (.slice A n c) n rows ∧ RowsOwn w' base rows (mkL k ls) ∧ Frm (rblk rows) w w' := by
  have hn9 := (Reads.of_own hv).len
  have hnr := hide (show rows.length = n by have := hv.1; omega)
  have hln := hide (show ls.length = n by have := hrows.1; have := hnr.out; omega)
  have htake := hide (fun j => tot_take_le ls j)
  go_enter Try.func35, Try.ntmps35
  go_wp2
  go_loopw [1, 5] (fun v i wr => ∃ (j t : Nat) (cur : List (List Int)), j ≤ n ∧ i = .int .i64 j ∧ v = .int .i64 (k + t : Nat) ∧ Hid (t = tot (ls.take j)) ∧ k + t ≤ 4611686018427387904 ∧ wr.ownsRow base 50 1 (.slice A n c) n rows ∧ RowsOwn wr base rows cur ∧ Hid ((∀ i, i < j → cur[i]? = (mkL k ls)[i]?) ∧ ∀ i, j ≤ i → cur[i]? = ls[i]?) ∧ Frm (rblk rows) w wr) (fun _ i _ => n - (intOf i).toNat)
  case atStart => exact ⟨0, 0, ls, Nat.zero_le _, rfl, rfl, hide (by simp [tot]), by omega, hv, hrows, hide ⟨fun i hi => absurd hi (by omega), fun i _ => rfl⟩, Frm.refl _ _⟩
  case round =>
    obtain ⟨j, t, cur, hj, rfl, rfl, ht, hkt, hvr, hrr, hcur, hf⟩ := hrel
    clear hv hrows
    by_cases hlt : j < n
    · obtain ⟨ad, u, rfl, _, _, hu, hc⟩ := (Reads.of_own hvr).one hlt
      obtain ⟨l, hl, hrow⟩ := hrr.row hu.out
      obtain ⟨Ak, ck, rfl⟩ := own_form hrow
      have hlj := hide (show ls[j]? = some l by rw [← hcur.out.2 j (Nat.le_refl _)]; exact hl)
      have htj := hide (show tot (ls.take (j + 1)) = t + l.length by rw [tot_take_succ hlj.out, ht.out])
      have hle : k + t + l.length ≤ 4611686018427387904 := by have := htake.out (j + 1); have := htj.out; omega
      have hcl := hide (show cur.length = n by have := hrr.1; have := hnr.out; omega)
      go_wp2_with (go_at_call 49; refine (markIntS_any (k := k + t) hrow hle).mono ?_; rintro e w2 ⟨rfl, hown2, hf2⟩)
      rw [mk1_nats] at hown2
      have hlen2 : (mk1 (k + t) l.length).length = l.length := mk1_length _ _
      have hset := hrr.set_ (l := mk1 (k + t) l.length) (by rw [hlen2]; exact hu.out) hf2 (by rw [hlen2]; exact hown2)
      have hfw : Frm (rblk rows) wr w2 := hf2.mono (fun b _ hb => by
        obtain ⟨a, rfl, rfl⟩ := hb
        exact ⟨j, _, hu.out, rfl⟩)
      have hvr2 := own_frm hvr hf2 (fun b hb hS => by
        obtain ⟨a, rfl, rfl⟩ := hS
        exact own_ne hrow hvr (by decide) rfl hb)
      go_roundw
      case rel =>
        refine ⟨j + 1, t + l.length, _, by omega, by go_num, by go_num, hide (by rw [htj.out]), by omega, hvr2, hset, hide ?_, hf.trans hfw⟩
        obtain ⟨s1, s2, s3⟩ := set_mid (x := mk1 (k + t) l.length) (show j < cur.length by rw [hcl.out]; exact hlt)
        refine ⟨fun i hi => ?_, fun i hi => ?_⟩
        · rcases Nat.lt_or_ge i j with h1 | h1
          · rw [s1 i h1, hcur.out.1 i h1]
          · obtain rfl : i = j := by omega
            rw [s2, mkL_get hlj.out, ← ht.out]
        · rw [s3 i (by omega), hcur.out.2 i (by omega)]
      case measure => simp [intOf]; omega
    · obtain rfl : n = j := by omega
      have hcl := hide (show cur.length = n by have := hrr.1; have := hnr.out; omega)
      have hfin : cur = mkL k ls := by
        apply List.ext_getElem?
        intro i
        rcases Nat.lt_or_ge i n with h1 | h1
        · exact hcur.out.1 i h1
        · rw [List.getElem?_eq_none (by rw [hcl.out]; exact h1), List.getElem?_eq_none (by rw [mkL_length, hln.out]; exact h1)]
      have htt := hide (show t = tot ls by rw [ht.out, List.take_of_length_le (by rw [hln.out]; exact Nat.le_refl _)])
      rw [hfin] at hrr
      go_wp2
      go_ret
      exact ⟨ret_int (by have := htt.out; omega), hvr, hrr, hf⟩
theorem mod3 (k j : Nat) : (((k : Int) + (j : Int)) % 3 == 0) = ((k + j) % 3 == 0) := by
  by_cases h : (k + j) % 3 = 0
  · have h2 : ((k : Int) + (j : Int)) % 3 = 0 := by omega
    rw [beq_iff_eq.2 h, beq_iff_eq.2 h2]
  · have h2 : ¬ ((k : Int) + (j : Int)) % 3 = 0 := by omega
    rw [beq_eq_false_iff_ne.2 h, beq_eq_false_iff_ne.2 h2]
theorem markBoolS_any {base : Nat} {A : Option Addr} {n c : Nat} {xs : List Value} {k : Nat} {w : World} (h : w.ownsRow base 4 1 (.slice A n c) n xs) (hk : k + n ≤ 4611686018427387904) :
    Calls Try.prog 36 #[.slice A n c, .int .i64 k] w fun e w' => e = .returned (.int .i64 (k + n : Nat)) ∧ w'.ownsRow base 4 1 (.slice A n c) n (bools (mkB k n)) ∧ Frm (blk A) w w' := by
  have hlen := hide h.1
  go_enter Try.func36, Try.ntmps36
  go_wp2
  go_loopw [1, 5] (fun v i wr => ∃ j : Nat, j ≤ n ∧ i = .int .i64 j ∧ v = .int .i64 (k + j : Nat) ∧ ∃ rest : List Value, Hid (rest.length = n - j) ∧ wr.ownsRow base 4 1 (.slice A n c) n (bools (mkB k j) ++ rest) ∧ Frm (blk A) w wr) (fun _ i _ => n - (intOf i).toNat)
  case atStart => exact ⟨0, Nat.zero_le _, rfl, rfl, xs, by unfold Hid; rw [hlen.out]; omega, by simpa [bools, mkB] using h, Frm.refl _ _⟩
  case round =>
    obtain ⟨j, hj, rfl, rfl, rest, hrest, hown, hf⟩ := hrel
    by_cases hlt : j < n
    · obtain ⟨g, rfl, hg, _⟩ := own_some' hown (by omega)
      obtain ⟨o0, g0⟩ := own_cell hown j (by omega)
      have f0 := hown.frozenAt j
      have hst := hown.stored j (.bool ((k + j) % 3 == 0))
      have hset : (bools (mkB k j) ++ rest).set j (.bool ((k + j) % 3 == 0)) = bools (mkB k (j + 1)) ++ rest.drop 1 := by
        have hl : (bools (mkB k j)).length = j := by rw [bools_length, mkB_length]
        match rest, hrest.out with
        | [], hr => simp at hr; omega
        | x :: r, _ =>
          rw [List.set_append_right _ _ (by omega), hl, Nat.sub_self, mkB, mkB, List.range_succ, List.map_append]
          simp [bools]
      rw [hset] at hst
      have hst1 := hide hst
      have hm3 := mod3 k j
      have h1 : (k : Int) + (j : Int) ≤ 4611686018427387904 := by omega
      have h0 : 0 ≤ (k : Int) + (j : Int) := by omega
      clear hset hst
      rw [← hm3] at hst1
      clear hm3
      go_wp2
      go_roundw
      case rel => exact ⟨j + 1, by omega, by go_num, by go_num, rest.drop 1, by have := hrest.out; unfold Hid; rw [List.length_drop]; omega, hst1.out.1, hf.cell (p := ⟨g, j, none⟩) ⟨⟨g, 0, none⟩, rfl, rfl⟩ _⟩
      case measure => simp [intOf]; omega
    · obtain rfl : n = j := by omega
      obtain rfl : rest = [] := List.eq_nil_of_length_eq_zero (by have := hrest.out; omega)
      go_wp2
      go_ret
      exact ⟨rfl, by simpa using hown, hf⟩
theorem heldBoolS_any {lo hi : Nat} {A : Option Addr} {n c : Nat} {k : Nat} {w : World} (h : Reads w lo hi 1 A n (bools (mkB k n))) (hk : k + n ≤ 4611686018427387904) :
    Calls Try.prog 38 #[.slice A n c, .int .i64 k] w fun e w' => e = .returned (.int .i64 (k + n : Nat)) ∧ w = w' := by
  have hn := h.len
  go_enter Try.func38, Try.ntmps38
  go_wp2
  go_loop [1, 5] (fun v i => ∃ j : Nat, j ≤ n ∧ i = .int .i64 j ∧ v = .int .i64 (k + j : Nat)) (fun _ i => n - (intOf i).toNat)
  case atStart => exact ⟨0, Nat.zero_le _, rfl, rfl⟩
  case round =>
    obtain ⟨j, hj, rfl, rfl⟩ := hrel
    by_cases hlt : j < n
    · obtain ⟨ad, x, rfl, _, _, hx, hc⟩ := h.bool hlt
      obtain rfl : x = ((k + j) % 3 == 0) := by
        have := hx.out
        rw [mkB_get hlt] at this
        exact (Option.some.inj this).symm
      rw [← mod3 k j] at hc
      have h1 : (k : Int) + (j : Int) ≤ 4611686018427387904 := by omega
      have h0 : 0 ≤ (k : Int) + (j : Int) := by omega
      have hne : ((((k : Int) + (j : Int)) % 3 == 0) != (((k : Int) + (j : Int)) % 3 == 0)) = false := by simp
      go_wp2
      go_round
      case rel => exact ⟨j + 1, by omega, by go_num, by go_num⟩
      case measure => simp [intOf]; omega
    · obtain rfl : n = j := by omega
      go_wp2
      go_ret
      exact ⟨rfl, rfl⟩
theorem heldIntSS_any {lo hi : Nat} {A : Option Addr} {n c : Nat} {ls : List (List Int)} {k : Nat} {w : World} (h : ReadsLL w lo hi A n (mkL k ls)) (hk : k + tot ls ≤ 4611686018427387904) :
    Calls Try.prog 37 #[.slice A n c, .int .i64 k] w fun e w' => e = .returned (.int .i64 (k + tot ls : Nat)) ∧ w = w' := by
  have hn9 := h.len
  have hln := hide (show ls.length = n by rw [h.1, mkL_length])
  have htake := hide (fun j => tot_take_le ls j)
  go_enter Try.func37, Try.ntmps37
  go_wp2
  go_loop [1, 5] (fun v i => ∃ j t : Nat, j ≤ n ∧ i = .int .i64 j ∧ v = .int .i64 (k + t : Nat) ∧ Hid (t = tot (ls.take j)) ∧ k + t ≤ 4611686018427387904) (fun _ i => n - (intOf i).toNat)
  case atStart => exact ⟨0, 0, Nat.zero_le _, rfl, rfl, hide (by simp [tot]), by omega⟩
  case round =>
    obtain ⟨j, t, hj, rfl, rfl, ht, hkt⟩ := hrel
    by_cases hlt : j < n
    · obtain ⟨l, hl⟩ : ∃ l, Hid (ls[j]? = some l) := ⟨_, hide (List.getElem?_eq_getElem (by rw [hln.out]; exact hlt))⟩
      obtain ⟨ad, Ak, ck, m, rfl, _, _, hm, hc0, hrk⟩ := h.row hlt
      obtain rfl : m = mk1 (k + t) l.length := by
        have := hm.out
        rw [mkL_get hl.out, ← ht.out] at this
        exact (Option.some.inj this).symm
      rw [mk1_length] at hc0 hrk
      rw [← mk1_nats] at hrk
      have htj := hide (show tot (ls.take (j + 1)) = t + l.length by rw [tot_take_succ hl.out, ht.out])
      have hle : k + t + l.length ≤ 4611686018427387904 := by have := htake.out (j + 1); have := htj.out; omega
      have hlt0 : ¬ (((k + t + l.length : Nat) : Int) < 0) := by omega
      go_wp2_with (go_at_call 50; refine (heldIntS_any (k := k + t) hrk hle).mono ?_; rintro e w2 ⟨rfl, rfl⟩)
      go_round
      case rel => exact ⟨j + 1, t + l.length, by omega, by go_num, by go_num, hide (by rw [htj.out]), by omega⟩
      case measure => simp [intOf]; omega
    · obtain rfl : n = j := by omega
      have htt := hide (show t = tot ls by rw [ht.out, List.take_of_length_le (by rw [hln.out]; exact Nat.le_refl _)])
      go_wp2
      go_ret
      exact ⟨ret_int (by have := htt.out; omega), rfl⟩
/-- How many marks an automaton bears. -/
def cntA (a : Aut) : Nat := tot a.next + a.acc.length
theorem cntA_mk (k : Nat) (a : Aut) : cntA (mkA k a) = cntA a := by simp [cntA, mkA, mkL_tot, mkB_length]
theorem markAutomaton_any {base hi : Nat} {A : Option Addr} {n c : Nat} {A' : Option Addr} {n' c' : Nat} {a : Aut} {al : Int} {k : Nat} {w : World} (h : AutH w base hi A n c A' n' c' a) (hk : k + cntA a ≤ 4611686018427387904) :
    Calls Try.prog 20 #[.agg #[.int .i64 al, .slice A n c, .slice A' n' c'], .int .i64 k] w fun e w' => e = .returned (.int .i64 (k + cntA a : Nat)) ∧ AutH w' base hi A n c A' n' c' (mkA k a) ∧ Frm (fun b => base ≤ b ∧ b < hi) w w' := by
  unfold cntA at hk
  obtain ⟨⟨rows, h1, h2, h6⟩, h7, h3, h4, h8, h5⟩ := h
  rw [← h3] at h1
  have hx := (Ext.refl w).alloc (.cells #[.int .i64 al, .slice A n c, .slice A' n' c'] 29)
  have h1' := own_ext h1 hx
  have h2' := h2.ext hx
  have h4' := own_ext h4 hx
  have H6 := hide h6
  have H7 := hide h7
  have H8 := hide h8
  have H3 := hide h3
  have H5 := hide h5
  have H2 := hide h2'
  have hcn := hide (show cntA a = tot a.next + a.acc.length from rfl)
  have hn'l := (Reads.of_own h4).len
  clear h1 h2 h4 h6 h7 h8 h3 h5
  go_enter Try.func20, Try.ntmps20
  go_wp2_with fail
  refine (markIntSS_any (k := k) h1' H2.out (by omega)).mono ?_
  rintro e w2 ⟨rfl, hv2, hr2, hf2⟩
  have h4'' := own_frm h4' hf2 (fun b hb hS => by
    obtain ⟨i, row, hi, hrb⟩ := hS
    obtain ⟨l, _, ho⟩ := H2.out.row hi
    exact own_ne ho h4' (by decide) hrb hb)
  have hbx := (Blk.new w 29 #[.int .i64 al, .slice A n c, .slice A' n' c']).frm hf2 (fun hS => by
    obtain ⟨i, row, hi, hrb⟩ := hS
    obtain ⟨l, _, ho⟩ := H2.out.row hi
    exact own_far ho (Blk.new w 29 #[.int .i64 al, .slice A n c, .slice A' n' c']) (by decide) hrb rfl)
  have cb := hbx.cell
  have HR2 := hide hr2
  have Hf2 := hide hf2
  clear hr2 hf2
  have hk2 : k + tot a.next + n' ≤ 4611686018427387904 := by have := H5.out; omega
  go_wp2_with fail
  refine (markBoolS_any (k := k + tot a.next) h4'' hk2).mono ?_
  rintro e w3 ⟨rfl, hb3, hf3⟩
  go_wp2_with fail
  go_ret
  have hfA : Frm (blk A') w2 w3 := hf3
  refine ⟨ret_int (by have := hcn.out; have := H5.out; omega), ⟨⟨rows, ?_, ?_, H6.out⟩, H7.out, ?_, ?_, H8.out, ?_⟩, ?_⟩
  · rw [show (mkA k a).next.length = n by rw [H3.out]; exact mkL_length _ _]
    exact own_frm hv2 hf3 (fun b hb hS => by
      obtain ⟨ad, rfl, rfl⟩ := hS
      exact own_ne h4'' hv2 (by decide) rfl hb)
  · exact HR2.out.frm hf3 (fun i row b hr hb hS => by
      obtain ⟨ad, rfl, rfl⟩ := hS
      obtain ⟨l, _, ho⟩ := HR2.out.row hr
      exact own_ne ho h4'' (by decide) hb rfl)
  · rw [H3.out]; exact (mkL_length _ _).symm
  · have : (mkA k a).acc = mkB (k + tot a.next) n' := by rw [H5.out]; rfl
    rw [this]
    exact hb3
  · rw [H5.out]; exact (mkB_length _ _).symm
  · refine ((hx.toFrm).trans (Hf2.out.mono fun b _ hS => ?_)).trans (hf3.mono fun b _ hS => ?_)
    · obtain ⟨i, row, hi, hrb⟩ := hS
      obtain ⟨l, _, ho⟩ := H2.out.row hi
      exact ⟨(ho.lt b hrb).1, H6.out i row b hi hrb⟩
    · obtain ⟨ad, rfl, rfl⟩ := hS
      exact ⟨(h4''.lt ad.block rfl).1, H8.out ad.block rfl⟩
theorem heldAutomaton_any {lo hi : Nat} {A : Option Addr} {n c : Nat} {A' : Option Addr} {n' c' : Nat} {a : Aut} {al : Int} {k : Nat} {w : World} (h : AutAt w lo hi A n A' n' (mkA k a)) (hk : k + cntA a ≤ 4611686018427387904) :
    Calls Try.prog 21 #[.agg #[.int .i64 al, .slice A n c, .slice A' n' c'], .int .i64 k] w fun e w' => e = .returned (.int .i64 (k + cntA a : Nat)) ∧ Ext w w' := by
  have hcn := hide (show cntA a = tot a.next + a.acc.length from rfl)
  unfold cntA at hk
  have hx := (Ext.refl w).alloc (.cells #[.int .i64 al, .slice A n c, .slice A' n' c'] 29)
  have h1 : ReadsLL (w.alloc (.cells #[.int .i64 al, .slice A n c, .slice A' n' c'] 29)) lo hi A n (mkL k a.next) := h.1.ext hx
  have hn' := hide (show n' = a.acc.length by rw [h.2.1]; exact mkB_length _ _)
  have h2 : Reads (w.alloc (.cells #[.int .i64 al, .slice A n c, .slice A' n' c'] 29)) lo hi 1 A' n' (bools (mkB (k + tot a.next) n')) := by
    have := h.2.2.ext hx
    rw [hn'.out]
    rw [hn'.out] at this
    exact this
  have hk2 : k + tot a.next + n' ≤ 4611686018427387904 := by have := hn'.out; omega
  have hk0 : ¬ (((k + tot a.next : Nat) : Int) < 0) := by omega
  have hk1 : ¬ (((k + tot a.next + n' : Nat) : Int) < 0) := by omega
  clear h
  go_enter Try.func21, Try.ntmps21
  go_wp2_with fail
  refine (heldIntSS_any (k := k) h1 (by omega)).mono ?_
  rintro e w2 ⟨rfl, rfl⟩
  go_wp2_with fail
  refine (heldBoolS_any (k := k + tot a.next) h2 hk2).mono ?_
  rintro e w2 ⟨rfl, rfl⟩
  go_wp2_with fail
  go_ret
  exact ⟨ret_int (by have := hcn.out; have := hn'.out; omega), hx⟩
end Go.Proofs.Ytekobefenngedaa
